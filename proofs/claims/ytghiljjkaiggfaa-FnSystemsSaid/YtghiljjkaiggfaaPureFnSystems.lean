/- A row more is the reference's, and a point satisfies the system with it if it satisfies the system and the row: the law FnSystems returns true at every draw. -/
import Derived.Test.YtghiljjkaiggfaaQFnSystemsx14
namespace Go.Proofs.Ytghiljjkaiggfaa.Pure
open Go.RowKit Go.Proofs.YtghiljjkaiggfaaV.PrintWords Go.Proofs.YtghiljjkaiggfaaV.PrintLast Go.Proofs.YtghiljjkaiggfaaV.PrintMore Go.Proofs.Ytghiljjkaiggfaa.QFnSystems
set_option linter.unusedVariables false
set_option linter.unusedSimpArgs false

theorem wrap_id {n : Int} (h0 : -9223372036854775808 ≤ n) (h1 : n ≤ 9223372036854775807) : wrap64 n = n := by
  unfold wrap64; omega
theorem wrap_succ {j n : Nat} (h : j < n) (hn : n ≤ 4611686018427387904) : wrap64 ((j : Int) + 1) = ((j + 1 : Nat) : Int) := by
  unfold wrap64; omega
theorem succ_of {d k : Nat} (h : d < k) : ∃ m, k = m + 1 := ⟨k - 1, by omega⟩
theorem lit_int {n : Int} (h : (Lit.int .i64 n).wf = true) : -9223372036854775808 ≤ n ∧ n ≤ 9223372036854775807 := by
  simpa [Lit.wf, IntKind.min, IntKind.max, IntKind.signed, IntKind.bits] using h

theorem rdOf_nat {α : Type} (d : α) (xs : List α) (j : Nat) (h : j < xs.length) : rdOf d xs (j : Int) = xs[j] := by
  unfold rdOf; rw [Int.toNat_natCast, List.getD_eq_getElem?_getD, List.getElem?_eq_getElem h]; rfl
theorem rd_nat (xs : List Int) (j : Nat) (h : j < xs.length) : rd xs (j : Int) = xs[j] := by
  unfold rd; rw [Int.toNat_natCast, List.getD_eq_getElem?_getD, List.getElem?_eq_getElem h]; rfl

/-- A cursor: the place lies in the bytes. -/
def Cur (b : List Int) (i : Int) : Prop := 0 ≤ i ∧ i ≤ (b.length : Int) ∧ b.length ≤ 140737488351232
theorem and255 (x : Int) : 0 ≤ Go.bits .and .i64 x 255 ∧ Go.bits .and .i64 x 255 ≤ 255 := by
  have h : (BitVec.ofInt 64 x &&& BitVec.ofInt 64 255).toNat ≤ 255 := by rw [BitVec.toNat_and]; exact Nat.le_trans Nat.and_le_right (by decide)
  have e : Go.bits .and .i64 x 255 = IntKind.i64.wrap (((BitVec.ofInt 64 x &&& BitVec.ofInt 64 255).toNat : Nat) : Int) := rfl
  rw [e, IntKind.wrap_i64]
  omega

theorem spec_l1New_l0 (b : List Int) (hb : b.length ≤ 140737488351232) : ∀ (d j k : Nat) (h : Int), j + d = b.length → d < k → ∃ h', spec_l1New.l0 k b h (j : Int) = some (b, 0, h') := by
  intro d
  induction d with
  | zero =>
    intro j k h hj hk
    obtain ⟨k, rfl⟩ := succ_of hk
    simp only [spec_l1New.l0]
    rw [if_neg (by omega)]
    exact ⟨_, rfl⟩
  | succ d ih =>
    intro j k h hj hk
    obtain ⟨k, rfl⟩ := succ_of hk
    have hlt : j < b.length := by omega
    simp only [spec_l1New.l0]
    rw [if_pos (by omega)]
    by_cases h4 : (j : Int) < 4000
    · rw [if_pos h4, if_pos (by omega), wrap_succ hlt (by omega)]
      exact ih (j + 1) k _ (by omega) (by omega)
    · rw [if_neg h4]; exact ⟨_, rfl⟩
theorem spec_l1New_ex (b : List Int) (hb : b.length ≤ 140737488351232) (k : Nat) (hk : b.length < k) : ∃ h', spec_l1New.f k b = some (b, 0, h') := by
  unfold spec_l1New.f
  exact spec_l1New_l0 b hb b.length 0 k _ (by omega) hk
theorem cur_zero (b : List Int) (hb : b.length ≤ 140737488351232) : Cur b 0 := ⟨Int.le_refl _, by omega, hb⟩

theorem spec_l1Byte_ex (b : List Int) (i h : Int) (hc : Cur b i) : ∃ r i' h', spec_l1Byte.f b i h = some (r, i', h') ∧ 0 ≤ r ∧ r ≤ 255 ∧ Cur b i' := by
  obtain ⟨h0, h1, h2⟩ := hc
  unfold spec_l1Byte.f
  by_cases hlt : i < (b.length : Int)
  · rw [if_pos hlt, if_pos h0]
    refine ⟨_, _, _, rfl, (and255 _).1, (and255 _).2, ?_⟩
    rw [wrap_id (by omega) (by omega)]
    exact ⟨by omega, by omega, h2⟩
  · rw [if_neg hlt]
    exact ⟨_, _, _, rfl, (and255 _).1, (and255 _).2, h0, h1, h2⟩

theorem spec_l1Below_ex (b : List Int) (i h n : Int) (hc : Cur b i) : ∃ r i' h', spec_l1Below.f b i h n = some (r, i', h') ∧ 0 ≤ r ∧ (0 < n → r < n) ∧ (n ≤ 0 → r = 0) ∧ Cur b i' := by
  unfold spec_l1Below.f
  by_cases h0 : n ≤ 0
  · rw [if_pos h0]; exact ⟨0, _, _, rfl, by omega, by omega, fun _ => rfl, hc⟩
  rw [if_neg h0]
  by_cases h1 : n ≤ 256
  · rw [if_pos h1]
    obtain ⟨r, i', h', e, r0, r1, c1⟩ := spec_l1Byte_ex b i h hc
    rw [e]; simp only [Option.bind_some]
    rw [if_neg (by omega)]
    exact ⟨_, _, _, rfl, Int.tmod_nonneg _ r0, fun _ => Int.tmod_lt_of_pos _ (by omega), by omega, c1⟩
  · rw [if_neg h1]
    obtain ⟨x, i1, g1, e1, x0, x1, c1⟩ := spec_l1Byte_ex b i h hc
    rw [e1]; simp only [Option.bind_some]
    obtain ⟨y, i2, g2, e2, y0, y1, c2⟩ := spec_l1Byte_ex b i1 g1 c1
    rw [e2]; simp only [Option.bind_some]
    obtain ⟨z, i3, g3, e3, z0, z1, c3⟩ := spec_l1Byte_ex b i2 g2 c2
    rw [e3]; simp only [Option.bind_some]
    obtain ⟨u, i4, g4, e4, u0, u1, c4⟩ := spec_l1Byte_ex b i3 g3 c3
    rw [e4]; simp only [Option.bind_some]
    rw [if_neg (by omega)]
    refine ⟨_, _, _, rfl, Int.tmod_nonneg _ ?_, fun _ => Int.tmod_lt_of_pos _ (by omega), by omega, c4⟩
    unfold wrap64; omega

theorem spec_l1PickInt_ex (b : List Int) (i h : Int) (l : List Int) (hl : 0 < l.length) (hc : Cur b i) : ∃ r i' h', spec_l1PickInt.f b i h l = some (r, i', h') ∧ r ∈ l ∧ Cur b i' := by
  unfold spec_l1PickInt.f
  obtain ⟨r, i', h', e, r0, r1, _, c1⟩ := spec_l1Below_ex b i h (l.length : Int) hc
  have r1 := r1 (by omega)
  rw [e]; simp only [Option.bind_some]
  rw [if_pos r0, if_pos r1]
  refine ⟨_, _, _, rfl, ?_, c1⟩
  have hlt : r.toNat < l.length := by omega
  have := rd_nat l r.toNat hlt
  rw [Int.toNat_of_nonneg r0] at this
  rw [this]; exact List.getElem_mem hlt

theorem spec_l4Small_ex (b : List Int) (i h : Int) (hc : Cur b i) : ∃ r i' h', spec_l4Small.f b i h = some (r, i', h') ∧ (-2 ≤ r ∧ r ≤ 3) ∧ Cur b i' := by
  unfold spec_l4Small.f
  obtain ⟨r, i', h', e, hm, c1⟩ := spec_l1PickInt_ex b i h [0, 0, 1, (-1), 1, 2, (-2), 3] (by simp) hc
  rw [e]; simp only [Option.bind_some]
  refine ⟨_, _, _, rfl, ?_, c1⟩
  simp only [List.mem_cons, List.not_mem_nil, or_false] at hm
  omega

theorem spec_l4Draw_l0 (b : List Int) (n : Nat) (hn : n ≤ 4611686018427387904) (c : Int) : ∀ (d j k : Nat) (i h : Int) (r : List Int), j + d = n → d < k → r.length = n → Cur b i → (∀ x ∈ r, -2 ≤ x ∧ x ≤ 3) →
    ∃ r' i' h', spec_l4Draw.l0 k (n : Int) (j : Int) b i h c r = some (c, r', i', h') ∧ r'.length = n ∧ Cur b i' ∧ (∀ x ∈ r', -2 ≤ x ∧ x ≤ 3) := by
  intro d
  induction d with
  | zero =>
    intro j k i h r hj hk hr hc hx
    obtain ⟨k, rfl⟩ := succ_of hk
    simp only [spec_l4Draw.l0]
    rw [if_neg (by omega)]
    exact ⟨_, _, _, rfl, hr, hc, hx⟩
  | succ d ih =>
    intro j k i h r hj hk hr hc hx
    obtain ⟨k, rfl⟩ := succ_of hk
    simp only [spec_l4Draw.l0]
    obtain ⟨x, i1, h1, e1, hb1, c1⟩ := spec_l4Small_ex b i h hc
    rw [if_pos (by omega), e1]; simp only [Option.bind_some]
    rw [if_pos (by omega), if_pos (by omega), wrap_succ (n := n) (by omega) hn]
    refine ih (j + 1) k _ _ _ (by omega) (by omega) (by simpa using hr) c1 ?_
    intro y hy
    rcases List.mem_or_eq_of_mem_set hy with h | rfl
    · exact hx y h
    · exact hb1
theorem spec_l4Draw_ex (b : List Int) (i h n : Int) (hc : Cur b i) (h0 : 0 ≤ n) (h1 : n ≤ 35184372088832) (k : Nat) (hk : n < k) :
    ∃ c r i' h', spec_l4Draw.f k b i h n = some (c, r, i', h') ∧ (r.length : Int) = n ∧ Cur b i' ∧ (∀ x ∈ r, -2 ≤ x ∧ x ≤ 3) ∧ (-4 ≤ c ∧ c ≤ 4) := by
  unfold spec_l4Draw.f
  obtain ⟨x, i1, g1, e1, x0, x1, _, c1⟩ := spec_l1Below_ex b i h 9 hc
  have x1 := x1 (by omega)
  rw [e1]; simp only [Option.bind_some]
  rw [if_pos h0, if_pos (by omega), wrap_id (by omega) (by omega)]
  obtain ⟨r, i2, g2, e2, hl, c2, hx⟩ := spec_l4Draw_l0 b n.toNat (by omega) (x - 4) n.toNat 0 k i1 g1 (List.replicate n.toNat 0) (by omega) (by omega) (by simp) c1 (by intro y hy; rw [(List.mem_replicate.1 hy).2]; omega)
  rw [show ((n.toNat : Nat) : Int) = n by omega, show ((0 : Nat) : Int) = 0 from rfl] at e2
  rw [e2]
  exact ⟨_, _, _, _, rfl, by omega, c2, hx, by omega⟩

instance linDec : DecidableEq S36 := fun a b => decidable_of_iff (a.f0 = b.f0 ∧ a.f1 = b.f1) ⟨fun h => by cases a; cases b; simp only at h; rw [h.1, h.2], fun h => by rw [h]; exact ⟨rfl, rfl⟩⟩
theorem lin_eq_iff (a b : S36) : a = b ↔ a.f0 = b.f0 ∧ a.f1 = b.f1 := ⟨fun h => by rw [h]; exact ⟨rfl, rfl⟩, fun h => by cases a; cases b; simp only at h; rw [h.1, h.2]⟩
theorem rd_lin (xs : List S36) (j : Nat) (h : j < xs.length) : rd_T36 xs (j : Int) = xs[j] := by
  unfold rd_T36; rw [Int.toNat_natCast, List.getD_eq_getElem?_getD, List.getElem?_eq_getElem h]; rfl

theorem spec_l6Draw_l0 (b : List Int) (n : Int) (h0 : 0 ≤ n) (h3 : n ≤ 9) (m : Int) (hm : 0 ≤ m ∧ m ≤ 5) : ∀ (d : Nat) (j : Int) (k : Nat) (i h : Int) (acc : List S36), j + (d : Int) = m → 0 ≤ j → d + 20 < k → (acc.length : Int) = j → Cur b i → (∀ x ∈ acc, x.f1.length ≤ 9) →
    ∃ acc' i' h', spec_l6Draw.l0 k n m j b i h n acc = some (n, acc', i', h') ∧ (acc'.length : Int) = m ∧ Cur b i' ∧ (∀ x ∈ acc', x.f1.length ≤ 9) := by
  intro d
  induction d with
  | zero =>
    intro j k i h acc hj hj0 hk ha hc hx
    obtain ⟨k, rfl⟩ := succ_of hk
    simp only [spec_l6Draw.l0]
    rw [if_neg (by omega)]
    exact ⟨_, _, _, rfl, by omega, hc, hx⟩
  | succ d ih =>
    intro j k i h acc hj hj0 hk ha hc hx
    obtain ⟨k, rfl⟩ := succ_of hk
    simp only [spec_l6Draw.l0]
    obtain ⟨c, r, i1, h1, e1, hl, c1, _, _⟩ := spec_l4Draw_ex b i h n hc h0 (by omega) k (by omega)
    rw [if_pos (by omega), e1]; simp only [Option.bind_some]
    rw [if_pos (by omega), wrap_id (by omega) (by omega)]
    refine ih (j + 1) k i1 h1 _ (by omega) (by omega) (by omega) (by simp; omega) c1 ?_
    intro x hx2
    rcases List.mem_append.1 hx2 with h2 | h2
    · exact hx x h2
    · rw [List.mem_singleton.1 h2]; simp only; omega
theorem spec_l6Draw_ex (b : List Int) (i h n : Int) (hc : Cur b i) (h0 : 0 ≤ n) (h3 : n ≤ 9) (k : Nat) (hk : 40 < k) :
    ∃ rows i' h', spec_l6Draw.f k b i h n = some (n, rows, i', h') ∧ rows.length ≤ 5 ∧ Cur b i' ∧ (∀ x ∈ rows, x.f1.length ≤ 9) := by
  unfold spec_l6Draw.f
  obtain ⟨m, i1, g1, e1, x0, x1, _, c1⟩ := spec_l1Below_ex b i h 5 hc
  have x1 := x1 (by omega)
  rw [e1]; simp only [Option.bind_some]
  obtain ⟨rows, i2, g2, e2, hl, c2, hx⟩ := spec_l6Draw_l0 b n h0 h3 m (by omega) m.toNat 0 k i1 g1 [] (by omega) (by omega) (by omega) rfl c1 (by simp)
  rw [e2]
  exact ⟨_, _, _, rfl, by omega, c2, hx⟩

theorem spec_l3Any_ex (b : List Int) (i h : Int) (hc : Cur b i) : ∃ r i' h', spec_l3Any.f b i h = some (r, i', h') ∧ (-9223372036854775808 ≤ r ∧ r ≤ 9223372036854775807) ∧ Cur b i' := by
  unfold spec_l3Any.f
  obtain ⟨r, i', h', e, hm, c1⟩ := spec_l1PickInt_ex b i h [0, 1, (-1), 2, 5, (-6), 12, 1000000, (-1000001), 1000000000, (-1000000000), 1000000001, 40000, 9223372036854775807, (-9223372036854775808)] (by simp) hc
  rw [e]; simp only [Option.bind_some]
  refine ⟨_, _, _, rfl, ?_, c1⟩
  simp only [List.mem_cons, List.not_mem_nil, or_false] at hm
  omega

theorem spec_l4Bent_ex (b : List Int) (i h : Int) (hc : Cur b i) (k : Nat) (hk : 20 < k) :
    ∃ c r i' h', spec_l4Bent.f k b i h = some (c, r, i', h') ∧ r.length ≤ 9 ∧ Cur b i' := by
  unfold spec_l4Bent.f
  obtain ⟨n, i1, g1, e1, n0, n1, _, c1⟩ := spec_l1Below_ex b i h 4 hc
  have n1 := n1 (by omega)
  rw [e1]; simp only [Option.bind_some]
  obtain ⟨c, r, i2, g2, e2, hl, c2, _, _⟩ := spec_l4Draw_ex b i1 g1 n c1 n0 (by omega) k (by omega)
  rw [e2]; simp only [Option.bind_some]
  obtain ⟨m, i3, g3, e3, _, _, _, c3⟩ := spec_l1Below_ex b i2 g2 10 c2
  rw [e3]; simp only [Option.bind_some]
  obtain ⟨x, i4, g4, e4, _, c4⟩ := spec_l3Any_ex b i3 g3 c3
  split
  · rw [e4]; simp only [Option.bind_some]
    exact ⟨_, _, _, _, rfl, by omega, c4⟩
  split
  · rw [e4]; simp only [Option.bind_some]
    rw [if_pos (by omega)]
    exact ⟨_, _, _, _, rfl, by simp; omega, c4⟩
  split
  · rw [if_pos (by omega)]
    exact ⟨_, _, _, _, rfl, by simp, c3⟩
  · exact ⟨_, _, _, _, rfl, by omega, c3⟩

/-- From -MaxCoeff to MaxCoeff. -/
def okc (n : Int) : Bool := decide (-1000000000 ≤ n ∧ n ≤ 1000000000)
theorem okc_iff (n : Int) : okc n = true ↔ -1000000000 ≤ n ∧ n ≤ 1000000000 := by unfold okc; exact decide_eq_true_iff
theorem okc_false (n : Int) : okc n = false ↔ ¬ (-1000000000 ≤ n ∧ n ≤ 1000000000) := by unfold okc; exact decide_eq_false_iff_not

/-- ConstLin. -/
def constLin (k n : Int) : Int × List Int := if (0 ≤ n ∧ n ≤ 8) ∧ okc k = true then (k, List.replicate n.toNat 0) else (0, [])

theorem spec_l1In_eq (a b c : Int) : spec_l1In.f a b c = some (decide (b ≤ a ∧ a ≤ c)) := by
  unfold spec_l1In.f
  by_cases h : a ≥ b
  · rw [if_pos h]; congr 1; rw [decide_eq_decide]; omega
  · rw [if_neg h]; congr 1; symm; rw [decide_eq_false_iff_not]; omega

theorem spec_l3In_eq (n : Int) : spec_l3In.f n = some (okc n) := by unfold spec_l3In.f; rw [spec_l1In_eq]; rfl

theorem spec_ConstLin_eq (k n : Int) : spec_ConstLin.f k n = some (constLin k n) := by
  unfold spec_ConstLin.f constLin
  rw [spec_l1In_eq, spec_l3In_eq]; simp only [Option.bind_some, decide_eq_true_eq]
  by_cases h : 0 ≤ n ∧ n ≤ 8
  · have h3 : n.toNat ≤ 35184372088832 := by omega
    rw [if_pos h, if_pos h.1, if_pos h3]; cases h2 : okc k
    · rw [if_neg (by simp), if_neg (by simp)]
    · rw [if_pos rfl, if_pos ⟨h, rfl⟩]
  · rw [if_neg h, if_neg (fun e => h e.1)]

theorem spec_l6Bent_l0 (b : List Int) (n : Int) : ∀ (d : Nat) (j : Int) (k : Nat) (i h : Int) (acc : List S36), j + (d : Int) = 20 → 0 ≤ j → d < k → acc.length ≤ 5 + j.toNat → (∀ x ∈ acc, x.f1.length ≤ 9) →
    ∃ acc', spec_l6Bent.l0 k j b i h n acc = some (n, acc', i, h) ∧ acc'.length ≤ 25 ∧ (∀ x ∈ acc', x.f1.length ≤ 9) := by
  intro d
  induction d with
  | zero =>
    intro j k i h acc hj hj0 hk ha hx
    obtain ⟨k, rfl⟩ := succ_of hk
    simp only [spec_l6Bent.l0]
    rw [if_neg (by omega)]
    exact ⟨_, rfl, by omega, hx⟩
  | succ d ih =>
    intro j k i h acc hj hj0 hk ha hx
    obtain ⟨k, rfl⟩ := succ_of hk
    simp only [spec_l6Bent.l0]
    rw [if_pos (by omega), spec_ConstLin_eq, Option.bind_some, if_pos (by omega), wrap_id (by omega) (by omega)]
    refine ih (j + 1) k i h _ (by omega) (by omega) (by omega) (by simp; omega) ?_
    intro x hx2
    rcases List.mem_append.1 hx2 with h2 | h2
    · exact hx x h2
    · rw [List.mem_singleton.1 h2]; simp only
      unfold constLin; split
      · simp; omega
      · simp
theorem spec_l6Bent_ex (b : List Int) (i h : Int) (hc : Cur b i) (k : Nat) (hk : 60 < k) :
    ∃ n rows i' h', spec_l6Bent.f k b i h = some (n, rows, i', h') ∧ rows.length ≤ 25 ∧ Cur b i' ∧ (∀ x ∈ rows, x.f1.length ≤ 9) ∧ (-1 ≤ n ∧ n ≤ 9) := by
  unfold spec_l6Bent.f
  obtain ⟨n, i1, g1, e1, n0, n1, _, c1⟩ := spec_l1Below_ex b i h 4 hc
  have n1 := n1 (by omega)
  rw [e1]; simp only [Option.bind_some]
  obtain ⟨rows, i2, g2, e2, hl, c2, hx⟩ := spec_l6Draw_ex b i1 g1 n c1 n0 (by omega) k (by omega)
  rw [e2]; simp only [Option.bind_some]
  obtain ⟨m, i3, g3, e3, _, _, _, c3⟩ := spec_l1Below_ex b i2 g2 16 c2
  rw [e3]; simp only [Option.bind_some]
  split
  · obtain ⟨r, i4, g4, e4, hm, c4⟩ := spec_l1PickInt_ex b i3 g3 [(-1), 9, wrap64 (n + 1)] (by simp) c3
    rw [e4]; simp only [Option.bind_some]
    refine ⟨_, _, _, _, rfl, by omega, c4, hx, ?_⟩
    rw [wrap_id (by omega) (by omega)] at hm
    simp only [List.mem_cons, List.not_mem_nil, or_false] at hm
    omega
  split
  · obtain ⟨c, cs, i4, g4, e4, hl4, c4⟩ := spec_l4Bent_ex b i3 g3 c3 k (by omega)
    rw [e4]; simp only [Option.bind_some]
    rw [if_pos (by omega)]
    refine ⟨_, _, _, _, rfl, by simp; omega, c4, ?_, by omega⟩
    intro x hx2
    rcases List.mem_append.1 hx2 with h2 | h2
    · exact hx x h2
    · rw [List.mem_singleton.1 h2]; exact hl4
  split
  · obtain ⟨acc, e4, hl4, hx4⟩ := spec_l6Bent_l0 b n 20 0 k i3 g3 rows (by omega) (by omega) (by omega) (by simpa using hl) hx
    rw [e4]
    exact ⟨_, _, _, _, rfl, hl4, c3, hx4, by omega⟩
  · exact ⟨_, _, _, _, rfl, by omega, c3, hx, by omega⟩

theorem spec_l1Once_ex (b : List Int) (i h n : Int) (hc : Cur b i) : ∃ r i' h', spec_l1Once.f b i h n = some (r, i', h') ∧ Cur b i' := by
  unfold spec_l1Once.f
  obtain ⟨r, i', h', e, _, _, _, c1⟩ := spec_l1Below_ex b i h n hc
  rw [e]; simp only [Option.bind_some]
  exact ⟨_, _, _, rfl, c1⟩

theorem spec_DrawAddRow_ex (b : List Int) (hb : b.length ≤ 140737488351232) (k : Nat) (hk : b.length < k) (h2 : 60 < k) :
    ∃ n rows c cs, spec_DrawAddRow.f k b = some (n, rows, c, cs) ∧ rows.length ≤ 25 ∧ (∀ x ∈ rows, x.f1.length ≤ 9) ∧ cs.length ≤ 9 ∧ (-1 ≤ n ∧ n ≤ 9) := by
  unfold spec_DrawAddRow.f
  obtain ⟨h0, e0⟩ := spec_l1New_ex b hb k hk
  rw [e0]; simp only [Option.bind_some]
  obtain ⟨n, rows, i1, h1, e1, hl, c1, hx, hn⟩ := spec_l6Bent_ex b 0 h0 (cur_zero b hb) k h2
  rw [e1]; simp only [Option.bind_some]
  obtain ⟨r, i2, g2, e2, c2⟩ := spec_l1Once_ex b i1 h1 4 c1
  rw [e2]; simp only [Option.bind_some]
  cases r
  · rw [if_neg (by simp)]
    obtain ⟨q, eq, q0, q9⟩ : ∃ q, ((spec_l1Max.f n 0).bind fun t => spec_l1Min.f t 9) = some q ∧ 0 ≤ q ∧ q ≤ 9 := by
      unfold spec_l1Max.f spec_l1Min.f
      by_cases h : n > 0
      · rw [if_pos h, Option.bind_some]
        by_cases h9 : n < 9
        · rw [if_pos h9]; exact ⟨_, rfl, by omega, by omega⟩
        · rw [if_neg h9]; exact ⟨_, rfl, by omega, by omega⟩
      · rw [if_neg h, Option.bind_some, if_pos (by omega)]; exact ⟨_, rfl, by omega, by omega⟩
    obtain ⟨t, et, et2⟩ := Option.bind_eq_some_iff.1 eq
    obtain ⟨d, ds, i4, g4, e4, hl2, c4, _, _⟩ := spec_l4Draw_ex b i2 g2 q c2 q0 (by omega) k (by omega)
    rw [et]; simp only [Option.bind_some]
    rw [et2]; simp only [Option.bind_some]
    rw [e4]; simp only [Option.bind_some]
    exact ⟨_, _, _, _, rfl, hl, hx, by omega, hn⟩
  · rw [if_pos rfl]
    obtain ⟨d, ds, i4, g4, e4, hl2, c4⟩ := spec_l4Bent_ex b i2 g2 c2 k (by omega)
    rw [e4]; simp only [Option.bind_some]
    exact ⟨_, _, _, _, rfl, hl, hx, hl2, hn⟩

/-- The law's reading of byte a1, or a stand-in. -/
theorem laws_at0_ex (b : List Int) (j : Nat) (hb : b.length ≤ 140737488351232) (hx : ∀ x ∈ b, 0 ≤ x ∧ x ≤ 255) (hj : j ≤ 1000) : ∃ r, laws_at0.f b (j : Int) = some r ∧ 0 ≤ r ∧ r ≤ 255 := by
  unfold laws_at0.f
  by_cases h : (j : Int) < (b.length : Int)
  · rw [if_pos h, if_pos (by omega)]
    have hm : 0 ≤ rd b (j : Int) ∧ rd b (j : Int) ≤ 255 := by
      unfold rd; rw [Int.toNat_natCast, List.getD_eq_getElem?_getD, List.getElem?_eq_getElem (by omega)]; exact hx _ (List.getElem_mem _)
    rw [wrap_id (by omega) (by omega)]
    exact ⟨_, rfl, hm⟩
  · rw [if_neg h, wrap_id (n := (j : Int) * 7) (by omega) (by omega), wrap_id (by omega) (by omega)]
    refine ⟨_, rfl, Int.tmod_nonneg _ (by omega), ?_⟩
    have := Int.tmod_lt_of_pos ((j : Int) * 7 + (b.length : Int)) (b := 256) (by omega)
    omega
theorem lit_u8 {n : Int} (h : (Lit.int .u8 n).wf = true) : 0 ≤ n ∧ n ≤ 255 := by
  simpa [Lit.wf, IntKind.min, IntKind.max, IntKind.signed, IntKind.bits] using h

theorem mod_bound (t m : Int) (h0 : 0 ≤ t) (hm : 0 < m) : 0 ≤ Int.tmod t m ∧ Int.tmod t m < m := ⟨Int.tmod_nonneg _ h0, Int.tmod_lt_of_pos _ hm⟩

/-- IsValidLin. -/
def validLin (c : Int) (cs : List Int) (n : Int) : Bool := decide (0 ≤ n ∧ n ≤ 8) && (decide ((cs.length : Int) = n) && (okc c && cs.all okc))
theorem validLin_iff (c : Int) (cs : List Int) (n : Int) : validLin c cs n = true ↔ (0 ≤ n ∧ n ≤ 8) ∧ (cs.length : Int) = n ∧ okc c = true ∧ ∀ x ∈ cs, okc x = true := by
  unfold validLin; simp only [Bool.and_eq_true, decide_eq_true_eq, List.all_eq_true]
theorem any_not_all {α : Type} (p : α → Bool) (xs : List α) : (!(xs.any fun c => !(p c))) = xs.all p := by
  induction xs with
  | nil => rfl
  | cons x xs ih => simp only [List.any_cons, List.all_cons, Bool.not_or, Bool.not_not, ih]

/-- IsValidSystem. -/
def validSys (n : Int) (rows : List S36) : Bool := decide (0 ≤ n ∧ n ≤ 8) && (decide (rows.length ≤ 20) && rows.all fun r => validLin r.f0 r.f1 n)
theorem validSys_iff (n : Int) (rows : List S36) : validSys n rows = true ↔ (0 ≤ n ∧ n ≤ 8) ∧ rows.length ≤ 20 ∧ ∀ r ∈ rows, validLin r.f0 r.f1 n = true := by
  unfold validSys; simp only [Bool.and_eq_true, decide_eq_true_eq, List.all_eq_true]

/-- Fits. -/
def fitsB (n : Int) : Bool := decide (-1000000 ≤ n ∧ n ≤ 1000000)
theorem fitsB_iff (n : Int) : fitsB n = true ↔ -1000000 ≤ n ∧ n ≤ 1000000 := by unfold fitsB; exact decide_eq_true_iff
theorem mul_bound {a b A B : Int} (ha : -A ≤ a ∧ a ≤ A) (hb : -B ≤ b ∧ b ≤ B) : -(A * B) ≤ a * b ∧ a * b ≤ A * B := by
  have h : (a * b).natAbs ≤ A.natAbs * B.natAbs := by rw [Int.natAbs_mul]; exact Nat.mul_le_mul (by omega) (by omega)
  have e : (A.natAbs * B.natAbs : Nat) = (A * B).natAbs := by rw [Int.natAbs_mul]
  have hA : 0 ≤ A := by omega
  have hB : 0 ≤ B := by omega
  have : 0 ≤ A * B := Int.mul_nonneg hA hB
  omega
theorem mul_okc_fits {a b : Int} (ha : -1000000000 ≤ a ∧ a ≤ 1000000000) (hb : -1000000 ≤ b ∧ b ≤ 1000000) : -1000000000000000 ≤ a * b ∧ a * b ≤ 1000000000000000 := by
  have := mul_bound (A := 1000000000) (B := 1000000) ha hb; omega
theorem mul_okc {a b : Int} (ha : -1000000000 ≤ a ∧ a ≤ 1000000000) (hb : -1000000000 ≤ b ∧ b ≤ 1000000000) : -1000000000000000000 ≤ a * b ∧ a * b ≤ 1000000000000000000 := by
  have := mul_bound (A := 1000000000) (B := 1000000000) ha hb; omega

/-- The sum of the products. -/
def dot : List Int → List Int → Int
  | c :: cs, v :: vs => c * v + dot cs vs
  | _, _ => 0
/-- EvalLin. -/
def evalLin (c : Int) (cs vs : List Int) : Int × Bool := if validLin c cs (vs.length : Int) = true ∧ vs.all fitsB = true then (c + dot cs vs, true) else (0, false)
theorem drop_cons {α : Type} (xs : List α) (j : Nat) (h : j < xs.length) : xs.drop j = xs[j] :: xs.drop (j + 1) := List.drop_eq_getElem_cons h

/-- Satisfies. -/
def sat (n : Int) (rows : List S36) (vs : List Int) : Bool := validSys n rows && (decide ((vs.length : Int) = n) && (vs.all fitsB && rows.all fun r => !(decide ((evalLin r.f0 r.f1 vs).1 < 0))))

/-- AddRow. -/
def addRow (n : Int) (rows : List S36) (c : Int) (cs : List Int) : Int × List S36 × Bool := if validSys n rows = true ∧ validSys n (rows ++ [⟨c, cs⟩]) = true then (n, rows ++ [⟨c, cs⟩], true) else (n, rows, false)
theorem more_rows {rows : List S36} {c : Int} {cs : List Int} (hx : ∀ x ∈ rows, x.f1.length ≤ 1048576) (hc : cs.length ≤ 1048576) : ∀ x ∈ rows ++ [⟨c, cs⟩], x.f1.length ≤ 1048576 := by
  intro x h
  rcases List.mem_append.1 h with h | h
  · exact hx x h
  · rw [List.mem_singleton.1 h]; exact hc

theorem sat_more {n : Int} {rows : List S36} {c : Int} {cs vs : List Int} (h1 : validSys n rows = true) (h2 : validSys n (rows ++ [⟨c, cs⟩]) = true) : sat n (rows ++ [⟨c, cs⟩]) vs = (sat n rows vs && !(decide ((evalLin c cs vs).1 < 0))) := by
  unfold sat
  rw [h1, h2, List.all_append]
  simp only [List.all_cons, List.all_nil, Bool.and_true, Bool.true_and, Bool.and_assoc]

theorem spec_l4Copy_eq (c : Int) (xs : List Int) (hn : xs.length ≤ 10000000000000) : spec_l4Copy.f c xs = some (c, xs) := by
  unfold spec_l4Copy.f
  simp only [Option.bind_some, List.length_nil, List.nil_append]
  rw [if_pos (by omega)]

theorem spec_l6Copy_l0 (n m : Int) (rows : List S36) (hn : rows.length ≤ 1048576) (hx : ∀ x ∈ rows, x.f1.length ≤ 1048576) : ∀ (d j k : Nat) (acc : List S36), j + d = rows.length → d < k → acc.length = j →
    spec_l6Copy.l0 k (j : Int) n rows m acc = some (m, acc ++ rows.drop j) := by
  intro d
  induction d with
  | zero =>
    intro j k acc hj hk ha
    obtain ⟨k, rfl⟩ := succ_of hk
    simp only [spec_l6Copy.l0]
    rw [if_neg (by omega), List.drop_eq_nil_of_le (by omega), List.append_nil]
  | succ d ih =>
    intro j k acc hj hk ha
    obtain ⟨k, rfl⟩ := succ_of hk
    have hlt : j < rows.length := by omega
    have hxj := hx _ (List.getElem_mem hlt)
    simp only [spec_l6Copy.l0]
    rw [if_pos (by omega), if_pos (by omega), rd_lin _ _ hlt, spec_l4Copy_eq _ _ (by omega), Option.bind_some, if_pos (by omega), wrap_succ (n := rows.length) hlt (by omega), ih (j + 1) k _ (by omega) (by omega) (by simp; omega), List.drop_eq_getElem_cons hlt, List.append_assoc]
    rfl
theorem spec_l6Copy_eq (n : Int) (rows : List S36) (hn : rows.length ≤ 1048576) (hx : ∀ x ∈ rows, x.f1.length ≤ 1048576) (k : Nat) (hk : 1048577 < k) : spec_l6Copy.f k n rows = some (n, rows) := by
  unfold spec_l6Copy.f
  have := spec_l6Copy_l0 n n rows hn hx rows.length 0 k [] (by omega) (by omega) rfl
  simpa using this

theorem spec_IsValidLin_l0 (c : Int) (cs : List Int) (n : Int) (hn : cs.length ≤ 4611686018427387904) : ∀ (d j k : Nat), j + d = cs.length → d < k →
    spec_IsValidLin.l0 k n (j : Int) c cs = some ((cs.drop j).all okc && (decide (0 ≤ n ∧ n ≤ 8) && (decide ((cs.length : Int) = n) && okc c))) := by
  intro d
  induction d with
  | zero =>
    intro j k hj hk
    obtain ⟨k, rfl⟩ := succ_of hk
    simp only [spec_IsValidLin.l0]
    rw [if_neg (by omega), List.drop_eq_nil_of_le (by omega), spec_l1In_eq, spec_l3In_eq]
    simp only [Option.bind_some, List.all_nil, Bool.true_and]
    by_cases h1 : 0 ≤ n ∧ n ≤ 8 <;> by_cases h2 : (cs.length : Int) = n <;> simp [h1, h2]
  | succ d ih =>
    intro j k hj hk
    obtain ⟨k, rfl⟩ := succ_of hk
    have hlt : j < cs.length := by omega
    simp only [spec_IsValidLin.l0]
    rw [if_pos (by omega), if_pos (by omega), rd_nat _ _ hlt, spec_l3In_eq, Option.bind_some, wrap_succ hlt hn, ih (j + 1) k (by omega) (by omega), List.drop_eq_getElem_cons hlt, List.all_cons]
    cases okc cs[j] <;> simp
theorem spec_IsValidLin_eq (c : Int) (cs : List Int) (n : Int) (hn : cs.length ≤ 4611686018427387904) (k : Nat) (hk : cs.length < k) : spec_IsValidLin.f k c cs n = some (validLin c cs n) := by
  unfold spec_IsValidLin.f validLin
  have := spec_IsValidLin_l0 c cs n hn cs.length 0 k (by omega) hk
  rw [show ((0 : Nat) : Int) = 0 from rfl, List.drop_zero] at this
  rw [this]
  cases cs.all okc <;> simp

theorem spec_IsValidSystem_l0 (n : Int) (rows : List S36) (hn : rows.length ≤ 4611686018427387904) (hx : ∀ x ∈ rows, x.f1.length ≤ 1048576) : ∀ (d j k : Nat), j + d = rows.length → d + 1048577 < k →
    spec_IsValidSystem.l0 k (j : Int) n rows = some ((rows.drop j).all (fun r => validLin r.f0 r.f1 n) && (decide (0 ≤ n ∧ n ≤ 8) && decide (rows.length ≤ 20))) := by
  intro d
  induction d with
  | zero =>
    intro j k hj hk
    obtain ⟨k, rfl⟩ := succ_of hk
    simp only [spec_IsValidSystem.l0]
    rw [if_neg (by omega), List.drop_eq_nil_of_le (by omega), spec_l1In_eq]
    simp only [Option.bind_some, List.all_nil, Bool.true_and]
    have e : decide ((rows.length : Int) ≤ 20) = decide (rows.length ≤ 20) := by rw [decide_eq_decide]; omega
    rw [e]
    by_cases h1 : 0 ≤ n ∧ n ≤ 8 <;> simp [h1]
  | succ d ih =>
    intro j k hj hk
    obtain ⟨k, rfl⟩ := succ_of hk
    have hlt : j < rows.length := by omega
    have hxj := hx _ (List.getElem_mem hlt)
    simp only [spec_IsValidSystem.l0]
    rw [if_pos (by omega), if_pos (by omega), rd_lin _ _ hlt, spec_IsValidLin_eq _ _ _ (by omega) k (by omega), Option.bind_some, wrap_succ hlt hn, ih (j + 1) k (by omega) (by omega), List.drop_eq_getElem_cons hlt, List.all_cons]
    cases validLin rows[j].f0 rows[j].f1 n <;> simp
theorem spec_IsValidSystem_eq (n : Int) (rows : List S36) (hn : rows.length ≤ 1048577) (hx : ∀ x ∈ rows, x.f1.length ≤ 1048576) (k : Nat) (hk : 2097155 < k) : spec_IsValidSystem.f k n rows = some (validSys n rows) := by
  unfold spec_IsValidSystem.f validSys
  have := spec_IsValidSystem_l0 n rows (by omega) hx rows.length 0 k (by omega) (by omega)
  rw [show ((0 : Nat) : Int) = 0 from rfl, List.drop_zero] at this
  rw [this]
  cases rows.all fun r => validLin r.f0 r.f1 n <;> simp

theorem spec_AddRow_eq (n : Int) (rows : List S36) (c : Int) (cs : List Int) (hn : rows.length ≤ 1048576) (hx : ∀ x ∈ rows, x.f1.length ≤ 1048576) (hc : cs.length ≤ 1048576) (k : Nat) (hk : 2097160 < k) : spec_AddRow.f k n rows c cs = some (addRow n rows c cs) := by
  unfold spec_AddRow.f addRow
  rw [spec_l6Copy_eq n rows hn hx k (by omega), spec_l4Copy_eq c cs (by omega)]; simp only [Option.bind_some]
  rw [if_pos (by omega), spec_IsValidSystem_eq n rows (by omega) hx k (by omega), spec_IsValidSystem_eq n _ (by simp; omega) (more_rows hx hc) k (by omega)]; simp only [Option.bind_some]
  cases validSys n rows <;> cases validSys n (rows ++ [⟨c, cs⟩]) <;> simp

theorem slices_Clone_eq (xs : List Int) (hn : xs.length ≤ 10000000000000) : slices_Clone_int_int.f xs = some xs := by
  unfold slices_Clone_int_int.f
  simp only [Option.bind_some, List.length_nil, List.nil_append]
  rw [if_pos (by omega)]
theorem impl_copyLin_eq (c : Int) (xs : List Int) (hn : xs.length ≤ 10000000000000) : impl_copyLin.f c xs = some (c, xs) := by
  unfold impl_copyLin.f; rw [slices_Clone_eq xs hn]; rfl

theorem impl_copyLins_l0 (rows : List S36) (hn : rows.length ≤ 1048576) (hx : ∀ x ∈ rows, x.f1.length ≤ 1048576) : ∀ (d j k : Nat) (acc : List S36), j + d = rows.length → d < k → acc.length = j →
    impl_copyLins.l0 k acc rows (rows.length : Int) (j : Int) = some (acc ++ rows.drop j) := by
  intro d
  induction d with
  | zero =>
    intro j k acc hj hk ha
    obtain ⟨k, rfl⟩ := succ_of hk
    simp only [impl_copyLins.l0]
    rw [if_neg (by omega), List.drop_eq_nil_of_le (by omega), List.append_nil]
  | succ d ih =>
    intro j k acc hj hk ha
    obtain ⟨k, rfl⟩ := succ_of hk
    have hlt : j < rows.length := by omega
    have hxj := hx _ (List.getElem_mem hlt)
    simp only [impl_copyLins.l0]
    rw [if_pos (by omega), if_pos (by omega), if_pos (by omega), rd_lin _ _ hlt, impl_copyLin_eq _ _ (by omega), Option.bind_some, if_pos (by omega), wrap_succ (n := rows.length) hlt (by omega), ih (j + 1) k _ (by omega) (by omega) (by simp; omega), List.drop_eq_getElem_cons hlt, List.append_assoc]
    rfl
theorem impl_copySystem_eq (n : Int) (rows : List S36) (hn : rows.length ≤ 1048576) (hx : ∀ x ∈ rows, x.f1.length ≤ 1048576) (k : Nat) (hk : 1048577 < k) : impl_copySystem.f k n rows = some (n, rows) := by
  unfold impl_copySystem.f impl_copyLins.f
  have := impl_copyLins_l0 rows hn hx rows.length 0 k [] (by omega) (by omega) rfl
  rw [show ((0 : Nat) : Int) = 0 from rfl, List.drop_zero, List.nil_append] at this
  rw [this]; rfl

/-- The place of the first that p takes, counted from i on; -1 where there is none. -/
def firstBy {α : Type} (p : α → Bool) : List α → Int → Int
  | [], _ => -1
  | x :: xs, i => if p x = true then i else firstBy p xs (i + 1)
theorem firstBy_any {α : Type} (p : α → Bool) : ∀ (xs : List α) (i : Int), 0 ≤ i → decide (firstBy p xs i ≥ 0) = xs.any p := by
  intro xs
  induction xs with
  | nil => intro i _; simp [firstBy]
  | cons x xs ih =>
    intro i hi
    simp only [firstBy, List.any_cons]
    by_cases h : p x = true
    · simp [h]; omega
    · have := ih (i + 1) (by omega)
      simp only [Bool.eq_false_iff.mpr h, Bool.false_eq_true, if_false, Bool.false_or]; exact this

theorem impl_within_eq (a b c : Int) : impl_within.f a b c = some (decide (b ≤ a ∧ a ≤ c)) := by
  unfold impl_within.f
  by_cases h : a ≥ b
  · rw [if_pos h]; congr 1; rw [decide_eq_decide]; omega
  · rw [if_neg h]; congr 1; symm; rw [decide_eq_false_iff_not]; omega

theorem impl_coeffOk_eq (n : Int) : impl_coeffOk.f n = some (okc n) := by unfold impl_coeffOk.f; rw [impl_within_eq]; rfl

theorem slices_IndexFunc_int_int__IsValidLin_1_l0 (p : Int → Bool) (hp : ∀ c, impl_IsValidLin_1.f c = some (p c)) (xs : List Int) (hn : xs.length ≤ 4611686018427387904) : ∀ (d j k : Nat), j + d = xs.length → d < k →
    slices_IndexFunc_int_int__IsValidLin_1.l0 k xs (xs.length : Int) (j : Int) = some (firstBy p (xs.drop j) (j : Int)) := by
  intro d
  induction d with
  | zero =>
    intro j k hj hk
    obtain ⟨k, rfl⟩ := succ_of hk
    simp only [slices_IndexFunc_int_int__IsValidLin_1.l0]
    rw [if_neg (by omega), List.drop_eq_nil_of_le (by omega)]; rfl
  | succ d ih =>
    intro j k hj hk
    obtain ⟨k, rfl⟩ := succ_of hk
    have hlt : j < xs.length := by omega
    simp only [slices_IndexFunc_int_int__IsValidLin_1.l0]
    rw [if_pos (by omega), if_pos (by omega), if_pos (by omega), rd_nat _ _ hlt, hp, Option.bind_some, wrap_succ hlt hn, ih (j + 1) k (by omega) (by omega), List.drop_eq_getElem_cons hlt]
    simp only [firstBy]
    split <;> rfl
theorem slices_ContainsFunc_int_int__IsValidLin_1_eq (p : Int → Bool) (hp : ∀ c, impl_IsValidLin_1.f c = some (p c)) (xs : List Int) (hn : xs.length ≤ 4611686018427387904) (k : Nat) (hk : xs.length < k) :
    slices_ContainsFunc_int_int__IsValidLin_1.f k xs () = some (xs.any p) := by
  unfold slices_ContainsFunc_int_int__IsValidLin_1.f slices_IndexFunc_int_int__IsValidLin_1.f
  have := slices_IndexFunc_int_int__IsValidLin_1_l0 p hp xs hn xs.length 0 k (by omega) hk
  rw [show ((0 : Nat) : Int) = 0 from rfl, List.drop_zero] at this
  rw [this, Option.bind_some, firstBy_any p xs 0 (by omega)]
theorem impl_IsValidLin_eq (c : Int) (cs : List Int) (n : Int) (hn : cs.length ≤ 4611686018427387904) (k : Nat) (hk : cs.length < k) : impl_IsValidLin.f k c cs n = some (validLin c cs n) := by
  unfold impl_IsValidLin.f validLin
  rw [impl_within_eq, impl_coeffOk_eq, slices_ContainsFunc_int_int__IsValidLin_1_eq (fun c => !(okc c)) (fun c => by unfold impl_IsValidLin_1.f; rw [impl_coeffOk_eq]; rfl) cs hn k hk]
  simp only [Option.bind_some, any_not_all]
  by_cases h1 : 0 ≤ n ∧ n ≤ 8 <;> by_cases h2 : (cs.length : Int) = n <;> cases h3 : okc c <;> simp [h1, h2]

theorem impl_IsValidSystem_l0 (n : Int) (rows : List S36) (hn : rows.length ≤ 4611686018427387904) (hx : ∀ x ∈ rows, x.f1.length ≤ 1048576) : ∀ (d j k : Nat), j + d = rows.length → d + 1048577 < k →
    impl_IsValidSystem.l0 k rows (rows.length : Int) (j : Int) n rows = some ((rows.drop j).all (fun r => validLin r.f0 r.f1 n)) := by
  intro d
  induction d with
  | zero =>
    intro j k hj hk
    obtain ⟨k, rfl⟩ := succ_of hk
    simp only [impl_IsValidSystem.l0]
    rw [if_neg (by omega), List.drop_eq_nil_of_le (by omega)]; rfl
  | succ d ih =>
    intro j k hj hk
    obtain ⟨k, rfl⟩ := succ_of hk
    have hlt : j < rows.length := by omega
    have hxj := hx _ (List.getElem_mem hlt)
    simp only [impl_IsValidSystem.l0]
    rw [if_pos (by omega), if_pos (by omega), if_pos (by omega), rd_lin _ _ hlt, impl_IsValidLin_eq _ _ _ (by omega) k (by omega), Option.bind_some, wrap_succ hlt hn, ih (j + 1) k (by omega) (by omega), List.drop_eq_getElem_cons hlt, List.all_cons]
    cases validLin rows[j].f0 rows[j].f1 n <;> simp
theorem impl_IsValidSystem_eq (n : Int) (rows : List S36) (hn : rows.length ≤ 1048577) (hx : ∀ x ∈ rows, x.f1.length ≤ 1048576) (k : Nat) (hk : 2097156 < k) : impl_IsValidSystem.f k n rows = some (validSys n rows) := by
  unfold impl_IsValidSystem.f validSys
  rw [impl_within_eq, Option.bind_some]
  obtain ⟨k, rfl⟩ := succ_of hk
  simp only [impl_IsValidSystem.j0]
  have := impl_IsValidSystem_l0 n rows (by omega) hx rows.length 0 k (by omega) (by omega)
  rw [show ((0 : Nat) : Int) = 0 from rfl, List.drop_zero] at this
  rw [this]
  by_cases h1 : 0 ≤ n ∧ n ≤ 8
  · by_cases h2 : rows.length ≤ 20
    · have : ¬ ((rows.length : Int) > 20) := by omega
      simp [h1, h2, this]
    · have : (rows.length : Int) > 20 := by omega
      simp [h1, h2, this]
  · simp [h1]

theorem impl_AddRow_eq (n : Int) (rows : List S36) (c : Int) (cs : List Int) (hn : rows.length ≤ 1048576) (hx : ∀ x ∈ rows, x.f1.length ≤ 1048576) (hc : cs.length ≤ 1048576) (k : Nat) (hk : 2097160 < k) : impl_AddRow.f k n rows c cs = some (addRow n rows c cs) := by
  unfold impl_AddRow.f addRow
  rw [impl_copySystem_eq n rows hn hx k (by omega), impl_copyLin_eq c cs (by omega)]; simp only [Option.bind_some]
  rw [if_pos (by omega), impl_IsValidSystem_eq n rows (by omega) hx k (by omega), impl_IsValidSystem_eq n _ (by simp; omega) (more_rows hx hc) k (by omega)]; simp only [Option.bind_some]
  cases validSys n rows <;> cases validSys n (rows ++ [⟨c, cs⟩]) <;> simp

theorem slices_Equal_l0 (a b : List Int) (hab : a.length = b.length) (hn : a.length ≤ 4611686018427387904) : ∀ (d j k : Nat), j + d = a.length → d < k →
    slices_Equal_int_int.l0 k a b (a.length : Int) (j : Int) = some (decide (a.drop j = b.drop j)) := by
  intro d
  induction d with
  | zero =>
    intro j k hj hk
    obtain ⟨k, rfl⟩ := succ_of hk
    simp only [slices_Equal_int_int.l0]
    rw [if_neg (by omega), List.drop_eq_nil_of_le (by omega), List.drop_eq_nil_of_le (by omega)]; simp
  | succ d ih =>
    intro j k hj hk
    obtain ⟨k, rfl⟩ := succ_of hk
    have hlt : j < a.length := by omega
    simp only [slices_Equal_int_int.l0]
    rw [if_pos (by omega), if_pos (by omega), if_pos (by omega), if_pos (by omega), rd_nat _ _ hlt, rd_nat _ _ (by omega), wrap_succ hlt hn, ih (j + 1) k (by omega) (by omega), List.drop_eq_getElem_cons hlt, List.drop_eq_getElem_cons (hab ▸ hlt : j < b.length)]
    simp only [List.cons.injEq]
    by_cases h : a[j] = b[j]
    · rw [if_pos h]; simp only [h, true_and]
    · rw [if_neg h]; simp only [h, false_and, decide_false]
theorem slices_Equal_eq (a b : List Int) (hn : a.length ≤ 4611686018427387904) (k : Nat) (hk : a.length < k) : slices_Equal_int_int.f k a b = some (decide (a = b)) := by
  unfold slices_Equal_int_int.f
  by_cases h : a.length = b.length
  · rw [if_pos (by omega)]
    have := slices_Equal_l0 a b h hn a.length 0 k (by omega) hk
    simpa using this
  · rw [if_neg (by omega)]; congr 1; symm; rw [decide_eq_false_iff_not]; intro e; exact h (by rw [e])

theorem impl_EqualLin_eq (c : Int) (a : List Int) (c' : Int) (b : List Int) (hn : a.length ≤ 4611686018427387904) (k : Nat) (hk : a.length < k) : impl_EqualLin.f k c a c' b = some (decide (c = c' ∧ a = b)) := by
  unfold impl_EqualLin.f
  rw [slices_Equal_eq a b hn k hk]
  by_cases h : c = c' <;> by_cases h2 : a = b <;> simp [h, h2]

theorem slices_EqualFunc_l0 (a b : List S36) (hab : a.length = b.length) (hn : a.length ≤ 4611686018427387904) (hx : ∀ x ∈ a, x.f1.length ≤ 1048576) : ∀ (d j k : Nat), j + d = a.length → d + 1048577 < k →
    slices_EqualFunc_impl_Lin_impl_Lin_impl_Lin_impl_Lin__EqualLin.l0 k b a (a.length : Int) (j : Int) = some (decide (a.drop j = b.drop j)) := by
  intro d
  induction d with
  | zero =>
    intro j k hj hk
    obtain ⟨k, rfl⟩ := succ_of hk
    simp only [slices_EqualFunc_impl_Lin_impl_Lin_impl_Lin_impl_Lin__EqualLin.l0]
    rw [if_neg (by omega), List.drop_eq_nil_of_le (by omega), List.drop_eq_nil_of_le (by omega)]; simp
  | succ d ih =>
    intro j k hj hk
    obtain ⟨k, rfl⟩ := succ_of hk
    have hlt : j < a.length := by omega
    have hxj := hx _ (List.getElem_mem hlt)
    simp only [slices_EqualFunc_impl_Lin_impl_Lin_impl_Lin_impl_Lin__EqualLin.l0]
    rw [if_pos (by omega), if_pos (by omega), if_pos (by omega), if_pos (by omega), rd_lin _ _ hlt, rd_lin _ _ (by omega), impl_EqualLin_eq _ _ _ _ (by omega) k (by omega), Option.bind_some, wrap_succ hlt hn, ih (j + 1) k (by omega) (by omega), List.drop_eq_getElem_cons hlt, List.drop_eq_getElem_cons (hab ▸ hlt : j < b.length)]
    simp only [List.cons.injEq, lin_eq_iff, decide_eq_true_eq]
    by_cases h : a[j].f0 = b[j].f0 ∧ a[j].f1 = b[j].f1
    · rw [if_pos h]; simp only [h, true_and, and_self]
    · rw [if_neg h]; simp only [h, false_and, decide_false]
theorem impl_equalLins_eq (a b : List S36) (hn : a.length ≤ 1048577) (hx : ∀ x ∈ a, x.f1.length ≤ 1048576) (k : Nat) (hk : 2097156 < k) : impl_equalLins.f k a b = some (decide (a = b)) := by
  unfold impl_equalLins.f slices_EqualFunc_impl_Lin_impl_Lin_impl_Lin_impl_Lin__EqualLin.f
  by_cases h : a.length = b.length
  · rw [if_pos (by omega)]
    have := slices_EqualFunc_l0 a b h (by omega) hx a.length 0 k (by omega) (by omega)
    rw [show ((0 : Nat) : Int) = 0 from rfl, List.drop_zero, List.drop_zero] at this
    rw [this]; rfl
  · rw [if_neg (by omega), Option.bind_some]; congr 1; symm; rw [decide_eq_false_iff_not]; intro e; exact h (by rw [e])
theorem impl_EqualSystem_eq (n : Int) (a : List S36) (m : Int) (b : List S36) (hn : a.length ≤ 1048577) (hx : ∀ x ∈ a, x.f1.length ≤ 1048576) (k : Nat) (hk : 2097156 < k) : impl_EqualSystem.f k n a m b = some (decide (n = m ∧ a = b)) := by
  unfold impl_EqualSystem.f
  rw [impl_equalLins_eq a b hn hx k hk]
  by_cases h : n = m <;> by_cases h2 : a = b <;> simp [h, h2]

theorem spec_l1Ints_l0 (a b : List Int) (hab : a.length = b.length) (hn : a.length ≤ 4611686018427387904) : ∀ (d j k : Nat), j + d = a.length → d < k →
    spec_l1Ints.l0 k a b (j : Int) = some (decide (a.drop j = b.drop j)) := by
  intro d
  induction d with
  | zero =>
    intro j k hj hk
    obtain ⟨k, rfl⟩ := succ_of hk
    simp only [spec_l1Ints.l0]
    rw [if_neg (by omega), List.drop_eq_nil_of_le (by omega), List.drop_eq_nil_of_le (by omega)]; simp
  | succ d ih =>
    intro j k hj hk
    obtain ⟨k, rfl⟩ := succ_of hk
    have hlt : j < a.length := by omega
    simp only [spec_l1Ints.l0]
    rw [if_pos (by omega), if_pos (by omega), if_pos (by omega), rd_nat _ _ hlt, rd_nat _ _ (by omega), wrap_succ hlt hn, ih (j + 1) k (by omega) (by omega), List.drop_eq_getElem_cons hlt, List.drop_eq_getElem_cons (hab ▸ hlt : j < b.length)]
    simp only [List.cons.injEq]
    by_cases h : a[j] = b[j]
    · rw [if_pos h]; simp only [h, true_and]
    · rw [if_neg h]; simp only [h, false_and, decide_false]
theorem spec_l1Ints_eq (a b : List Int) (hn : a.length ≤ 4611686018427387904) (k : Nat) (hk : a.length < k) : spec_l1Ints.f k a b = some (decide (a = b)) := by
  unfold spec_l1Ints.f
  by_cases h : a.length = b.length
  · rw [if_pos (by omega)]
    have := spec_l1Ints_l0 a b h hn a.length 0 k (by omega) hk
    simpa using this
  · rw [if_neg (by omega)]; congr 1; symm; rw [decide_eq_false_iff_not]; intro e; exact h (by rw [e])

theorem spec_EqualLin_eq (c : Int) (a : List Int) (c' : Int) (b : List Int) (hn : a.length ≤ 4611686018427387904) (k : Nat) (hk : a.length < k) : spec_EqualLin.f k c a c' b = some (decide (c = c' ∧ a = b)) := by
  unfold spec_EqualLin.f
  rw [spec_l1Ints_eq a b hn k hk]
  by_cases h : c = c' <;> by_cases h2 : a = b <;> simp [h, h2]

theorem spec_EqualSystem_l0 (n m : Int) (a b : List S36) (hab : a.length = b.length) (hn : a.length ≤ 4611686018427387904) (hx : ∀ x ∈ a, x.f1.length ≤ 1048576) : ∀ (d j k : Nat), j + d = a.length → d + 1048577 < k →
    spec_EqualSystem.l0 k (j : Int) n a m b = some (decide (a.drop j = b.drop j)) := by
  intro d
  induction d with
  | zero =>
    intro j k hj hk
    obtain ⟨k, rfl⟩ := succ_of hk
    simp only [spec_EqualSystem.l0]
    rw [if_neg (by omega), List.drop_eq_nil_of_le (by omega), List.drop_eq_nil_of_le (by omega)]; simp
  | succ d ih =>
    intro j k hj hk
    obtain ⟨k, rfl⟩ := succ_of hk
    have hlt : j < a.length := by omega
    have hxj := hx _ (List.getElem_mem hlt)
    simp only [spec_EqualSystem.l0]
    rw [if_pos (by omega), if_pos (by omega), if_pos (by omega), rd_lin _ _ hlt, rd_lin _ _ (by omega), spec_EqualLin_eq _ _ _ _ (by omega) k (by omega), Option.bind_some, wrap_succ hlt hn, ih (j + 1) k (by omega) (by omega), List.drop_eq_getElem_cons hlt, List.drop_eq_getElem_cons (hab ▸ hlt : j < b.length)]
    simp only [List.cons.injEq, lin_eq_iff, decide_eq_true_eq]
    by_cases h : a[j].f0 = b[j].f0 ∧ a[j].f1 = b[j].f1
    · rw [if_pos h]; simp only [h, true_and, and_self]
    · rw [if_neg h]; simp only [h, false_and, decide_false]
theorem spec_EqualSystem_eq (n : Int) (a : List S36) (m : Int) (b : List S36) (hn : a.length ≤ 1048577) (hx : ∀ x ∈ a, x.f1.length ≤ 1048576) (k : Nat) (hk : 2097156 < k) : spec_EqualSystem.f k n a m b = some (decide (n = m ∧ a = b)) := by
  unfold spec_EqualSystem.f
  obtain ⟨k, rfl⟩ := succ_of hk
  simp only [spec_EqualSystem.j0]
  by_cases h : n = m
  · rw [if_pos h]
    by_cases h2 : a.length = b.length
    · have := spec_EqualSystem_l0 n m a b h2 (by omega) hx a.length 0 k (by omega) (by omega)
      rw [show ((0 : Nat) : Int) = 0 from rfl, List.drop_zero, List.drop_zero] at this
      rw [if_neg (by simp [h2]), this]; simp [h]
    · rw [if_pos (by simp; omega)]; congr 1; symm; rw [decide_eq_false_iff_not]; rintro ⟨_, e⟩; exact h2 (by rw [e])
  · rw [if_neg h]; simp [h]

theorem spec_Fits_eq (n : Int) : spec_Fits.f n = some (fitsB n) := by unfold spec_Fits.f; rw [spec_l1In_eq]; rfl

theorem spec_EvalLin_l0 (c0 : Int) (cs vs : List Int) (hl : cs.length = vs.length) (h8 : vs.length ≤ 8) (hc : ∀ x ∈ cs, okc x = true) : ∀ (d j k : Nat) (s : Int), j + d = vs.length → d < k → -(1000000000 + 1000000000000000 * (j : Int)) ≤ s → s ≤ 1000000000 + 1000000000000000 * (j : Int) →
    spec_EvalLin.l0 k vs s (j : Int) c0 cs = some (if (vs.drop j).all fitsB = true then (s + dot (cs.drop j) (vs.drop j), true) else (0, false)) := by
  intro d
  induction d with
  | zero =>
    intro j k s hj hk h0 h1
    obtain ⟨k, rfl⟩ := succ_of hk
    simp only [spec_EvalLin.l0]
    rw [if_neg (by omega), List.drop_eq_nil_of_le (by omega : vs.length ≤ j)]; simp [dot]
  | succ d ih =>
    intro j k s hj hk h0 h1
    obtain ⟨k, rfl⟩ := succ_of hk
    have hlt : j < vs.length := by omega
    have hlc : j < cs.length := by omega
    simp only [spec_EvalLin.l0]
    rw [if_pos (by omega), if_pos (by omega), rd_nat _ _ hlt, rd_nat _ _ hlc, spec_Fits_eq, Option.bind_some, drop_cons vs j hlt, drop_cons cs j hlc, List.all_cons]
    cases h : fitsB vs[j] with
    | false => simp
    | true =>
      have hb := mul_okc_fits ((okc_iff _).1 (hc _ (List.getElem_mem hlc))) ((fitsB_iff _).1 h)
      rw [if_pos rfl, if_pos (by omega), wrap_id (n := cs[j] * vs[j]) (by omega) (by omega), wrap_id (by omega) (by omega), wrap_succ hlt (by omega), ih (j + 1) k _ (by omega) (by omega) (by omega) (by omega), Bool.true_and]
      simp only [dot]
      rw [Int.add_assoc]
theorem spec_EvalLin_eq (c : Int) (cs vs : List Int) (hn : cs.length ≤ 4611686018427387904) (k : Nat) (hk : cs.length + 10 < k) : spec_EvalLin.f k c cs vs = some (evalLin c cs vs) := by
  unfold spec_EvalLin.f evalLin
  rw [spec_IsValidLin_eq c cs _ hn k (by omega), Option.bind_some]
  cases h : validLin c cs (vs.length : Int) with
  | false => simp
  | true =>
    obtain ⟨h1, h2, h3, h4⟩ := (validLin_iff _ _ _).1 h
    have h3 := (okc_iff _).1 h3
    have := spec_EvalLin_l0 c cs vs (by omega) (by omega) h4 vs.length 0 k c (by omega) (by omega) (by omega) (by omega)
    rw [show ((0 : Nat) : Int) = 0 from rfl, List.drop_zero, List.drop_zero] at this
    rw [if_pos rfl, this]; simp

theorem spec_Satisfies_l1 (n : Int) (rows : List S36) (vs : List Int) (hn : rows.length ≤ 4611686018427387904) (hx : ∀ x ∈ rows, x.f1.length ≤ 1048576) : ∀ (d j k : Nat), j + d = rows.length → d + 1048587 < k →
    spec_Satisfies.l1 k vs (j : Int) n rows = some ((rows.drop j).all fun r => !(decide ((evalLin r.f0 r.f1 vs).1 < 0))) := by
  intro d
  induction d with
  | zero =>
    intro j k hj hk
    obtain ⟨k, rfl⟩ := succ_of hk
    simp only [spec_Satisfies.l1]
    rw [if_neg (by omega), List.drop_eq_nil_of_le (by omega)]; rfl
  | succ d ih =>
    intro j k hj hk
    obtain ⟨k, rfl⟩ := succ_of hk
    have hlt : j < rows.length := by omega
    have hxj := hx _ (List.getElem_mem hlt)
    simp only [spec_Satisfies.l1]
    rw [if_pos (by omega), if_pos (by omega), rd_lin _ _ hlt, spec_EvalLin_eq _ _ _ (by omega) k (by omega), Option.bind_some, wrap_succ hlt hn, ih (j + 1) k (by omega) (by omega), List.drop_eq_getElem_cons hlt, List.all_cons]
    by_cases h : (evalLin rows[j].f0 rows[j].f1 vs).1 < 0
    · rw [if_pos h]; simp [h]
    · rw [if_neg h]; simp [h]
theorem spec_Satisfies_l0 (n : Int) (rows : List S36) (vs : List Int) (hn : rows.length ≤ 1048577) (hv : vs.length ≤ 4611686018427387904) (hx : ∀ x ∈ rows, x.f1.length ≤ 1048576) : ∀ (d j k : Nat), j + d = vs.length → d + 2097176 < k →
    spec_Satisfies.l0 k vs (j : Int) n rows = some ((vs.drop j).all fitsB && (validSys n rows && (decide ((vs.length : Int) = n) && rows.all fun r => !(decide ((evalLin r.f0 r.f1 vs).1 < 0))))) := by
  intro d
  induction d with
  | zero =>
    intro j k hj hk
    obtain ⟨k, rfl⟩ := succ_of hk
    simp only [spec_Satisfies.l0]
    rw [if_neg (by omega), List.drop_eq_nil_of_le (by omega), spec_IsValidSystem_eq n rows hn hx k (by omega), Option.bind_some]
    obtain ⟨k, rfl⟩ : ∃ m, k = m + 1 := ⟨k - 1, by omega⟩
    simp only [spec_Satisfies.j1, List.all_nil, Bool.true_and]
    have := spec_Satisfies_l1 n rows vs (by omega) hx rows.length 0 k (by omega) (by omega)
    rw [show ((0 : Nat) : Int) = 0 from rfl, List.drop_zero] at this
    rw [this]
    cases validSys n rows
    · simp
    · by_cases h : (vs.length : Int) = n <;> simp [h]
  | succ d ih =>
    intro j k hj hk
    obtain ⟨k, rfl⟩ := succ_of hk
    have hlt : j < vs.length := by omega
    simp only [spec_Satisfies.l0]
    rw [if_pos (by omega), if_pos (by omega), rd_nat _ _ hlt, spec_Fits_eq, Option.bind_some, wrap_succ hlt hv, ih (j + 1) k (by omega) (by omega), List.drop_eq_getElem_cons hlt, List.all_cons]
    cases fitsB vs[j] <;> simp
theorem spec_Satisfies_eq (n : Int) (rows : List S36) (vs : List Int) (hn : rows.length ≤ 1048577) (hv : vs.length ≤ 1048576) (hx : ∀ x ∈ rows, x.f1.length ≤ 1048576) (k : Nat) (hk : 3200000 < k) : spec_Satisfies.f k n rows vs = some (sat n rows vs) := by
  unfold spec_Satisfies.f sat
  have := spec_Satisfies_l0 n rows vs hn (by omega) hx vs.length 0 k (by omega) (by omega)
  rw [show ((0 : Nat) : Int) = 0 from rfl, List.drop_zero] at this
  rw [this]
  cases vs.all fitsB <;> cases validSys n rows <;> simp

theorem impl_Fits_eq (n : Int) : impl_Fits.f n = some (fitsB n) := by unfold impl_Fits.f; rw [impl_within_eq]; rfl

theorem slices_IndexFunc_int_int__EvalLin_1_l0 (p : Int → Bool) (hp : ∀ c, impl_EvalLin_1.f c = some (p c)) (xs : List Int) (hn : xs.length ≤ 4611686018427387904) : ∀ (d j k : Nat), j + d = xs.length → d < k →
    slices_IndexFunc_int_int__EvalLin_1.l0 k xs (xs.length : Int) (j : Int) = some (firstBy p (xs.drop j) (j : Int)) := by
  intro d
  induction d with
  | zero =>
    intro j k hj hk
    obtain ⟨k, rfl⟩ := succ_of hk
    simp only [slices_IndexFunc_int_int__EvalLin_1.l0]
    rw [if_neg (by omega), List.drop_eq_nil_of_le (by omega)]; rfl
  | succ d ih =>
    intro j k hj hk
    obtain ⟨k, rfl⟩ := succ_of hk
    have hlt : j < xs.length := by omega
    simp only [slices_IndexFunc_int_int__EvalLin_1.l0]
    rw [if_pos (by omega), if_pos (by omega), if_pos (by omega), rd_nat _ _ hlt, hp, Option.bind_some, wrap_succ hlt hn, ih (j + 1) k (by omega) (by omega), List.drop_eq_getElem_cons hlt]
    simp only [firstBy]
    split <;> rfl
theorem slices_ContainsFunc_int_int__EvalLin_1_eq (p : Int → Bool) (hp : ∀ c, impl_EvalLin_1.f c = some (p c)) (xs : List Int) (hn : xs.length ≤ 4611686018427387904) (k : Nat) (hk : xs.length < k) :
    slices_ContainsFunc_int_int__EvalLin_1.f k xs () = some (xs.any p) := by
  unfold slices_ContainsFunc_int_int__EvalLin_1.f slices_IndexFunc_int_int__EvalLin_1.f
  have := slices_IndexFunc_int_int__EvalLin_1_l0 p hp xs hn xs.length 0 k (by omega) hk
  rw [show ((0 : Nat) : Int) = 0 from rfl, List.drop_zero] at this
  rw [this, Option.bind_some, firstBy_any p xs 0 (by omega)]
theorem impl_EvalLin_l0 (c0 : Int) (cs vs : List Int) (hl : cs.length = vs.length) (h8 : vs.length ≤ 8) (hc : ∀ x ∈ cs, okc x = true) (hf : ∀ v ∈ vs, fitsB v = true) : ∀ (d j k : Nat) (s : Int), j + d = vs.length → d < k → -(1000000000 + 1000000000000000 * (j : Int)) ≤ s → s ≤ 1000000000 + 1000000000000000 * (j : Int) →
    impl_EvalLin.l0 k s vs (vs.length : Int) (j : Int) c0 cs = some (s + dot (cs.drop j) (vs.drop j), true) := by
  intro d
  induction d with
  | zero =>
    intro j k s hj hk h0 h1
    obtain ⟨k, rfl⟩ := succ_of hk
    simp only [impl_EvalLin.l0]
    rw [if_neg (by omega), List.drop_eq_nil_of_le (by omega : vs.length ≤ j)]; simp [dot]
  | succ d ih =>
    intro j k s hj hk h0 h1
    obtain ⟨k, rfl⟩ := succ_of hk
    have hlt : j < vs.length := by omega
    have hlc : j < cs.length := by omega
    simp only [impl_EvalLin.l0]
    have hb := mul_okc_fits ((okc_iff _).1 (hc _ (List.getElem_mem hlc))) ((fitsB_iff _).1 (hf _ (List.getElem_mem hlt)))
    rw [if_pos (by omega), if_pos (by omega), if_pos (by omega), if_pos (by omega), rd_nat _ _ hlt, rd_nat _ _ hlc, drop_cons vs j hlt, drop_cons cs j hlc, wrap_id (n := cs[j] * vs[j]) (by omega) (by omega), wrap_id (by omega) (by omega), wrap_succ hlt (by omega), ih (j + 1) k _ (by omega) (by omega) (by omega) (by omega)]
    simp only [dot]
    rw [Int.add_assoc]
theorem impl_EvalLin_eq (c : Int) (cs vs : List Int) (hn : cs.length ≤ 4611686018427387904) (hv : vs.length ≤ 4611686018427387904) (k : Nat) (hk : cs.length + vs.length + 10 < k) : impl_EvalLin.f k c cs vs = some (evalLin c cs vs) := by
  unfold impl_EvalLin.f evalLin
  rw [impl_IsValidLin_eq c cs _ hn k (by omega), Option.bind_some, slices_ContainsFunc_int_int__EvalLin_1_eq (fun c => !(fitsB c)) (fun c => by unfold impl_EvalLin_1.f; rw [impl_Fits_eq]; rfl) vs hv k (by omega), Option.bind_some]
  obtain ⟨k, rfl⟩ := succ_of hk
  simp only [impl_EvalLin.j0]
  cases h : validLin c cs (vs.length : Int) with
  | false => simp
  | true =>
    obtain ⟨h1, h2, h3, h4⟩ := (validLin_iff _ _ _).1 h
    have h3 := (okc_iff _).1 h3
    rw [if_pos rfl]
    have ha := any_not_all fitsB vs
    cases hf : vs.all fitsB with
    | false =>
      rw [hf] at ha
      rw [if_pos (by simpa using ha), if_neg (by simp)]
    | true =>
      rw [hf] at ha
      have := impl_EvalLin_l0 c cs vs (by omega) (by omega) h4 (by simpa using hf) vs.length 0 k c (by omega) (by omega) (by omega) (by omega)
      rw [show ((0 : Nat) : Int) = 0 from rfl, List.drop_zero, List.drop_zero] at this
      rw [if_neg (by simpa using ha), if_pos ⟨rfl, rfl⟩, this]

theorem impl_Satisfies_l1 (rows : List S36) (vs : List Int) (hn : rows.length ≤ 4611686018427387904) (hv : vs.length ≤ 1048576) (hx : ∀ x ∈ rows, x.f1.length ≤ 1048576) : ∀ (d j k : Nat), j + d = rows.length → d + 2097187 < k →
    impl_Satisfies.l1 k vs rows (rows.length : Int) (j : Int) = some ((rows.drop j).all fun r => !(decide ((evalLin r.f0 r.f1 vs).1 < 0))) := by
  intro d
  induction d with
  | zero =>
    intro j k hj hk
    obtain ⟨k, rfl⟩ := succ_of hk
    simp only [impl_Satisfies.l1]
    rw [if_neg (by omega), List.drop_eq_nil_of_le (by omega)]; rfl
  | succ d ih =>
    intro j k hj hk
    obtain ⟨k, rfl⟩ := succ_of hk
    have hlt : j < rows.length := by omega
    have hxj := hx _ (List.getElem_mem hlt)
    simp only [impl_Satisfies.l1]
    rw [if_pos (by omega), if_pos (by omega), if_pos (by omega), rd_lin _ _ hlt, impl_EvalLin_eq _ _ _ (by omega) (by omega) k (by omega), Option.bind_some, wrap_succ hlt hn, ih (j + 1) k (by omega) (by omega), List.drop_eq_getElem_cons hlt, List.all_cons]
    by_cases h : (evalLin rows[j].f0 rows[j].f1 vs).1 < 0
    · rw [if_pos h]; simp [h]
    · rw [if_neg h]; simp [h]
theorem impl_Satisfies_l0 (n : Int) (rows : List S36) (vs : List Int) (hn : rows.length ≤ 1048577) (hv : vs.length ≤ 1048576) (hx : ∀ x ∈ rows, x.f1.length ≤ 1048576) : ∀ (d j k : Nat), j + d = vs.length → d + 3145776 < k →
    impl_Satisfies.l0 k vs vs (vs.length : Int) (j : Int) n rows = some ((vs.drop j).all fitsB && (rows.all fun r => !(decide ((evalLin r.f0 r.f1 vs).1 < 0)))) := by
  intro d
  induction d with
  | zero =>
    intro j k hj hk
    obtain ⟨k, rfl⟩ := succ_of hk
    simp only [impl_Satisfies.l0]
    have := impl_Satisfies_l1 rows vs (by omega) hv hx rows.length 0 k (by omega) (by omega)
    rw [show ((0 : Nat) : Int) = 0 from rfl, List.drop_zero] at this
    rw [if_neg (by omega), List.drop_eq_nil_of_le (by omega), this]; simp
  | succ d ih =>
    intro j k hj hk
    obtain ⟨k, rfl⟩ := succ_of hk
    have hlt : j < vs.length := by omega
    simp only [impl_Satisfies.l0]
    rw [if_pos (by omega), if_pos (by omega), if_pos (by omega), rd_nat _ _ hlt, impl_Fits_eq, Option.bind_some, wrap_succ hlt (by omega), ih (j + 1) k (by omega) (by omega), List.drop_eq_getElem_cons hlt, List.all_cons]
    cases fitsB vs[j] <;> simp
theorem impl_Satisfies_eq (n : Int) (rows : List S36) (vs : List Int) (hn : rows.length ≤ 1048577) (hv : vs.length ≤ 1048576) (hx : ∀ x ∈ rows, x.f1.length ≤ 1048576) (k : Nat) (hk : 4200000 < k) : impl_Satisfies.f k n rows vs = some (sat n rows vs) := by
  unfold impl_Satisfies.f sat
  rw [impl_IsValidSystem_eq n rows hn hx k (by omega), Option.bind_some]
  obtain ⟨k, rfl⟩ := succ_of hk
  simp only [impl_Satisfies.j0]
  have := impl_Satisfies_l0 n rows vs hn hv hx vs.length 0 k (by omega) (by omega)
  rw [show ((0 : Nat) : Int) = 0 from rfl, List.drop_zero] at this
  rw [this]
  cases validSys n rows
  · simp
  · by_cases h : (vs.length : Int) = n <;> simp [h]

theorem systems_l0 (b : List Int) (hb : b.length ≤ 1048576) (hx : ∀ x ∈ b, 0 ≤ x ∧ x ≤ 255) (n : Int) (rows : List S36) (c : Int) (cs : List Int) (h1 : validSys n rows = true) (h2 : validSys n (rows ++ [⟨c, cs⟩]) = true) (hr : rows.length ≤ 25) (hr9 : ∀ x ∈ rows, x.f1.length ≤ 9) (hc : cs.length ≤ 9) : ∀ (e j k : Nat) (vs : List Int), (j : Int) + e = n → e + b.length + 4300000 < k → vs.length = j →
    laws_FnSystems.l0 k b vs (j : Int) n rows c cs n (rows ++ [⟨c, cs⟩]) = some true := by
  have h8 := ((validSys_iff _ _).1 h1).1
  have hy : ∀ x ∈ rows, x.f1.length ≤ 1048576 := fun x h => by have := hr9 x h; omega
  have hz := more_rows (c := c) (cs := cs) hy (by omega)
  intro e
  induction e with
  | zero =>
    intro j k vs hj hk hvs
    obtain ⟨k, rfl⟩ := succ_of hk
    simp only [laws_FnSystems.l0]
    rw [if_neg (by omega), spec_EvalLin_eq _ _ _ (by omega) k (by omega), impl_Satisfies_eq n _ vs (by simp; omega) (by omega) hz k (by omega), impl_Satisfies_eq n rows vs (by omega) (by omega) hy k (by omega), spec_Satisfies_eq n rows vs (by omega) (by omega) hy k (by omega), sat_more h1 h2]
    simp only [Option.bind_some]
    have e1 : decide ((evalLin c cs vs).1 ≥ 0) = !(decide ((evalLin c cs vs).1 < 0)) := by
      by_cases h : (evalLin c cs vs).1 < 0
      · have h3 : ¬ (evalLin c cs vs).1 ≥ 0 := by omega
        simp [h, h3]
      · have h3 : (evalLin c cs vs).1 ≥ 0 := by omega
        simp [h, h3]
    rw [e1]
    cases sat n rows vs <;> simp
  | succ e ih =>
    intro j k vs hj hk hvs
    obtain ⟨k, rfl⟩ := succ_of hk
    simp only [laws_FnSystems.l0]
    obtain ⟨t, er, r0, r1⟩ := laws_at0_ex b j (by omega) hx (by omega)
    rw [if_pos (by omega), er, Option.bind_some, if_pos (by omega), wrap_succ (n := 9) (by omega) (by omega)]
    exact ih (j + 1) k _ (by omega) (by omega) (by simp; omega)
theorem FnSystems : laws_FnSystems.Pure := by
  intro b hb hb2 hu
  have hx : ∀ x ∈ b, 0 ≤ x ∧ x ≤ 255 := fun x h => lit_u8 (hu x h)
  refine ⟨4999999 + b.length + 1, ?_⟩
  unfold laws_FnSystems.f laws_big.f
  rw [Option.bind_some]
  split
  · rfl
  rename_i hbig
  simp only [decide_eq_true_eq] at hbig
  obtain ⟨n, rows, c, cs, e1, h1, h2, h3, h4⟩ := spec_DrawAddRow_ex b (by omega) (4999999 + b.length + 1) (by omega) (by omega)
  have hy : ∀ x ∈ rows, x.f1.length ≤ 1048576 := fun x h => by have := h2 x h; omega
  have hz := more_rows (c := c) (cs := cs) hy (by omega)
  rw [e1]; simp only [Option.bind_some]
  rw [impl_AddRow_eq n rows c cs (by omega) hy (by omega) _ (by omega), spec_AddRow_eq n rows c cs (by omega) hy (by omega) _ (by omega)]; simp only [Option.bind_some, bne_self_eq_false, Bool.false_eq_true, if_false]
  rw [impl_IsValidSystem_eq n rows (by omega) hy _ (by omega), spec_IsValidSystem_eq n rows (by omega) hy _ (by omega)]
  by_cases hv : validSys n rows = true ∧ validSys n (rows ++ [⟨c, cs⟩]) = true
  · have e : addRow n rows c cs = (n, rows ++ [⟨c, cs⟩], true) := by unfold addRow; rw [if_pos hv]
    rw [e]; simp only
    rw [impl_EqualSystem_eq n _ n _ (by simp; omega) hz _ (by omega)]
    simp only [Option.bind_some, and_self, decide_true, if_true, bne_self_eq_false, laws_FnSystems.j0, Bool.false_eq_true, if_false]
    have h8 := ((validSys_iff _ _).1 hv.1).1
    exact systems_l0 b (by omega) hx n rows c cs hv.1 hv.2 h1 h2 h3 n.toNat 0 (4999999 + b.length) [] (by omega) (by omega) rfl
  · have e : addRow n rows c cs = (n, rows, false) := by unfold addRow; rw [if_neg hv]
    rw [e]; simp only
    rw [impl_EqualSystem_eq n _ n _ (by omega) hy _ (by omega)]
    simp only [Option.bind_some, and_self, decide_true, if_true, bne_self_eq_false, laws_FnSystems.j0, Bool.false_eq_true, if_false]
    rw [spec_EqualSystem_eq n _ n _ (by omega) hy _ (by omega)]; simp

end Go.Proofs.Ytghiljjkaiggfaa.Pure
