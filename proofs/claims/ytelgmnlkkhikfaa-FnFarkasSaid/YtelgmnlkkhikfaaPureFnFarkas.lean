/- What a checked witness shows holds at every point of the system: the law FnFarkas returns true at every draw. -/
import Derived.Test.YtelgmnlkkhikfaaQFnFarkasx19
namespace Go.Proofs.Ytelgmnlkkhikfaa.Pure
open Go.RowKit Go.Proofs.YtelgmnlkkhikfaaV.PrintWords Go.Proofs.YtelgmnlkkhikfaaV.PrintLast Go.Proofs.YtelgmnlkkhikfaaV.PrintMore Go.Proofs.Ytelgmnlkkhikfaa.QFnFarkas
set_option linter.unusedVariables false
set_option linter.unusedSimpArgs false
theorem wrap_id {n : Int} (h0 : -9223372036854775808 ≤ n) (h1 : n ≤ 9223372036854775807) : wrap64 n = n := by
 unfold wrap64; omega
theorem wrap_succ {j n : Nat} (h : j < n) (hn : n ≤ 4611686018427387904) : wrap64 ((j : Int) + 1) = ((j + 1 : Nat) : Int) := by
 unfold wrap64; omega
theorem succ_of {d k : Nat} (h : d < k) : ∃ m, k = m + 1 := ⟨k - 1, by omega⟩
theorem rd_nat (xs : List Int) (j : Nat) (h : j < xs.length) : rd xs (j : Int) = xs[j] := by
 unfold rd; rw [Int.toNat_natCast, List.getD_eq_getElem?_getD, List.getElem?_eq_getElem h]; rfl
def Cur (b : List Int) (i : Int) : Prop := 0 ≤ i ∧ i ≤ (b.length : Int) ∧ b.length ≤ 140737488351232
theorem and255 (x : Int) : 0 ≤ Go.bits .and .i64 x 255 ∧ Go.bits .and .i64 x 255 ≤ 255 := by
 have h : (BitVec.ofInt 64 x &&& BitVec.ofInt 64 255).toNat ≤ 255 := by rw [BitVec.toNat_and]; exact Nat.le_trans Nat.and_le_right (by decide)
 have e : Go.bits .and .i64 x 255 = IntKind.i64.wrap (((BitVec.ofInt 64 x &&& BitVec.ofInt 64 255).toNat : Nat) : Int) := rfl
 rw [e, IntKind.wrap_i64]
 omega
theorem spec_l1New_l0 (b : List Int) (hb : b.length ≤ 140737488351232) : ∀ (d j k : Nat) (h : Int), j + d = b.length → d < k → ∃ h', spec_l1New.l0 k b h (j : Int) = some (b, 0, h') := by
 intro d
 induction d with
 | zero =>
  intro j k h hj hk
  obtain ⟨k, rfl⟩ := succ_of hk
  simp only [spec_l1New.l0]
  rw [if_neg (by omega)]
  exact ⟨_, rfl⟩
 | succ d ih =>
  intro j k h hj hk
  obtain ⟨k, rfl⟩ := succ_of hk
  have hlt : j < b.length := by omega
  simp only [spec_l1New.l0]
  rw [if_pos (by omega)]
  by_cases h4 : (j : Int) < 4000
  ·rw [if_pos h4, if_pos (by omega), wrap_succ hlt (by omega)]
   exact ih (j + 1) k _ (by omega) (by omega)
  ·rw [if_neg h4]; exact ⟨_, rfl⟩
theorem spec_l1New_ex (b : List Int) (hb : b.length ≤ 140737488351232) (k : Nat) (hk : b.length < k) : ∃ h', spec_l1New.f k b = some (b, 0, h') := by
 unfold spec_l1New.f
 exact spec_l1New_l0 b hb b.length 0 k _ (by omega) hk
theorem cur_zero (b : List Int) (hb : b.length ≤ 140737488351232) : Cur b 0 := ⟨Int.le_refl _, by omega, hb⟩
theorem spec_l1Byte_ex (b : List Int) (i h : Int) (hc : Cur b i) : ∃ r i' h', spec_l1Byte.f b i h = some (r, i', h') ∧ 0 ≤ r ∧ r ≤ 255 ∧ Cur b i' := by
 obtain ⟨h0, h1, h2⟩ := hc
 unfold spec_l1Byte.f
 by_cases hlt : i < (b.length : Int)
 ·rw [if_pos hlt, if_pos h0]
  refine ⟨_, _, _, rfl, (and255 _).1, (and255 _).2, ?_⟩
  rw [wrap_id (by omega) (by omega)]
  exact ⟨by omega, by omega, h2⟩
 ·rw [if_neg hlt]
  exact ⟨_, _, _, rfl, (and255 _).1, (and255 _).2, h0, h1, h2⟩
theorem spec_l1Below_ex (b : List Int) (i h n : Int) (hc : Cur b i) : ∃ r i' h', spec_l1Below.f b i h n = some (r, i', h') ∧ 0 ≤ r ∧ (0 < n → r < n) ∧ (n ≤ 0 → r = 0) ∧ Cur b i' := by
 unfold spec_l1Below.f
 by_cases h0 : n ≤ 0
 ·rw [if_pos h0]; exact ⟨0, _, _, rfl, by omega, by omega, fun _ => rfl, hc⟩
 rw [if_neg h0]
 by_cases h1 : n ≤ 256
 ·rw [if_pos h1]
  obtain ⟨r, i', h', e, r0, r1, c1⟩ := spec_l1Byte_ex b i h hc
  rw [e]; simp only [Option.bind_some]
  rw [if_neg (by omega)]
  exact ⟨_, _, _, rfl, Int.tmod_nonneg _ r0, fun _ => Int.tmod_lt_of_pos _ (by omega), by omega, c1⟩
 ·rw [if_neg h1]
  obtain ⟨x, i1, g1, e1, x0, x1, c1⟩ := spec_l1Byte_ex b i h hc
  rw [e1]; simp only [Option.bind_some]
  obtain ⟨y, i2, g2, e2, y0, y1, c2⟩ := spec_l1Byte_ex b i1 g1 c1
  rw [e2]; simp only [Option.bind_some]
  obtain ⟨z, i3, g3, e3, z0, z1, c3⟩ := spec_l1Byte_ex b i2 g2 c2
  rw [e3]; simp only [Option.bind_some]
  obtain ⟨u, i4, g4, e4, u0, u1, c4⟩ := spec_l1Byte_ex b i3 g3 c3
  rw [e4]; simp only [Option.bind_some]
  rw [if_neg (by omega)]
  refine ⟨_, _, _, rfl, Int.tmod_nonneg _ ?_, fun _ => Int.tmod_lt_of_pos _ (by omega), by omega, c4⟩
  unfold wrap64; omega
theorem spec_l1PickInt_ex (b : List Int) (i h : Int) (l : List Int) (hl : 0 < l.length) (hc : Cur b i) : ∃ r i' h', spec_l1PickInt.f b i h l = some (r, i', h') ∧ r ∈ l ∧ Cur b i' := by
 unfold spec_l1PickInt.f
 obtain ⟨r, i', h', e, r0, r1, _, c1⟩ := spec_l1Below_ex b i h (l.length : Int) hc
 have r1 := r1 (by omega)
 rw [e]; simp only [Option.bind_some]
 rw [if_pos r0, if_pos r1]
 refine ⟨_, _, _, rfl, ?_, c1⟩
 have hlt : r.toNat < l.length := by omega
 have := rd_nat l r.toNat hlt
 rw [Int.toNat_of_nonneg r0] at this
 rw [this]; exact List.getElem_mem hlt
theorem spec_l4Small_ex (b : List Int) (i h : Int) (hc : Cur b i) : ∃ r i' h', spec_l4Small.f b i h = some (r, i', h') ∧ (-2 ≤ r ∧ r ≤ 3) ∧ Cur b i' := by
 unfold spec_l4Small.f
 obtain ⟨r, i', h', e, hm, c1⟩ := spec_l1PickInt_ex b i h [0, 0, 1, (-1), 1, 2, (-2), 3] (by simp) hc
 rw [e]; simp only [Option.bind_some]
 refine ⟨_, _, _, rfl, ?_, c1⟩
 simp only [List.mem_cons, List.not_mem_nil, or_false] at hm
 omega
theorem spec_l4Draw_l0 (b : List Int) (n : Nat) (hn : n ≤ 4611686018427387904) (c : Int) : ∀ (d j k : Nat) (i h : Int) (r : List Int), j + d = n → d < k → r.length = n → Cur b i → (∀ x ∈ r, -2 ≤ x ∧ x ≤ 3) →
  ∃ r' i' h', spec_l4Draw.l0 k (n : Int) (j : Int) b i h c r = some (c, r', i', h') ∧ r'.length = n ∧ Cur b i' ∧ (∀ x ∈ r', -2 ≤ x ∧ x ≤ 3) := by
 intro d
 induction d with
 | zero =>
  intro j k i h r hj hk hr hc hx
  obtain ⟨k, rfl⟩ := succ_of hk
  simp only [spec_l4Draw.l0]
  rw [if_neg (by omega)]
  exact ⟨_, _, _, rfl, hr, hc, hx⟩
 | succ d ih =>
  intro j k i h r hj hk hr hc hx
  obtain ⟨k, rfl⟩ := succ_of hk
  simp only [spec_l4Draw.l0]
  obtain ⟨x, i1, h1, e1, hb1, c1⟩ := spec_l4Small_ex b i h hc
  rw [if_pos (by omega), e1]; simp only [Option.bind_some]
  rw [if_pos (by omega), if_pos (by omega), wrap_succ (n := n) (by omega) hn]
  refine ih (j + 1) k _ _ _ (by omega) (by omega) (by simpa using hr) c1 ?_
  intro y hy
  rcases List.mem_or_eq_of_mem_set hy with h | rfl
  ·exact hx y h
  ·exact hb1
theorem spec_l4Draw_ex (b : List Int) (i h n : Int) (hc : Cur b i) (h0 : 0 ≤ n) (h1 : n ≤ 35184372088832) (k : Nat) (hk : n < k) :
  ∃ c r i' h', spec_l4Draw.f k b i h n = some (c, r, i', h') ∧ (r.length : Int) = n ∧ Cur b i' ∧ (∀ x ∈ r, -2 ≤ x ∧ x ≤ 3) ∧ (-4 ≤ c ∧ c ≤ 4) := by
 unfold spec_l4Draw.f
 obtain ⟨x, i1, g1, e1, x0, x1, _, c1⟩ := spec_l1Below_ex b i h 9 hc
 have x1 := x1 (by omega)
 rw [e1]; simp only [Option.bind_some]
 rw [if_pos h0, if_pos (by omega), wrap_id (by omega) (by omega)]
 obtain ⟨r, i2, g2, e2, hl, c2, hx⟩ := spec_l4Draw_l0 b n.toNat (by omega) (x - 4) n.toNat 0 k i1 g1 (List.replicate n.toNat 0) (by omega) (by omega) (by simp) c1 (by intro y hy; rw [(List.mem_replicate.1 hy).2]; omega)
 rw [show ((n.toNat : Nat) : Int) = n by omega, show ((0 : Nat) : Int) = 0 from rfl] at e2
 rw [e2]
 exact ⟨_, _, _, _, rfl, by omega, c2, hx, by omega⟩
instance linDec : DecidableEq S36 := fun a b => decidable_of_iff (a.f0 = b.f0 ∧ a.f1 = b.f1) ⟨fun h => by cases a; cases b; simp only at h; rw [h.1, h.2], fun h => by rw [h]; exact ⟨rfl, rfl⟩⟩
theorem rd_lin (xs : List S36) (j : Nat) (h : j < xs.length) : rd_T36 xs (j : Int) = xs[j] := by
 unfold rd_T36; rw [Int.toNat_natCast, List.getD_eq_getElem?_getD, List.getElem?_eq_getElem h]; rfl
theorem spec_l6Draw_l0 (b : List Int) (n : Int) (h0 : 0 ≤ n) (h3 : n ≤ 9) (m : Int) (hm : 0 ≤ m ∧ m ≤ 5) : ∀ (d : Nat) (j : Int) (k : Nat) (i h : Int) (acc : List S36), j + (d : Int) = m → 0 ≤ j → d + 20 < k → (acc.length : Int) = j → Cur b i → (∀ x ∈ acc, x.f1.length ≤ 9) →
  ∃ acc' i' h', spec_l6Draw.l0 k n m j b i h n acc = some (n, acc', i', h') ∧ (acc'.length : Int) = m ∧ Cur b i' ∧ (∀ x ∈ acc', x.f1.length ≤ 9) := by
 intro d
 induction d with
 | zero =>
  intro j k i h acc hj hj0 hk ha hc hx
  obtain ⟨k, rfl⟩ := succ_of hk
  simp only [spec_l6Draw.l0]
  rw [if_neg (by omega)]
  exact ⟨_, _, _, rfl, by omega, hc, hx⟩
 | succ d ih =>
  intro j k i h acc hj hj0 hk ha hc hx
  obtain ⟨k, rfl⟩ := succ_of hk
  simp only [spec_l6Draw.l0]
  obtain ⟨c, r, i1, h1, e1, hl, c1, _, _⟩ := spec_l4Draw_ex b i h n hc h0 (by omega) k (by omega)
  rw [if_pos (by omega), e1]; simp only [Option.bind_some]
  rw [if_pos (by omega), wrap_id (by omega) (by omega)]
  refine ih (j + 1) k i1 h1 _ (by omega) (by omega) (by omega) (by simp; omega) c1 ?_
  intro x hx2
  rcases List.mem_append.1 hx2 with h2 | h2
  ·exact hx x h2
  ·rw [List.mem_singleton.1 h2]; simp only; omega
theorem spec_l6Draw_ex (b : List Int) (i h n : Int) (hc : Cur b i) (h0 : 0 ≤ n) (h3 : n ≤ 9) (k : Nat) (hk : 40 < k) :
  ∃ rows i' h', spec_l6Draw.f k b i h n = some (n, rows, i', h') ∧ rows.length ≤ 5 ∧ Cur b i' ∧ (∀ x ∈ rows, x.f1.length ≤ 9) := by
 unfold spec_l6Draw.f
 obtain ⟨m, i1, g1, e1, x0, x1, _, c1⟩ := spec_l1Below_ex b i h 5 hc
 have x1 := x1 (by omega)
 rw [e1]; simp only [Option.bind_some]
 obtain ⟨rows, i2, g2, e2, hl, c2, hx⟩ := spec_l6Draw_l0 b n h0 h3 m (by omega) m.toNat 0 k i1 g1 [] (by omega) (by omega) (by omega) rfl c1 (by simp)
 rw [e2]
 exact ⟨_, _, _, rfl, by omega, c2, hx⟩
theorem spec_l3Any_ex (b : List Int) (i h : Int) (hc : Cur b i) : ∃ r i' h', spec_l3Any.f b i h = some (r, i', h') ∧ (-9223372036854775808 ≤ r ∧ r ≤ 9223372036854775807) ∧ Cur b i' := by
 unfold spec_l3Any.f
 obtain ⟨r, i', h', e, hm, c1⟩ := spec_l1PickInt_ex b i h [0, 1, (-1), 2, 5, (-6), 12, 1000000, (-1000001), 1000000000, (-1000000000), 1000000001, 40000, 9223372036854775807, (-9223372036854775808)] (by simp) hc
 rw [e]; simp only [Option.bind_some]
 refine ⟨_, _, _, rfl, ?_, c1⟩
 simp only [List.mem_cons, List.not_mem_nil, or_false] at hm
 omega
theorem spec_l4Bent_ex (b : List Int) (i h : Int) (hc : Cur b i) (k : Nat) (hk : 20 < k) :
  ∃ c r i' h', spec_l4Bent.f k b i h = some (c, r, i', h') ∧ r.length ≤ 9 ∧ Cur b i' := by
 unfold spec_l4Bent.f
 obtain ⟨n, i1, g1, e1, n0, n1, _, c1⟩ := spec_l1Below_ex b i h 4 hc
 have n1 := n1 (by omega)
 rw [e1]; simp only [Option.bind_some]
 obtain ⟨c, r, i2, g2, e2, hl, c2, _, _⟩ := spec_l4Draw_ex b i1 g1 n c1 n0 (by omega) k (by omega)
 rw [e2]; simp only [Option.bind_some]
 obtain ⟨m, i3, g3, e3, _, _, _, c3⟩ := spec_l1Below_ex b i2 g2 10 c2
 rw [e3]; simp only [Option.bind_some]
 obtain ⟨x, i4, g4, e4, _, c4⟩ := spec_l3Any_ex b i3 g3 c3
 split
 ·rw [e4]; simp only [Option.bind_some]
  exact ⟨_, _, _, _, rfl, by omega, c4⟩
 split
 ·rw [e4]; simp only [Option.bind_some]
  rw [if_pos (by omega)]
  exact ⟨_, _, _, _, rfl, by simp; omega, c4⟩
 split
 ·rw [if_pos (by omega)]
  exact ⟨_, _, _, _, rfl, by simp, c3⟩
 ·exact ⟨_, _, _, _, rfl, by omega, c3⟩
def okc (n : Int) : Bool := decide (-1000000000 ≤ n ∧ n ≤ 1000000000)
theorem okc_iff (n : Int) : okc n = true ↔ -1000000000 ≤ n ∧ n ≤ 1000000000 := by unfold okc; exact decide_eq_true_iff
def constLin (k n : Int) : Int × List Int := if (0 ≤ n ∧ n ≤ 8) ∧ okc k = true then (k, List.replicate n.toNat 0) else (0, [])
theorem spec_l1In_eq (a b c : Int) : spec_l1In.f a b c = some (decide (b ≤ a ∧ a ≤ c)) := by
 unfold spec_l1In.f
 by_cases h : a ≥ b
 ·rw [if_pos h]; congr 1; rw [decide_eq_decide]; omega
 ·rw [if_neg h]; congr 1; symm; rw [decide_eq_false_iff_not]; omega
theorem spec_l3In_eq (n : Int) : spec_l3In.f n = some (okc n) := by unfold spec_l3In.f; rw [spec_l1In_eq]; rfl
theorem spec_ConstLin_eq (k n : Int) : spec_ConstLin.f k n = some (constLin k n) := by
 unfold spec_ConstLin.f constLin
 rw [spec_l1In_eq, spec_l3In_eq]; simp only [Option.bind_some, decide_eq_true_eq]
 by_cases h : 0 ≤ n ∧ n ≤ 8
 ·have h3 : n.toNat ≤ 35184372088832 := by omega
  rw [if_pos h, if_pos h.1, if_pos h3]; cases h2 : okc k
  ·rw [if_neg (by simp), if_neg (by simp)]
  ·rw [if_pos rfl, if_pos ⟨h, rfl⟩]
 ·rw [if_neg h, if_neg (fun e => h e.1)]
theorem spec_l6Bent_l0 (b : List Int) (n : Int) : ∀ (d : Nat) (j : Int) (k : Nat) (i h : Int) (acc : List S36), j + (d : Int) = 20 → 0 ≤ j → d < k → acc.length ≤ 5 + j.toNat → (∀ x ∈ acc, x.f1.length ≤ 9) →
  ∃ acc', spec_l6Bent.l0 k j b i h n acc = some (n, acc', i, h) ∧ acc'.length ≤ 25 ∧ (∀ x ∈ acc', x.f1.length ≤ 9) := by
 intro d
 induction d with
 | zero =>
  intro j k i h acc hj hj0 hk ha hx
  obtain ⟨k, rfl⟩ := succ_of hk
  simp only [spec_l6Bent.l0]
  rw [if_neg (by omega)]
  exact ⟨_, rfl, by omega, hx⟩
 | succ d ih =>
  intro j k i h acc hj hj0 hk ha hx
  obtain ⟨k, rfl⟩ := succ_of hk
  simp only [spec_l6Bent.l0]
  rw [if_pos (by omega), spec_ConstLin_eq, Option.bind_some, if_pos (by omega), wrap_id (by omega) (by omega)]
  refine ih (j + 1) k i h _ (by omega) (by omega) (by omega) (by simp; omega) ?_
  intro x hx2
  rcases List.mem_append.1 hx2 with h2 | h2
  ·exact hx x h2
  ·rw [List.mem_singleton.1 h2]; simp only
   unfold constLin; split
   ·simp; omega
   ·simp
theorem spec_l6Bent_ex (b : List Int) (i h : Int) (hc : Cur b i) (k : Nat) (hk : 60 < k) :
  ∃ n rows i' h', spec_l6Bent.f k b i h = some (n, rows, i', h') ∧ rows.length ≤ 25 ∧ Cur b i' ∧ (∀ x ∈ rows, x.f1.length ≤ 9) ∧ (-1 ≤ n ∧ n ≤ 9) := by
 unfold spec_l6Bent.f
 obtain ⟨n, i1, g1, e1, n0, n1, _, c1⟩ := spec_l1Below_ex b i h 4 hc
 have n1 := n1 (by omega)
 rw [e1]; simp only [Option.bind_some]
 obtain ⟨rows, i2, g2, e2, hl, c2, hx⟩ := spec_l6Draw_ex b i1 g1 n c1 n0 (by omega) k (by omega)
 rw [e2]; simp only [Option.bind_some]
 obtain ⟨m, i3, g3, e3, _, _, _, c3⟩ := spec_l1Below_ex b i2 g2 16 c2
 rw [e3]; simp only [Option.bind_some]
 split
 ·obtain ⟨r, i4, g4, e4, hm, c4⟩ := spec_l1PickInt_ex b i3 g3 [(-1), 9, wrap64 (n + 1)] (by simp) c3
  rw [e4]; simp only [Option.bind_some]
  refine ⟨_, _, _, _, rfl, by omega, c4, hx, ?_⟩
  rw [wrap_id (by omega) (by omega)] at hm
  simp only [List.mem_cons, List.not_mem_nil, or_false] at hm
  omega
 split
 ·obtain ⟨c, cs, i4, g4, e4, hl4, c4⟩ := spec_l4Bent_ex b i3 g3 c3 k (by omega)
  rw [e4]; simp only [Option.bind_some]
  rw [if_pos (by omega)]
  refine ⟨_, _, _, _, rfl, by simp; omega, c4, ?_, by omega⟩
  intro x hx2
  rcases List.mem_append.1 hx2 with h2 | h2
  ·exact hx x h2
  ·rw [List.mem_singleton.1 h2]; exact hl4
 split
 ·obtain ⟨acc, e4, hl4, hx4⟩ := spec_l6Bent_l0 b n 20 0 k i3 g3 rows (by omega) (by omega) (by omega) (by simpa using hl) hx
  rw [e4]
  exact ⟨_, _, _, _, rfl, hl4, c3, hx4, by omega⟩
 ·exact ⟨_, _, _, _, rfl, by omega, c3, hx, by omega⟩
theorem minMax_ex (n : Int) : ∃ t q, spec_l1Max.f n 0 = some t ∧ spec_l1Min.f t 9 = some q ∧ 0 ≤ q ∧ q ≤ 9 := by
 unfold spec_l1Max.f spec_l1Min.f
 by_cases h : n > 0
 ·rw [if_pos h]
  by_cases h9 : n < 9
  ·exact ⟨_, _, rfl, by rw [if_pos h9], by omega, by omega⟩
  ·exact ⟨_, _, rfl, by rw [if_neg h9], by omega, by omega⟩
 ·rw [if_neg h]; exact ⟨_, _, rfl, by rw [if_pos (by omega)], by omega, by omega⟩
theorem spec_l1Once_ex (b : List Int) (i h n : Int) (hc : Cur b i) : ∃ r i' h', spec_l1Once.f b i h n = some (r, i', h') ∧ Cur b i' := by
 unfold spec_l1Once.f
 obtain ⟨r, i', h', e, _, _, _, c1⟩ := spec_l1Below_ex b i h n hc
 rw [e]; simp only [Option.bind_some]
 exact ⟨_, _, _, rfl, c1⟩
theorem spec_l7Mult_l0 (b : List Int) (n : Int) (hn : n ≤ 1000) : ∀ (d : Nat) (j : Int) (k : Nat) (i h : Int) (acc : List Int), j + (d : Int) = n → 0 ≤ j → d < k → (acc.length : Int) = j → Cur b i →
  ∃ acc' i' h', spec_l7Mult.l0 k n acc j b i h = some (acc', i', h') ∧ (acc'.length : Int) = n ∧ Cur b i' := by
 intro d
 induction d with
 | zero =>
  intro j k i h acc hj hj0 hk ha hc
  obtain ⟨k, rfl⟩ := succ_of hk
  simp only [spec_l7Mult.l0]
  rw [if_neg (by omega)]
  obtain ⟨r, i1, h1, e1, c1⟩ := spec_l1Once_ex b i h 12 hc
  obtain ⟨x, i2, h2, e2, _, c2⟩ := spec_l1PickInt_ex b i1 h1 [(-1), 1000000000, 1000000001] (by simp) c1
  by_cases h0 : n > 0
  ·rw [if_pos h0, e1]; simp only [Option.bind_some]
   cases r
   ·exact ⟨_, _, _, rfl, by omega, c1⟩
   ·rw [if_pos rfl, e2]; simp only [Option.bind_some]
    rw [if_pos (by omega)]
    exact ⟨_, _, _, rfl, by simp; omega, c2⟩
  ·rw [if_neg h0]
   exact ⟨_, _, _, rfl, by omega, hc⟩
 | succ d ih =>
  intro j k i h acc hj hj0 hk ha hc
  obtain ⟨k, rfl⟩ := succ_of hk
  simp only [spec_l7Mult.l0]
  obtain ⟨r, i1, h1, e1, _, c1⟩ := spec_l1PickInt_ex b i h [0, 0, 1, 1, 2] (by simp) hc
  rw [if_pos (by omega), e1]; simp only [Option.bind_some]
  rw [if_pos (by omega), wrap_id (by omega) (by omega)]
  exact ih (j + 1) k _ _ _ (by omega) (by omega) (by omega) (by simp; omega) c1
theorem spec_l7Mult_ex (b : List Int) (i h n : Int) (hc : Cur b i) (h0 : 0 ≤ n) (hn : n ≤ 1000) (k : Nat) (hk : 1001 < k) :
  ∃ ms i' h', spec_l7Mult.f k b i h n = some (ms, i', h') ∧ (ms.length : Int) = n ∧ Cur b i' := by
 unfold spec_l7Mult.f
 exact spec_l7Mult_l0 b n hn n.toNat 0 k i h [] (by omega) (by omega) (by omega) rfl hc
def validLin (c : Int) (cs : List Int) (n : Int) : Bool := decide (0 ≤ n ∧ n ≤ 8) && (decide ((cs.length : Int) = n) && (okc c && cs.all okc))
theorem validLin_iff (c : Int) (cs : List Int) (n : Int) : validLin c cs n = true ↔ (0 ≤ n ∧ n ≤ 8) ∧ (cs.length : Int) = n ∧ okc c = true ∧ ∀ x ∈ cs, okc x = true := by
 unfold validLin; simp only [Bool.and_eq_true, decide_eq_true_eq, List.all_eq_true]
theorem any_not_all {α : Type} (p : α → Bool) (xs : List α) : (!(xs.any fun c => !(p c))) = xs.all p := by
 induction xs with
 | nil => rfl
 | cons x xs ih => simp only [List.any_cons, List.all_cons, Bool.not_or, Bool.not_not, ih]
def validSys (n : Int) (rows : List S36) : Bool := decide (0 ≤ n ∧ n ≤ 8) && (decide (rows.length ≤ 20) && rows.all fun r => validLin r.f0 r.f1 n)
theorem validSys_iff (n : Int) (rows : List S36) : validSys n rows = true ↔ (0 ≤ n ∧ n ≤ 8) ∧ rows.length ≤ 20 ∧ ∀ r ∈ rows, validLin r.f0 r.f1 n = true := by
 unfold validSys; simp only [Bool.and_eq_true, decide_eq_true_eq, List.all_eq_true]
def addLim (x y : Int) : Int × Bool := if okc x = true then (if okc y = true then (if okc (wrap64 (x + y)) = true then (wrap64 (x + y), true) else (0, false)) else (0, false)) else (0, false)
def mulLim (x y : Int) : Int × Bool := if okc x = true then (if okc y = true then (if okc (wrap64 (x * y)) = true then (wrap64 (x * y), true) else (0, false)) else (0, false)) else (0, false)
def fitsB (n : Int) : Bool := decide (-1000000 ≤ n ∧ n ≤ 1000000)
theorem fitsB_iff (n : Int) : fitsB n = true ↔ -1000000 ≤ n ∧ n ≤ 1000000 := by unfold fitsB; exact decide_eq_true_iff
theorem mul_bound {a b A B : Int} (ha : -A ≤ a ∧ a ≤ A) (hb : -B ≤ b ∧ b ≤ B) : -(A * B) ≤ a * b ∧ a * b ≤ A * B := by
 have h : (a * b).natAbs ≤ A.natAbs * B.natAbs := by rw [Int.natAbs_mul]; exact Nat.mul_le_mul (by omega) (by omega)
 have e : (A.natAbs * B.natAbs : Nat) = (A * B).natAbs := by rw [Int.natAbs_mul]
 have hA : 0 ≤ A := by omega
 have hB : 0 ≤ B := by omega
 have : 0 ≤ A * B := Int.mul_nonneg hA hB
 omega
theorem mul_okc_fits {a b : Int} (ha : -1000000000 ≤ a ∧ a ≤ 1000000000) (hb : -1000000 ≤ b ∧ b ≤ 1000000) : -1000000000000000 ≤ a * b ∧ a * b ≤ 1000000000000000 := by
 have := mul_bound (A := 1000000000) (B := 1000000) ha hb; omega
theorem mul_okc {a b : Int} (ha : -1000000000 ≤ a ∧ a ≤ 1000000000) (hb : -1000000000 ≤ b ∧ b ≤ 1000000000) : -1000000000000000000 ≤ a * b ∧ a * b ≤ 1000000000000000000 := by
 have := mul_bound (A := 1000000000) (B := 1000000000) ha hb; omega
def scOk (x k y : Int) : Bool := (mulLim k y).2 && (addLim x (mulLim k y).1).2
def scVal (x k y : Int) : Int := (addLim x (mulLim k y).1).1
def scVal' (x k y : Int) : Int := if (mulLim k y).2 = true then scVal x k y else 0
theorem mulLim_iff (x y : Int) : (mulLim x y).2 = true ↔ okc x = true ∧ okc y = true ∧ okc (x * y) = true := by
 unfold mulLim
 by_cases h1 : okc x = true
 ·by_cases h2 : okc y = true
  ·have b := mul_okc ((okc_iff _).1 h1) ((okc_iff _).1 h2)
   rw [wrap_id (by omega) (by omega)]
   by_cases h3 : okc (x * y) = true <;> simp [h1, h2, h3]
  ·simp [h1, h2]
 ·simp [h1]
theorem mulLim_val {x y : Int} (h : (mulLim x y).2 = true) : (mulLim x y).1 = x * y := by
 obtain ⟨h1, h2, h3⟩ := (mulLim_iff x y).1 h
 have b := mul_okc ((okc_iff _).1 h1) ((okc_iff _).1 h2)
 unfold mulLim
 rw [wrap_id (by omega) (by omega), if_pos h1, if_pos h2, if_pos h3]
theorem addLim_iff (x y : Int) : (addLim x y).2 = true ↔ okc x = true ∧ okc y = true ∧ okc (x + y) = true := by
 unfold addLim
 by_cases h1 : okc x = true
 ·by_cases h2 : okc y = true
  ·have b1 := (okc_iff _).1 h1
   have b2 := (okc_iff _).1 h2
   rw [wrap_id (by omega) (by omega)]
   by_cases h3 : okc (x + y) = true <;> simp [h1, h2, h3]
  ·simp [h1, h2]
 ·simp [h1]
theorem addLim_val {x y : Int} (h : (addLim x y).2 = true) : (addLim x y).1 = x + y := by
 obtain ⟨h1, h2, h3⟩ := (addLim_iff x y).1 h
 have b1 := (okc_iff _).1 h1
 have b2 := (okc_iff _).1 h2
 unfold addLim
 rw [wrap_id (by omega) (by omega), if_pos h1, if_pos h2, if_pos h3]
theorem scOk_iff (x k y : Int) : scOk x k y = true ↔ (okc k = true ∧ okc y = true ∧ okc (k * y) = true) ∧ (okc x = true ∧ okc (x + k * y) = true) := by
 unfold scOk
 rw [Bool.and_eq_true, mulLim_iff]
 constructor
 ·rintro ⟨h1, h2⟩
  rw [mulLim_val ((mulLim_iff _ _).2 h1), addLim_iff] at h2
  exact ⟨h1, h2.1, h2.2.2⟩
 ·rintro ⟨h1, h2, h3⟩
  refine ⟨h1, ?_⟩
  rw [mulLim_val ((mulLim_iff _ _).2 h1), addLim_iff]
  exact ⟨h2, h1.2.2, h3⟩
theorem scVal_val {x k y : Int} (h : scOk x k y = true) : scVal x k y = x + k * y := by
 unfold scOk at h
 rw [Bool.and_eq_true] at h
 unfold scVal
 rw [addLim_val h.2, mulLim_val h.1]
theorem scVal'_val {x k y : Int} (h : scOk x k y = true) : scVal' x k y = scVal x k y := by
 unfold scOk at h
 rw [Bool.and_eq_true] at h
 unfold scVal'; rw [if_pos h.1]
def okAll (k : Int) : List Int → List Int → Bool
 | x :: xs, y :: ys => scOk x k y && okAll k xs ys
 | _, _ => true
def vals (k : Int) : List Int → List Int → List Int := List.zipWith fun x y => scVal x k y
def vals' (k : Int) : List Int → List Int → List Int := List.zipWith fun x y => scVal' x k y
theorem vals'_vals (k : Int) : ∀ xs ys : List Int, okAll k xs ys = true → vals' k xs ys = vals k xs ys := by
 intro xs
 induction xs with
 | nil => intro ys _; simp [vals, vals']
 | cons x xs ih =>
  intro ys h
  cases ys with
  | nil => simp [vals, vals']
  | cons y ys =>
   simp only [okAll, Bool.and_eq_true] at h
   have := ih ys h.2
   unfold vals vals' at this ⊢
   rw [List.zipWith_cons_cons, List.zipWith_cons_cons, scVal'_val h.1, this]
def addSc (c : Int) (cs : List Int) (k : Int) (d : Int) (ds : List Int) : Int × List Int × Bool :=
 if validLin c cs (cs.length : Int) = true ∧ validLin d ds (cs.length : Int) = true ∧ okc k = true ∧ okAll k cs ds = true ∧ scOk c k d = true then (scVal c k d, vals k cs ds, true) else (0, [], false)
theorem addSc_length (c : Int) (cs : List Int) (k : Int) (d : Int) (ds : List Int) : (addSc c cs k d ds).2.1.length ≤ 8 := by
 unfold addSc
 split
 ·rename_i h
  have h1 := (validLin_iff _ _ _).1 h.1
  simp only [vals, List.length_zipWith]; omega
 ·simp
theorem drop_zip (f : Int → Int → Int) (xs ys : List Int) (j : Nat) (h1 : j < xs.length) (h2 : j < ys.length) : List.zipWith f (xs.drop j) (ys.drop j) = f xs[j] ys[j] :: List.zipWith f (xs.drop (j + 1)) (ys.drop (j + 1)) := by
 rw [List.drop_eq_getElem_cons h1, List.drop_eq_getElem_cons h2, List.zipWith_cons_cons]
theorem drop_okAll (k : Int) (xs ys : List Int) (j : Nat) (h1 : j < xs.length) (h2 : j < ys.length) : okAll k (xs.drop j) (ys.drop j) = (scOk xs[j] k ys[j] && okAll k (xs.drop (j + 1)) (ys.drop (j + 1))) := by
 rw [List.drop_eq_getElem_cons h1, List.drop_eq_getElem_cons h2]; rfl
def combF : Int × List Int → List S36 → List Int → Int × List Int × Bool
 | a, r :: rs, m :: ms => if m < 0 then (0, [], false) else (if (addSc a.1 a.2 m r.f0 r.f1).2.2 = true then combF ((addSc a.1 a.2 m r.f0 r.f1).1, (addSc a.1 a.2 m r.f0 r.f1).2.1) rs ms else (0, [], false))
 | a, _, _ => (a.1, a.2, true)
def combine (n : Int) (rows : List S36) (ms : List Int) : Int × List Int × Bool := if validSys n rows = true ∧ ms.length = rows.length then combF (constLin 0 n) rows ms else (0, [], false)
theorem combF_length : ∀ (rows : List S36) (ms : List Int) (a : Int × List Int), a.2.length ≤ 8 → (combF a rows ms).2.1.length ≤ 8 := by
 intro rows
 induction rows with
 | nil => intro ms a h; simpa [combF] using h
 | cons r rs ih =>
  intro ms a h
  cases ms with
  | nil => simpa [combF] using h
  | cons m ms =>
   simp only [combF]
   split
   ·simp
   ·split
    ·exact ih ms _ (addSc_length _ _ _ _ _)
    ·simp
theorem constLin_length (k n : Int) : (constLin k n).2.length ≤ 8 := by
 unfold constLin; split
 ·simp; omega
 ·simp
theorem combine_length (n : Int) (rows : List S36) (ms : List Int) : (combine n rows ms).2.1.length ≤ 8 := by
 unfold combine; split
 ·exact combF_length rows ms _ (constLin_length 0 n)
 ·simp
def multOk (c : Int) : Bool := decide (0 ≤ c ∧ c ≤ 1000000000)
theorem addSc_okc {c : Int} {cs : List Int} {k d : Int} {ds : List Int} (h : (addSc c cs k d ds).2.2 = true) : okc k = true := by
 unfold addSc at h
 split at h
 ·rename_i h2; exact h2.2.2.1
 ·simp at h
theorem combF_bad : ∀ (rows : List S36) (ms : List Int) (a : Int × List Int), ms.length = rows.length → ms.all multOk = false → combF a rows ms = (0, [], false) := by
 intro rows
 induction rows with
 | nil => intro ms a h hb; have : ms = [] := List.length_eq_zero_iff.1 (by simpa using h); subst this; simp at hb
 | cons r rs ih =>
  intro ms a h hb
  cases ms with
  | nil => simp at h
  | cons m ms =>
   simp only [combF]
   split
   ·rfl
   ·split
    ·rename_i h1 h2
     have h3 := (okc_iff _).1 (addSc_okc h2)
     have h4 : multOk m = true := by unfold multOk; rw [decide_eq_true_eq]; omega
     rw [List.all_cons, h4, Bool.true_and] at hb
     exact ih ms _ (by simpa using h) hb
    ·rfl
theorem spec_IsValidLin_l0 (c : Int) (cs : List Int) (n : Int) (hn : cs.length ≤ 4611686018427387904) : ∀ (d j k : Nat), j + d = cs.length → d < k →
  spec_IsValidLin.l0 k n (j : Int) c cs = some ((cs.drop j).all okc && (decide (0 ≤ n ∧ n ≤ 8) && (decide ((cs.length : Int) = n) && okc c))) := by
 intro d
 induction d with
 | zero =>
  intro j k hj hk
  obtain ⟨k, rfl⟩ := succ_of hk
  simp only [spec_IsValidLin.l0]
  rw [if_neg (by omega), List.drop_eq_nil_of_le (by omega), spec_l1In_eq, spec_l3In_eq]
  simp only [Option.bind_some, List.all_nil, Bool.true_and]
  by_cases h1 : 0 ≤ n ∧ n ≤ 8 <;> by_cases h2 : (cs.length : Int) = n <;> simp [h1, h2]
 | succ d ih =>
  intro j k hj hk
  obtain ⟨k, rfl⟩ := succ_of hk
  have hlt : j < cs.length := by omega
  simp only [spec_IsValidLin.l0]
  rw [if_pos (by omega), if_pos (by omega), rd_nat _ _ hlt, spec_l3In_eq, Option.bind_some, wrap_succ hlt hn, ih (j + 1) k (by omega) (by omega), List.drop_eq_getElem_cons hlt, List.all_cons]
  cases okc cs[j] <;> simp
theorem spec_IsValidLin_eq (c : Int) (cs : List Int) (n : Int) (hn : cs.length ≤ 4611686018427387904) (k : Nat) (hk : cs.length < k) : spec_IsValidLin.f k c cs n = some (validLin c cs n) := by
 unfold spec_IsValidLin.f validLin
 have := spec_IsValidLin_l0 c cs n hn cs.length 0 k (by omega) hk
 rw [show ((0 : Nat) : Int) = 0 from rfl, List.drop_zero] at this
 rw [this]
 cases cs.all okc <;> simp
theorem spec_IsValidSystem_l0 (n : Int) (rows : List S36) (hn : rows.length ≤ 4611686018427387904) (hx : ∀ x ∈ rows, x.f1.length ≤ 1048576) : ∀ (d j k : Nat), j + d = rows.length → d + 1048577 < k →
  spec_IsValidSystem.l0 k (j : Int) n rows = some ((rows.drop j).all (fun r => validLin r.f0 r.f1 n) && (decide (0 ≤ n ∧ n ≤ 8) && decide (rows.length ≤ 20))) := by
 intro d
 induction d with
 | zero =>
  intro j k hj hk
  obtain ⟨k, rfl⟩ := succ_of hk
  simp only [spec_IsValidSystem.l0]
  rw [if_neg (by omega), List.drop_eq_nil_of_le (by omega), spec_l1In_eq]
  simp only [Option.bind_some, List.all_nil, Bool.true_and]
  have e : decide ((rows.length : Int) ≤ 20) = decide (rows.length ≤ 20) := by rw [decide_eq_decide]; omega
  rw [e]
  by_cases h1 : 0 ≤ n ∧ n ≤ 8 <;> simp [h1]
 | succ d ih =>
  intro j k hj hk
  obtain ⟨k, rfl⟩ := succ_of hk
  have hlt : j < rows.length := by omega
  have hxj := hx _ (List.getElem_mem hlt)
  simp only [spec_IsValidSystem.l0]
  rw [if_pos (by omega), if_pos (by omega), rd_lin _ _ hlt, spec_IsValidLin_eq _ _ _ (by omega) k (by omega), Option.bind_some, wrap_succ hlt hn, ih (j + 1) k (by omega) (by omega), List.drop_eq_getElem_cons hlt, List.all_cons]
  cases validLin rows[j].f0 rows[j].f1 n <;> simp
theorem spec_IsValidSystem_eq (n : Int) (rows : List S36) (hn : rows.length ≤ 1048577) (hx : ∀ x ∈ rows, x.f1.length ≤ 1048576) (k : Nat) (hk : 2097155 < k) : spec_IsValidSystem.f k n rows = some (validSys n rows) := by
 unfold spec_IsValidSystem.f validSys
 have := spec_IsValidSystem_l0 n rows (by omega) hx rows.length 0 k (by omega) (by omega)
 rw [show ((0 : Nat) : Int) = 0 from rfl, List.drop_zero] at this
 rw [this]
 cases rows.all fun r => validLin r.f0 r.f1 n <;> simp
theorem spec_AddLimited_eq (x y : Int) : spec_AddLimited.f x y = some (addLim x y) := by
 unfold spec_AddLimited.f addLim; simp only [spec_l3In_eq, Option.bind_some]; repeat (split <;> try rfl)
theorem spec_MulLimited_eq (x y : Int) : spec_MulLimited.f x y = some (mulLim x y) := by
 unfold spec_MulLimited.f mulLim; simp only [spec_l3In_eq, Option.bind_some]; repeat (split <;> try rfl)
theorem spec_l4Sum_eq (x k y : Int) : spec_l4Sum.f x k y = some (scVal' x k y, scOk x k y) := by
 unfold spec_l4Sum.f scVal' scOk scVal
 rw [spec_MulLimited_eq, Option.bind_some]
 cases h : (mulLim k y).2 with
 | false => simp
 | true => rw [if_pos rfl, if_pos rfl, spec_AddLimited_eq]; simp
theorem spec_AddScaled_l0 (kk : Int) (n : Nat) (c : Int) (cs : List Int) (d : Int) (ds : List Int) (oc : Int) (h1 : cs.length = n) (h2 : ds.length = n) (hn : n ≤ 4611686018427387904) : ∀ (e j k : Nat) (p r : List Int) (all : Bool), j + e = n → e < k → p.length = j → r.length = e →
  spec_AddScaled.l0 k kk (n : Int) all (j : Int) c cs d ds oc (p ++ r) = some (if (all && okAll kk (cs.drop j) (ds.drop j)) = true ∧ scOk c kk d = true then (scVal' c kk d, p ++ vals' kk (cs.drop j) (ds.drop j), true) else (0, [], false)) := by
 intro e
 induction e with
 | zero =>
  intro j k p r all hj hk hp hr
  obtain ⟨k, rfl⟩ := succ_of hk
  have : r = [] := List.length_eq_zero_iff.1 hr
  subst this
  simp only [spec_AddScaled.l0]
  rw [if_neg (by omega), spec_l4Sum_eq, Option.bind_some, List.drop_eq_nil_of_le (by omega), List.drop_eq_nil_of_le (by omega)]
  cases all <;> cases scOk c kk d <;> simp [okAll, vals']
 | succ e ih =>
  intro j k p r all hj hk hp hr
  obtain ⟨k, rfl⟩ := succ_of hk
  cases r with
  | nil => simp at hr
  | cons y r =>
   have hj1 : j < cs.length := by omega
   have hj2 : j < ds.length := by omega
   simp only [spec_AddScaled.l0]
   rw [if_pos (by omega), if_pos (by omega), if_pos (by omega), if_pos (by omega), rd_nat _ _ hj1, rd_nat _ _ hj2, spec_l4Sum_eq, Option.bind_some, if_pos (by simp only [List.length_append, List.length_cons]; omega), Option.bind_some, wrap_succ (n := n) (by omega) hn, Int.toNat_natCast]
   have es : (p ++ y :: r).set j (scVal' cs[j] kk ds[j]) = (p ++ [scVal' cs[j] kk ds[j]]) ++ r := by generalize scVal' cs[j] kk ds[j] = z; rw [← hp]; simp
   have hi := ih (j + 1) k (p ++ [scVal' cs[j] kk ds[j]]) r
   have hz : vals' kk (cs.drop j) (ds.drop j) = scVal' cs[j] kk ds[j] :: vals' kk (cs.drop (j + 1)) (ds.drop (j + 1)) := by unfold vals'; exact drop_zip _ _ _ _ hj1 hj2
   rw [es, hi (scOk cs[j] kk ds[j]) (by omega) (by omega) (by simp; omega) (by simpa using hr), hi false (by omega) (by omega) (by simp; omega) (by simpa using hr), drop_okAll _ _ _ _ hj1 hj2, hz]
   cases all <;> simp
theorem spec_AddScaled_eq (c : Int) (cs : List Int) (kk : Int) (d : Int) (ds : List Int) (hn : cs.length ≤ 1048577) (hm : ds.length ≤ 1048577) (k : Nat) (hk : 1048600 < k) : spec_AddScaled.f k c cs kk d ds = some (addSc c cs kk d ds) := by
 unfold spec_AddScaled.f addSc
 rw [spec_IsValidLin_eq c cs _ (by omega) k (by omega), spec_IsValidLin_eq d ds _ (by omega) k (by omega), spec_l3In_eq]
 simp only [Option.bind_some]
 obtain ⟨k, rfl⟩ := succ_of hk
 simp only [spec_AddScaled.j0]
 cases hv : validLin c cs (cs.length : Int) with
 | false => simp
 | true =>
  cases hw : validLin d ds (cs.length : Int) with
  | false => simp
  | true =>
   cases ho : okc kk with
   | false => simp
   | true =>
    have h1 := (validLin_iff _ _ _).1 hv
    have h2 := (validLin_iff _ _ _).1 hw
    have h3 : ((cs.length : Int)).toNat ≤ 35184372088832 := by omega
    have hl := spec_AddScaled_l0 kk cs.length c cs d ds 0 rfl (by omega) (by omega) cs.length 0 k [] (List.replicate cs.length 0) true (by omega) (by omega) rfl (by simp)
    rw [if_pos rfl, if_pos rfl, if_neg (by simp), if_pos (by omega), if_pos h3, Int.toNat_natCast]
    rw [show ((0 : Nat) : Int) = 0 from rfl, List.nil_append, List.drop_zero, List.drop_zero, List.nil_append] at hl
    rw [hl]
    simp only [Bool.true_and, true_and]
    by_cases ha : okAll kk cs ds = true ∧ scOk c kk d = true
    ·rw [if_pos ha, if_pos ha, vals'_vals _ _ _ ha.1, scVal'_val ha.2]
    ·rw [if_neg ha, if_neg ha]
theorem spec_CombineRows_l0 (n : Int) (rows : List S36) (ms : List Int) (hl : ms.length = rows.length) (hn : rows.length ≤ 4611686018427387904) (hx : ∀ x ∈ rows, x.f1.length ≤ 1048576) : ∀ (d j k : Nat) (a : Int × List Int), j + d = rows.length → d + 1048600 < k → a.2.length ≤ 8 →
  spec_CombineRows.l0 k ms (j : Int) n rows a.1 a.2 = some (combF a (rows.drop j) (ms.drop j)) := by
 intro d
 induction d with
 | zero =>
  intro j k a hj hk ha
  obtain ⟨k, rfl⟩ := succ_of hk
  simp only [spec_CombineRows.l0]
  rw [if_neg (by omega), List.drop_eq_nil_of_le (by omega)]
  simp [combF]
 | succ d ih =>
  intro j k a hj hk ha
  obtain ⟨k, rfl⟩ := succ_of hk
  have hlt : j < rows.length := by omega
  have hlm : j < ms.length := by omega
  have hxj := hx _ (List.getElem_mem hlt)
  simp only [spec_CombineRows.l0]
  rw [if_pos (by omega), if_pos (by omega), if_pos (by omega), rd_lin _ _ hlt, rd_nat _ _ hlm, spec_AddScaled_eq _ _ _ _ _ (by omega) (by omega) k (by omega), Option.bind_some, wrap_succ hlt hn, List.drop_eq_getElem_cons hlt, List.drop_eq_getElem_cons hlm]
  simp only [combF]
  have hi := ih (j + 1) k ((addSc a.1 a.2 ms[j] rows[j].f0 rows[j].f1).1, (addSc a.1 a.2 ms[j] rows[j].f0 rows[j].f1).2.1) (by omega) (by omega) (addSc_length _ _ _ _ _)
  simp only at hi
  rw [hi]
  by_cases h1 : ms[j] < 0 <;> by_cases h2 : (addSc a.1 a.2 ms[j] rows[j].f0 rows[j].f1).2.2 = true <;> simp [h1, h2]
theorem spec_CombineRows_eq (n : Int) (rows : List S36) (ms : List Int) (hn : rows.length ≤ 1048576) (hx : ∀ x ∈ rows, x.f1.length ≤ 1048576) (k : Nat) (hk : 2097200 < k) : spec_CombineRows.f k n rows ms = some (combine n rows ms) := by
 unfold spec_CombineRows.f combine
 rw [spec_IsValidSystem_eq n rows (by omega) hx k (by omega), Option.bind_some]
 obtain ⟨k, rfl⟩ := succ_of hk
 simp only [spec_CombineRows.j0]
 by_cases hl : ms.length = rows.length
 ·have h0 := spec_CombineRows_l0 n rows ms hl (by omega) hx rows.length 0 k (constLin 0 n) (by omega) (by omega) (constLin_length 0 n)
  rw [show ((0 : Nat) : Int) = 0 from rfl, List.drop_zero, List.drop_zero] at h0
  rw [spec_ConstLin_eq]; simp only [Option.bind_some]
  rw [h0]
  cases hv : validSys n rows <;> simp [hl]
 ·have h2 : ¬ ((ms.length : Int) = (rows.length : Int)) := by omega
  cases hv : validSys n rows <;> simp [hl, h2]
theorem spec_l7Target_ex (b : List Int) (i h n : Int) (rows : List S36) (hc : Cur b i) (hr : rows.length ≤ 25) (hx : ∀ x ∈ rows, x.f1.length ≤ 9) (k : Nat) (hk : 2097300 < k) :
  ∃ c cs i' h', spec_l7Target.f k b i h n rows = some (c, cs, i', h') ∧ cs.length ≤ 9 ∧ Cur b i' := by
 have hy : ∀ x ∈ rows, x.f1.length ≤ 1048576 := fun x h => by have := hx x h; omega
 have target : ∀ (fl : Bool) (i h : Int) (c : Int) (cs : List Int) (k : Nat), Cur b i → cs.length ≤ 9 → 100 < k → ∃ c' cs' i' h', spec_l7Target.j0 k fl b i h n rows c cs = some (c', cs', i', h') ∧ cs'.length ≤ 9 ∧ Cur b i' := by
  intro fl i h c cs k hc hl hk
  obtain ⟨k, rfl⟩ := succ_of hk
  simp only [spec_l7Target.j0]
  cases fl
  ·rw [if_neg (by simp)]
   obtain ⟨x, i1, h1, e1, _, _, _, c1⟩ := spec_l1Below_ex b i h 4 hc
   rw [e1]; simp only [Option.bind_some]
   exact ⟨_, _, _, _, rfl, hl, c1⟩
  ·rw [if_pos rfl]
   obtain ⟨t, q, et, eq, q0, q9⟩ := minMax_ex n
   obtain ⟨d, ds, i4, g4, e4, hl2, c4, _, _⟩ := spec_l4Draw_ex b i h q hc q0 (by omega) k (by omega)
   rw [et]; simp only [Option.bind_some]
   rw [eq]; simp only [Option.bind_some]
   rw [e4]; simp only [Option.bind_some]
   exact ⟨_, _, _, _, rfl, by omega, c4⟩
 unfold spec_l7Target.f
 obtain ⟨ms, i1, g1, e1, hm, c1⟩ := spec_l7Mult_ex b i h (rows.length : Int) hc (by omega) (by omega) k (by omega)
 rw [e1]; simp only [Option.bind_some]
 have hl := combine_length n rows ms
 rw [spec_CombineRows_eq n rows ms (by omega) hy k (by omega)]; simp only [Option.bind_some]
 split
 ·obtain ⟨r, i2, g2, e2, c2⟩ := spec_l1Once_ex b i1 g1 4 c1
  rw [e2]; simp only [Option.bind_some]
  exact target r i2 g2 _ _ k c2 (by omega) (by omega)
 ·exact target true i1 g1 _ _ k c1 (by omega) (by omega)
theorem spec_DrawCheckFarkas_ex (b : List Int) (hb : b.length ≤ 140737488351232) (k : Nat) (hk : b.length < k) (h2 : 2097400 < k) :
  ∃ n rows c cs m ms, spec_DrawCheckFarkas.f k b = some (n, rows, c, cs, m, ms) ∧ rows.length ≤ 25 ∧ (∀ x ∈ rows, x.f1.length ≤ 9) ∧ cs.length ≤ 9 ∧ ms.length ≤ 26 := by
 have tail : ∀ (fl : Bool) (i h n : Int) (rows : List S36) (ms : List Int) (c : Int) (cs : List Int) (k : Nat), Cur b i → rows.length ≤ 25 → (∀ x ∈ rows, x.f1.length ≤ 9) → cs.length ≤ 9 → 2097399 < k → ∃ c' cs' m', spec_DrawCheckFarkas.j0 k ms fl b i h n rows c cs = some (n, rows, c', cs', m', ms) ∧ cs'.length ≤ 9 := by
  intro fl i h n rows ms c cs k hc hr hx hl hk
  obtain ⟨k, rfl⟩ := succ_of hk
  simp only [spec_DrawCheckFarkas.j0]
  cases fl
  ·rw [if_neg (by simp)]
   obtain ⟨x, i1, h1, e1, _, _, _, c1⟩ := spec_l1Below_ex b i h 3 hc
   rw [e1]; simp only [Option.bind_some]
   exact ⟨_, _, _, rfl, hl⟩
  ·rw [if_pos rfl]
   obtain ⟨d, ds, i2, h2, e2, hl2, c2⟩ := spec_l7Target_ex b i h n rows hc hr hx k (by omega)
   rw [e2]; simp only [Option.bind_some]
   obtain ⟨x, i1, h1, e1, _, _, _, c1⟩ := spec_l1Below_ex b i2 h2 3 c2
   rw [e1]; simp only [Option.bind_some]
   exact ⟨_, _, _, rfl, hl2⟩
 unfold spec_DrawCheckFarkas.f
 obtain ⟨h0, e0⟩ := spec_l1New_ex b hb k hk
 rw [e0]; simp only [Option.bind_some]
 obtain ⟨n, rows, i1, h1, e1, hl, c1, hx, hn⟩ := spec_l6Bent_ex b 0 h0 (cur_zero b hb) k (by omega)
 have hy : ∀ x ∈ rows, x.f1.length ≤ 1048576 := fun x h => by have := hx x h; omega
 rw [e1]; simp only [Option.bind_some]
 obtain ⟨ms, i3, g3, e3, hm, c3⟩ := spec_l7Mult_ex b i1 h1 (rows.length : Int) c1 (by omega) (by omega) k (by omega)
 rw [e3]; simp only [Option.bind_some]
 have hcl := combine_length n rows ms
 rw [spec_CombineRows_eq n rows ms (by omega) hy k (by omega)]; simp only [Option.bind_some]
 split
 ·obtain ⟨r, i2, g2, e2, c2⟩ := spec_l1Once_ex b i3 g3 3 c3
  rw [e2]; simp only [Option.bind_some]
  obtain ⟨c, cs, m, e, hl2⟩ := tail r i2 g2 n rows ms (combine n rows ms).1 (combine n rows ms).2.1 k c2 hl hx (by omega) (by omega)
  exact ⟨_, _, _, _, _, _, e, hl, hx, hl2, by omega⟩
 ·obtain ⟨c, cs, m, e, hl2⟩ := tail true i3 g3 n rows ms (combine n rows ms).1 (combine n rows ms).2.1 k c3 hl hx (by omega) (by omega)
  exact ⟨_, _, _, _, _, _, e, hl, hx, hl2, by omega⟩
theorem laws_at0_ex (b : List Int) (j : Nat) (hb : b.length ≤ 140737488351232) (hx : ∀ x ∈ b, 0 ≤ x ∧ x ≤ 255) (hj : j ≤ 1000) : ∃ r, laws_at0.f b (j : Int) = some r ∧ 0 ≤ r ∧ r ≤ 255 := by
 unfold laws_at0.f
 by_cases h : (j : Int) < (b.length : Int)
 ·rw [if_pos h, if_pos (by omega)]
  have hm : 0 ≤ rd b (j : Int) ∧ rd b (j : Int) ≤ 255 := by
   unfold rd; rw [Int.toNat_natCast, List.getD_eq_getElem?_getD, List.getElem?_eq_getElem (by omega)]; exact hx _ (List.getElem_mem _)
  rw [wrap_id (by omega) (by omega)]
  exact ⟨_, rfl, hm⟩
 ·rw [if_neg h, wrap_id (n := (j : Int) * 7) (by omega) (by omega), wrap_id (by omega) (by omega)]
  refine ⟨_, rfl, Int.tmod_nonneg _ (by omega), ?_⟩
  have := Int.tmod_lt_of_pos ((j : Int) * 7 + (b.length : Int)) (b := 256) (by omega)
  omega
theorem lit_u8 {n : Int} (h : (Lit.int .u8 n).wf = true) : 0 ≤ n ∧ n ≤ 255 := by
 simpa [Lit.wf, IntKind.min, IntKind.max, IntKind.signed, IntKind.bits] using h
def dot : List Int → List Int → Int
 | c :: cs, v :: vs => c * v + dot cs vs
 | _, _ => 0
def evalLin (c : Int) (cs vs : List Int) : Int × Bool := if validLin c cs (vs.length : Int) = true ∧ vs.all fitsB = true then (c + dot cs vs, true) else (0, false)
theorem drop_cons {α : Type} (xs : List α) (j : Nat) (h : j < xs.length) : xs.drop j = xs[j] :: xs.drop (j + 1) := List.drop_eq_getElem_cons h
theorem dot_vals (k : Int) : ∀ cs ds vs : List Int, okAll k cs ds = true → cs.length = ds.length → dot (vals k cs ds) vs = dot cs vs + k * dot ds vs := by
 intro cs
 induction cs with
 | nil =>
  intro ds vs _ hl
  have : ds = [] := List.length_eq_zero_iff.1 (by simpa using hl.symm)
  subst this
  simp [vals, dot]
 | cons x xs ih =>
  intro ds vs h hl
  cases ds with
  | nil => simp at hl
  | cons y ys =>
   simp only [okAll, Bool.and_eq_true] at h
   cases vs with
   | nil => simp [vals, dot]
   | cons v vs =>
    have hi := ih ys vs h.2 (by simpa using hl)
    unfold vals at hi ⊢
    rw [List.zipWith_cons_cons]
    simp only [dot]
    rw [hi, scVal_val h.1, Int.add_mul, Int.mul_add, Int.mul_assoc]; omega
theorem evalLin_val {c : Int} {cs vs : List Int} (h : validLin c cs (vs.length : Int) = true) (hf : ∀ v ∈ vs, fitsB v = true) : evalLin c cs vs = (c + dot cs vs, true) := by
 unfold evalLin; rw [if_pos ⟨h, List.all_eq_true.2 hf⟩]
def sat (n : Int) (rows : List S36) (vs : List Int) : Bool := validSys n rows && (decide ((vs.length : Int) = n) && (vs.all fitsB && rows.all fun r => !(decide ((evalLin r.f0 r.f1 vs).1 < 0))))
def isConst (cs : List Int) : Bool := cs.all fun c => decide (c = 0)
theorem addSc_value {c : Int} {cs : List Int} {k d : Int} {ds : List Int} (vs : List Int) (h : (addSc c cs k d ds).2.2 = true) :
  (addSc c cs k d ds).1 + dot (addSc c cs k d ds).2.1 vs = (c + dot cs vs) + k * (d + dot ds vs) ∧ (addSc c cs k d ds).2.1.length = cs.length ∧ validLin d ds (cs.length : Int) = true := by
 unfold addSc at h ⊢
 split at h
 ·rename_i hc
  rw [if_pos hc]
  obtain ⟨h1, h2, h3, h4, h5⟩ := hc
  have hl := ((validLin_iff _ _ _).1 h2).2.1
  refine ⟨?_, ?_, h2⟩
  ·simp only
   rw [dot_vals k cs ds vs h4 (by omega), scVal_val h5, Int.mul_add]; omega
  ·simp only [vals, List.length_zipWith]; omega
 ·simp at h
theorem combF_value (vs : List Int) : ∀ (rows : List S36) (ms : List Int) (a : Int × List Int), (combF a rows ms).2.2 = true → a.2.length = vs.length → (∀ v ∈ vs, fitsB v = true) → 0 ≤ a.1 + dot a.2 vs → (∀ r ∈ rows, 0 ≤ (evalLin r.f0 r.f1 vs).1) →
  0 ≤ (combF a rows ms).1 + dot (combF a rows ms).2.1 vs := by
 intro rows
 induction rows with
 | nil => intro ms a _ _ _ h _; simpa [combF] using h
 | cons r rs ih =>
  intro ms a h hl hf h0 hr
  cases ms with
  | nil => simpa [combF] using h0
  | cons m ms =>
   simp only [combF] at h ⊢
   by_cases hm : m < 0
   ·rw [if_pos hm] at h; simp at h
   ·by_cases hs : (addSc a.1 a.2 m r.f0 r.f1).2.2 = true
    ·rw [if_neg hm, if_pos hs] at h ⊢
     obtain ⟨v1, v2, v3⟩ := addSc_value vs hs
     refine ih ms _ h (by simp only; omega) hf ?_ (fun x hx => hr x (List.mem_cons_of_mem _ hx))
     simp only
     rw [v1]
     have h1 := hr r List.mem_cons_self
     rw [evalLin_val (by rw [← hl]; exact v3) hf] at h1
     have : 0 ≤ m * (r.f0 + dot r.f1 vs) := Int.mul_nonneg (by omega) h1
     omega
    ·rw [if_neg hm, if_neg hs] at h; simp at h
theorem dot_zeros (n : Nat) (vs : List Int) : dot (List.replicate n 0) vs = 0 := by
 induction n generalizing vs with
 | zero => cases vs <;> rfl
 | succ n ih => cases vs with
  | nil => rfl
  | cons v vs => rw [List.replicate_succ, dot, ih]; simp
theorem combine_value {n : Int} {rows : List S36} {ms vs : List Int} (h : (combine n rows ms).2.2 = true) (hs : sat n rows vs = true) : 0 ≤ (combine n rows ms).1 + dot (combine n rows ms).2.1 vs := by
 unfold sat at hs
 simp only [Bool.and_eq_true, decide_eq_true_eq, List.all_eq_true, Bool.not_eq_true', decide_eq_false_iff_not] at hs
 obtain ⟨s1, s2, s3, s4⟩ := hs
 have s5 := ((validSys_iff _ _).1 s1).1
 unfold combine at h ⊢
 split at h
 ·rename_i hc
  rw [if_pos hc]
  have e : constLin 0 n = (0, List.replicate n.toNat 0) := by unfold constLin; rw [if_pos ⟨s5, rfl⟩]
  rw [e] at h ⊢
  refine combF_value vs rows ms _ h (by simp; omega) s3 ?_ (fun r hr => by have := s4 r hr; omega)
  simp only
  rw [dot_zeros]; simp
 ·simp at h
theorem eval_nonneg {c : Int} {cs vs : List Int} (h : 0 ≤ c + dot cs vs) : ¬ (evalLin c cs vs).1 < 0 := by
 unfold evalLin; split
 ·simp only; omega
 ·simp
theorem dot_const : ∀ (cs vs : List Int), isConst cs = true → dot cs vs = 0 := by
 intro cs
 induction cs with
 | nil => intro vs _; simp [dot]
 | cons x xs ih =>
  intro vs h
  unfold isConst at h ih
  rw [List.all_cons, Bool.and_eq_true, decide_eq_true_eq] at h
  cases vs with
  | nil => simp [dot]
  | cons v vs => simp only [dot]; rw [h.1, ih vs h.2]; simp
def firstBy {α : Type} (p : α → Bool) : List α → Int → Int
 | [], _ => -1
 | x :: xs, i => if p x = true then i else firstBy p xs (i + 1)
theorem firstBy_any {α : Type} (p : α → Bool) : ∀ (xs : List α) (i : Int), 0 ≤ i → decide (firstBy p xs i ≥ 0) = xs.any p := by
 intro xs
 induction xs with
 | nil => intro i _; simp [firstBy]
 | cons x xs ih =>
  intro i hi
  simp only [firstBy, List.any_cons]
  by_cases h : p x = true
  ·simp [h]; omega
  ·have := ih (i + 1) (by omega)
   simp only [Bool.eq_false_iff.mpr h, Bool.false_eq_true, if_false, Bool.false_or]; exact this
theorem slices_IndexFunc_int_int__IsConstant_1_l0 (p : Int → Bool) (hp : ∀ c, impl_IsConstant_1.f c = some (p c)) (xs : List Int) (hn : xs.length ≤ 4611686018427387904) : ∀ (d j k : Nat), j + d = xs.length → d < k →
  slices_IndexFunc_int_int__IsConstant_1.l0 k xs (xs.length : Int) (j : Int) = some (firstBy p (xs.drop j) (j : Int)) := by
 intro d
 induction d with
 | zero =>
  intro j k hj hk
  obtain ⟨k, rfl⟩ := succ_of hk
  simp only [slices_IndexFunc_int_int__IsConstant_1.l0]
  rw [if_neg (by omega), List.drop_eq_nil_of_le (by omega)]; rfl
 | succ d ih =>
  intro j k hj hk
  obtain ⟨k, rfl⟩ := succ_of hk
  have hlt : j < xs.length := by omega
  simp only [slices_IndexFunc_int_int__IsConstant_1.l0]
  rw [if_pos (by omega), if_pos (by omega), if_pos (by omega), rd_nat _ _ hlt, hp, Option.bind_some, wrap_succ hlt hn, ih (j + 1) k (by omega) (by omega), List.drop_eq_getElem_cons hlt]
  simp only [firstBy]
  split <;> rfl
theorem slices_ContainsFunc_int_int__IsConstant_1_eq (p : Int → Bool) (hp : ∀ c, impl_IsConstant_1.f c = some (p c)) (xs : List Int) (hn : xs.length ≤ 4611686018427387904) (k : Nat) (hk : xs.length < k) :
  slices_ContainsFunc_int_int__IsConstant_1.f k xs () = some (xs.any p) := by
 unfold slices_ContainsFunc_int_int__IsConstant_1.f slices_IndexFunc_int_int__IsConstant_1.f
 have := slices_IndexFunc_int_int__IsConstant_1_l0 p hp xs hn xs.length 0 k (by omega) hk
 rw [show ((0 : Nat) : Int) = 0 from rfl, List.drop_zero] at this
 rw [this, Option.bind_some, firstBy_any p xs 0 (by omega)]
theorem bne_dec (c : Int) : (c != 0) = !(decide (c = 0)) := by by_cases h : c = 0 <;> simp [h]
theorem impl_IsConstant_eq (c : Int) (cs : List Int) (hn : cs.length ≤ 4611686018427387904) (k : Nat) (hk : cs.length < k) : impl_IsConstant.f k c cs = some (isConst cs) := by
 unfold impl_IsConstant.f isConst
 rw [slices_ContainsFunc_int_int__IsConstant_1_eq (fun c => !(decide (c = 0))) (fun c => by unfold impl_IsConstant_1.f; rw [bne_dec]) cs hn k hk]
 rw [Option.bind_some]
 congr 1
 induction cs with
 | nil => rfl
 | cons x xs ih => simp only [List.any_cons, List.all_cons, Bool.not_or, Bool.not_not]; rw [ih (by simp at hn; omega) (by simp at hk; omega)]
def checkFarkas (n : Int) (rows : List S36) (c : Int) (cs : List Int) (m : Int) (ms : List Int) : Bool :=
 if (combine n rows ms).2.2 = true ∧ validLin c cs n = true ∧ multOk m = true ∧ okc (c + 1) = true then
  (if (addSc (combine n rows ms).1 (combine n rows ms).2.1 (-m) (c + 1) cs).2.2 = true then isConst (addSc (combine n rows ms).1 (combine n rows ms).2.1 (-m) (c + 1) cs).2.1 && decide ((addSc (combine n rows ms).1 (combine n rows ms).2.1 (-m) (c + 1) cs).1 < 0) else false)
 else false
theorem combine_valid {n : Int} {rows : List S36} {ms : List Int} (h : (combine n rows ms).2.2 = true) : validSys n rows = true := by
 unfold combine at h
 split at h
 ·rename_i h2; exact h2.1
 ·simp at h
theorem vals_zero : ∀ cs : List Int, (∀ x ∈ cs, okc x = true) → okAll 1 cs (List.replicate cs.length 0) = true ∧ vals 1 cs (List.replicate cs.length 0) = cs := by
 intro cs
 induction cs with
 | nil => intro _; simp [okAll, vals]
 | cons x xs ih =>
  intro h
  have hx := h x List.mem_cons_self
  have hi := ih (fun y hy => h y (List.mem_cons_of_mem _ hy))
  have hs : scOk x 1 0 = true := by rw [scOk_iff]; refine ⟨⟨rfl, rfl, rfl⟩, hx, by simpa using hx⟩
  rw [List.length_cons, List.replicate_succ]
  simp only [okAll, hs, hi.1, Bool.and_self, true_and]
  have h2 := hi.2
  unfold vals at h2 ⊢
  rw [List.zipWith_cons_cons, h2, scVal_val hs]; simp
theorem addSc_one (c : Int) (cs : List Int) (n : Int) (h : validLin c cs n = true) : addSc c cs 1 (constLin 1 n).1 (constLin 1 n).2 = if okc (c + 1) = true then (c + 1, cs, true) else (0, [], false) := by
 obtain ⟨h1, h2, h3, h4⟩ := (validLin_iff _ _ _).1 h
 have hc : constLin 1 n = (1, List.replicate cs.length 0) := by
  unfold constLin; rw [if_pos ⟨h1, rfl⟩, show n.toNat = cs.length by omega]
 rw [hc]
 have hz := vals_zero cs h4
 have hs : scOk c 1 1 = true ↔ okc (c + 1) = true := by
  rw [scOk_iff]
  constructor
  ·intro h; simpa using h.2.2
  ·intro h; exact ⟨⟨rfl, rfl, rfl⟩, h3, by simpa using h⟩
 have hv : validLin c cs (cs.length : Int) = true := by rw [h2]; exact h
 have hw : validLin 1 (List.replicate cs.length 0) (cs.length : Int) = true := (validLin_iff _ _ _).2 ⟨by omega, by simp, rfl, fun x hx => by rw [(List.mem_replicate.1 hx).2]; rfl⟩
 unfold addSc
 by_cases ho : okc (c + 1) = true
 ·rw [if_pos ho, if_pos ⟨hv, hw, rfl, hz.1, hs.2 ho⟩, hz.2, scVal_val (hs.2 ho)]; simp
 ·rw [if_neg ho, if_neg (fun e => ho (hs.1 e.2.2.2.2))]
theorem neg_mult {m : Int} (h : multOk m = true) : wrap64 (-m) = -m := by
 unfold multOk at h; rw [decide_eq_true_eq] at h; exact wrap_id (by omega) (by omega)
theorem farkas_holds {n : Int} {rows : List S36} {c : Int} {cs : List Int} {m : Int} {ms vs : List Int} (h : checkFarkas n rows c cs m ms = true) (hs : sat n rows vs = true) : ¬ (evalLin c cs vs).1 < 0 := by
 unfold checkFarkas at h
 split at h
 ·rename_i hc
  obtain ⟨h1, h2, h3, h4⟩ := hc
  split at h
  ·rename_i h5
   rw [Bool.and_eq_true, decide_eq_true_eq] at h
   obtain ⟨v1, _, _⟩ := addSc_value vs h5
   rw [dot_const _ vs h.1] at v1
   have h6 := combine_value h1 hs
   apply eval_nonneg
   unfold multOk at h3; rw [decide_eq_true_eq] at h3
   have e : -m * (c + 1 + dot cs vs) = -(m * (c + 1 + dot cs vs)) := Int.neg_mul ..
   rw [e] at v1
   by_cases h7 : 0 ≤ c + dot cs vs
   ·exact h7
   ·have h8 : m * (c + 1 + dot cs vs) ≤ 0 := by
     have h9 : 0 ≤ m * (-(c + 1 + dot cs vs)) := Int.mul_nonneg h3.1 (by omega)
     rw [Int.mul_neg] at h9; omega
    omega
  ·cases h
 ·cases h
theorem spec_IsConstant_l0 (c : Int) (cs : List Int) (hn : cs.length ≤ 4611686018427387904) : ∀ (d j k : Nat), j + d = cs.length → d < k →
  spec_IsConstant.l0 k (j : Int) c cs = some (isConst (cs.drop j)) := by
 intro d
 induction d with
 | zero =>
  intro j k hj hk
  obtain ⟨k, rfl⟩ := succ_of hk
  simp only [spec_IsConstant.l0]
  rw [if_neg (by omega), List.drop_eq_nil_of_le (by omega)]; rfl
 | succ d ih =>
  intro j k hj hk
  obtain ⟨k, rfl⟩ := succ_of hk
  have hlt : j < cs.length := by omega
  simp only [spec_IsConstant.l0]
  rw [if_pos (by omega), if_pos (by omega), rd_nat _ _ hlt, wrap_succ hlt hn, ih (j + 1) k (by omega) (by omega), List.drop_eq_getElem_cons hlt]
  unfold isConst
  rw [List.all_cons]
  by_cases h : cs[j] = 0
  ·rw [if_pos h]; simp [h]
  ·rw [if_neg h]; simp [h]
theorem spec_IsConstant_eq (c : Int) (cs : List Int) (hn : cs.length ≤ 4611686018427387904) (k : Nat) (hk : cs.length < k) : spec_IsConstant.f k c cs = some (isConst cs) := by
 unfold spec_IsConstant.f
 have := spec_IsConstant_l0 c cs hn cs.length 0 k (by omega) hk
 simpa using this
theorem spec_CheckFarkas_eq (n : Int) (rows : List S36) (c : Int) (cs : List Int) (m : Int) (ms : List Int) (hn : rows.length ≤ 1048576) (hx : ∀ x ∈ rows, x.f1.length ≤ 1048576) (hc : cs.length ≤ 1048576) (k : Nat) (hk : 2097210 < k) : spec_CheckFarkas.f k n rows c cs m ms = some (checkFarkas n rows c cs m ms) := by
 unfold spec_CheckFarkas.f checkFarkas
 have hl := combine_length n rows ms
 rw [spec_CombineRows_eq n rows ms hn hx k (by omega), Option.bind_some, spec_IsValidLin_eq c cs n (by omega) k (by omega), spec_l1In_eq]
 simp only [Option.bind_some]
 obtain ⟨k, rfl⟩ := succ_of hk
 simp only [spec_CheckFarkas.j0]
 cases h1 : (combine n rows ms).2.2
 ·simp
 cases h2 : validLin c cs n
 ·simp
 cases h3 : multOk m
 ·have h4 : ¬ (0 ≤ m ∧ m ≤ 1000000000) := by unfold multOk at h3; exact of_decide_eq_false h3
  simp [h4]
 ·have h4 : decide (0 ≤ m ∧ m ≤ 1000000000) = true := h3
  rw [h4, spec_ConstLin_eq]
  simp only [Option.bind_some, if_true, Bool.not_true, Bool.false_eq_true, if_false, true_and]
  have hcl := constLin_length 1 n
  rw [spec_AddScaled_eq c cs 1 _ _ (by omega) (by omega) k (by omega), Option.bind_some, addSc_one c cs n h2, neg_mult h3]
  by_cases ho : okc (c + 1) = true
  ·rw [if_pos ho, if_pos ho]
   simp only
   have hq := addSc_length (combine n rows ms).1 (combine n rows ms).2.1 (-m) (c + 1) cs
   rw [spec_AddScaled_eq _ _ _ _ _ (by omega) (by omega) k (by omega), Option.bind_some, spec_IsConstant_eq _ _ (by omega) k (by omega)]
   simp only [Option.bind_some, if_true]
   split
   ·cases isConst (addSc (combine n rows ms).1 (combine n rows ms).2.1 (-m) (c + 1) cs).2.1 <;> simp
   ·rfl
  ·rw [if_neg ho, if_neg ho]
   simp only
   rw [spec_AddScaled_eq _ _ _ _ _ (by omega) (by simp) k (by omega)]
   simp
theorem impl_within_eq (a b c : Int) : impl_within.f a b c = some (decide (b ≤ a ∧ a ≤ c)) := by
 unfold impl_within.f
 by_cases h : a ≥ b
 ·rw [if_pos h]; congr 1; rw [decide_eq_decide]; omega
 ·rw [if_neg h]; congr 1; symm; rw [decide_eq_false_iff_not]; omega
theorem impl_coeffOk_eq (n : Int) : impl_coeffOk.f n = some (okc n) := by unfold impl_coeffOk.f; rw [impl_within_eq]; rfl
theorem slices_IndexFunc_int_int__IsValidLin_1_l0 (p : Int → Bool) (hp : ∀ c, impl_IsValidLin_1.f c = some (p c)) (xs : List Int) (hn : xs.length ≤ 4611686018427387904) : ∀ (d j k : Nat), j + d = xs.length → d < k →
  slices_IndexFunc_int_int__IsValidLin_1.l0 k xs (xs.length : Int) (j : Int) = some (firstBy p (xs.drop j) (j : Int)) := by
 intro d
 induction d with
 | zero =>
  intro j k hj hk
  obtain ⟨k, rfl⟩ := succ_of hk
  simp only [slices_IndexFunc_int_int__IsValidLin_1.l0]
  rw [if_neg (by omega), List.drop_eq_nil_of_le (by omega)]; rfl
 | succ d ih =>
  intro j k hj hk
  obtain ⟨k, rfl⟩ := succ_of hk
  have hlt : j < xs.length := by omega
  simp only [slices_IndexFunc_int_int__IsValidLin_1.l0]
  rw [if_pos (by omega), if_pos (by omega), if_pos (by omega), rd_nat _ _ hlt, hp, Option.bind_some, wrap_succ hlt hn, ih (j + 1) k (by omega) (by omega), List.drop_eq_getElem_cons hlt]
  simp only [firstBy]
  split <;> rfl
theorem slices_ContainsFunc_int_int__IsValidLin_1_eq (p : Int → Bool) (hp : ∀ c, impl_IsValidLin_1.f c = some (p c)) (xs : List Int) (hn : xs.length ≤ 4611686018427387904) (k : Nat) (hk : xs.length < k) :
  slices_ContainsFunc_int_int__IsValidLin_1.f k xs () = some (xs.any p) := by
 unfold slices_ContainsFunc_int_int__IsValidLin_1.f slices_IndexFunc_int_int__IsValidLin_1.f
 have := slices_IndexFunc_int_int__IsValidLin_1_l0 p hp xs hn xs.length 0 k (by omega) hk
 rw [show ((0 : Nat) : Int) = 0 from rfl, List.drop_zero] at this
 rw [this, Option.bind_some, firstBy_any p xs 0 (by omega)]
theorem impl_IsValidLin_eq (c : Int) (cs : List Int) (n : Int) (hn : cs.length ≤ 4611686018427387904) (k : Nat) (hk : cs.length < k) : impl_IsValidLin.f k c cs n = some (validLin c cs n) := by
 unfold impl_IsValidLin.f validLin
 rw [impl_within_eq, impl_coeffOk_eq, slices_ContainsFunc_int_int__IsValidLin_1_eq (fun c => !(okc c)) (fun c => by unfold impl_IsValidLin_1.f; rw [impl_coeffOk_eq]; rfl) cs hn k hk]
 simp only [Option.bind_some, any_not_all]
 by_cases h1 : 0 ≤ n ∧ n ≤ 8 <;> by_cases h2 : (cs.length : Int) = n <;> cases h3 : okc c <;> simp [h1, h2]
theorem impl_IsValidSystem_l0 (n : Int) (rows : List S36) (hn : rows.length ≤ 4611686018427387904) (hx : ∀ x ∈ rows, x.f1.length ≤ 1048576) : ∀ (d j k : Nat), j + d = rows.length → d + 1048577 < k →
  impl_IsValidSystem.l0 k rows (rows.length : Int) (j : Int) n rows = some ((rows.drop j).all (fun r => validLin r.f0 r.f1 n)) := by
 intro d
 induction d with
 | zero =>
  intro j k hj hk
  obtain ⟨k, rfl⟩ := succ_of hk
  simp only [impl_IsValidSystem.l0]
  rw [if_neg (by omega), List.drop_eq_nil_of_le (by omega)]; rfl
 | succ d ih =>
  intro j k hj hk
  obtain ⟨k, rfl⟩ := succ_of hk
  have hlt : j < rows.length := by omega
  have hxj := hx _ (List.getElem_mem hlt)
  simp only [impl_IsValidSystem.l0]
  rw [if_pos (by omega), if_pos (by omega), if_pos (by omega), rd_lin _ _ hlt, impl_IsValidLin_eq _ _ _ (by omega) k (by omega), Option.bind_some, wrap_succ hlt hn, ih (j + 1) k (by omega) (by omega), List.drop_eq_getElem_cons hlt, List.all_cons]
  cases validLin rows[j].f0 rows[j].f1 n <;> simp
theorem impl_IsValidSystem_eq (n : Int) (rows : List S36) (hn : rows.length ≤ 1048577) (hx : ∀ x ∈ rows, x.f1.length ≤ 1048576) (k : Nat) (hk : 2097156 < k) : impl_IsValidSystem.f k n rows = some (validSys n rows) := by
 unfold impl_IsValidSystem.f validSys
 rw [impl_within_eq, Option.bind_some]
 obtain ⟨k, rfl⟩ := succ_of hk
 simp only [impl_IsValidSystem.j0]
 have := impl_IsValidSystem_l0 n rows (by omega) hx rows.length 0 k (by omega) (by omega)
 rw [show ((0 : Nat) : Int) = 0 from rfl, List.drop_zero] at this
 rw [this]
 by_cases h1 : 0 ≤ n ∧ n ≤ 8
 ·by_cases h2 : rows.length ≤ 20
  ·have : ¬ ((rows.length : Int) > 20) := by omega
   simp [h1, h2, this]
  ·have : (rows.length : Int) > 20 := by omega
   simp [h1, h2, this]
 ·simp [h1]
theorem impl_ConstLin_eq (k n : Int) : impl_ConstLin.f k n = some (constLin k n) := by
 unfold impl_ConstLin.f constLin
 rw [impl_within_eq, impl_coeffOk_eq]; simp only [Option.bind_some, decide_eq_true_eq]
 by_cases h : 0 ≤ n ∧ n ≤ 8
 ·have h3 : n.toNat ≤ 35184372088832 := by omega
  rw [if_pos h, if_pos h.1, if_pos h3]; cases h2 : okc k
  ·rw [if_neg (by simp), if_neg (by simp)]
  ·rw [if_pos rfl, if_pos ⟨h, rfl⟩]
 ·rw [if_neg h, if_neg (fun e => h e.1)]
theorem impl_AddLimited_eq (x y : Int) : impl_AddLimited.f x y = some (addLim x y) := by
 unfold impl_AddLimited.f addLim; simp only [impl_coeffOk_eq, Option.bind_some]; repeat (split <;> try rfl)
theorem impl_MulLimited_eq (x y : Int) : impl_MulLimited.f x y = some (mulLim x y) := by
 unfold impl_MulLimited.f mulLim; simp only [impl_coeffOk_eq, Option.bind_some]; repeat (split <;> try rfl)
theorem impl_scaled_eq (x k y : Int) : impl_scaled.f x k y = some (scVal x k y, scOk x k y) := by
 unfold impl_scaled.f scOk scVal
 rw [impl_MulLimited_eq, Option.bind_some, impl_AddLimited_eq, Option.bind_some]
 cases h : (mulLim k y).2 with
 | false => simp
 | true => simp
theorem impl_AddScaled_l0 (kk : Int) (n : Nat) (c : Int) (cs : List Int) (d : Int) (ds : List Int) (oc : Int) (h1 : cs.length = n) (h2 : ds.length = n) (hn : n ≤ 4611686018427387904) : ∀ (e j k : Nat) (p r : List Int) (all : Bool), j + e = n → e < k → p.length = j → r.length = e →
  impl_AddScaled.l0 k kk all (n : Int) (j : Int) c cs d ds oc (p ++ r) = some (if (all && okAll kk (cs.drop j) (ds.drop j)) = true then (oc, p ++ vals kk (cs.drop j) (ds.drop j), true) else (0, [], false)) := by
 intro e
 induction e with
 | zero =>
  intro j k p r all hj hk hp hr
  obtain ⟨k, rfl⟩ := succ_of hk
  have : r = [] := List.length_eq_zero_iff.1 hr
  subst this
  simp only [impl_AddScaled.l0]
  rw [if_neg (by omega), List.drop_eq_nil_of_le (by omega), List.drop_eq_nil_of_le (by omega)]
  cases all <;> simp [okAll, vals]
 | succ e ih =>
  intro j k p r all hj hk hp hr
  obtain ⟨k, rfl⟩ := succ_of hk
  cases r with
  | nil => simp at hr
  | cons y r =>
   have hj1 : j < cs.length := by omega
   have hj2 : j < ds.length := by omega
   simp only [impl_AddScaled.l0]
   rw [if_pos (by omega), if_pos (by omega), if_pos (by omega), if_pos (by omega), rd_nat _ _ hj1, rd_nat _ _ hj2, impl_scaled_eq, Option.bind_some, if_pos (by simp only [List.length_append, List.length_cons]; omega), Option.bind_some, wrap_succ (n := n) (by omega) hn, Int.toNat_natCast]
   have es : (p ++ y :: r).set j (scVal cs[j] kk ds[j]) = (p ++ [scVal cs[j] kk ds[j]]) ++ r := by generalize scVal cs[j] kk ds[j] = z; rw [← hp]; simp
   have hi := ih (j + 1) k (p ++ [scVal cs[j] kk ds[j]]) r
   have hz : vals kk (cs.drop j) (ds.drop j) = scVal cs[j] kk ds[j] :: vals kk (cs.drop (j + 1)) (ds.drop (j + 1)) := by unfold vals; exact drop_zip _ _ _ _ hj1 hj2
   rw [es, hi (scOk cs[j] kk ds[j]) (by omega) (by omega) (by simp; omega) (by simpa using hr), hi false (by omega) (by omega) (by simp; omega) (by simpa using hr), drop_okAll _ _ _ _ hj1 hj2, hz]
   cases all <;> simp
theorem impl_AddScaled_eq (c : Int) (cs : List Int) (kk : Int) (d : Int) (ds : List Int) (hn : cs.length ≤ 1048577) (hm : ds.length ≤ 1048577) (k : Nat) (hk : 1048600 < k) : impl_AddScaled.f k c cs kk d ds = some (addSc c cs kk d ds) := by
 unfold impl_AddScaled.f addSc
 rw [impl_IsValidLin_eq c cs _ (by omega) k (by omega), impl_IsValidLin_eq d ds _ (by omega) k (by omega), impl_coeffOk_eq]
 simp only [Option.bind_some]
 obtain ⟨k, rfl⟩ := succ_of hk
 simp only [impl_AddScaled.j0]
 cases hv : validLin c cs (cs.length : Int) with
 | false => simp
 | true =>
  cases hw : validLin d ds (cs.length : Int) with
  | false => simp
  | true =>
   cases ho : okc kk with
   | false => simp
   | true =>
    have h1 := (validLin_iff _ _ _).1 hv
    have h2 := (validLin_iff _ _ _).1 hw
    have hc : constLin 0 (cs.length : Int) = (0, List.replicate cs.length 0) := by unfold constLin; rw [if_pos ⟨h1.1, by rw [okc_iff]; omega⟩, Int.toNat_natCast]
    have hl := impl_AddScaled_l0 kk cs.length c cs d ds (scVal c kk d) rfl (by omega) (by omega) cs.length 0 k [] (List.replicate cs.length 0) (scOk c kk d) (by omega) (by omega) rfl (by simp)
    rw [show ((0 : Nat) : Int) = 0 from rfl, List.nil_append, List.drop_zero, List.drop_zero, List.nil_append] at hl
    rw [if_pos rfl, if_pos rfl, if_neg (by simp), impl_ConstLin_eq, Option.bind_some, hc, impl_scaled_eq, Option.bind_some, hl]
    simp only [true_and]
    cases scOk c kk d <;> cases okAll kk cs ds <;> simp
theorem slices_IndexFunc_int_int__CombineRows_1_l0 (p : Int → Bool) (hp : ∀ c, impl_CombineRows_1.f c = some (p c)) (xs : List Int) (hn : xs.length ≤ 4611686018427387904) : ∀ (d j k : Nat), j + d = xs.length → d < k →
  slices_IndexFunc_int_int__CombineRows_1.l0 k xs (xs.length : Int) (j : Int) = some (firstBy p (xs.drop j) (j : Int)) := by
 intro d
 induction d with
 | zero =>
  intro j k hj hk
  obtain ⟨k, rfl⟩ := succ_of hk
  simp only [slices_IndexFunc_int_int__CombineRows_1.l0]
  rw [if_neg (by omega), List.drop_eq_nil_of_le (by omega)]; rfl
 | succ d ih =>
  intro j k hj hk
  obtain ⟨k, rfl⟩ := succ_of hk
  have hlt : j < xs.length := by omega
  simp only [slices_IndexFunc_int_int__CombineRows_1.l0]
  rw [if_pos (by omega), if_pos (by omega), if_pos (by omega), rd_nat _ _ hlt, hp, Option.bind_some, wrap_succ hlt hn, ih (j + 1) k (by omega) (by omega), List.drop_eq_getElem_cons hlt]
  simp only [firstBy]
  split <;> rfl
theorem slices_ContainsFunc_int_int__CombineRows_1_eq (p : Int → Bool) (hp : ∀ c, impl_CombineRows_1.f c = some (p c)) (xs : List Int) (hn : xs.length ≤ 4611686018427387904) (k : Nat) (hk : xs.length < k) :
  slices_ContainsFunc_int_int__CombineRows_1.f k xs () = some (xs.any p) := by
 unfold slices_ContainsFunc_int_int__CombineRows_1.f slices_IndexFunc_int_int__CombineRows_1.f
 have := slices_IndexFunc_int_int__CombineRows_1_l0 p hp xs hn xs.length 0 k (by omega) hk
 rw [show ((0 : Nat) : Int) = 0 from rfl, List.drop_zero] at this
 rw [this, Option.bind_some, firstBy_any p xs 0 (by omega)]
theorem impl_CombineRows_l0 (n : Int) (rows : List S36) (ms : List Int) (hl : ms.length = rows.length) (hn : rows.length ≤ 4611686018427387904) (hx : ∀ x ∈ rows, x.f1.length ≤ 1048576) (hm : ∀ m ∈ ms, multOk m = true) : ∀ (d j k : Nat) (a : Int × List Int), j + d = rows.length → d + 1048600 < k → a.2.length ≤ 8 →
  impl_CombineRows.l0 k ms (ms.length : Int) (j : Int) n rows a.1 a.2 = some (combF a (rows.drop j) (ms.drop j)) := by
 intro d
 induction d with
 | zero =>
  intro j k a hj hk ha
  obtain ⟨k, rfl⟩ := succ_of hk
  simp only [impl_CombineRows.l0]
  rw [if_neg (by omega), List.drop_eq_nil_of_le (by omega)]
  simp [combF]
 | succ d ih =>
  intro j k a hj hk ha
  obtain ⟨k, rfl⟩ := succ_of hk
  have hlt : j < rows.length := by omega
  have hlm : j < ms.length := by omega
  have hxj := hx _ (List.getElem_mem hlt)
  have hmj := hm _ (List.getElem_mem hlm)
  have h1 : ¬ ms[j] < 0 := by unfold multOk at hmj; rw [decide_eq_true_eq] at hmj; omega
  simp only [impl_CombineRows.l0]
  rw [if_pos (by omega), if_pos (by omega), if_pos (by omega), if_pos (by omega), rd_lin _ _ hlt, rd_nat _ _ hlm, impl_AddScaled_eq _ _ _ _ _ (by omega) (by omega) k (by omega), Option.bind_some, wrap_succ hlt hn, List.drop_eq_getElem_cons hlt, List.drop_eq_getElem_cons hlm]
  simp only [combF]
  have hi := ih (j + 1) k ((addSc a.1 a.2 ms[j] rows[j].f0 rows[j].f1).1, (addSc a.1 a.2 ms[j] rows[j].f0 rows[j].f1).2.1) (by omega) (by omega) (addSc_length _ _ _ _ _)
  simp only at hi
  rw [hi, if_neg h1]
  split <;> rfl
theorem impl_CombineRows_eq (n : Int) (rows : List S36) (ms : List Int) (hn : rows.length ≤ 1048576) (hm : ms.length ≤ 1048576) (hx : ∀ x ∈ rows, x.f1.length ≤ 1048576) (k : Nat) (hk : 2097200 < k) : impl_CombineRows.f k n rows ms = some (combine n rows ms) := by
 unfold impl_CombineRows.f combine
 rw [impl_IsValidSystem_eq n rows (by omega) hx k (by omega), Option.bind_some]
 rw [slices_ContainsFunc_int_int__CombineRows_1_eq (fun c => !(multOk c)) (fun c => by unfold impl_CombineRows_1.f; rw [impl_within_eq]; rfl) ms (by omega) k (by omega), Option.bind_some]
 obtain ⟨k, rfl⟩ := succ_of hk
 simp only [impl_CombineRows.j0]
 by_cases hl : ms.length = rows.length
 ·have e : (ms.any fun c => !(multOk c)) = !(ms.all multOk) := by rw [← any_not_all, Bool.not_not]
  rw [e]
  have hl2 : (ms.length : Int) = (rows.length : Int) := by omega
  cases ha : ms.all multOk
  ·have h0 := combF_bad rows ms (constLin 0 n) hl ha
   rw [h0]
   cases hv : validSys n rows <;> simp [hl2]
  ·have h0 := impl_CombineRows_l0 n rows ms hl (by omega) hx (by simpa using ha) rows.length 0 k (constLin 0 n) (by omega) (by omega) (constLin_length 0 n)
   rw [show ((0 : Nat) : Int) = 0 from rfl, List.drop_zero, List.drop_zero] at h0
   rw [impl_ConstLin_eq]; simp only [Option.bind_some]
   rw [h0]
   cases hv : validSys n rows <;> simp [hl]
 ·have h2 : ¬ ((ms.length : Int) = (rows.length : Int)) := by omega
  cases hv : validSys n rows <;> simp [hl, h2]
theorem slices_Clone_eq (xs : List Int) (hn : xs.length ≤ 10000000000000) : slices_Clone_int_int.f xs = some xs := by
 unfold slices_Clone_int_int.f
 simp only [Option.bind_some, List.length_nil, List.nil_append]
 rw [if_pos (by omega)]
theorem impl_copyLin_eq (c : Int) (xs : List Int) (hn : xs.length ≤ 10000000000000) : impl_copyLin.f c xs = some (c, xs) := by
 unfold impl_copyLin.f; rw [slices_Clone_eq xs hn]; rfl
theorem impl_plus_eq (c : Int) (cs : List Int) (hc : cs.length ≤ 1048576) (k : Nat) (hk : 2097200 < k) (h : validLin c cs (cs.length : Int) = true) : impl_plus.f k c cs 1 = some (if okc (c + 1) = true then (c + 1, cs, true) else (0, [], false)) := by
 unfold impl_plus.f
 rw [impl_AddLimited_eq, Option.bind_some, impl_IsValidLin_eq _ _ _ (by omega) k (by omega), impl_copyLin_eq _ _ (by omega), h]
 have h3 := ((validLin_iff _ _ _).1 h).2.2.1
 by_cases ho : okc (c + 1) = true
 ·have ha : (addLim c 1).2 = true := (addLim_iff c 1).2 ⟨h3, rfl, ho⟩
  rw [if_pos ho, if_pos ha, addLim_val ha]; simp
 ·have ha : ¬ (addLim c 1).2 = true := fun e => ho ((addLim_iff c 1).1 e).2.2
  rw [if_neg ho, if_neg ha]
theorem impl_CheckFarkas_eq (n : Int) (rows : List S36) (c : Int) (cs : List Int) (m : Int) (ms : List Int) (hn : rows.length ≤ 1048576) (hx : ∀ x ∈ rows, x.f1.length ≤ 1048576) (hc : cs.length ≤ 1048576) (hm : ms.length ≤ 1048576) (k : Nat) (hk : 2097210 < k) : impl_CheckFarkas.f k n rows c cs m ms = some (checkFarkas n rows c cs m ms) := by
 unfold impl_CheckFarkas.f checkFarkas
 have hl := combine_length n rows ms
 rw [impl_IsValidSystem_eq n rows (by omega) hx k (by omega), impl_IsValidLin_eq c cs n (by omega) k (by omega), impl_within_eq]
 simp only [Option.bind_some]
 obtain ⟨k, rfl⟩ := succ_of hk
 simp only [impl_CheckFarkas.j0]
 cases h0 : validSys n rows
 ·have h1 : ¬ (combine n rows ms).2.2 = true := fun e => by rw [combine_valid e] at h0; cases h0
  simp [h1]
 cases h2 : validLin c cs n
 ·simp
 cases h3 : multOk m
 ·have h4 : ¬ (0 ≤ m ∧ m ≤ 1000000000) := by unfold multOk at h3; exact of_decide_eq_false h3
  simp [h4]
 ·have h4 : decide (0 ≤ m ∧ m ≤ 1000000000) = true := h3
  have hv : validLin c cs (cs.length : Int) = true := by rw [((validLin_iff _ _ _).1 h2).2.1]; exact h2
  rw [h4, impl_CombineRows_eq n rows ms hn hm hx k (by omega), impl_plus_eq c cs hc k (by omega) hv]
  simp only [Option.bind_some, if_true, Bool.not_true, Bool.false_eq_true, if_false, true_and]
  obtain ⟨k, rfl⟩ : ∃ j, k = j + 1 := ⟨k - 1, by omega⟩
  simp only [impl_CheckFarkas.j1]
  cases h1 : (combine n rows ms).2.2
  ·simp
  by_cases ho : okc (c + 1) = true
  ·rw [if_pos ho, neg_mult h3]
   simp only [ho, and_self, if_true, Bool.not_true, Bool.false_eq_true, if_false]
   have hq := addSc_length (combine n rows ms).1 (combine n rows ms).2.1 (-m) (c + 1) cs
   rw [impl_AddScaled_eq _ _ _ _ _ (by omega) (by omega) k (by omega), Option.bind_some, impl_IsConstant_eq _ _ (by omega) k (by omega)]
   simp only [Option.bind_some]
   split
   ·cases isConst (addSc (combine n rows ms).1 (combine n rows ms).2.1 (-m) (c + 1) cs).2.1 <;> simp
   ·rfl
  ·simp [ho]
theorem slices_Equal_l0 (a b : List Int) (hab : a.length = b.length) (hn : a.length ≤ 4611686018427387904) : ∀ (d j k : Nat), j + d = a.length → d < k →
  slices_Equal_int_int.l0 k a b (a.length : Int) (j : Int) = some (decide (a.drop j = b.drop j)) := by
 intro d
 induction d with
 | zero =>
  intro j k hj hk
  obtain ⟨k, rfl⟩ := succ_of hk
  simp only [slices_Equal_int_int.l0]
  rw [if_neg (by omega), List.drop_eq_nil_of_le (by omega), List.drop_eq_nil_of_le (by omega)]; simp
 | succ d ih =>
  intro j k hj hk
  obtain ⟨k, rfl⟩ := succ_of hk
  have hlt : j < a.length := by omega
  simp only [slices_Equal_int_int.l0]
  rw [if_pos (by omega), if_pos (by omega), if_pos (by omega), if_pos (by omega), rd_nat _ _ hlt, rd_nat _ _ (by omega), wrap_succ hlt hn, ih (j + 1) k (by omega) (by omega), List.drop_eq_getElem_cons hlt, List.drop_eq_getElem_cons (hab ▸ hlt : j < b.length)]
  simp only [List.cons.injEq]
  by_cases h : a[j] = b[j]
  ·rw [if_pos h]; simp only [h, true_and]
  ·rw [if_neg h]; simp only [h, false_and, decide_false]
theorem slices_Equal_eq (a b : List Int) (hn : a.length ≤ 4611686018427387904) (k : Nat) (hk : a.length < k) : slices_Equal_int_int.f k a b = some (decide (a = b)) := by
 unfold slices_Equal_int_int.f
 by_cases h : a.length = b.length
 ·rw [if_pos (by omega)]
  have := slices_Equal_l0 a b h hn a.length 0 k (by omega) hk
  simpa using this
 ·rw [if_neg (by omega)]; congr 1; symm; rw [decide_eq_false_iff_not]; intro e; exact h (by rw [e])
theorem impl_EqualFarkas_eq (c : Int) (a : List Int) (c' : Int) (b : List Int) (hn : a.length ≤ 4611686018427387904) (k : Nat) (hk : a.length < k) : impl_EqualFarkas.f k c a c' b = some (decide (c = c' ∧ a = b)) := by
 unfold impl_EqualFarkas.f
 rw [slices_Equal_eq a b hn k hk]
 by_cases h : c = c' <;> by_cases h2 : a = b <;> simp [h, h2]
theorem spec_Fits_eq (n : Int) : spec_Fits.f n = some (fitsB n) := by unfold spec_Fits.f; rw [spec_l1In_eq]; rfl
theorem spec_EvalLin_l0 (c0 : Int) (cs vs : List Int) (hl : cs.length = vs.length) (h8 : vs.length ≤ 8) (hc : ∀ x ∈ cs, okc x = true) : ∀ (d j k : Nat) (s : Int), j + d = vs.length → d < k → -(1000000000 + 1000000000000000 * (j : Int)) ≤ s → s ≤ 1000000000 + 1000000000000000 * (j : Int) →
  spec_EvalLin.l0 k vs s (j : Int) c0 cs = some (if (vs.drop j).all fitsB = true then (s + dot (cs.drop j) (vs.drop j), true) else (0, false)) := by
 intro d
 induction d with
 | zero =>
  intro j k s hj hk h0 h1
  obtain ⟨k, rfl⟩ := succ_of hk
  simp only [spec_EvalLin.l0]
  rw [if_neg (by omega), List.drop_eq_nil_of_le (by omega : vs.length ≤ j)]; simp [dot]
 | succ d ih =>
  intro j k s hj hk h0 h1
  obtain ⟨k, rfl⟩ := succ_of hk
  have hlt : j < vs.length := by omega
  have hlc : j < cs.length := by omega
  simp only [spec_EvalLin.l0]
  rw [if_pos (by omega), if_pos (by omega), rd_nat _ _ hlt, rd_nat _ _ hlc, spec_Fits_eq, Option.bind_some, drop_cons vs j hlt, drop_cons cs j hlc, List.all_cons]
  cases h : fitsB vs[j] with
  | false => simp
  | true =>
   have hb := mul_okc_fits ((okc_iff _).1 (hc _ (List.getElem_mem hlc))) ((fitsB_iff _).1 h)
   rw [if_pos rfl, if_pos (by omega), wrap_id (n := cs[j] * vs[j]) (by omega) (by omega), wrap_id (by omega) (by omega), wrap_succ hlt (by omega), ih (j + 1) k _ (by omega) (by omega) (by omega) (by omega), Bool.true_and]
   simp only [dot]
   rw [Int.add_assoc]
theorem spec_EvalLin_eq (c : Int) (cs vs : List Int) (hn : cs.length ≤ 4611686018427387904) (k : Nat) (hk : cs.length + 10 < k) : spec_EvalLin.f k c cs vs = some (evalLin c cs vs) := by
 unfold spec_EvalLin.f evalLin
 rw [spec_IsValidLin_eq c cs _ hn k (by omega), Option.bind_some]
 cases h : validLin c cs (vs.length : Int) with
 | false => simp
 | true =>
  obtain ⟨h1, h2, h3, h4⟩ := (validLin_iff _ _ _).1 h
  have h3 := (okc_iff _).1 h3
  have := spec_EvalLin_l0 c cs vs (by omega) (by omega) h4 vs.length 0 k c (by omega) (by omega) (by omega) (by omega)
  rw [show ((0 : Nat) : Int) = 0 from rfl, List.drop_zero, List.drop_zero] at this
  rw [if_pos rfl, this]; simp
theorem spec_Satisfies_l1 (n : Int) (rows : List S36) (vs : List Int) (hn : rows.length ≤ 4611686018427387904) (hx : ∀ x ∈ rows, x.f1.length ≤ 1048576) : ∀ (d j k : Nat), j + d = rows.length → d + 1048587 < k →
  spec_Satisfies.l1 k vs (j : Int) n rows = some ((rows.drop j).all fun r => !(decide ((evalLin r.f0 r.f1 vs).1 < 0))) := by
 intro d
 induction d with
 | zero =>
  intro j k hj hk
  obtain ⟨k, rfl⟩ := succ_of hk
  simp only [spec_Satisfies.l1]
  rw [if_neg (by omega), List.drop_eq_nil_of_le (by omega)]; rfl
 | succ d ih =>
  intro j k hj hk
  obtain ⟨k, rfl⟩ := succ_of hk
  have hlt : j < rows.length := by omega
  have hxj := hx _ (List.getElem_mem hlt)
  simp only [spec_Satisfies.l1]
  rw [if_pos (by omega), if_pos (by omega), rd_lin _ _ hlt, spec_EvalLin_eq _ _ _ (by omega) k (by omega), Option.bind_some, wrap_succ hlt hn, ih (j + 1) k (by omega) (by omega), List.drop_eq_getElem_cons hlt, List.all_cons]
  by_cases h : (evalLin rows[j].f0 rows[j].f1 vs).1 < 0
  ·rw [if_pos h]; simp [h]
  ·rw [if_neg h]; simp [h]
theorem spec_Satisfies_l0 (n : Int) (rows : List S36) (vs : List Int) (hn : rows.length ≤ 1048577) (hv : vs.length ≤ 4611686018427387904) (hx : ∀ x ∈ rows, x.f1.length ≤ 1048576) : ∀ (d j k : Nat), j + d = vs.length → d + 2097176 < k →
  spec_Satisfies.l0 k vs (j : Int) n rows = some ((vs.drop j).all fitsB && (validSys n rows && (decide ((vs.length : Int) = n) && rows.all fun r => !(decide ((evalLin r.f0 r.f1 vs).1 < 0))))) := by
 intro d
 induction d with
 | zero =>
  intro j k hj hk
  obtain ⟨k, rfl⟩ := succ_of hk
  simp only [spec_Satisfies.l0]
  rw [if_neg (by omega), List.drop_eq_nil_of_le (by omega), spec_IsValidSystem_eq n rows hn hx k (by omega), Option.bind_some]
  obtain ⟨k, rfl⟩ : ∃ m, k = m + 1 := ⟨k - 1, by omega⟩
  simp only [spec_Satisfies.j1, List.all_nil, Bool.true_and]
  have := spec_Satisfies_l1 n rows vs (by omega) hx rows.length 0 k (by omega) (by omega)
  rw [show ((0 : Nat) : Int) = 0 from rfl, List.drop_zero] at this
  rw [this]
  cases validSys n rows
  ·simp
  ·by_cases h : (vs.length : Int) = n <;> simp [h]
 | succ d ih =>
  intro j k hj hk
  obtain ⟨k, rfl⟩ := succ_of hk
  have hlt : j < vs.length := by omega
  simp only [spec_Satisfies.l0]
  rw [if_pos (by omega), if_pos (by omega), rd_nat _ _ hlt, spec_Fits_eq, Option.bind_some, wrap_succ hlt hv, ih (j + 1) k (by omega) (by omega), List.drop_eq_getElem_cons hlt, List.all_cons]
  cases fitsB vs[j] <;> simp
theorem spec_Satisfies_eq (n : Int) (rows : List S36) (vs : List Int) (hn : rows.length ≤ 1048577) (hv : vs.length ≤ 1048576) (hx : ∀ x ∈ rows, x.f1.length ≤ 1048576) (k : Nat) (hk : 3200000 < k) : spec_Satisfies.f k n rows vs = some (sat n rows vs) := by
 unfold spec_Satisfies.f sat
 have := spec_Satisfies_l0 n rows vs hn (by omega) hx vs.length 0 k (by omega) (by omega)
 rw [show ((0 : Nat) : Int) = 0 from rfl, List.drop_zero] at this
 rw [this]
 cases vs.all fitsB <;> cases validSys n rows <;> simp
theorem farkas_l1 (b : List Int) (hb : b.length ≤ 1048576) (hx : ∀ x ∈ b, 0 ≤ x ∧ x ≤ 255) (n : Int) (rows : List S36) (c : Int) (cs : List Int) (hn : 0 ≤ n ∧ n ≤ 8) (hr : rows.length ≤ 25) (hy : ∀ x ∈ rows, x.f1.length ≤ 1048576) (hc : cs.length ≤ 9) (holds : ∀ vs, sat n rows vs = true → ¬ (evalLin c cs vs).1 < 0) (s : Nat) (hs : s ≤ 7) (K : Nat) (hK : 3300000 < K) (next : ∀ k, K ≤ k → laws_FnFarkas.l0 k b true ((s + 1 : Nat) : Int) n rows c cs = some true) : ∀ (e j k : Nat) (vs : List Int), (j : Int) + e = n → e + K < k → vs.length = j →
  laws_FnFarkas.l1 k b true (s : Int) vs (j : Int) n rows c cs = some true := by
 intro e
 induction e with
 | zero =>
  intro j k vs hj hk hvs
  obtain ⟨k, rfl⟩ := succ_of hk
  simp only [laws_FnFarkas.l1]
  rw [if_neg (by omega), spec_EvalLin_eq _ _ _ (by omega) k (by omega), spec_Satisfies_eq n rows vs (by omega) (by omega) hy k (by omega)]
  simp only [Option.bind_some]
  rw [wrap_succ (n := 10) (by omega) (by omega), next k (by omega)]
  cases h : sat n rows vs
  ·simp
  ·rw [if_pos rfl, if_neg (holds vs h)]
 | succ e ih =>
  intro j k vs hj hk hvs
  obtain ⟨k, rfl⟩ := succ_of hk
  simp only [laws_FnFarkas.l1]
  have es : wrap64 ((s : Int) + (j : Int)) = ((s + j : Nat) : Int) := by clear hK hk next hb; rw [wrap_id (by omega) (by omega)]; omega
  have hb3 : b.length ≤ 140737488351232 := by clear hK hk next hs hj; omega
  have hsj : s + j ≤ 1000 := by clear hK hk next hb; omega
  obtain ⟨t, er, r0, r1⟩ := laws_at0_ex b (s + j) hb3 hx hsj
  rw [if_pos (by omega), es, er, Option.bind_some, if_pos (by omega), wrap_succ (n := 9) (by omega) (by omega)]
  exact ih (j + 1) k _ (by omega) (by omega) (by simp; omega)
theorem farkas_l0 (b : List Int) (hb : b.length ≤ 1048576) (hx : ∀ x ∈ b, 0 ≤ x ∧ x ≤ 255) (n : Int) (rows : List S36) (c : Int) (cs : List Int) (hn : 0 ≤ n ∧ n ≤ 8) (hr : rows.length ≤ 25) (hy : ∀ x ∈ rows, x.f1.length ≤ 1048576) (hc : cs.length ≤ 9) (holds : ∀ vs, sat n rows vs = true → ¬ (evalLin c cs vs).1 < 0) : ∀ (d s k : Nat), s + d = 8 → 3300010 + 20 * d < k →
  laws_FnFarkas.l0 k b true (s : Int) n rows c cs = some true := by
 intro d
 induction d with
 | zero =>
  intro s k hs hk
  obtain ⟨k, rfl⟩ := succ_of hk
  simp only [laws_FnFarkas.l0]
  rw [if_neg (by omega)]
  obtain ⟨k, rfl⟩ : ∃ m, k = m + 1 := ⟨k - 1, by omega⟩
  simp only [laws_FnFarkas.j2]
  rw [if_neg (by simp)]
 | succ d ih =>
  intro s k hs hk
  obtain ⟨k, rfl⟩ := succ_of hk
  simp only [laws_FnFarkas.l0]
  rw [if_pos (by omega)]
  obtain ⟨k, rfl⟩ : ∃ m, k = m + 1 := ⟨k - 1, by omega⟩
  simp only [laws_FnFarkas.j2, if_true]
  exact farkas_l1 b hb hx n rows c cs hn hr hy hc holds s (by omega) (3300011 + 20 * d) (by omega) (fun k' hk' => ih (s + 1) k' (by omega) (by omega)) n.toNat 0 k [] (by omega) (by omega) rfl
theorem FnFarkas : laws_FnFarkas.Pure := by
 intro b hb hb2 hu
 have hx : ∀ x ∈ b, 0 ≤ x ∧ x ≤ 255 := fun x h => lit_u8 (hu x h)
 refine ⟨4999999 + b.length + 1, ?_⟩
 unfold laws_FnFarkas.f laws_big.f
 rw [Option.bind_some]
 split
 ·rfl
 rename_i hbig
 simp only [decide_eq_true_eq] at hbig
 obtain ⟨n, rows, c, cs, m, ms, e1, h1, h2, h3, h4⟩ := spec_DrawCheckFarkas_ex b (by omega) (4999999 + b.length + 1) (by omega) (by omega)
 have hy : ∀ x ∈ rows, x.f1.length ≤ 1048576 := fun x h => by have := h2 x h; omega
 rw [e1]; simp only [Option.bind_some]
 rw [impl_CheckFarkas_eq n rows c cs m ms (by omega) hy (by omega) (by omega) _ (by omega), spec_CheckFarkas_eq n rows c cs m ms (by omega) hy (by omega) _ (by omega)]; simp only [Option.bind_some, bne_self_eq_false, Bool.false_eq_true, if_false]
 rw [impl_EqualFarkas_eq _ _ _ _ (by omega) _ (by omega)]
 simp only [Option.bind_some, and_self, decide_true, Bool.not_true, laws_FnFarkas.j0, Bool.false_eq_true, if_false]
 cases hf : checkFarkas n rows c cs m ms
 ·obtain ⟨k, hk⟩ : ∃ k, 4999999 + b.length = k + 1 + 1 := ⟨4999997 + b.length, by omega⟩
  rw [hk]
  simp only [laws_FnFarkas.l0, laws_FnFarkas.j2]
  rw [if_pos (by omega), if_neg (by simp)]
 ·have hv : validSys n rows = true := by
   unfold checkFarkas at hf
   split at hf
   ·rename_i h; exact combine_valid h.1
   ·cases hf
  exact farkas_l0 b (by omega) hx n rows c cs ((validSys_iff _ _).1 hv).1 h1 hy h3 (fun vs hs => farkas_holds hf hs) 8 0 (4999999 + b.length) (by omega) (by omega)
end Go.Proofs.Ytelgmnlkkhikfaa.Pure
