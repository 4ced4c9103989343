/- What is entailed holds at every point of the system, and what is not entailed is not entailed by the reference: the law FnEntailed returns true at every draw. -/
import Derived.Test.YtlencemmlgkflaaQFnEntailedx19
namespace Go.Proofs.Ytlencemmlgkflaa.Pure
open Go.RowKit Go.Proofs.YtlencemmlgkflaaV.PrintWords Go.Proofs.YtlencemmlgkflaaV.PrintLast Go.Proofs.YtlencemmlgkflaaV.PrintMore Go.Proofs.Ytlencemmlgkflaa.QFnEntailed
set_option linter.unusedVariables false
set_option linter.unusedSimpArgs false
theorem wrap_id {n : Int} (h0 : -9223372036854775808 ≤ n) (h1 : n ≤ 9223372036854775807) : wrap64 n = n := by
 unfold wrap64; omega
theorem wrap_succ {j n : Nat} (h : j < n) (hn : n ≤ 4611686018427387904) : wrap64 ((j : Int) + 1) = ((j + 1 : Nat) : Int) := by
 unfold wrap64; omega
theorem succ_of {d k : Nat} (h : d < k) : ∃ m, k = m + 1 := ⟨k - 1, by omega⟩
theorem rd_nat (xs : List Int) (j : Nat) (h : j < xs.length) : rd xs (j : Int) = xs[j] := by
 unfold rd; rw [Int.toNat_natCast, List.getD_eq_getElem?_getD, List.getElem?_eq_getElem h]; rfl
def Cur (b : List Int) (i : Int) : Prop := 0 ≤ i ∧ i ≤ (b.length : Int) ∧ b.length ≤ 140737488351232
theorem and255 (x : Int) : 0 ≤ Go.bits .and .i64 x 255 ∧ Go.bits .and .i64 x 255 ≤ 255 := by
 have h : (BitVec.ofInt 64 x &&& BitVec.ofInt 64 255).toNat ≤ 255 := by rw [BitVec.toNat_and]; exact Nat.le_trans Nat.and_le_right (by decide)
 have e : Go.bits .and .i64 x 255 = IntKind.i64.wrap (((BitVec.ofInt 64 x &&& BitVec.ofInt 64 255).toNat : Nat) : Int) := rfl
 rw [e, IntKind.wrap_i64]
 omega
theorem spec_l1New_l0 (b : List Int) (hb : b.length ≤ 140737488351232) : ∀ (d j k : Nat) (h : Int), j + d = b.length → d < k → ∃ h', spec_l1New.l0 k b h (j : Int) = some (b, 0, h') := by
 intro d
 induction d with
 | zero =>
  intro j k h hj hk
  obtain ⟨k, rfl⟩ := succ_of hk
  simp only [spec_l1New.l0]
  rw [if_neg (by omega)]
  exact ⟨_, rfl⟩
 | succ d ih =>
  intro j k h hj hk
  obtain ⟨k, rfl⟩ := succ_of hk
  have hlt : j < b.length := by omega
  simp only [spec_l1New.l0]
  rw [if_pos (by omega)]
  by_cases h4 : (j : Int) < 4000
  ·rw [if_pos h4, if_pos (by omega), wrap_succ hlt (by omega)]
   exact ih (j + 1) k _ (by omega) (by omega)
  ·rw [if_neg h4]; exact ⟨_, rfl⟩
theorem spec_l1New_ex (b : List Int) (hb : b.length ≤ 140737488351232) (k : Nat) (hk : b.length < k) : ∃ h', spec_l1New.f k b = some (b, 0, h') := by
 unfold spec_l1New.f
 exact spec_l1New_l0 b hb b.length 0 k _ (by omega) hk
theorem cur_zero (b : List Int) (hb : b.length ≤ 140737488351232) : Cur b 0 := ⟨Int.le_refl _, by omega, hb⟩
theorem spec_l1Byte_ex (b : List Int) (i h : Int) (hc : Cur b i) : ∃ r i' h', spec_l1Byte.f b i h = some (r, i', h') ∧ 0 ≤ r ∧ r ≤ 255 ∧ Cur b i' := by
 obtain ⟨h0, h1, h2⟩ := hc
 unfold spec_l1Byte.f
 by_cases hlt : i < (b.length : Int)
 ·rw [if_pos hlt, if_pos h0]
  refine ⟨_, _, _, rfl, (and255 _).1, (and255 _).2, ?_⟩
  rw [wrap_id (by omega) (by omega)]
  exact ⟨by omega, by omega, h2⟩
 ·rw [if_neg hlt]
  exact ⟨_, _, _, rfl, (and255 _).1, (and255 _).2, h0, h1, h2⟩
theorem spec_l1Below_ex (b : List Int) (i h n : Int) (hc : Cur b i) : ∃ r i' h', spec_l1Below.f b i h n = some (r, i', h') ∧ 0 ≤ r ∧ (0 < n → r < n) ∧ (n ≤ 0 → r = 0) ∧ Cur b i' := by
 unfold spec_l1Below.f
 by_cases h0 : n ≤ 0
 ·rw [if_pos h0]; exact ⟨0, _, _, rfl, by omega, by omega, fun _ => rfl, hc⟩
 rw [if_neg h0]
 by_cases h1 : n ≤ 256
 ·rw [if_pos h1]
  obtain ⟨r, i', h', e, r0, r1, c1⟩ := spec_l1Byte_ex b i h hc
  rw [e]; simp only [Option.bind_some]
  rw [if_neg (by omega)]
  exact ⟨_, _, _, rfl, Int.tmod_nonneg _ r0, fun _ => Int.tmod_lt_of_pos _ (by omega), by omega, c1⟩
 ·rw [if_neg h1]
  obtain ⟨x, i1, g1, e1, x0, x1, c1⟩ := spec_l1Byte_ex b i h hc
  rw [e1]; simp only [Option.bind_some]
  obtain ⟨y, i2, g2, e2, y0, y1, c2⟩ := spec_l1Byte_ex b i1 g1 c1
  rw [e2]; simp only [Option.bind_some]
  obtain ⟨z, i3, g3, e3, z0, z1, c3⟩ := spec_l1Byte_ex b i2 g2 c2
  rw [e3]; simp only [Option.bind_some]
  obtain ⟨u, i4, g4, e4, u0, u1, c4⟩ := spec_l1Byte_ex b i3 g3 c3
  rw [e4]; simp only [Option.bind_some]
  rw [if_neg (by omega)]
  refine ⟨_, _, _, rfl, Int.tmod_nonneg _ ?_, fun _ => Int.tmod_lt_of_pos _ (by omega), by omega, c4⟩
  unfold wrap64; omega
theorem spec_l1PickInt_ex (b : List Int) (i h : Int) (l : List Int) (hl : 0 < l.length) (hc : Cur b i) : ∃ r i' h', spec_l1PickInt.f b i h l = some (r, i', h') ∧ r ∈ l ∧ Cur b i' := by
 unfold spec_l1PickInt.f
 obtain ⟨r, i', h', e, r0, r1, _, c1⟩ := spec_l1Below_ex b i h (l.length : Int) hc
 have r1 := r1 (by omega)
 rw [e]; simp only [Option.bind_some]
 rw [if_pos r0, if_pos r1]
 refine ⟨_, _, _, rfl, ?_, c1⟩
 have hlt : r.toNat < l.length := by omega
 have := rd_nat l r.toNat hlt
 rw [Int.toNat_of_nonneg r0] at this
 rw [this]; exact List.getElem_mem hlt
theorem spec_l4Small_ex (b : List Int) (i h : Int) (hc : Cur b i) : ∃ r i' h', spec_l4Small.f b i h = some (r, i', h') ∧ (-2 ≤ r ∧ r ≤ 3) ∧ Cur b i' := by
 unfold spec_l4Small.f
 obtain ⟨r, i', h', e, hm, c1⟩ := spec_l1PickInt_ex b i h [0, 0, 1, (-1), 1, 2, (-2), 3] (by simp) hc
 rw [e]; simp only [Option.bind_some]
 refine ⟨_, _, _, rfl, ?_, c1⟩
 simp only [List.mem_cons, List.not_mem_nil, or_false] at hm
 omega
theorem spec_l4Draw_l0 (b : List Int) (n : Nat) (hn : n ≤ 4611686018427387904) (c : Int) : ∀ (d j k : Nat) (i h : Int) (r : List Int), j + d = n → d < k → r.length = n → Cur b i → (∀ x ∈ r, -2 ≤ x ∧ x ≤ 3) →
  ∃ r' i' h', spec_l4Draw.l0 k (n : Int) (j : Int) b i h c r = some (c, r', i', h') ∧ r'.length = n ∧ Cur b i' ∧ (∀ x ∈ r', -2 ≤ x ∧ x ≤ 3) := by
 intro d
 induction d with
 | zero =>
  intro j k i h r hj hk hr hc hx
  obtain ⟨k, rfl⟩ := succ_of hk
  simp only [spec_l4Draw.l0]
  rw [if_neg (by omega)]
  exact ⟨_, _, _, rfl, hr, hc, hx⟩
 | succ d ih =>
  intro j k i h r hj hk hr hc hx
  obtain ⟨k, rfl⟩ := succ_of hk
  simp only [spec_l4Draw.l0]
  obtain ⟨x, i1, h1, e1, hb1, c1⟩ := spec_l4Small_ex b i h hc
  rw [if_pos (by omega), e1]; simp only [Option.bind_some]
  rw [if_pos (by omega), if_pos (by omega), wrap_succ (n := n) (by omega) hn]
  refine ih (j + 1) k _ _ _ (by omega) (by omega) (by simpa using hr) c1 ?_
  intro y hy
  rcases List.mem_or_eq_of_mem_set hy with h | rfl
  ·exact hx y h
  ·exact hb1
theorem spec_l4Draw_ex (b : List Int) (i h n : Int) (hc : Cur b i) (h0 : 0 ≤ n) (h1 : n ≤ 35184372088832) (k : Nat) (hk : n < k) :
  ∃ c r i' h', spec_l4Draw.f k b i h n = some (c, r, i', h') ∧ (r.length : Int) = n ∧ Cur b i' ∧ (∀ x ∈ r, -2 ≤ x ∧ x ≤ 3) ∧ (-4 ≤ c ∧ c ≤ 4) := by
 unfold spec_l4Draw.f
 obtain ⟨x, i1, g1, e1, x0, x1, _, c1⟩ := spec_l1Below_ex b i h 9 hc
 have x1 := x1 (by omega)
 rw [e1]; simp only [Option.bind_some]
 rw [if_pos h0, if_pos (by omega), wrap_id (by omega) (by omega)]
 obtain ⟨r, i2, g2, e2, hl, c2, hx⟩ := spec_l4Draw_l0 b n.toNat (by omega) (x - 4) n.toNat 0 k i1 g1 (List.replicate n.toNat 0) (by omega) (by omega) (by simp) c1 (by intro y hy; rw [(List.mem_replicate.1 hy).2]; omega)
 rw [show ((n.toNat : Nat) : Int) = n by omega, show ((0 : Nat) : Int) = 0 from rfl] at e2
 rw [e2]
 exact ⟨_, _, _, _, rfl, by omega, c2, hx, by omega⟩
instance linDec : DecidableEq S29 := fun a b => decidable_of_iff (a.f0 = b.f0 ∧ a.f1 = b.f1) ⟨fun h => by cases a; cases b; simp only at h; rw [h.1, h.2], fun h => by rw [h]; exact ⟨rfl, rfl⟩⟩
theorem rd_lin (xs : List S29) (j : Nat) (h : j < xs.length) : rd_T29 xs (j : Int) = xs[j] := by
 unfold rd_T29; rw [Int.toNat_natCast, List.getD_eq_getElem?_getD, List.getElem?_eq_getElem h]; rfl
theorem spec_l6Draw_l0 (b : List Int) (n : Int) (h0 : 0 ≤ n) (h3 : n ≤ 9) (m : Int) (hm : 0 ≤ m ∧ m ≤ 5) : ∀ (d : Nat) (j : Int) (k : Nat) (i h : Int) (acc : List S29), j + (d : Int) = m → 0 ≤ j → d + 20 < k → (acc.length : Int) = j → Cur b i → (∀ x ∈ acc, x.f1.length ≤ 9) →
  ∃ acc' i' h', spec_l6Draw.l0 k n m j b i h n acc = some (n, acc', i', h') ∧ (acc'.length : Int) = m ∧ Cur b i' ∧ (∀ x ∈ acc', x.f1.length ≤ 9) := by
 intro d
 induction d with
 | zero =>
  intro j k i h acc hj hj0 hk ha hc hx
  obtain ⟨k, rfl⟩ := succ_of hk
  simp only [spec_l6Draw.l0]
  rw [if_neg (by omega)]
  exact ⟨_, _, _, rfl, by omega, hc, hx⟩
 | succ d ih =>
  intro j k i h acc hj hj0 hk ha hc hx
  obtain ⟨k, rfl⟩ := succ_of hk
  simp only [spec_l6Draw.l0]
  obtain ⟨c, r, i1, h1, e1, hl, c1, _, _⟩ := spec_l4Draw_ex b i h n hc h0 (by omega) k (by omega)
  rw [if_pos (by omega), e1]; simp only [Option.bind_some]
  rw [if_pos (by omega), wrap_id (by omega) (by omega)]
  refine ih (j + 1) k i1 h1 _ (by omega) (by omega) (by omega) (by simp; omega) c1 ?_
  intro x hx2
  rcases List.mem_append.1 hx2 with h2 | h2
  ·exact hx x h2
  ·rw [List.mem_singleton.1 h2]; simp only; omega
theorem spec_l6Draw_ex (b : List Int) (i h n : Int) (hc : Cur b i) (h0 : 0 ≤ n) (h3 : n ≤ 9) (k : Nat) (hk : 40 < k) :
  ∃ rows i' h', spec_l6Draw.f k b i h n = some (n, rows, i', h') ∧ rows.length ≤ 5 ∧ Cur b i' ∧ (∀ x ∈ rows, x.f1.length ≤ 9) := by
 unfold spec_l6Draw.f
 obtain ⟨m, i1, g1, e1, x0, x1, _, c1⟩ := spec_l1Below_ex b i h 5 hc
 have x1 := x1 (by omega)
 rw [e1]; simp only [Option.bind_some]
 obtain ⟨rows, i2, g2, e2, hl, c2, hx⟩ := spec_l6Draw_l0 b n h0 h3 m (by omega) m.toNat 0 k i1 g1 [] (by omega) (by omega) (by omega) rfl c1 (by simp)
 rw [e2]
 exact ⟨_, _, _, rfl, by omega, c2, hx⟩
theorem spec_l3Any_ex (b : List Int) (i h : Int) (hc : Cur b i) : ∃ r i' h', spec_l3Any.f b i h = some (r, i', h') ∧ (-9223372036854775808 ≤ r ∧ r ≤ 9223372036854775807) ∧ Cur b i' := by
 unfold spec_l3Any.f
 obtain ⟨r, i', h', e, hm, c1⟩ := spec_l1PickInt_ex b i h [0, 1, (-1), 2, 5, (-6), 12, 1000000, (-1000001), 1000000000, (-1000000000), 1000000001, 40000, 9223372036854775807, (-9223372036854775808)] (by simp) hc
 rw [e]; simp only [Option.bind_some]
 refine ⟨_, _, _, rfl, ?_, c1⟩
 simp only [List.mem_cons, List.not_mem_nil, or_false] at hm
 omega
theorem spec_l4Bent_ex (b : List Int) (i h : Int) (hc : Cur b i) (k : Nat) (hk : 20 < k) :
  ∃ c r i' h', spec_l4Bent.f k b i h = some (c, r, i', h') ∧ r.length ≤ 9 ∧ Cur b i' := by
 unfold spec_l4Bent.f
 obtain ⟨n, i1, g1, e1, n0, n1, _, c1⟩ := spec_l1Below_ex b i h 4 hc
 have n1 := n1 (by omega)
 rw [e1]; simp only [Option.bind_some]
 obtain ⟨c, r, i2, g2, e2, hl, c2, _, _⟩ := spec_l4Draw_ex b i1 g1 n c1 n0 (by omega) k (by omega)
 rw [e2]; simp only [Option.bind_some]
 obtain ⟨m, i3, g3, e3, _, _, _, c3⟩ := spec_l1Below_ex b i2 g2 10 c2
 rw [e3]; simp only [Option.bind_some]
 obtain ⟨x, i4, g4, e4, _, c4⟩ := spec_l3Any_ex b i3 g3 c3
 split
 ·rw [e4]; simp only [Option.bind_some]
  exact ⟨_, _, _, _, rfl, by omega, c4⟩
 split
 ·rw [e4]; simp only [Option.bind_some]
  rw [if_pos (by omega)]
  exact ⟨_, _, _, _, rfl, by simp; omega, c4⟩
 split
 ·rw [if_pos (by omega)]
  exact ⟨_, _, _, _, rfl, by simp, c3⟩
 ·exact ⟨_, _, _, _, rfl, by omega, c3⟩
def okc (n : Int) : Bool := decide (-1000000000 ≤ n ∧ n ≤ 1000000000)
theorem okc_iff (n : Int) : okc n = true ↔ -1000000000 ≤ n ∧ n ≤ 1000000000 := by unfold okc; exact decide_eq_true_iff
def constLin (k n : Int) : Int × List Int := if (0 ≤ n ∧ n ≤ 8) ∧ okc k = true then (k, List.replicate n.toNat 0) else (0, [])
theorem spec_l1In_eq (a b c : Int) : spec_l1In.f a b c = some (decide (b ≤ a ∧ a ≤ c)) := by
 unfold spec_l1In.f
 by_cases h : a ≥ b
 ·rw [if_pos h]; congr 1; rw [decide_eq_decide]; omega
 ·rw [if_neg h]; congr 1; symm; rw [decide_eq_false_iff_not]; omega
theorem spec_l3In_eq (n : Int) : spec_l3In.f n = some (okc n) := by unfold spec_l3In.f; rw [spec_l1In_eq]; rfl
theorem spec_ConstLin_eq (k n : Int) : spec_ConstLin.f k n = some (constLin k n) := by
 unfold spec_ConstLin.f constLin
 rw [spec_l1In_eq, spec_l3In_eq]; simp only [Option.bind_some, decide_eq_true_eq]
 by_cases h : 0 ≤ n ∧ n ≤ 8
 ·have h3 : n.toNat ≤ 35184372088832 := by omega
  rw [if_pos h, if_pos h.1, if_pos h3]; cases h2 : okc k
  ·rw [if_neg (by simp), if_neg (by simp)]
  ·rw [if_pos rfl, if_pos ⟨h, rfl⟩]
 ·rw [if_neg h, if_neg (fun e => h e.1)]
theorem spec_l6Bent_l0 (b : List Int) (n : Int) : ∀ (d : Nat) (j : Int) (k : Nat) (i h : Int) (acc : List S29), j + (d : Int) = 20 → 0 ≤ j → d < k → acc.length ≤ 5 + j.toNat → (∀ x ∈ acc, x.f1.length ≤ 9) →
  ∃ acc', spec_l6Bent.l0 k j b i h n acc = some (n, acc', i, h) ∧ acc'.length ≤ 25 ∧ (∀ x ∈ acc', x.f1.length ≤ 9) := by
 intro d
 induction d with
 | zero =>
  intro j k i h acc hj hj0 hk ha hx
  obtain ⟨k, rfl⟩ := succ_of hk
  simp only [spec_l6Bent.l0]
  rw [if_neg (by omega)]
  exact ⟨_, rfl, by omega, hx⟩
 | succ d ih =>
  intro j k i h acc hj hj0 hk ha hx
  obtain ⟨k, rfl⟩ := succ_of hk
  simp only [spec_l6Bent.l0]
  rw [if_pos (by omega), spec_ConstLin_eq, Option.bind_some, if_pos (by omega), wrap_id (by omega) (by omega)]
  refine ih (j + 1) k i h _ (by omega) (by omega) (by omega) (by simp; omega) ?_
  intro x hx2
  rcases List.mem_append.1 hx2 with h2 | h2
  ·exact hx x h2
  ·rw [List.mem_singleton.1 h2]; simp only
   unfold constLin; split
   ·simp; omega
   ·simp
theorem spec_l6Bent_ex (b : List Int) (i h : Int) (hc : Cur b i) (k : Nat) (hk : 60 < k) :
  ∃ n rows i' h', spec_l6Bent.f k b i h = some (n, rows, i', h') ∧ rows.length ≤ 25 ∧ Cur b i' ∧ (∀ x ∈ rows, x.f1.length ≤ 9) ∧ (-1 ≤ n ∧ n ≤ 9) := by
 unfold spec_l6Bent.f
 obtain ⟨n, i1, g1, e1, n0, n1, _, c1⟩ := spec_l1Below_ex b i h 4 hc
 have n1 := n1 (by omega)
 rw [e1]; simp only [Option.bind_some]
 obtain ⟨rows, i2, g2, e2, hl, c2, hx⟩ := spec_l6Draw_ex b i1 g1 n c1 n0 (by omega) k (by omega)
 rw [e2]; simp only [Option.bind_some]
 obtain ⟨m, i3, g3, e3, _, _, _, c3⟩ := spec_l1Below_ex b i2 g2 16 c2
 rw [e3]; simp only [Option.bind_some]
 split
 ·obtain ⟨r, i4, g4, e4, hm, c4⟩ := spec_l1PickInt_ex b i3 g3 [(-1), 9, wrap64 (n + 1)] (by simp) c3
  rw [e4]; simp only [Option.bind_some]
  refine ⟨_, _, _, _, rfl, by omega, c4, hx, ?_⟩
  rw [wrap_id (by omega) (by omega)] at hm
  simp only [List.mem_cons, List.not_mem_nil, or_false] at hm
  omega
 split
 ·obtain ⟨c, cs, i4, g4, e4, hl4, c4⟩ := spec_l4Bent_ex b i3 g3 c3 k (by omega)
  rw [e4]; simp only [Option.bind_some]
  rw [if_pos (by omega)]
  refine ⟨_, _, _, _, rfl, by simp; omega, c4, ?_, by omega⟩
  intro x hx2
  rcases List.mem_append.1 hx2 with h2 | h2
  ·exact hx x h2
  ·rw [List.mem_singleton.1 h2]; exact hl4
 split
 ·obtain ⟨acc, e4, hl4, hx4⟩ := spec_l6Bent_l0 b n 20 0 k i3 g3 rows (by omega) (by omega) (by omega) (by simpa using hl) hx
  rw [e4]
  exact ⟨_, _, _, _, rfl, hl4, c3, hx4, by omega⟩
 ·exact ⟨_, _, _, _, rfl, by omega, c3, hx, by omega⟩
theorem minMax_ex (n : Int) : ∃ t q, spec_l1Max.f n 0 = some t ∧ spec_l1Min.f t 9 = some q ∧ 0 ≤ q ∧ q ≤ 9 := by
 unfold spec_l1Max.f spec_l1Min.f
 by_cases h : n > 0
 ·rw [if_pos h]
  by_cases h9 : n < 9
  ·exact ⟨_, _, rfl, by rw [if_pos h9], by omega, by omega⟩
  ·exact ⟨_, _, rfl, by rw [if_neg h9], by omega, by omega⟩
 ·rw [if_neg h]; exact ⟨_, _, rfl, by rw [if_pos (by omega)], by omega, by omega⟩
theorem spec_l1Once_ex (b : List Int) (i h n : Int) (hc : Cur b i) : ∃ r i' h', spec_l1Once.f b i h n = some (r, i', h') ∧ Cur b i' := by
 unfold spec_l1Once.f
 obtain ⟨r, i', h', e, _, _, _, c1⟩ := spec_l1Below_ex b i h n hc
 rw [e]; simp only [Option.bind_some]
 exact ⟨_, _, _, rfl, c1⟩
theorem spec_l7Mult_l0 (b : List Int) (n : Int) (hn : n ≤ 1000) : ∀ (d : Nat) (j : Int) (k : Nat) (i h : Int) (acc : List Int), j + (d : Int) = n → 0 ≤ j → d < k → (acc.length : Int) = j → Cur b i →
  ∃ acc' i' h', spec_l7Mult.l0 k n acc j b i h = some (acc', i', h') ∧ (acc'.length : Int) = n ∧ Cur b i' := by
 intro d
 induction d with
 | zero =>
  intro j k i h acc hj hj0 hk ha hc
  obtain ⟨k, rfl⟩ := succ_of hk
  simp only [spec_l7Mult.l0]
  rw [if_neg (by omega)]
  obtain ⟨r, i1, h1, e1, c1⟩ := spec_l1Once_ex b i h 12 hc
  obtain ⟨x, i2, h2, e2, _, c2⟩ := spec_l1PickInt_ex b i1 h1 [(-1), 1000000000, 1000000001] (by simp) c1
  by_cases h0 : n > 0
  ·rw [if_pos h0, e1]; simp only [Option.bind_some]
   cases r
   ·exact ⟨_, _, _, rfl, by omega, c1⟩
   ·rw [if_pos rfl, e2]; simp only [Option.bind_some]
    rw [if_pos (by omega)]
    exact ⟨_, _, _, rfl, by simp; omega, c2⟩
  ·rw [if_neg h0]
   exact ⟨_, _, _, rfl, by omega, hc⟩
 | succ d ih =>
  intro j k i h acc hj hj0 hk ha hc
  obtain ⟨k, rfl⟩ := succ_of hk
  simp only [spec_l7Mult.l0]
  obtain ⟨r, i1, h1, e1, _, c1⟩ := spec_l1PickInt_ex b i h [0, 0, 1, 1, 2] (by simp) hc
  rw [if_pos (by omega), e1]; simp only [Option.bind_some]
  rw [if_pos (by omega), wrap_id (by omega) (by omega)]
  exact ih (j + 1) k _ _ _ (by omega) (by omega) (by omega) (by simp; omega) c1
theorem spec_l7Mult_ex (b : List Int) (i h n : Int) (hc : Cur b i) (h0 : 0 ≤ n) (hn : n ≤ 1000) (k : Nat) (hk : 1001 < k) :
  ∃ ms i' h', spec_l7Mult.f k b i h n = some (ms, i', h') ∧ (ms.length : Int) = n ∧ Cur b i' := by
 unfold spec_l7Mult.f
 exact spec_l7Mult_l0 b n hn n.toNat 0 k i h [] (by omega) (by omega) (by omega) rfl hc
def validLin (c : Int) (cs : List Int) (n : Int) : Bool := decide (0 ≤ n ∧ n ≤ 8) && (decide ((cs.length : Int) = n) && (okc c && cs.all okc))
theorem validLin_iff (c : Int) (cs : List Int) (n : Int) : validLin c cs n = true ↔ (0 ≤ n ∧ n ≤ 8) ∧ (cs.length : Int) = n ∧ okc c = true ∧ ∀ x ∈ cs, okc x = true := by
 unfold validLin; simp only [Bool.and_eq_true, decide_eq_true_eq, List.all_eq_true]
theorem any_not_all {α : Type} (p : α → Bool) (xs : List α) : (!(xs.any fun c => !(p c))) = xs.all p := by
 induction xs with
 | nil => rfl
 | cons x xs ih => simp only [List.any_cons, List.all_cons, Bool.not_or, Bool.not_not, ih]
def validSys (n : Int) (rows : List S29) : Bool := decide (0 ≤ n ∧ n ≤ 8) && (decide (rows.length ≤ 20) && rows.all fun r => validLin r.f0 r.f1 n)
theorem validSys_iff (n : Int) (rows : List S29) : validSys n rows = true ↔ (0 ≤ n ∧ n ≤ 8) ∧ rows.length ≤ 20 ∧ ∀ r ∈ rows, validLin r.f0 r.f1 n = true := by
 unfold validSys; simp only [Bool.and_eq_true, decide_eq_true_eq, List.all_eq_true]
def addLim (x y : Int) : Int × Bool := if okc x = true then (if okc y = true then (if okc (wrap64 (x + y)) = true then (wrap64 (x + y), true) else (0, false)) else (0, false)) else (0, false)
def mulLim (x y : Int) : Int × Bool := if okc x = true then (if okc y = true then (if okc (wrap64 (x * y)) = true then (wrap64 (x * y), true) else (0, false)) else (0, false)) else (0, false)
def fitsB (n : Int) : Bool := decide (-1000000 ≤ n ∧ n ≤ 1000000)
theorem fitsB_iff (n : Int) : fitsB n = true ↔ -1000000 ≤ n ∧ n ≤ 1000000 := by unfold fitsB; exact decide_eq_true_iff
theorem mul_bound {a b A B : Int} (ha : -A ≤ a ∧ a ≤ A) (hb : -B ≤ b ∧ b ≤ B) : -(A * B) ≤ a * b ∧ a * b ≤ A * B := by
 have h : (a * b).natAbs ≤ A.natAbs * B.natAbs := by rw [Int.natAbs_mul]; exact Nat.mul_le_mul (by omega) (by omega)
 have e : (A.natAbs * B.natAbs : Nat) = (A * B).natAbs := by rw [Int.natAbs_mul]
 have hA : 0 ≤ A := by omega
 have hB : 0 ≤ B := by omega
 have : 0 ≤ A * B := Int.mul_nonneg hA hB
 omega
theorem mul_okc_fits {a b : Int} (ha : -1000000000 ≤ a ∧ a ≤ 1000000000) (hb : -1000000 ≤ b ∧ b ≤ 1000000) : -1000000000000000 ≤ a * b ∧ a * b ≤ 1000000000000000 := by
 have := mul_bound (A := 1000000000) (B := 1000000) ha hb; omega
theorem mul_okc {a b : Int} (ha : -1000000000 ≤ a ∧ a ≤ 1000000000) (hb : -1000000000 ≤ b ∧ b ≤ 1000000000) : -1000000000000000000 ≤ a * b ∧ a * b ≤ 1000000000000000000 := by
 have := mul_bound (A := 1000000000) (B := 1000000000) ha hb; omega
def scOk (x k y : Int) : Bool := (mulLim k y).2 && (addLim x (mulLim k y).1).2
def scVal (x k y : Int) : Int := (addLim x (mulLim k y).1).1
def scVal' (x k y : Int) : Int := if (mulLim k y).2 = true then scVal x k y else 0
theorem mulLim_iff (x y : Int) : (mulLim x y).2 = true ↔ okc x = true ∧ okc y = true ∧ okc (x * y) = true := by
 unfold mulLim
 by_cases h1 : okc x = true
 ·by_cases h2 : okc y = true
  ·have b := mul_okc ((okc_iff _).1 h1) ((okc_iff _).1 h2)
   rw [wrap_id (by omega) (by omega)]
   by_cases h3 : okc (x * y) = true <;> simp [h1, h2, h3]
  ·simp [h1, h2]
 ·simp [h1]
theorem mulLim_val {x y : Int} (h : (mulLim x y).2 = true) : (mulLim x y).1 = x * y := by
 obtain ⟨h1, h2, h3⟩ := (mulLim_iff x y).1 h
 have b := mul_okc ((okc_iff _).1 h1) ((okc_iff _).1 h2)
 unfold mulLim
 rw [wrap_id (by omega) (by omega), if_pos h1, if_pos h2, if_pos h3]
theorem addLim_iff (x y : Int) : (addLim x y).2 = true ↔ okc x = true ∧ okc y = true ∧ okc (x + y) = true := by
 unfold addLim
 by_cases h1 : okc x = true
 ·by_cases h2 : okc y = true
  ·have b1 := (okc_iff _).1 h1
   have b2 := (okc_iff _).1 h2
   rw [wrap_id (by omega) (by omega)]
   by_cases h3 : okc (x + y) = true <;> simp [h1, h2, h3]
  ·simp [h1, h2]
 ·simp [h1]
theorem addLim_val {x y : Int} (h : (addLim x y).2 = true) : (addLim x y).1 = x + y := by
 obtain ⟨h1, h2, h3⟩ := (addLim_iff x y).1 h
 have b1 := (okc_iff _).1 h1
 have b2 := (okc_iff _).1 h2
 unfold addLim
 rw [wrap_id (by omega) (by omega), if_pos h1, if_pos h2, if_pos h3]
theorem scOk_iff (x k y : Int) : scOk x k y = true ↔ (okc k = true ∧ okc y = true ∧ okc (k * y) = true) ∧ (okc x = true ∧ okc (x + k * y) = true) := by
 unfold scOk
 rw [Bool.and_eq_true, mulLim_iff]
 constructor
 ·rintro ⟨h1, h2⟩
  rw [mulLim_val ((mulLim_iff _ _).2 h1), addLim_iff] at h2
  exact ⟨h1, h2.1, h2.2.2⟩
 ·rintro ⟨h1, h2, h3⟩
  refine ⟨h1, ?_⟩
  rw [mulLim_val ((mulLim_iff _ _).2 h1), addLim_iff]
  exact ⟨h2, h1.2.2, h3⟩
theorem scVal_val {x k y : Int} (h : scOk x k y = true) : scVal x k y = x + k * y := by
 unfold scOk at h
 rw [Bool.and_eq_true] at h
 unfold scVal
 rw [addLim_val h.2, mulLim_val h.1]
theorem scVal'_val {x k y : Int} (h : scOk x k y = true) : scVal' x k y = scVal x k y := by
 unfold scOk at h
 rw [Bool.and_eq_true] at h
 unfold scVal'; rw [if_pos h.1]
def okAll (k : Int) : List Int → List Int → Bool
 | x :: xs, y :: ys => scOk x k y && okAll k xs ys
 | _, _ => true
def vals (k : Int) : List Int → List Int → List Int := List.zipWith fun x y => scVal x k y
def vals' (k : Int) : List Int → List Int → List Int := List.zipWith fun x y => scVal' x k y
theorem vals'_vals (k : Int) : ∀ xs ys : List Int, okAll k xs ys = true → vals' k xs ys = vals k xs ys := by
 intro xs
 induction xs with
 | nil => intro ys _; simp [vals, vals']
 | cons x xs ih =>
  intro ys h
  cases ys with
  | nil => simp [vals, vals']
  | cons y ys =>
   simp only [okAll, Bool.and_eq_true] at h
   have := ih ys h.2
   unfold vals vals' at this ⊢
   rw [List.zipWith_cons_cons, List.zipWith_cons_cons, scVal'_val h.1, this]
def addSc (c : Int) (cs : List Int) (k : Int) (d : Int) (ds : List Int) : Int × List Int × Bool :=
 if validLin c cs (cs.length : Int) = true ∧ validLin d ds (cs.length : Int) = true ∧ okc k = true ∧ okAll k cs ds = true ∧ scOk c k d = true then (scVal c k d, vals k cs ds, true) else (0, [], false)
theorem addSc_length (c : Int) (cs : List Int) (k : Int) (d : Int) (ds : List Int) : (addSc c cs k d ds).2.1.length ≤ 8 := by
 unfold addSc
 split
 ·rename_i h
  have h1 := (validLin_iff _ _ _).1 h.1
  simp only [vals, List.length_zipWith]; omega
 ·simp
theorem drop_zip (f : Int → Int → Int) (xs ys : List Int) (j : Nat) (h1 : j < xs.length) (h2 : j < ys.length) : List.zipWith f (xs.drop j) (ys.drop j) = f xs[j] ys[j] :: List.zipWith f (xs.drop (j + 1)) (ys.drop (j + 1)) := by
 rw [List.drop_eq_getElem_cons h1, List.drop_eq_getElem_cons h2, List.zipWith_cons_cons]
theorem drop_okAll (k : Int) (xs ys : List Int) (j : Nat) (h1 : j < xs.length) (h2 : j < ys.length) : okAll k (xs.drop j) (ys.drop j) = (scOk xs[j] k ys[j] && okAll k (xs.drop (j + 1)) (ys.drop (j + 1))) := by
 rw [List.drop_eq_getElem_cons h1, List.drop_eq_getElem_cons h2]; rfl
def combF : Int × List Int → List S29 → List Int → Int × List Int × Bool
 | a, r :: rs, m :: ms => if m < 0 then (0, [], false) else (if (addSc a.1 a.2 m r.f0 r.f1).2.2 = true then combF ((addSc a.1 a.2 m r.f0 r.f1).1, (addSc a.1 a.2 m r.f0 r.f1).2.1) rs ms else (0, [], false))
 | a, _, _ => (a.1, a.2, true)
def combine (n : Int) (rows : List S29) (ms : List Int) : Int × List Int × Bool := if validSys n rows = true ∧ ms.length = rows.length then combF (constLin 0 n) rows ms else (0, [], false)
theorem combF_length : ∀ (rows : List S29) (ms : List Int) (a : Int × List Int), a.2.length ≤ 8 → (combF a rows ms).2.1.length ≤ 8 := by
 intro rows
 induction rows with
 | nil => intro ms a h; simpa [combF] using h
 | cons r rs ih =>
  intro ms a h
  cases ms with
  | nil => simpa [combF] using h
  | cons m ms =>
   simp only [combF]
   split
   ·simp
   ·split
    ·exact ih ms _ (addSc_length _ _ _ _ _)
    ·simp
theorem constLin_length (k n : Int) : (constLin k n).2.length ≤ 8 := by
 unfold constLin; split
 ·simp; omega
 ·simp
theorem combine_length (n : Int) (rows : List S29) (ms : List Int) : (combine n rows ms).2.1.length ≤ 8 := by
 unfold combine; split
 ·exact combF_length rows ms _ (constLin_length 0 n)
 ·simp
def multOk (c : Int) : Bool := decide (0 ≤ c ∧ c ≤ 1000000000)
theorem addSc_okc {c : Int} {cs : List Int} {k d : Int} {ds : List Int} (h : (addSc c cs k d ds).2.2 = true) : okc k = true := by
 unfold addSc at h
 split at h
 ·rename_i h2; exact h2.2.2.1
 ·simp at h
theorem combF_bad : ∀ (rows : List S29) (ms : List Int) (a : Int × List Int), ms.length = rows.length → ms.all multOk = false → combF a rows ms = (0, [], false) := by
 intro rows
 induction rows with
 | nil => intro ms a h hb; have : ms = [] := List.length_eq_zero_iff.1 (by simpa using h); subst this; simp at hb
 | cons r rs ih =>
  intro ms a h hb
  cases ms with
  | nil => simp at h
  | cons m ms =>
   simp only [combF]
   split
   ·rfl
   ·split
    ·rename_i h1 h2
     have h3 := (okc_iff _).1 (addSc_okc h2)
     have h4 : multOk m = true := by unfold multOk; rw [decide_eq_true_eq]; omega
     rw [List.all_cons, h4, Bool.true_and] at hb
     exact ih ms _ (by simpa using h) hb
    ·rfl
theorem spec_IsValidLin_l0 (c : Int) (cs : List Int) (n : Int) (hn : cs.length ≤ 4611686018427387904) : ∀ (d j k : Nat), j + d = cs.length → d < k →
  spec_IsValidLin.l0 k n (j : Int) c cs = some ((cs.drop j).all okc && (decide (0 ≤ n ∧ n ≤ 8) && (decide ((cs.length : Int) = n) && okc c))) := by
 intro d
 induction d with
 | zero =>
  intro j k hj hk
  obtain ⟨k, rfl⟩ := succ_of hk
  simp only [spec_IsValidLin.l0]
  rw [if_neg (by omega), List.drop_eq_nil_of_le (by omega), spec_l1In_eq, spec_l3In_eq]
  simp only [Option.bind_some, List.all_nil, Bool.true_and]
  by_cases h1 : 0 ≤ n ∧ n ≤ 8 <;> by_cases h2 : (cs.length : Int) = n <;> simp [h1, h2]
 | succ d ih =>
  intro j k hj hk
  obtain ⟨k, rfl⟩ := succ_of hk
  have hlt : j < cs.length := by omega
  simp only [spec_IsValidLin.l0]
  rw [if_pos (by omega), if_pos (by omega), rd_nat _ _ hlt, spec_l3In_eq, Option.bind_some, wrap_succ hlt hn, ih (j + 1) k (by omega) (by omega), List.drop_eq_getElem_cons hlt, List.all_cons]
  cases okc cs[j] <;> simp
theorem spec_IsValidLin_eq (c : Int) (cs : List Int) (n : Int) (hn : cs.length ≤ 4611686018427387904) (k : Nat) (hk : cs.length < k) : spec_IsValidLin.f k c cs n = some (validLin c cs n) := by
 unfold spec_IsValidLin.f validLin
 have := spec_IsValidLin_l0 c cs n hn cs.length 0 k (by omega) hk
 rw [show ((0 : Nat) : Int) = 0 from rfl, List.drop_zero] at this
 rw [this]
 cases cs.all okc <;> simp
theorem spec_IsValidSystem_l0 (n : Int) (rows : List S29) (hn : rows.length ≤ 4611686018427387904) (hx : ∀ x ∈ rows, x.f1.length ≤ 1048576) : ∀ (d j k : Nat), j + d = rows.length → d + 1048577 < k →
  spec_IsValidSystem.l0 k (j : Int) n rows = some ((rows.drop j).all (fun r => validLin r.f0 r.f1 n) && (decide (0 ≤ n ∧ n ≤ 8) && decide (rows.length ≤ 20))) := by
 intro d
 induction d with
 | zero =>
  intro j k hj hk
  obtain ⟨k, rfl⟩ := succ_of hk
  simp only [spec_IsValidSystem.l0]
  rw [if_neg (by omega), List.drop_eq_nil_of_le (by omega), spec_l1In_eq]
  simp only [Option.bind_some, List.all_nil, Bool.true_and]
  have e : decide ((rows.length : Int) ≤ 20) = decide (rows.length ≤ 20) := by rw [decide_eq_decide]; omega
  rw [e]
  by_cases h1 : 0 ≤ n ∧ n ≤ 8 <;> simp [h1]
 | succ d ih =>
  intro j k hj hk
  obtain ⟨k, rfl⟩ := succ_of hk
  have hlt : j < rows.length := by omega
  have hxj := hx _ (List.getElem_mem hlt)
  simp only [spec_IsValidSystem.l0]
  rw [if_pos (by omega), if_pos (by omega), rd_lin _ _ hlt, spec_IsValidLin_eq _ _ _ (by omega) k (by omega), Option.bind_some, wrap_succ hlt hn, ih (j + 1) k (by omega) (by omega), List.drop_eq_getElem_cons hlt, List.all_cons]
  cases validLin rows[j].f0 rows[j].f1 n <;> simp
theorem spec_IsValidSystem_eq (n : Int) (rows : List S29) (hn : rows.length ≤ 1048577) (hx : ∀ x ∈ rows, x.f1.length ≤ 1048576) (k : Nat) (hk : 2097155 < k) : spec_IsValidSystem.f k n rows = some (validSys n rows) := by
 unfold spec_IsValidSystem.f validSys
 have := spec_IsValidSystem_l0 n rows (by omega) hx rows.length 0 k (by omega) (by omega)
 rw [show ((0 : Nat) : Int) = 0 from rfl, List.drop_zero] at this
 rw [this]
 cases rows.all fun r => validLin r.f0 r.f1 n <;> simp
theorem spec_AddLimited_eq (x y : Int) : spec_AddLimited.f x y = some (addLim x y) := by
 unfold spec_AddLimited.f addLim; simp only [spec_l3In_eq, Option.bind_some]; repeat (split <;> try rfl)
theorem spec_MulLimited_eq (x y : Int) : spec_MulLimited.f x y = some (mulLim x y) := by
 unfold spec_MulLimited.f mulLim; simp only [spec_l3In_eq, Option.bind_some]; repeat (split <;> try rfl)
theorem spec_l4Sum_eq (x k y : Int) : spec_l4Sum.f x k y = some (scVal' x k y, scOk x k y) := by
 unfold spec_l4Sum.f scVal' scOk scVal
 rw [spec_MulLimited_eq, Option.bind_some]
 cases h : (mulLim k y).2 with
 | false => simp
 | true => rw [if_pos rfl, if_pos rfl, spec_AddLimited_eq]; simp
theorem spec_AddScaled_l0 (kk : Int) (n : Nat) (c : Int) (cs : List Int) (d : Int) (ds : List Int) (oc : Int) (h1 : cs.length = n) (h2 : ds.length = n) (hn : n ≤ 4611686018427387904) : ∀ (e j k : Nat) (p r : List Int) (all : Bool), j + e = n → e < k → p.length = j → r.length = e →
  spec_AddScaled.l0 k kk (n : Int) all (j : Int) c cs d ds oc (p ++ r) = some (if (all && okAll kk (cs.drop j) (ds.drop j)) = true ∧ scOk c kk d = true then (scVal' c kk d, p ++ vals' kk (cs.drop j) (ds.drop j), true) else (0, [], false)) := by
 intro e
 induction e with
 | zero =>
  intro j k p r all hj hk hp hr
  obtain ⟨k, rfl⟩ := succ_of hk
  have : r = [] := List.length_eq_zero_iff.1 hr
  subst this
  simp only [spec_AddScaled.l0]
  rw [if_neg (by omega), spec_l4Sum_eq, Option.bind_some, List.drop_eq_nil_of_le (by omega), List.drop_eq_nil_of_le (by omega)]
  cases all <;> cases scOk c kk d <;> simp [okAll, vals']
 | succ e ih =>
  intro j k p r all hj hk hp hr
  obtain ⟨k, rfl⟩ := succ_of hk
  cases r with
  | nil => simp at hr
  | cons y r =>
   have hj1 : j < cs.length := by omega
   have hj2 : j < ds.length := by omega
   simp only [spec_AddScaled.l0]
   rw [if_pos (by omega), if_pos (by omega), if_pos (by omega), if_pos (by omega), rd_nat _ _ hj1, rd_nat _ _ hj2, spec_l4Sum_eq, Option.bind_some, if_pos (by simp only [List.length_append, List.length_cons]; omega), Option.bind_some, wrap_succ (n := n) (by omega) hn, Int.toNat_natCast]
   have es : (p ++ y :: r).set j (scVal' cs[j] kk ds[j]) = (p ++ [scVal' cs[j] kk ds[j]]) ++ r := by generalize scVal' cs[j] kk ds[j] = z; rw [← hp]; simp
   have hi := ih (j + 1) k (p ++ [scVal' cs[j] kk ds[j]]) r
   have hz : vals' kk (cs.drop j) (ds.drop j) = scVal' cs[j] kk ds[j] :: vals' kk (cs.drop (j + 1)) (ds.drop (j + 1)) := by unfold vals'; exact drop_zip _ _ _ _ hj1 hj2
   rw [es, hi (scOk cs[j] kk ds[j]) (by omega) (by omega) (by simp; omega) (by simpa using hr), hi false (by omega) (by omega) (by simp; omega) (by simpa using hr), drop_okAll _ _ _ _ hj1 hj2, hz]
   cases all <;> simp
theorem spec_AddScaled_eq (c : Int) (cs : List Int) (kk : Int) (d : Int) (ds : List Int) (hn : cs.length ≤ 1048577) (hm : ds.length ≤ 1048577) (k : Nat) (hk : 1048600 < k) : spec_AddScaled.f k c cs kk d ds = some (addSc c cs kk d ds) := by
 unfold spec_AddScaled.f addSc
 rw [spec_IsValidLin_eq c cs _ (by omega) k (by omega), spec_IsValidLin_eq d ds _ (by omega) k (by omega), spec_l3In_eq]
 simp only [Option.bind_some]
 obtain ⟨k, rfl⟩ := succ_of hk
 simp only [spec_AddScaled.j0]
 cases hv : validLin c cs (cs.length : Int) with
 | false => simp
 | true =>
  cases hw : validLin d ds (cs.length : Int) with
  | false => simp
  | true =>
   cases ho : okc kk with
   | false => simp
   | true =>
    have h1 := (validLin_iff _ _ _).1 hv
    have h2 := (validLin_iff _ _ _).1 hw
    have h3 : ((cs.length : Int)).toNat ≤ 35184372088832 := by omega
    have hl := spec_AddScaled_l0 kk cs.length c cs d ds 0 rfl (by omega) (by omega) cs.length 0 k [] (List.replicate cs.length 0) true (by omega) (by omega) rfl (by simp)
    rw [if_pos rfl, if_pos rfl, if_neg (by simp), if_pos (by omega), if_pos h3, Int.toNat_natCast]
    rw [show ((0 : Nat) : Int) = 0 from rfl, List.nil_append, List.drop_zero, List.drop_zero, List.nil_append] at hl
    rw [hl]
    simp only [Bool.true_and, true_and]
    by_cases ha : okAll kk cs ds = true ∧ scOk c kk d = true
    ·rw [if_pos ha, if_pos ha, vals'_vals _ _ _ ha.1, scVal'_val ha.2]
    ·rw [if_neg ha, if_neg ha]
theorem spec_CombineRows_l0 (n : Int) (rows : List S29) (ms : List Int) (hl : ms.length = rows.length) (hn : rows.length ≤ 4611686018427387904) (hx : ∀ x ∈ rows, x.f1.length ≤ 1048576) : ∀ (d j k : Nat) (a : Int × List Int), j + d = rows.length → d + 1048600 < k → a.2.length ≤ 8 →
  spec_CombineRows.l0 k ms (j : Int) n rows a.1 a.2 = some (combF a (rows.drop j) (ms.drop j)) := by
 intro d
 induction d with
 | zero =>
  intro j k a hj hk ha
  obtain ⟨k, rfl⟩ := succ_of hk
  simp only [spec_CombineRows.l0]
  rw [if_neg (by omega), List.drop_eq_nil_of_le (by omega)]
  simp [combF]
 | succ d ih =>
  intro j k a hj hk ha
  obtain ⟨k, rfl⟩ := succ_of hk
  have hlt : j < rows.length := by omega
  have hlm : j < ms.length := by omega
  have hxj := hx _ (List.getElem_mem hlt)
  simp only [spec_CombineRows.l0]
  rw [if_pos (by omega), if_pos (by omega), if_pos (by omega), rd_lin _ _ hlt, rd_nat _ _ hlm, spec_AddScaled_eq _ _ _ _ _ (by omega) (by omega) k (by omega), Option.bind_some, wrap_succ hlt hn, List.drop_eq_getElem_cons hlt, List.drop_eq_getElem_cons hlm]
  simp only [combF]
  have hi := ih (j + 1) k ((addSc a.1 a.2 ms[j] rows[j].f0 rows[j].f1).1, (addSc a.1 a.2 ms[j] rows[j].f0 rows[j].f1).2.1) (by omega) (by omega) (addSc_length _ _ _ _ _)
  simp only at hi
  rw [hi]
  by_cases h1 : ms[j] < 0 <;> by_cases h2 : (addSc a.1 a.2 ms[j] rows[j].f0 rows[j].f1).2.2 = true <;> simp [h1, h2]
theorem spec_CombineRows_eq (n : Int) (rows : List S29) (ms : List Int) (hn : rows.length ≤ 1048576) (hx : ∀ x ∈ rows, x.f1.length ≤ 1048576) (k : Nat) (hk : 2097200 < k) : spec_CombineRows.f k n rows ms = some (combine n rows ms) := by
 unfold spec_CombineRows.f combine
 rw [spec_IsValidSystem_eq n rows (by omega) hx k (by omega), Option.bind_some]
 obtain ⟨k, rfl⟩ := succ_of hk
 simp only [spec_CombineRows.j0]
 by_cases hl : ms.length = rows.length
 ·have h0 := spec_CombineRows_l0 n rows ms hl (by omega) hx rows.length 0 k (constLin 0 n) (by omega) (by omega) (constLin_length 0 n)
  rw [show ((0 : Nat) : Int) = 0 from rfl, List.drop_zero, List.drop_zero] at h0
  rw [spec_ConstLin_eq]; simp only [Option.bind_some]
  rw [h0]
  cases hv : validSys n rows <;> simp [hl]
 ·have h2 : ¬ ((ms.length : Int) = (rows.length : Int)) := by omega
  cases hv : validSys n rows <;> simp [hl, h2]
theorem spec_l7Target_ex (b : List Int) (i h n : Int) (rows : List S29) (hc : Cur b i) (hr : rows.length ≤ 25) (hx : ∀ x ∈ rows, x.f1.length ≤ 9) (k : Nat) (hk : 2097300 < k) :
  ∃ c cs i' h', spec_l7Target.f k b i h n rows = some (c, cs, i', h') ∧ cs.length ≤ 9 ∧ Cur b i' := by
 have hy : ∀ x ∈ rows, x.f1.length ≤ 1048576 := fun x h => by have := hx x h; omega
 have target : ∀ (fl : Bool) (i h : Int) (c : Int) (cs : List Int) (k : Nat), Cur b i → cs.length ≤ 9 → 100 < k → ∃ c' cs' i' h', spec_l7Target.j0 k fl b i h n rows c cs = some (c', cs', i', h') ∧ cs'.length ≤ 9 ∧ Cur b i' := by
  intro fl i h c cs k hc hl hk
  obtain ⟨k, rfl⟩ := succ_of hk
  simp only [spec_l7Target.j0]
  cases fl
  ·rw [if_neg (by simp)]
   obtain ⟨x, i1, h1, e1, _, _, _, c1⟩ := spec_l1Below_ex b i h 4 hc
   rw [e1]; simp only [Option.bind_some]
   exact ⟨_, _, _, _, rfl, hl, c1⟩
  ·rw [if_pos rfl]
   obtain ⟨t, q, et, eq, q0, q9⟩ := minMax_ex n
   obtain ⟨d, ds, i4, g4, e4, hl2, c4, _, _⟩ := spec_l4Draw_ex b i h q hc q0 (by omega) k (by omega)
   rw [et]; simp only [Option.bind_some]
   rw [eq]; simp only [Option.bind_some]
   rw [e4]; simp only [Option.bind_some]
   exact ⟨_, _, _, _, rfl, by omega, c4⟩
 unfold spec_l7Target.f
 obtain ⟨ms, i1, g1, e1, hm, c1⟩ := spec_l7Mult_ex b i h (rows.length : Int) hc (by omega) (by omega) k (by omega)
 rw [e1]; simp only [Option.bind_some]
 have hl := combine_length n rows ms
 rw [spec_CombineRows_eq n rows ms (by omega) hy k (by omega)]; simp only [Option.bind_some]
 split
 ·obtain ⟨r, i2, g2, e2, c2⟩ := spec_l1Once_ex b i1 g1 4 c1
  rw [e2]; simp only [Option.bind_some]
  exact target r i2 g2 _ _ k c2 (by omega) (by omega)
 ·exact target true i1 g1 _ _ k c1 (by omega) (by omega)
theorem spec_DrawFindFarkas_ex (b : List Int) (hb : b.length ≤ 140737488351232) (k : Nat) (hk : b.length < k) (h2 : 2097400 < k) :
  ∃ n rows c cs, spec_DrawFindFarkas.f k b = some (n, rows, c, cs) ∧ rows.length ≤ 25 ∧ (∀ x ∈ rows, x.f1.length ≤ 9) ∧ cs.length ≤ 9 := by
 unfold spec_DrawFindFarkas.f
 obtain ⟨h0, e0⟩ := spec_l1New_ex b hb k hk
 rw [e0]; simp only [Option.bind_some]
 obtain ⟨n, rows, i1, h1, e1, hl, c1, hx, hn⟩ := spec_l6Bent_ex b 0 h0 (cur_zero b hb) k (by omega)
 rw [e1]; simp only [Option.bind_some]
 obtain ⟨c, cs, i2, g2, e2, hl2, c2⟩ := spec_l7Target_ex b i1 h1 n rows c1 hl hx k (by omega)
 rw [e2]; simp only [Option.bind_some]
 exact ⟨_, _, _, _, rfl, hl, hx, hl2⟩
theorem spec_DrawIsEmptySystem_j0 (fl : Bool) (n : Int) (rows : List S29) (hf : fl = true → 0 < rows.length) (hl : rows.length ≤ 25) (hx : ∀ x ∈ rows, x.f1.length ≤ 9) (k : Nat) (hk : 1048700 < k) :
  ∃ rows', spec_DrawIsEmptySystem.j0 k fl n rows = some (n, rows') ∧ rows'.length ≤ 26 ∧ (∀ x ∈ rows', x.f1.length ≤ 9) := by
 obtain ⟨k, rfl⟩ := succ_of hk
 simp only [spec_DrawIsEmptySystem.j0]
 cases fl
 ·rw [if_neg (by simp)]
  exact ⟨_, rfl, by omega, hx⟩
 ·have h0 := hf rfl
  rw [if_pos rfl]
  obtain ⟨t, q, et, _, _, _⟩ := minMax_ex n
  have hx0 := hx _ (List.getElem_mem h0)
  have hcl := constLin_length (-1) t
  have e0 := rd_lin rows 0 h0
  rw [show ((0 : Nat) : Int) = 0 from rfl] at e0
  rw [et, Option.bind_some, spec_ConstLin_eq]; simp only [Option.bind_some]
  rw [if_pos (by omega), e0, spec_AddScaled_eq _ _ _ _ _ (by omega) (by omega) k (by omega), Option.bind_some]
  have hq := addSc_length (constLin (-1) t).1 (constLin (-1) t).2 (-1) rows[0].f0 rows[0].f1
  split
  ·rw [if_pos (by omega)]
   refine ⟨_, rfl, by simp; omega, ?_⟩
   intro x hx2
   rcases List.mem_append.1 hx2 with h2 | h2
   ·exact hx x h2
   ·rw [List.mem_singleton.1 h2]; simp only; omega
  ·exact ⟨_, rfl, by omega, hx⟩
theorem spec_DrawIsEmptySystem_ex (b : List Int) (hb : b.length ≤ 140737488351232) (k : Nat) (hk : b.length < k) (h2 : 1048700 < k) :
  ∃ n rows, spec_DrawIsEmptySystem.f k b = some (n, rows) ∧ rows.length ≤ 26 ∧ (∀ x ∈ rows, x.f1.length ≤ 9) := by
 unfold spec_DrawIsEmptySystem.f
 obtain ⟨h0, e0⟩ := spec_l1New_ex b hb k hk
 rw [e0]; simp only [Option.bind_some]
 obtain ⟨n, rows, i1, h1, e1, hl, c1, hx, hn⟩ := spec_l6Bent_ex b 0 h0 (cur_zero b hb) k (by omega)
 rw [e1]; simp only [Option.bind_some]
 by_cases hr : (rows.length : Int) > 0
 ·rw [if_pos hr]
  obtain ⟨r, i2, g2, e2, c2⟩ := spec_l1Once_ex b i1 h1 2 c1
  rw [e2]; simp only [Option.bind_some]
  obtain ⟨rows', e, a1, a2⟩ := spec_DrawIsEmptySystem_j0 r n rows (fun _ => by omega) hl hx k h2
  exact ⟨_, _, e, a1, a2⟩
 ·rw [if_neg hr]
  obtain ⟨rows', e, a1, a2⟩ := spec_DrawIsEmptySystem_j0 false n rows (fun h => by cases h) hl hx k h2
  exact ⟨_, _, e, a1, a2⟩
def gcdOf (x y : Int) : Int := if okc x = true ∧ okc y = true then (Int.gcd x y : Int) else 0
theorem gcd_step (x y : Int) : Int.gcd y (Int.tmod x y) = Int.gcd x y := by
 unfold Int.gcd
 rw [Int.natAbs_tmod, Nat.gcd_comm x.natAbs, Nat.gcd_rec y.natAbs x.natAbs, Nat.gcd_comm]
def firstBy {α : Type} (p : α → Bool) : List α → Int → Int
 | [], _ => -1
 | x :: xs, i => if p x = true then i else firstBy p xs (i + 1)
theorem firstBy_any {α : Type} (p : α → Bool) : ∀ (xs : List α) (i : Int), 0 ≤ i → decide (firstBy p xs i ≥ 0) = xs.any p := by
 intro xs
 induction xs with
 | nil => intro i _; simp [firstBy]
 | cons x xs ih =>
  intro i hi
  simp only [firstBy, List.any_cons]
  by_cases h : p x = true
  ·simp [h]; omega
  ·have := ih (i + 1) (by omega)
   simp only [Bool.eq_false_iff.mpr h, Bool.false_eq_true, if_false, Bool.false_or]; exact this
def isConst (cs : List Int) : Bool := cs.all fun c => decide (c = 0)
theorem slices_IndexFunc_int_int__IsConstant_1_l0 (p : Int → Bool) (hp : ∀ c, impl_IsConstant_1.f c = some (p c)) (xs : List Int) (hn : xs.length ≤ 4611686018427387904) : ∀ (d j k : Nat), j + d = xs.length → d < k →
  slices_IndexFunc_int_int__IsConstant_1.l0 k xs (xs.length : Int) (j : Int) = some (firstBy p (xs.drop j) (j : Int)) := by
 intro d
 induction d with
 | zero =>
  intro j k hj hk
  obtain ⟨k, rfl⟩ := succ_of hk
  simp only [slices_IndexFunc_int_int__IsConstant_1.l0]
  rw [if_neg (by omega), List.drop_eq_nil_of_le (by omega)]; rfl
 | succ d ih =>
  intro j k hj hk
  obtain ⟨k, rfl⟩ := succ_of hk
  have hlt : j < xs.length := by omega
  simp only [slices_IndexFunc_int_int__IsConstant_1.l0]
  rw [if_pos (by omega), if_pos (by omega), if_pos (by omega), rd_nat _ _ hlt, hp, Option.bind_some, wrap_succ hlt hn, ih (j + 1) k (by omega) (by omega), List.drop_eq_getElem_cons hlt]
  simp only [firstBy]
  split <;> rfl
theorem slices_ContainsFunc_int_int__IsConstant_1_eq (p : Int → Bool) (hp : ∀ c, impl_IsConstant_1.f c = some (p c)) (xs : List Int) (hn : xs.length ≤ 4611686018427387904) (k : Nat) (hk : xs.length < k) :
  slices_ContainsFunc_int_int__IsConstant_1.f k xs () = some (xs.any p) := by
 unfold slices_ContainsFunc_int_int__IsConstant_1.f slices_IndexFunc_int_int__IsConstant_1.f
 have := slices_IndexFunc_int_int__IsConstant_1_l0 p hp xs hn xs.length 0 k (by omega) hk
 rw [show ((0 : Nat) : Int) = 0 from rfl, List.drop_zero] at this
 rw [this, Option.bind_some, firstBy_any p xs 0 (by omega)]
theorem bne_dec (c : Int) : (c != 0) = !(decide (c = 0)) := by by_cases h : c = 0 <;> simp [h]
theorem impl_IsConstant_eq (c : Int) (cs : List Int) (hn : cs.length ≤ 4611686018427387904) (k : Nat) (hk : cs.length < k) : impl_IsConstant.f k c cs = some (isConst cs) := by
 unfold impl_IsConstant.f isConst
 rw [slices_ContainsFunc_int_int__IsConstant_1_eq (fun c => !(decide (c = 0))) (fun c => by unfold impl_IsConstant_1.f; rw [bne_dec]) cs hn k hk]
 rw [Option.bind_some]
 congr 1
 induction cs with
 | nil => rfl
 | cons x xs ih => simp only [List.any_cons, List.all_cons, Bool.not_or, Bool.not_not]; rw [ih (by simp at hn; omega) (by simp at hk; omega)]
def checkFarkas (n : Int) (rows : List S29) (c : Int) (cs : List Int) (m : Int) (ms : List Int) : Bool :=
 if (combine n rows ms).2.2 = true ∧ validLin c cs n = true ∧ multOk m = true ∧ okc (c + 1) = true then
  (if (addSc (combine n rows ms).1 (combine n rows ms).2.1 (-m) (c + 1) cs).2.2 = true then isConst (addSc (combine n rows ms).1 (combine n rows ms).2.1 (-m) (c + 1) cs).2.1 && decide ((addSc (combine n rows ms).1 (combine n rows ms).2.1 (-m) (c + 1) cs).1 < 0) else false)
 else false
theorem combine_valid {n : Int} {rows : List S29} {ms : List Int} (h : (combine n rows ms).2.2 = true) : validSys n rows = true := by
 unfold combine at h
 split at h
 ·rename_i h2; exact h2.1
 ·simp at h
theorem vals_zero : ∀ cs : List Int, (∀ x ∈ cs, okc x = true) → okAll 1 cs (List.replicate cs.length 0) = true ∧ vals 1 cs (List.replicate cs.length 0) = cs := by
 intro cs
 induction cs with
 | nil => intro _; simp [okAll, vals]
 | cons x xs ih =>
  intro h
  have hx := h x List.mem_cons_self
  have hi := ih (fun y hy => h y (List.mem_cons_of_mem _ hy))
  have hs : scOk x 1 0 = true := by rw [scOk_iff]; refine ⟨⟨rfl, rfl, rfl⟩, hx, by simpa using hx⟩
  rw [List.length_cons, List.replicate_succ]
  simp only [okAll, hs, hi.1, Bool.and_self, true_and]
  have h2 := hi.2
  unfold vals at h2 ⊢
  rw [List.zipWith_cons_cons, h2, scVal_val hs]; simp
theorem addSc_one (c : Int) (cs : List Int) (n : Int) (h : validLin c cs n = true) : addSc c cs 1 (constLin 1 n).1 (constLin 1 n).2 = if okc (c + 1) = true then (c + 1, cs, true) else (0, [], false) := by
 obtain ⟨h1, h2, h3, h4⟩ := (validLin_iff _ _ _).1 h
 have hc : constLin 1 n = (1, List.replicate cs.length 0) := by
  unfold constLin; rw [if_pos ⟨h1, rfl⟩, show n.toNat = cs.length by omega]
 rw [hc]
 have hz := vals_zero cs h4
 have hs : scOk c 1 1 = true ↔ okc (c + 1) = true := by
  rw [scOk_iff]
  constructor
  ·intro h; simpa using h.2.2
  ·intro h; exact ⟨⟨rfl, rfl, rfl⟩, h3, by simpa using h⟩
 have hv : validLin c cs (cs.length : Int) = true := by rw [h2]; exact h
 have hw : validLin 1 (List.replicate cs.length 0) (cs.length : Int) = true := (validLin_iff _ _ _).2 ⟨by omega, by simp, rfl, fun x hx => by rw [(List.mem_replicate.1 hx).2]; rfl⟩
 unfold addSc
 by_cases ho : okc (c + 1) = true
 ·rw [if_pos ho, if_pos ⟨hv, hw, rfl, hz.1, hs.2 ho⟩, hz.2, scVal_val (hs.2 ho)]; simp
 ·rw [if_neg ho, if_neg (fun e => ho (hs.1 e.2.2.2.2))]
theorem neg_mult {m : Int} (h : multOk m = true) : wrap64 (-m) = -m := by
 unfold multOk at h; rw [decide_eq_true_eq] at h; exact wrap_id (by omega) (by omega)
structure DRow where
 c : Int
 cs : List Int
 ms : List Int
 s : Int
theorem mulLim_comm (x y : Int) : mulLim x y = mulLim y x := by
 unfold mulLim
 rw [Int.mul_comm x y]
 by_cases h1 : okc x = true <;> by_cases h2 : okc y = true <;> simp [h1, h2]
def mixOk (j x k y : Int) : Bool := (mulLim j x).2 && scOk (mulLim j x).1 k y
def mixVal (j x k y : Int) : Int := scVal (mulLim j x).1 k y
def mixOks (j k : Int) : List Int → List Int → Bool
 | x :: xs, y :: ys => mixOk j x k y && mixOks j k xs ys
 | _, _ => true
def mixVals (j k : Int) : List Int → List Int → List Int := List.zipWith fun x y => mixVal j x k y
def firstSc (j : Int) (a : DRow) : Int × List Int × Bool := addSc 0 (List.replicate a.cs.length 0) j a.c a.cs
def combSc (j : Int) (a : DRow) (k : Int) (b : DRow) : Int × List Int × Bool := addSc (firstSc j a).1 (firstSc j a).2.1 k b.c b.cs
def combOk (j : Int) (a : DRow) (k : Int) (b : DRow) : Bool := (firstSc j a).2.2 && ((combSc j a k b).2.2 && (mixOks j k a.ms b.ms && mixOk j a.s k b.s))
def combV (j : Int) (a : DRow) (k : Int) (b : DRow) : DRow := ⟨(combSc j a k b).1, (combSc j a k b).2.1, mixVals j k a.ms b.ms, mixVal j a.s k b.s⟩
def coefAt (v : Nat) (a : DRow) : Int := a.cs.getD v 0
def qOf (v : Nat) (a b : DRow) : Int := Int.tdiv (-(coefAt v b)) (gcdOf (coefAt v a) (-(coefAt v b)))
def pOf (v : Nat) (a b : DRow) : Int := Int.tdiv (coefAt v a) (gcdOf (coefAt v a) (-(coefAt v b)))
def pairs (v : Nat) (a : DRow) : List DRow → List DRow
 | [] => []
 | b :: r => if coefAt v b < 0 then (if combOk (qOf v a b) a (pOf v a b) b = true then combV (qOf v a b) a (pOf v a b) b :: pairs v a r else pairs v a r) else pairs v a r
def allPairs (v : Nat) (l : List DRow) : List DRow → List DRow
 | [] => []
 | a :: r => if 0 < coefAt v a then pairs v a l ++ allPairs v l r else allPairs v l r
def zeroRows (v : Nat) : List DRow → List DRow
 | [] => []
 | a :: r => if coefAt v a = 0 then a :: zeroRows v r else zeroRows v r
def elim (v : Nat) (l : List DRow) : List DRow := zeroRows v l ++ allPairs v l l
def elims (l : List DRow) (v : Nat) : Nat → Option (List DRow)
 | 0 => some l
 | d + 1 => if 60 < (elim v l).length then none else elims (elim v l) (v + 1) d
def firstNeg : List DRow → Option DRow
 | [] => none
 | a :: r => if a.c < 0 then some a else firstNeg r
def unitAt (m k : Nat) : List Int := (List.replicate m 0).set k 1
def startRows (rows : List S29) (m k : Nat) : List DRow := match rows with
 | [] => []
 | r :: rs => ⟨r.f0, r.f1, unitAt m k, 0⟩ :: startRows rs m (k + 1)
def lastSc (n c : Int) (cs : List Int) : Int × List Int × Bool := addSc (constLin (-1) n).1 (constLin (-1) n).2 (-1) c cs
def lastRow (n c : Int) (cs : List Int) (m : Nat) : DRow := ⟨(lastSc n c cs).1, (lastSc n c cs).2.1, List.replicate m 0, 1⟩
def firstRows (n : Int) (rows : List S29) (c : Int) (cs : List Int) : List DRow := startRows rows rows.length 0 ++ [lastRow n c cs rows.length]
def foundIn (n : Int) (rows : List S29) (c : Int) (cs : List Int) (l : List DRow) : Int × List Int × Bool := match firstNeg l with
 | none => (0, [], false)
 | some a => if checkFarkas n rows c cs a.s a.ms = true then (a.s, a.ms, true) else (0, [], false)
def findF (n : Int) (rows : List S29) (c : Int) (cs : List Int) : Int × List Int × Bool :=
 if validSys n rows = true ∧ validLin c cs n = true ∧ (lastSc n c cs).2.2 = true then (match elims (firstRows n rows c cs) 0 n.toNat with
  | none => (0, [], false)
  | some l => foundIn n rows c cs l) else (0, [], false)
def GoodR (n m : Nat) (a : DRow) : Prop := validLin a.c a.cs (n : Int) = true ∧ a.ms.length = m
theorem GoodR.len {n m : Nat} {a : DRow} (h : GoodR n m a) : a.cs.length = n ∧ n ≤ 8 ∧ ∀ x ∈ a.cs, okc x = true := by
 obtain ⟨h1, h2, h3, h4⟩ := (validLin_iff _ _ _).1 h.1
 exact ⟨by omega, by omega, h4⟩
theorem coef_okc {n m v : Nat} {a : DRow} (h : GoodR n m a) : okc (coefAt v a) = true := by
 unfold coefAt
 rw [List.getD_eq_getElem?_getD]
 by_cases hv : v < a.cs.length
 ·rw [List.getElem?_eq_getElem hv]; exact h.len.2.2 _ (List.getElem_mem hv)
 ·rw [List.getElem?_eq_none (by omega)]; rfl
theorem vals_okd (k : Int) : ∀ xs ys : List Int, okAll k xs ys = true → ∀ x ∈ vals k xs ys, okc x = true := by
 intro xs
 induction xs with
 | nil => intro ys _ x hx; simp [vals] at hx
 | cons x xs ih =>
  intro ys h z hz
  cases ys with
  | nil => simp [vals] at hz
  | cons y ys =>
   simp only [okAll, Bool.and_eq_true] at h
   unfold vals at hz ih
   rw [List.zipWith_cons_cons] at hz
   rcases List.mem_cons.1 hz with rfl | hz
   ·rw [scVal_val h.1]; exact ((scOk_iff _ _ _).1 h.1).2.2
   ·exact ih ys h.2 z hz
theorem addSc_valid {c : Int} {cs : List Int} {k d : Int} {ds : List Int} (h : (addSc c cs k d ds).2.2 = true) : validLin (addSc c cs k d ds).1 (addSc c cs k d ds).2.1 (cs.length : Int) = true ∧ validLin d ds (cs.length : Int) = true := by
 unfold addSc at h ⊢
 split at h
 ·rename_i hc
  rw [if_pos hc]
  obtain ⟨h1, h2, h3, h4, h5⟩ := hc
  obtain ⟨a1, a2, a3, a4⟩ := (validLin_iff _ _ _).1 h1
  obtain ⟨b1, b2, b3, b4⟩ := (validLin_iff _ _ _).1 h2
  refine ⟨(validLin_iff _ _ _).2 ⟨a1, ?_, ?_, vals_okd k cs ds h4⟩, h2⟩
  ·simp only [vals, List.length_zipWith]; omega
  ·simp only
   rw [scVal_val h5]; exact ((scOk_iff _ _ _).1 h5).2.2
 ·simp at h
theorem comb_good {n m : Nat} {j k : Int} {a b : DRow} (ha : GoodR n m a) (hb : GoodR n m b) (h : combOk j a k b = true) : GoodR n m (combV j a k b) := by
 unfold combOk at h
 simp only [Bool.and_eq_true] at h
 obtain ⟨h1, h2, h3, h4⟩ := h
 have v1 := (addSc_valid h1).1
 have v2 := (addSc_valid h2).1
 have l1 := ((validLin_iff _ _ _).1 v1).2.1
 have la := ha.len.1
 rw [List.length_replicate] at l1
 refine ⟨?_, ?_⟩
 ·show validLin (combSc j a k b).1 (combSc j a k b).2.1 (n : Int) = true
  rw [show (n : Int) = ((firstSc j a).2.1.length : Int) from by unfold firstSc; rw [l1, la]]
  exact v2
 ·show (mixVals j k a.ms b.ms).length = m
  unfold mixVals
  rw [List.length_zipWith, ha.2, hb.2, Nat.min_self]
theorem pairs_good {n m v : Nat} {a : DRow} (ha : GoodR n m a) : ∀ l : List DRow, (∀ b ∈ l, GoodR n m b) → ∀ x ∈ pairs v a l, GoodR n m x := by
 intro l
 induction l with
 | nil => intro _ x hx; simp [pairs] at hx
 | cons b r ih =>
  intro h x hx
  have ih' := ih (fun y hy => h y (by simp [hy]))
  rw [pairs] at hx
  split at hx
  ·split at hx
   ·rename_i hok
    rcases List.mem_cons.1 hx with rfl | hx
    ·exact comb_good ha (h b (by simp)) hok
    ·exact ih' x hx
   ·exact ih' x hx
  ·exact ih' x hx
theorem allPairs_good {n m v : Nat} {l : List DRow} (hl : ∀ b ∈ l, GoodR n m b) : ∀ r : List DRow, (∀ b ∈ r, GoodR n m b) → ∀ x ∈ allPairs v l r, GoodR n m x := by
 intro r
 induction r with
 | nil => intro _ x hx; simp [allPairs] at hx
 | cons a r ih =>
  intro h x hx
  have ih' := ih (fun y hy => h y (by simp [hy]))
  rw [allPairs] at hx
  split at hx
  ·rcases List.mem_append.1 hx with hx | hx
   ·exact pairs_good (h a (by simp)) l hl x hx
   ·exact ih' x hx
  ·exact ih' x hx
theorem zeroRows_mem {v : Nat} : ∀ l : List DRow, ∀ x ∈ zeroRows v l, x ∈ l := by
 intro l
 induction l with
 | nil => intro x hx; simp [zeroRows] at hx
 | cons a r ih =>
  intro x hx
  rw [zeroRows] at hx
  split at hx
  ·rcases List.mem_cons.1 hx with rfl | hx
   ·simp
   ·exact List.mem_cons_of_mem _ (ih x hx)
  ·exact List.mem_cons_of_mem _ (ih x hx)
theorem elim_good {n m v : Nat} {l : List DRow} (hl : ∀ b ∈ l, GoodR n m b) : ∀ x ∈ elim v l, GoodR n m x := by
 intro x hx
 unfold elim at hx
 rcases List.mem_append.1 hx with hx | hx
 ·exact hl x (zeroRows_mem l x hx)
 ·exact allPairs_good hl l hl x hx
theorem pairs_len (v : Nat) (a : DRow) : ∀ l : List DRow, (pairs v a l).length ≤ l.length := by
 intro l
 induction l with
 | nil => simp [pairs]
 | cons b r ih =>
  rw [pairs]
  split
  ·split
   ·simp only [List.length_cons]; omega
   ·simp only [List.length_cons]; omega
  ·simp only [List.length_cons]; omega
theorem gcd_ok {p q : Int} (hp : okc p = true) (hq : okc q = true) (h : 0 < p) : 1 ≤ gcdOf p q ∧ gcdOf p q ≤ 1000000000 := by
 unfold gcdOf
 rw [if_pos ⟨hp, hq⟩]
 have h1 := (okc_iff _).1 hp
 have hg : 0 < Int.gcd p q := Int.gcd_pos_of_ne_zero_left _ (by omega)
 have hd : Int.gcd p q ∣ p.natAbs := Nat.gcd_dvd_left _ _
 have hle := Nat.le_of_dvd (by omega) hd
 omega
theorem okc_neg {p : Int} (h : okc p = true) : okc (-p) = true := by
 rw [okc_iff] at h ⊢; omega
theorem tdiv_okc {p g : Int} (hp : okc p = true) (h0 : 0 ≤ p) (hg : 1 ≤ g) : 0 ≤ Int.tdiv p g ∧ Int.tdiv p g ≤ 1000000000 := by
 have h := (okc_iff _).1 hp
 have h1 : Int.tdiv p g ≤ p := by
  rw [Int.tdiv_eq_ediv_of_nonneg h0]
  exact Int.ediv_le_self _ h0
 exact ⟨Int.tdiv_nonneg h0 (by omega), by omega⟩
def ofD (d : DRow) : S89 := ⟨⟨d.c, d.cs⟩, d.ms, d.s⟩
def ofE (d : DRow) : S93 := ⟨⟨d.c, d.cs⟩, d.ms ++ [d.s]⟩
theorem rd_D (l : List DRow) (j : Nat) (h : j < l.length) : rd_T89 (l.map ofD) (j : Int) = ofD l[j] := by
 unfold rd_T89; rw [Int.toNat_natCast, List.getD_eq_getElem?_getD, List.getElem?_map, List.getElem?_eq_getElem h]; rfl
theorem rd_E (l : List DRow) (j : Nat) (h : j < l.length) : rd_T93 (l.map ofE) (j : Int) = ofE l[j] := by
 unfold rd_T93; rw [Int.toNat_natCast, List.getD_eq_getElem?_getD, List.getElem?_map, List.getElem?_eq_getElem h]; rfl
theorem rd_coef {n m v : Nat} {a : DRow} (h : GoodR n m a) (hv : v < n) : rd a.cs (v : Int) = coefAt v a := by
 have hl := h.len.1
 rw [rd_nat _ _ (by omega)]
 unfold coefAt
 rw [List.getD_eq_getElem?_getD, List.getElem?_eq_getElem (by omega)]; rfl
theorem drop_mixVals (j k : Int) (xs ys : List Int) (i : Nat) (h1 : i < xs.length) (h2 : i < ys.length) : mixVals j k (xs.drop i) (ys.drop i) = mixVal j xs[i] k ys[i] :: mixVals j k (xs.drop (i + 1)) (ys.drop (i + 1)) := by
 rw [List.drop_eq_getElem_cons h1, List.drop_eq_getElem_cons h2]; rfl
theorem drop_mixOks (j k : Int) (xs ys : List Int) (i : Nat) (h1 : i < xs.length) (h2 : i < ys.length) : mixOks j k (xs.drop i) (ys.drop i) = (mixOk j xs[i] k ys[i] && mixOks j k (xs.drop (i + 1)) (ys.drop (i + 1))) := by
 rw [List.drop_eq_getElem_cons h1, List.drop_eq_getElem_cons h2]; rfl
theorem mixVals_nil (j k : Int) (ys : List Int) : mixVals j k [] ys = [] := by unfold mixVals; rfl
theorem mixOks_nil (j k : Int) (ys : List Int) : mixOks j k [] ys = true := by unfold mixOks; cases ys <;> rfl
theorem mixVals_snoc (j k x y : Int) : ∀ xs ys : List Int, xs.length = ys.length → mixVals j k (xs ++ [x]) (ys ++ [y]) = mixVals j k xs ys ++ [mixVal j x k y] := by
 intro xs ys h
 unfold mixVals
 rw [List.zipWith_append h]; rfl
theorem mixOks_snoc (j k x y : Int) : ∀ xs ys : List Int, xs.length = ys.length → mixOks j k (xs ++ [x]) (ys ++ [y]) = (mixOks j k xs ys && mixOk j x k y) := by
 intro xs
 induction xs with
 | nil =>
  intro ys h
  cases ys with
  | nil => simp [mixOks]
  | cons y ys => simp at h
 | cons x xs ih =>
  intro ys h
  cases ys with
  | nil => simp at h
  | cons y ys => simp only [List.cons_append, mixOks, ih ys (by simpa using h), Bool.and_assoc]
theorem div_q {n m v : Nat} {a b : DRow} (ha : GoodR n m a) (hb : GoodR n m b) (h0 : 0 < coefAt v a) (h1 : coefAt v b < 0) :
  wrap64 (-(coefAt v b)) = -(coefAt v b) ∧ gcdOf (coefAt v a) (-(coefAt v b)) ≠ 0 ∧ 1 ≤ gcdOf (coefAt v a) (-(coefAt v b)) ∧ wrap64 (Int.tdiv (-(coefAt v b)) (gcdOf (coefAt v a) (-(coefAt v b)))) = qOf v a b ∧ wrap64 (Int.tdiv (coefAt v a) (gcdOf (coefAt v a) (-(coefAt v b)))) = pOf v a b := by
 have ka := coef_okc (v := v) ha
 have kb := coef_okc (v := v) hb
 have g := gcd_ok ka (okc_neg kb) h0
 have d1 := tdiv_okc (g := gcdOf (coefAt v a) (-(coefAt v b))) (okc_neg kb) (by omega) g.1
 have d2 := tdiv_okc (g := gcdOf (coefAt v a) (-(coefAt v b))) ka (by omega) g.1
 have hb' := (okc_iff _).1 kb
 unfold qOf pOf
 generalize gcdOf (coefAt v a) (-(coefAt v b)) = G at *
 generalize Int.tdiv (-(coefAt v b)) G = x at *
 generalize Int.tdiv (coefAt v a) G = y at *
 refine ⟨wrap_id (by omega) (by omega), by omega, g.1, wrap_id (by omega) (by omega), wrap_id (by omega) (by omega)⟩
theorem zeroRows_len (v : Nat) : ∀ l : List DRow, (zeroRows v l).length ≤ l.length := by
 intro l
 induction l with
 | nil => simp [zeroRows]
 | cons a r ih =>
  rw [zeroRows]
  split
  ·simp only [List.length_cons]; omega
  ·simp only [List.length_cons]; omega
theorem constLin_at {n : Nat} (h : n ≤ 8) : constLin 0 (n : Int) = (0, List.replicate n 0) := by
 unfold constLin
 rw [if_pos ⟨by omega, rfl⟩, Int.toNat_natCast]
theorem elims_good {n m : Nat} : ∀ (d v : Nat) (l l' : List DRow), (∀ a ∈ l, GoodR n m a) → elims l v d = some l' → ∀ a ∈ l', GoodR n m a := by
 intro d
 induction d with
 | zero =>
  intro v l l' h he
  simp only [elims, Option.some.injEq] at he
  subst he; exact h
 | succ d ih =>
  intro v l l' h he
  simp only [elims] at he
  split at he
  ·cases he
  ·exact ih (v + 1) (elim v l) l' (elim_good h) he
theorem elims_len : ∀ (d v : Nat) (l l' : List DRow), l.length ≤ 60 → elims l v d = some l' → l'.length ≤ 60 := by
 intro d
 induction d with
 | zero =>
  intro v l l' h he
  simp only [elims, Option.some.injEq] at he
  subst he; exact h
 | succ d ih =>
  intro v l l' h he
  simp only [elims] at he
  split at he
  ·cases he
  ·exact ih (v + 1) (elim v l) l' (by omega) he
theorem startRows_good {n m : Nat} : ∀ (rows : List S29) (k : Nat), (∀ r ∈ rows, validLin r.f0 r.f1 (n : Int) = true) → ∀ a ∈ startRows rows m k, GoodR n m a := by
 intro rows
 induction rows with
 | nil => intro k _ a ha; simp [startRows] at ha
 | cons r rs ih =>
  intro k h a ha
  simp only [startRows] at ha
  rcases List.mem_cons.1 ha with rfl | ha
  ·exact ⟨h r (by simp), by simp [unitAt]⟩
  ·exact ih (k + 1) (fun x hx => h x (by simp [hx])) a ha
theorem startRows_len {m : Nat} : ∀ (rows : List S29) (k : Nat), (startRows rows m k).length = rows.length := by
 intro rows
 induction rows with
 | nil => intro k; simp [startRows]
 | cons r rs ih => intro k; simp only [startRows, List.length_cons, ih]
theorem last_good {n : Nat} {c : Int} {cs : List Int} {m : Nat} (hn : n ≤ 8) (h : (lastSc (n : Int) c cs).2.2 = true) : GoodR n m (lastRow (n : Int) c cs m) := by
 have hv := (addSc_valid h).1
 have hl : (constLin (-1) (n : Int)).2.length = n := by
  unfold constLin
  rw [if_pos ⟨by omega, rfl⟩, Int.toNat_natCast, List.length_replicate]
 refine ⟨?_, by simp [lastRow]⟩
 have e : (((constLin (-1) (n : Int)).2.length : Nat) : Int) = (n : Int) := by rw [hl]
 rw [e] at hv
 exact hv
theorem first_good {n : Nat} {rows : List S29} {c : Int} {cs : List Int} (hn : n ≤ 8) (hr : ∀ r ∈ rows, validLin r.f0 r.f1 (n : Int) = true) (h : (lastSc (n : Int) c cs).2.2 = true) : ∀ a ∈ firstRows (n : Int) rows c cs, GoodR n rows.length a := by
 intro a ha
 unfold firstRows at ha
 rcases List.mem_append.1 ha with ha | ha
 ·exact startRows_good rows 0 hr a ha
 ·rw [List.mem_singleton.1 ha]; exact last_good hn h
theorem firstNeg_cons (a : DRow) (r : List DRow) : firstNeg (a :: r) = if a.c < 0 then some a else firstNeg r := rfl
theorem findF_checked {n : Int} {rows : List S29} {c : Int} {cs : List Int} (h : (findF n rows c cs).2.2 = true) : checkFarkas n rows c cs (findF n rows c cs).1 (findF n rows c cs).2.1 = true := by
 unfold findF at h ⊢
 by_cases hc : validSys n rows = true ∧ validLin c cs n = true ∧ (lastSc n c cs).2.2 = true
 ·rw [if_pos hc] at h ⊢
  cases he : elims (firstRows n rows c cs) 0 n.toNat with
  | none => rw [he] at h; simp at h
  | some l =>
   rw [he] at h
   simp only at h ⊢
   unfold foundIn at h ⊢
   cases hf : firstNeg l with
   | none => rw [hf] at h; simp at h
   | some a =>
    rw [hf] at h
    simp only at h ⊢
    by_cases hk : checkFarkas n rows c cs a.s a.ms = true
    ·rw [if_pos hk]; exact hk
    ·rw [if_neg hk] at h; cases h
 ·rw [if_neg hc] at h; cases h
def dot : List Int → List Int → Int
 | c :: cs, v :: vs => c * v + dot cs vs
 | _, _ => 0
def evalLin (c : Int) (cs vs : List Int) : Int × Bool := if validLin c cs (vs.length : Int) = true ∧ vs.all fitsB = true then (c + dot cs vs, true) else (0, false)
theorem drop_cons {α : Type} (xs : List α) (j : Nat) (h : j < xs.length) : xs.drop j = xs[j] :: xs.drop (j + 1) := List.drop_eq_getElem_cons h
theorem dot_vals (k : Int) : ∀ cs ds vs : List Int, okAll k cs ds = true → cs.length = ds.length → dot (vals k cs ds) vs = dot cs vs + k * dot ds vs := by
 intro cs
 induction cs with
 | nil =>
  intro ds vs _ hl
  have : ds = [] := List.length_eq_zero_iff.1 (by simpa using hl.symm)
  subst this
  simp [vals, dot]
 | cons x xs ih =>
  intro ds vs h hl
  cases ds with
  | nil => simp at hl
  | cons y ys =>
   simp only [okAll, Bool.and_eq_true] at h
   cases vs with
   | nil => simp [vals, dot]
   | cons v vs =>
    have hi := ih ys vs h.2 (by simpa using hl)
    unfold vals at hi ⊢
    rw [List.zipWith_cons_cons]
    simp only [dot]
    rw [hi, scVal_val h.1, Int.add_mul, Int.mul_add, Int.mul_assoc]; omega
theorem evalLin_val {c : Int} {cs vs : List Int} (h : validLin c cs (vs.length : Int) = true) (hf : ∀ v ∈ vs, fitsB v = true) : evalLin c cs vs = (c + dot cs vs, true) := by
 unfold evalLin; rw [if_pos ⟨h, List.all_eq_true.2 hf⟩]
def sat (n : Int) (rows : List S29) (vs : List Int) : Bool := validSys n rows && (decide ((vs.length : Int) = n) && (vs.all fitsB && rows.all fun r => !(decide ((evalLin r.f0 r.f1 vs).1 < 0))))
theorem addSc_value {c : Int} {cs : List Int} {k d : Int} {ds : List Int} (vs : List Int) (h : (addSc c cs k d ds).2.2 = true) :
  (addSc c cs k d ds).1 + dot (addSc c cs k d ds).2.1 vs = (c + dot cs vs) + k * (d + dot ds vs) ∧ (addSc c cs k d ds).2.1.length = cs.length ∧ validLin d ds (cs.length : Int) = true := by
 unfold addSc at h ⊢
 split at h
 ·rename_i hc
  rw [if_pos hc]
  obtain ⟨h1, h2, h3, h4, h5⟩ := hc
  have hl := ((validLin_iff _ _ _).1 h2).2.1
  refine ⟨?_, ?_, h2⟩
  ·simp only
   rw [dot_vals k cs ds vs h4 (by omega), scVal_val h5, Int.mul_add]; omega
  ·simp only [vals, List.length_zipWith]; omega
 ·simp at h
theorem combF_value (vs : List Int) : ∀ (rows : List S29) (ms : List Int) (a : Int × List Int), (combF a rows ms).2.2 = true → a.2.length = vs.length → (∀ v ∈ vs, fitsB v = true) → 0 ≤ a.1 + dot a.2 vs → (∀ r ∈ rows, 0 ≤ (evalLin r.f0 r.f1 vs).1) →
  0 ≤ (combF a rows ms).1 + dot (combF a rows ms).2.1 vs := by
 intro rows
 induction rows with
 | nil => intro ms a _ _ _ h _; simpa [combF] using h
 | cons r rs ih =>
  intro ms a h hl hf h0 hr
  cases ms with
  | nil => simpa [combF] using h0
  | cons m ms =>
   simp only [combF] at h ⊢
   by_cases hm : m < 0
   ·rw [if_pos hm] at h; simp at h
   ·by_cases hs : (addSc a.1 a.2 m r.f0 r.f1).2.2 = true
    ·rw [if_neg hm, if_pos hs] at h ⊢
     obtain ⟨v1, v2, v3⟩ := addSc_value vs hs
     refine ih ms _ h (by simp only; omega) hf ?_ (fun x hx => hr x (List.mem_cons_of_mem _ hx))
     simp only
     rw [v1]
     have h1 := hr r List.mem_cons_self
     rw [evalLin_val (by rw [← hl]; exact v3) hf] at h1
     have : 0 ≤ m * (r.f0 + dot r.f1 vs) := Int.mul_nonneg (by omega) h1
     omega
    ·rw [if_neg hm, if_neg hs] at h; simp at h
theorem dot_zeros (n : Nat) (vs : List Int) : dot (List.replicate n 0) vs = 0 := by
 induction n generalizing vs with
 | zero => cases vs <;> rfl
 | succ n ih => cases vs with
  | nil => rfl
  | cons v vs => rw [List.replicate_succ, dot, ih]; simp
theorem combine_value {n : Int} {rows : List S29} {ms vs : List Int} (h : (combine n rows ms).2.2 = true) (hs : sat n rows vs = true) : 0 ≤ (combine n rows ms).1 + dot (combine n rows ms).2.1 vs := by
 unfold sat at hs
 simp only [Bool.and_eq_true, decide_eq_true_eq, List.all_eq_true, Bool.not_eq_true', decide_eq_false_iff_not] at hs
 obtain ⟨s1, s2, s3, s4⟩ := hs
 have s5 := ((validSys_iff _ _).1 s1).1
 unfold combine at h ⊢
 split at h
 ·rename_i hc
  rw [if_pos hc]
  have e : constLin 0 n = (0, List.replicate n.toNat 0) := by unfold constLin; rw [if_pos ⟨s5, rfl⟩]
  rw [e] at h ⊢
  refine combF_value vs rows ms _ h (by simp; omega) s3 ?_ (fun r hr => by have := s4 r hr; omega)
  simp only
  rw [dot_zeros]; simp
 ·simp at h
theorem eval_nonneg {c : Int} {cs vs : List Int} (h : 0 ≤ c + dot cs vs) : ¬ (evalLin c cs vs).1 < 0 := by
 unfold evalLin; split
 ·simp only; omega
 ·simp
theorem dot_const : ∀ (cs vs : List Int), isConst cs = true → dot cs vs = 0 := by
 intro cs
 induction cs with
 | nil => intro vs _; simp [dot]
 | cons x xs ih =>
  intro vs h
  unfold isConst at h ih
  rw [List.all_cons, Bool.and_eq_true, decide_eq_true_eq] at h
  cases vs with
  | nil => simp [dot]
  | cons v vs => simp only [dot]; rw [h.1, ih vs h.2]; simp
theorem farkas_holds {n : Int} {rows : List S29} {c : Int} {cs : List Int} {m : Int} {ms vs : List Int} (h : checkFarkas n rows c cs m ms = true) (hs : sat n rows vs = true) : ¬ (evalLin c cs vs).1 < 0 := by
 unfold checkFarkas at h
 split at h
 ·rename_i hc
  obtain ⟨h1, h2, h3, h4⟩ := hc
  split at h
  ·rename_i h5
   rw [Bool.and_eq_true, decide_eq_true_eq] at h
   obtain ⟨v1, _, _⟩ := addSc_value vs h5
   rw [dot_const _ vs h.1] at v1
   have h6 := combine_value h1 hs
   apply eval_nonneg
   unfold multOk at h3; rw [decide_eq_true_eq] at h3
   have e : -m * (c + 1 + dot cs vs) = -(m * (c + 1 + dot cs vs)) := Int.neg_mul ..
   rw [e] at v1
   by_cases h7 : 0 ≤ c + dot cs vs
   ·exact h7
   ·have h8 : m * (c + 1 + dot cs vs) ≤ 0 := by
     have h9 : 0 ≤ m * (-(c + 1 + dot cs vs)) := Int.mul_nonneg h3.1 (by omega)
     rw [Int.mul_neg] at h9; omega
    omega
  ·cases h
 ·cases h
theorem find_sat {n : Int} {rows : List S29} {c : Int} {cs vs : List Int} (h : (findF n rows c cs).2.2 = true) (hs : sat n rows vs = true) : ¬ (evalLin c cs vs).1 < 0 := farkas_holds (findF_checked h) hs
theorem none_sat {n : Int} {rows : List S29} {vs : List Int} (hs : sat n rows vs = true) : (findF n rows (constLin (-1) n).1 (constLin (-1) n).2).2.2 = false := by
 cases h : (findF n rows (constLin (-1) n).1 (constLin (-1) n).2).2.2
 ·rfl
 ·exfalso
  have h1 := find_sat h hs
  unfold sat at hs
  simp only [Bool.and_eq_true, decide_eq_true_eq, List.all_eq_true, Bool.not_eq_true', decide_eq_false_iff_not] at hs
  obtain ⟨s1, s2, s3, s4⟩ := hs
  have s5 := ((validSys_iff _ _).1 s1).1
  have e : constLin (-1) n = (-1, List.replicate n.toNat 0) := by unfold constLin; rw [if_pos ⟨s5, rfl⟩]
  rw [e] at h1
  rw [evalLin_val ((validLin_iff _ _ _).2 ⟨by omega, by rw [List.length_replicate]; omega, rfl, fun x hx => by rw [List.eq_of_mem_replicate hx]; rfl⟩) s3, dot_zeros] at h1
  simp at h1
theorem laws_at0_ex (b : List Int) (j : Nat) (hb : b.length ≤ 140737488351232) (hx : ∀ x ∈ b, 0 ≤ x ∧ x ≤ 255) (hj : j ≤ 1000) : ∃ r, laws_at0.f b (j : Int) = some r ∧ 0 ≤ r ∧ r ≤ 255 := by
 unfold laws_at0.f
 by_cases h : (j : Int) < (b.length : Int)
 ·rw [if_pos h, if_pos (by omega)]
  have hm : 0 ≤ rd b (j : Int) ∧ rd b (j : Int) ≤ 255 := by
   unfold rd; rw [Int.toNat_natCast, List.getD_eq_getElem?_getD, List.getElem?_eq_getElem (by omega)]; exact hx _ (List.getElem_mem _)
  rw [wrap_id (by omega) (by omega)]
  exact ⟨_, rfl, hm⟩
 ·rw [if_neg h, wrap_id (n := (j : Int) * 7) (by omega) (by omega), wrap_id (by omega) (by omega)]
  refine ⟨_, rfl, Int.tmod_nonneg _ (by omega), ?_⟩
  have := Int.tmod_lt_of_pos ((j : Int) * 7 + (b.length : Int)) (b := 256) (by omega)
  omega
theorem lit_u8 {n : Int} (h : (Lit.int .u8 n).wf = true) : 0 ≤ n ∧ n ≤ 255 := by
 simpa [Lit.wf, IntKind.min, IntKind.max, IntKind.signed, IntKind.bits] using h
theorem impl_within_eq (a b c : Int) : impl_within.f a b c = some (decide (b ≤ a ∧ a ≤ c)) := by
 unfold impl_within.f
 by_cases h : a ≥ b
 ·rw [if_pos h]; congr 1; rw [decide_eq_decide]; omega
 ·rw [if_neg h]; congr 1; symm; rw [decide_eq_false_iff_not]; omega
theorem impl_coeffOk_eq (n : Int) : impl_coeffOk.f n = some (okc n) := by unfold impl_coeffOk.f; rw [impl_within_eq]; rfl
theorem impl_MulLimited_eq (x y : Int) : impl_MulLimited.f x y = some (mulLim x y) := by
 unfold impl_MulLimited.f mulLim; simp only [impl_coeffOk_eq, Option.bind_some]; repeat (split <;> try rfl)
theorem impl_AddLimited_eq (x y : Int) : impl_AddLimited.f x y = some (addLim x y) := by
 unfold impl_AddLimited.f addLim; simp only [impl_coeffOk_eq, Option.bind_some]; repeat (split <;> try rfl)
theorem impl_scaled_eq (x k y : Int) : impl_scaled.f x k y = some (scVal x k y, scOk x k y) := by
 unfold impl_scaled.f scOk scVal
 rw [impl_MulLimited_eq, Option.bind_some, impl_AddLimited_eq, Option.bind_some]
 cases h : (mulLim k y).2 with
 | false => simp
 | true => simp
theorem slices_IndexFunc_int_int__IsValidLin_1_l0 (p : Int → Bool) (hp : ∀ c, impl_IsValidLin_1.f c = some (p c)) (xs : List Int) (hn : xs.length ≤ 4611686018427387904) : ∀ (d j k : Nat), j + d = xs.length → d < k →
  slices_IndexFunc_int_int__IsValidLin_1.l0 k xs (xs.length : Int) (j : Int) = some (firstBy p (xs.drop j) (j : Int)) := by
 intro d
 induction d with
 | zero =>
  intro j k hj hk
  obtain ⟨k, rfl⟩ := succ_of hk
  simp only [slices_IndexFunc_int_int__IsValidLin_1.l0]
  rw [if_neg (by omega), List.drop_eq_nil_of_le (by omega)]; rfl
 | succ d ih =>
  intro j k hj hk
  obtain ⟨k, rfl⟩ := succ_of hk
  have hlt : j < xs.length := by omega
  simp only [slices_IndexFunc_int_int__IsValidLin_1.l0]
  rw [if_pos (by omega), if_pos (by omega), if_pos (by omega), rd_nat _ _ hlt, hp, Option.bind_some, wrap_succ hlt hn, ih (j + 1) k (by omega) (by omega), List.drop_eq_getElem_cons hlt]
  simp only [firstBy]
  split <;> rfl
theorem slices_ContainsFunc_int_int__IsValidLin_1_eq (p : Int → Bool) (hp : ∀ c, impl_IsValidLin_1.f c = some (p c)) (xs : List Int) (hn : xs.length ≤ 4611686018427387904) (k : Nat) (hk : xs.length < k) :
  slices_ContainsFunc_int_int__IsValidLin_1.f k xs () = some (xs.any p) := by
 unfold slices_ContainsFunc_int_int__IsValidLin_1.f slices_IndexFunc_int_int__IsValidLin_1.f
 have := slices_IndexFunc_int_int__IsValidLin_1_l0 p hp xs hn xs.length 0 k (by omega) hk
 rw [show ((0 : Nat) : Int) = 0 from rfl, List.drop_zero] at this
 rw [this, Option.bind_some, firstBy_any p xs 0 (by omega)]
theorem impl_IsValidLin_eq (c : Int) (cs : List Int) (n : Int) (hn : cs.length ≤ 4611686018427387904) (k : Nat) (hk : cs.length < k) : impl_IsValidLin.f k c cs n = some (validLin c cs n) := by
 unfold impl_IsValidLin.f validLin
 rw [impl_within_eq, impl_coeffOk_eq, slices_ContainsFunc_int_int__IsValidLin_1_eq (fun c => !(okc c)) (fun c => by unfold impl_IsValidLin_1.f; rw [impl_coeffOk_eq]; rfl) cs hn k hk]
 simp only [Option.bind_some, any_not_all]
 by_cases h1 : 0 ≤ n ∧ n ≤ 8 <;> by_cases h2 : (cs.length : Int) = n <;> cases h3 : okc c <;> simp [h1, h2]
theorem impl_ConstLin_eq (k n : Int) : impl_ConstLin.f k n = some (constLin k n) := by
 unfold impl_ConstLin.f constLin
 rw [impl_within_eq, impl_coeffOk_eq]; simp only [Option.bind_some, decide_eq_true_eq]
 by_cases h : 0 ≤ n ∧ n ≤ 8
 ·have h3 : n.toNat ≤ 35184372088832 := by omega
  rw [if_pos h, if_pos h.1, if_pos h3]; cases h2 : okc k
  ·rw [if_neg (by simp), if_neg (by simp)]
  ·rw [if_pos rfl, if_pos ⟨h, rfl⟩]
 ·rw [if_neg h, if_neg (fun e => h e.1)]
theorem impl_AddScaled_l0 (kk : Int) (n : Nat) (c : Int) (cs : List Int) (d : Int) (ds : List Int) (oc : Int) (h1 : cs.length = n) (h2 : ds.length = n) (hn : n ≤ 4611686018427387904) : ∀ (e j k : Nat) (p r : List Int) (all : Bool), j + e = n → e < k → p.length = j → r.length = e →
  impl_AddScaled.l0 k kk all (n : Int) (j : Int) c cs d ds oc (p ++ r) = some (if (all && okAll kk (cs.drop j) (ds.drop j)) = true then (oc, p ++ vals kk (cs.drop j) (ds.drop j), true) else (0, [], false)) := by
 intro e
 induction e with
 | zero =>
  intro j k p r all hj hk hp hr
  obtain ⟨k, rfl⟩ := succ_of hk
  have : r = [] := List.length_eq_zero_iff.1 hr
  subst this
  simp only [impl_AddScaled.l0]
  rw [if_neg (by omega), List.drop_eq_nil_of_le (by omega), List.drop_eq_nil_of_le (by omega)]
  cases all <;> simp [okAll, vals]
 | succ e ih =>
  intro j k p r all hj hk hp hr
  obtain ⟨k, rfl⟩ := succ_of hk
  cases r with
  | nil => simp at hr
  | cons y r =>
   have hj1 : j < cs.length := by omega
   have hj2 : j < ds.length := by omega
   simp only [impl_AddScaled.l0]
   rw [if_pos (by omega), if_pos (by omega), if_pos (by omega), if_pos (by omega), rd_nat _ _ hj1, rd_nat _ _ hj2, impl_scaled_eq, Option.bind_some, if_pos (by simp only [List.length_append, List.length_cons]; omega), Option.bind_some, wrap_succ (n := n) (by omega) hn, Int.toNat_natCast]
   have es : (p ++ y :: r).set j (scVal cs[j] kk ds[j]) = (p ++ [scVal cs[j] kk ds[j]]) ++ r := by generalize scVal cs[j] kk ds[j] = z; rw [← hp]; simp
   have hi := ih (j + 1) k (p ++ [scVal cs[j] kk ds[j]]) r
   have hz : vals kk (cs.drop j) (ds.drop j) = scVal cs[j] kk ds[j] :: vals kk (cs.drop (j + 1)) (ds.drop (j + 1)) := by unfold vals; exact drop_zip _ _ _ _ hj1 hj2
   rw [es, hi (scOk cs[j] kk ds[j]) (by omega) (by omega) (by simp; omega) (by simpa using hr), hi false (by omega) (by omega) (by simp; omega) (by simpa using hr), drop_okAll _ _ _ _ hj1 hj2, hz]
   cases all <;> simp
theorem impl_AddScaled_eq (c : Int) (cs : List Int) (kk : Int) (d : Int) (ds : List Int) (hn : cs.length ≤ 1048577) (hm : ds.length ≤ 1048577) (k : Nat) (hk : 1048600 < k) : impl_AddScaled.f k c cs kk d ds = some (addSc c cs kk d ds) := by
 unfold impl_AddScaled.f addSc
 rw [impl_IsValidLin_eq c cs _ (by omega) k (by omega), impl_IsValidLin_eq d ds _ (by omega) k (by omega), impl_coeffOk_eq]
 simp only [Option.bind_some]
 obtain ⟨k, rfl⟩ := succ_of hk
 simp only [impl_AddScaled.j0]
 cases hv : validLin c cs (cs.length : Int) with
 | false => simp
 | true =>
  cases hw : validLin d ds (cs.length : Int) with
  | false => simp
  | true =>
   cases ho : okc kk with
   | false => simp
   | true =>
    have h1 := (validLin_iff _ _ _).1 hv
    have h2 := (validLin_iff _ _ _).1 hw
    have hc : constLin 0 (cs.length : Int) = (0, List.replicate cs.length 0) := by unfold constLin; rw [if_pos ⟨h1.1, by rw [okc_iff]; omega⟩, Int.toNat_natCast]
    have hl := impl_AddScaled_l0 kk cs.length c cs d ds (scVal c kk d) rfl (by omega) (by omega) cs.length 0 k [] (List.replicate cs.length 0) (scOk c kk d) (by omega) (by omega) rfl (by simp)
    rw [show ((0 : Nat) : Int) = 0 from rfl, List.nil_append, List.drop_zero, List.drop_zero, List.nil_append] at hl
    rw [if_pos rfl, if_pos rfl, if_neg (by simp), impl_ConstLin_eq, Option.bind_some, hc, impl_scaled_eq, Option.bind_some, hl]
    simp only [true_and]
    cases scOk c kk d <;> cases okAll kk cs ds <;> simp
theorem impl_combined_1_eq (j k x y : Int) : impl_combined_1.f j k x y = some (mixVal j x k y, mixOk j x k y) := by
 unfold impl_combined_1.f mixVal mixOk
 rw [impl_MulLimited_eq, Option.bind_some, impl_scaled_eq, Option.bind_some]
theorem impl_combined_l0 (j k : Int) (am bm : List Int) (hl : am.length = bm.length) (hn : am.length ≤ 1048576) : ∀ (d i f : Nat) (ms : List Int) (ok : Bool), i + d = am.length → d < f → ms.length = i →
  impl_combined.l0 f j k am bm (i : Int) ms ok = some (ms ++ mixVals j k (am.drop i) (bm.drop i), ok && mixOks j k (am.drop i) (bm.drop i)) := by
 intro d
 induction d with
 | zero =>
  intro i f ms ok hi hf hm
  obtain ⟨f, rfl⟩ := succ_of hf
  simp only [impl_combined.l0]
  rw [if_neg (by omega), List.drop_eq_nil_of_le (by omega), mixVals_nil, mixOks_nil, List.append_nil, Bool.and_true]
 | succ d ih =>
  intro i f ms ok hi hf hm
  obtain ⟨f, rfl⟩ := succ_of hf
  have h1 : i < am.length := by omega
  have h2 : i < bm.length := by omega
  simp only [impl_combined.l0]
  rw [if_pos (by omega), if_pos (by omega), if_pos (by omega), rd_nat _ _ h1, rd_nat _ _ h2, impl_combined_1_eq, Option.bind_some, if_pos (by omega), wrap_succ h1 (by omega), ih (i + 1) f _ _ (by omega) (by omega) (by simp; omega), drop_mixVals _ _ _ _ _ h1 h2, drop_mixOks _ _ _ _ _ h1 h2, List.append_assoc, Bool.and_assoc]
  rfl
theorem impl_combined_eq {n m : Nat} {a b : DRow} (ha : GoodR n m a) (hb : GoodR n m b) (hm : m ≤ 1048576) (j k : Int) (f : Nat) (hf : 1048700 < f) :
  ∃ t, impl_combined.f f a.c a.cs a.ms a.s j b.c b.cs b.ms b.s k = some t ∧ t.2.2.2.2 = combOk j a k b ∧ (t.2.2.2.2 = true → (⟨⟨t.1, t.2.1⟩, t.2.2.1, t.2.2.2.1⟩ : S89) = ofD (combV j a k b)) := by
 unfold impl_combined.f
 have hla := ha.len
 have hlb := hb.len
 rw [impl_ConstLin_eq, constLin_at (by omega)]
 simp only [Option.bind_some]
 rw [impl_AddScaled_eq _ _ _ _ _ (by rw [List.length_replicate]; omega) (by omega) f (by omega)]
 simp only [Option.bind_some]
 have l1 := addSc_length 0 (List.replicate a.cs.length 0) j a.c a.cs
 rw [impl_AddScaled_eq _ _ _ _ _ (by omega) (by omega) f (by omega)]
 simp only [Option.bind_some]
 unfold combOk
 change ∃ t, (if (firstSc j a).2.2 = true ∧ (combSc j a k b).2.2 = true then _ else _) = some t ∧ _
 cases h1 : (firstSc j a).2.2 with
 | false => exact ⟨_, by rw [if_neg (by simp)], rfl, fun h => by cases h⟩
 | true =>
  cases h2 : (combSc j a k b).2.2 with
  | false => exact ⟨_, by rw [if_neg (by simp)], rfl, fun h => by cases h⟩
  | true =>
   have h0 := impl_combined_l0 j k a.ms b.ms (by rw [ha.2, hb.2]) (by rw [ha.2]; omega) a.ms.length 0 f [] (mixOk j a.s k b.s) (by omega) (by rw [ha.2]; omega) rfl
   rw [show ((0 : Nat) : Int) = 0 from rfl, List.drop_zero, List.drop_zero, List.nil_append] at h0
   refine ⟨((combSc j a k b).1, (combSc j a k b).2.1, mixVals j k a.ms b.ms, mixVal j a.s k b.s, mixOk j a.s k b.s && mixOks j k a.ms b.ms), ?_, ?_, fun _ => rfl⟩
   ·rw [if_pos ⟨rfl, rfl⟩, impl_combined_1_eq]
    simp only [Option.bind_some]
    rw [h0]
    rfl
   ·simp only [Bool.true_and]
    exact Bool.and_comm _ _
theorem impl_Gcd_l0 : ∀ (n k : Nat) (a b : Int), okc a = true → okc b = true → b.natAbs ≤ n → n < k → impl_Gcd.l0 k a b = some (Int.gcd a b : Int) := by
 intro n
 induction n with
 | zero =>
  intro k a b ha hb hn hk
  obtain ⟨k, rfl⟩ := succ_of hk
  have : b = 0 := by omega
  subst this
  have := (okc_iff a).1 ha
  unfold impl_Gcd.l0
  rw [if_pos rfl, wrap_id (by omega) (by omega)]; congr 1; unfold mx; simp only [Int.gcd, Int.natAbs_zero, Nat.gcd_zero_right]; split <;> omega
 | succ n ih =>
  intro k a b ha hb hn hk
  obtain ⟨k, rfl⟩ := succ_of hk
  have ha' := (okc_iff a).1 ha
  have hb' := (okc_iff b).1 hb
  unfold impl_Gcd.l0
  by_cases h : b = 0
  ·subst h
   rw [if_pos rfl, wrap_id (by omega) (by omega)]; congr 1; unfold mx; simp only [Int.gcd, Int.natAbs_zero, Nat.gcd_zero_right]; split <;> omega
  ·have h1 : (Int.tmod a b).natAbs = a.natAbs % b.natAbs := Int.natAbs_tmod a b
   have h2 : a.natAbs % b.natAbs < b.natAbs := Nat.mod_lt _ (by omega)
   rw [if_neg h, ih k b (Int.tmod a b) hb ((okc_iff _).2 (by omega)) (by omega) (by omega), gcd_step]
theorem impl_Gcd_eq (x y : Int) (k : Nat) (hk : 1000000001 < k) : impl_Gcd.f k x y = some (gcdOf x y) := by
 obtain ⟨k, rfl⟩ := succ_of hk
 unfold impl_Gcd.f gcdOf
 rw [impl_coeffOk_eq, impl_coeffOk_eq]; simp only [Option.bind_some, impl_Gcd.j0]
 cases hx : okc x with
 | false => simp
 | true =>
  cases hy : okc y with
  | false => simp
  | true =>
   have hx' := (okc_iff x).1 hx
   have hy' := (okc_iff y).1 hy
   simp only [Bool.not_true, if_true, and_self, Bool.false_eq_true, if_false]
   rw [impl_Gcd_l0 1000000000 k _ _ hx hy (by omega) (by omega)]
theorem impl_without_l0 {n m v : Nat} (hv : v < n) (l : List DRow) (hg : ∀ a ∈ l, GoodR n m a) (hn : l.length ≤ 1048576) : ∀ (d i f : Nat) (out : List S89), i + d = l.length → d < f → out.length ≤ i →
  impl_without.l0 f (l.map ofD) (v : Int) (i : Int) out = some (out ++ (zeroRows v (l.drop i)).map ofD) := by
 intro d
 induction d with
 | zero =>
  intro i f out hi hf ho
  obtain ⟨f, rfl⟩ := succ_of hf
  simp only [impl_without.l0]
  rw [if_neg (by rw [List.length_map]; omega), List.drop_eq_nil_of_le (by omega)]
  simp [zeroRows]
 | succ d ih =>
  intro i f out hi hf ho
  obtain ⟨f, rfl⟩ := succ_of hf
  have h1 : i < l.length := by omega
  have hgi := hg _ (List.getElem_mem h1)
  have hli := hgi.len.1
  simp only [impl_without.l0]
  rw [if_pos (by rw [List.length_map]; omega), if_pos (by omega), if_pos (by omega), rd_D _ _ h1, show (ofD l[i]).f0.f1 = l[i].cs from rfl, if_pos (by omega), rd_coef hgi hv, wrap_succ h1 (by omega), List.drop_eq_getElem_cons h1, zeroRows]
  by_cases hz : coefAt v l[i] = 0
  ·rw [if_pos hz, if_pos hz, if_pos (by omega), ih (i + 1) f _ (by omega) (by omega) (by simp; omega), List.map_cons, List.append_assoc]
   rfl
  ·rw [if_neg hz, if_neg hz, ih (i + 1) f _ (by omega) (by omega) (by omega)]
theorem impl_without_l2 {n m v : Nat} (hv : v < n) (hm : m ≤ 1048576) (l : List DRow) (hg : ∀ a ∈ l, GoodR n m a) (hn : l.length ≤ 1048576) (a : DRow) (ha : GoodR n m a) (hp : 0 < coefAt v a) : ∀ (d i f : Nat) (out : List S89), i + d = l.length → d + 1000000010 < f → out.length + d ≤ 2199023255551 →
  impl_without.l2 f (l.map ofD) (v : Int) (ofD a) (coefAt v a) (i : Int) out = some (out ++ (pairs v a (l.drop i)).map ofD) := by
 intro d
 induction d with
 | zero =>
  intro i f out hi hf ho
  obtain ⟨f, rfl⟩ := succ_of hf
  simp only [impl_without.l2]
  rw [if_neg (by rw [List.length_map]; omega), List.drop_eq_nil_of_le (by omega)]
  simp [pairs]
 | succ d ih =>
  intro i f out hi hf ho
  obtain ⟨f, rfl⟩ := succ_of hf
  have h1 : i < l.length := by omega
  have hb := hg _ (List.getElem_mem h1)
  have hli := hb.len.1
  have kb := (okc_iff _).1 (coef_okc (v := v) hb)
  simp only [impl_without.l2]
  rw [if_pos (by rw [List.length_map]; omega), if_pos (by omega), rd_D _ _ h1, show (ofD l[i]).f0.f1 = l[i].cs from rfl, if_pos (by omega), rd_coef hb hv, wrap_succ h1 (by omega), List.drop_eq_getElem_cons h1, pairs]
  rw [wrap_id (n := -(coefAt v l[i])) (by omega) (by omega)]
  by_cases hq : coefAt v l[i] < 0
  ·rw [if_neg (by omega), if_pos hq, impl_Gcd_eq _ _ f (by omega), Option.bind_some]
   obtain ⟨e1, e2, e3, e4, e5⟩ := div_q ha hb hp hq
   rw [if_neg e2, e4, e5]
   obtain ⟨t, ht, hok, hrow⟩ := impl_combined_eq ha hb hm (qOf v a l[i]) (pOf v a l[i]) f (by omega)
   have ht' : impl_combined.f f (ofD a).f0.f0 (ofD a).f0.f1 (ofD a).f1 (ofD a).f2 (qOf v a l[i]) (ofD l[i]).f0.f0 l[i].cs (ofD l[i]).f1 (ofD l[i]).f2 (pOf v a l[i]) = some t := ht
   rw [ht', Option.bind_some]
   by_cases hc : combOk (qOf v a l[i]) a (pOf v a l[i]) l[i] = true
   ·rw [if_pos (by rw [hok]; exact hc), if_pos hc, if_pos (by omega), hrow (by rw [hok]; exact hc)]
    have hi2 := ih (i + 1) f (out ++ [ofD (combV (qOf v a l[i]) a (pOf v a l[i]) l[i])]) (by omega) (by omega) (by simp; omega)
    rw [hi2, List.map_cons, List.append_assoc]
    rfl
   ·rw [if_neg (by rw [hok]; exact hc), if_neg hc]
    have hi2 := ih (i + 1) f out (by omega) (by omega) (by omega)
    rw [hi2]
  ·rw [if_pos (by omega), if_neg hq]
   have hi2 := ih (i + 1) f out (by omega) (by omega) (by omega)
   rw [hi2]
theorem impl_without_l1 {n m v : Nat} (hv : v < n) (hm : m ≤ 1048576) (l : List DRow) (hg : ∀ a ∈ l, GoodR n m a) (hn : l.length ≤ 1048576) : ∀ (d i f : Nat) (out : List S89), i + d = l.length → d + l.length + 1000000020 < f → out.length + d * l.length + l.length ≤ 2199023255551 →
  impl_without.l1 f (l.map ofD) (v : Int) (i : Int) out = some (out ++ (allPairs v l (l.drop i)).map ofD) := by
 intro d
 induction d with
 | zero =>
  intro i f out hi hf ho
  obtain ⟨f, rfl⟩ := succ_of hf
  simp only [impl_without.l1]
  rw [if_neg (by rw [List.length_map]; omega), List.drop_eq_nil_of_le (by omega)]
  simp [allPairs]
 | succ d ih =>
  intro i f out hi hf ho
  obtain ⟨f, rfl⟩ := succ_of hf
  have h1 : i < l.length := by omega
  have ha := hg _ (List.getElem_mem h1)
  have hli := ha.len.1
  rw [Nat.succ_mul] at ho
  simp only [impl_without.l1]
  rw [if_pos (by rw [List.length_map]; omega), if_pos (by omega), if_pos (by omega), rd_D _ _ h1]
  have e0 : (ofD l[i]).f0.f1 = l[i].cs := rfl
  rw [e0, if_pos (by omega), rd_coef ha hv, wrap_succ h1 (by omega), List.drop_eq_getElem_cons h1, allPairs]
  by_cases hp : 0 < coefAt v l[i]
  ·rw [if_neg (by omega), if_pos hp]
   have h2 := impl_without_l2 hv hm l hg hn l[i] ha hp l.length 0 f out (by omega) (by omega) (by omega)
   rw [show ((0 : Nat) : Int) = 0 from rfl, List.drop_zero] at h2
   rw [h2, Option.bind_some]
   have hpl := pairs_len v l[i] l
   rw [ih (i + 1) f _ (by omega) (by omega) (by rw [List.length_append, List.length_map]; omega), List.map_append, List.append_assoc]
  ·rw [if_pos (by omega), if_neg hp, ih (i + 1) f out (by omega) (by omega) (by omega)]
theorem impl_without_eq {n m v : Nat} (hv : v < n) (hm : m ≤ 1048576) (l : List DRow) (hg : ∀ a ∈ l, GoodR n m a) (hn : l.length ≤ 4096) (f : Nat) (hf : 1000100000 < f) : impl_without.f f (l.map ofD) (v : Int) = some ((elim v l).map ofD) := by
 unfold impl_without.f elim
 have h0 := impl_without_l0 hv l hg (by omega) l.length 0 f [] (by omega) (by omega) (by simp)
 have hz := zeroRows_len v l
 have hsq : l.length * l.length ≤ 4096 * 4096 := Nat.mul_le_mul hn hn
 have h1 := impl_without_l1 hv hm l hg (by omega) l.length 0 f ((zeroRows v l).map ofD) (by omega) (by omega) (by rw [List.length_map]; omega)
 rw [show ((0 : Nat) : Int) = 0 from rfl, List.drop_zero] at h0 h1
 rw [h0, Option.bind_some, List.nil_append, h1, List.map_append]
theorem impl_IsValidSystem_l0 (n : Int) (rows : List S29) (hn : rows.length ≤ 4611686018427387904) (hx : ∀ x ∈ rows, x.f1.length ≤ 1048576) : ∀ (d j k : Nat), j + d = rows.length → d + 1048577 < k →
  impl_IsValidSystem.l0 k rows (rows.length : Int) (j : Int) n rows = some ((rows.drop j).all (fun r => validLin r.f0 r.f1 n)) := by
 intro d
 induction d with
 | zero =>
  intro j k hj hk
  obtain ⟨k, rfl⟩ := succ_of hk
  simp only [impl_IsValidSystem.l0]
  rw [if_neg (by omega), List.drop_eq_nil_of_le (by omega)]; rfl
 | succ d ih =>
  intro j k hj hk
  obtain ⟨k, rfl⟩ := succ_of hk
  have hlt : j < rows.length := by omega
  have hxj := hx _ (List.getElem_mem hlt)
  simp only [impl_IsValidSystem.l0]
  rw [if_pos (by omega), if_pos (by omega), if_pos (by omega), rd_lin _ _ hlt, impl_IsValidLin_eq _ _ _ (by omega) k (by omega), Option.bind_some, wrap_succ hlt hn, ih (j + 1) k (by omega) (by omega), List.drop_eq_getElem_cons hlt, List.all_cons]
  cases validLin rows[j].f0 rows[j].f1 n <;> simp
theorem impl_IsValidSystem_eq (n : Int) (rows : List S29) (hn : rows.length ≤ 1048577) (hx : ∀ x ∈ rows, x.f1.length ≤ 1048576) (k : Nat) (hk : 2097156 < k) : impl_IsValidSystem.f k n rows = some (validSys n rows) := by
 unfold impl_IsValidSystem.f validSys
 rw [impl_within_eq, Option.bind_some]
 obtain ⟨k, rfl⟩ := succ_of hk
 simp only [impl_IsValidSystem.j0]
 have := impl_IsValidSystem_l0 n rows (by omega) hx rows.length 0 k (by omega) (by omega)
 rw [show ((0 : Nat) : Int) = 0 from rfl, List.drop_zero] at this
 rw [this]
 by_cases h1 : 0 ≤ n ∧ n ≤ 8
 ·by_cases h2 : rows.length ≤ 20
  ·have : ¬ ((rows.length : Int) > 20) := by omega
   simp [h1, h2, this]
  ·have : (rows.length : Int) > 20 := by omega
   simp [h1, h2, this]
 ·simp [h1]
theorem slices_IndexFunc_int_int__CombineRows_1_l0 (p : Int → Bool) (hp : ∀ c, impl_CombineRows_1.f c = some (p c)) (xs : List Int) (hn : xs.length ≤ 4611686018427387904) : ∀ (d j k : Nat), j + d = xs.length → d < k →
  slices_IndexFunc_int_int__CombineRows_1.l0 k xs (xs.length : Int) (j : Int) = some (firstBy p (xs.drop j) (j : Int)) := by
 intro d
 induction d with
 | zero =>
  intro j k hj hk
  obtain ⟨k, rfl⟩ := succ_of hk
  simp only [slices_IndexFunc_int_int__CombineRows_1.l0]
  rw [if_neg (by omega), List.drop_eq_nil_of_le (by omega)]; rfl
 | succ d ih =>
  intro j k hj hk
  obtain ⟨k, rfl⟩ := succ_of hk
  have hlt : j < xs.length := by omega
  simp only [slices_IndexFunc_int_int__CombineRows_1.l0]
  rw [if_pos (by omega), if_pos (by omega), if_pos (by omega), rd_nat _ _ hlt, hp, Option.bind_some, wrap_succ hlt hn, ih (j + 1) k (by omega) (by omega), List.drop_eq_getElem_cons hlt]
  simp only [firstBy]
  split <;> rfl
theorem slices_ContainsFunc_int_int__CombineRows_1_eq (p : Int → Bool) (hp : ∀ c, impl_CombineRows_1.f c = some (p c)) (xs : List Int) (hn : xs.length ≤ 4611686018427387904) (k : Nat) (hk : xs.length < k) :
  slices_ContainsFunc_int_int__CombineRows_1.f k xs () = some (xs.any p) := by
 unfold slices_ContainsFunc_int_int__CombineRows_1.f slices_IndexFunc_int_int__CombineRows_1.f
 have := slices_IndexFunc_int_int__CombineRows_1_l0 p hp xs hn xs.length 0 k (by omega) hk
 rw [show ((0 : Nat) : Int) = 0 from rfl, List.drop_zero] at this
 rw [this, Option.bind_some, firstBy_any p xs 0 (by omega)]
theorem impl_CombineRows_l0 (n : Int) (rows : List S29) (ms : List Int) (hl : ms.length = rows.length) (hn : rows.length ≤ 4611686018427387904) (hx : ∀ x ∈ rows, x.f1.length ≤ 1048576) (hm : ∀ m ∈ ms, multOk m = true) : ∀ (d j k : Nat) (a : Int × List Int), j + d = rows.length → d + 1048600 < k → a.2.length ≤ 8 →
  impl_CombineRows.l0 k ms (ms.length : Int) (j : Int) n rows a.1 a.2 = some (combF a (rows.drop j) (ms.drop j)) := by
 intro d
 induction d with
 | zero =>
  intro j k a hj hk ha
  obtain ⟨k, rfl⟩ := succ_of hk
  simp only [impl_CombineRows.l0]
  rw [if_neg (by omega), List.drop_eq_nil_of_le (by omega)]
  simp [combF]
 | succ d ih =>
  intro j k a hj hk ha
  obtain ⟨k, rfl⟩ := succ_of hk
  have hlt : j < rows.length := by omega
  have hlm : j < ms.length := by omega
  have hxj := hx _ (List.getElem_mem hlt)
  have hmj := hm _ (List.getElem_mem hlm)
  have h1 : ¬ ms[j] < 0 := by unfold multOk at hmj; rw [decide_eq_true_eq] at hmj; omega
  simp only [impl_CombineRows.l0]
  rw [if_pos (by omega), if_pos (by omega), if_pos (by omega), if_pos (by omega), rd_lin _ _ hlt, rd_nat _ _ hlm, impl_AddScaled_eq _ _ _ _ _ (by omega) (by omega) k (by omega), Option.bind_some, wrap_succ hlt hn, List.drop_eq_getElem_cons hlt, List.drop_eq_getElem_cons hlm]
  simp only [combF]
  have hi := ih (j + 1) k ((addSc a.1 a.2 ms[j] rows[j].f0 rows[j].f1).1, (addSc a.1 a.2 ms[j] rows[j].f0 rows[j].f1).2.1) (by omega) (by omega) (addSc_length _ _ _ _ _)
  simp only at hi
  rw [hi, if_neg h1]
  split <;> rfl
theorem impl_CombineRows_eq (n : Int) (rows : List S29) (ms : List Int) (hn : rows.length ≤ 1048576) (hm : ms.length ≤ 1048576) (hx : ∀ x ∈ rows, x.f1.length ≤ 1048576) (k : Nat) (hk : 2097200 < k) : impl_CombineRows.f k n rows ms = some (combine n rows ms) := by
 unfold impl_CombineRows.f combine
 rw [impl_IsValidSystem_eq n rows (by omega) hx k (by omega), Option.bind_some]
 rw [slices_ContainsFunc_int_int__CombineRows_1_eq (fun c => !(multOk c)) (fun c => by unfold impl_CombineRows_1.f; rw [impl_within_eq]; rfl) ms (by omega) k (by omega), Option.bind_some]
 obtain ⟨k, rfl⟩ := succ_of hk
 simp only [impl_CombineRows.j0]
 by_cases hl : ms.length = rows.length
 ·have e : (ms.any fun c => !(multOk c)) = !(ms.all multOk) := by rw [← any_not_all, Bool.not_not]
  rw [e]
  have hl2 : (ms.length : Int) = (rows.length : Int) := by omega
  cases ha : ms.all multOk
  ·have h0 := combF_bad rows ms (constLin 0 n) hl ha
   rw [h0]
   cases hv : validSys n rows <;> simp [hl2]
  ·have h0 := impl_CombineRows_l0 n rows ms hl (by omega) hx (by simpa using ha) rows.length 0 k (constLin 0 n) (by omega) (by omega) (constLin_length 0 n)
   rw [show ((0 : Nat) : Int) = 0 from rfl, List.drop_zero, List.drop_zero] at h0
   rw [impl_ConstLin_eq]; simp only [Option.bind_some]
   rw [h0]
   cases hv : validSys n rows <;> simp [hl]
 ·have h2 : ¬ ((ms.length : Int) = (rows.length : Int)) := by omega
  cases hv : validSys n rows <;> simp [hl, h2]
theorem slices_Clone_eq (xs : List Int) (hn : xs.length ≤ 10000000000000) : slices_Clone_int_int.f xs = some xs := by
 unfold slices_Clone_int_int.f
 simp only [Option.bind_some, List.length_nil, List.nil_append]
 rw [if_pos (by omega)]
theorem impl_copyLin_eq (c : Int) (xs : List Int) (hn : xs.length ≤ 10000000000000) : impl_copyLin.f c xs = some (c, xs) := by
 unfold impl_copyLin.f; rw [slices_Clone_eq xs hn]; rfl
theorem impl_plus_eq (c : Int) (cs : List Int) (hc : cs.length ≤ 1048576) (k : Nat) (hk : 2097200 < k) (h : validLin c cs (cs.length : Int) = true) : impl_plus.f k c cs 1 = some (if okc (c + 1) = true then (c + 1, cs, true) else (0, [], false)) := by
 unfold impl_plus.f
 rw [impl_AddLimited_eq, Option.bind_some, impl_IsValidLin_eq _ _ _ (by omega) k (by omega), impl_copyLin_eq _ _ (by omega), h]
 have h3 := ((validLin_iff _ _ _).1 h).2.2.1
 by_cases ho : okc (c + 1) = true
 ·have ha : (addLim c 1).2 = true := (addLim_iff c 1).2 ⟨h3, rfl, ho⟩
  rw [if_pos ho, if_pos ha, addLim_val ha]; simp
 ·have ha : ¬ (addLim c 1).2 = true := fun e => ho ((addLim_iff c 1).1 e).2.2
  rw [if_neg ho, if_neg ha]
theorem impl_CheckFarkas_eq (n : Int) (rows : List S29) (c : Int) (cs : List Int) (m : Int) (ms : List Int) (hn : rows.length ≤ 1048576) (hx : ∀ x ∈ rows, x.f1.length ≤ 1048576) (hc : cs.length ≤ 1048576) (hm : ms.length ≤ 1048576) (k : Nat) (hk : 2097210 < k) : impl_CheckFarkas.f k n rows c cs m ms = some (checkFarkas n rows c cs m ms) := by
 unfold impl_CheckFarkas.f checkFarkas
 have hl := combine_length n rows ms
 rw [impl_IsValidSystem_eq n rows (by omega) hx k (by omega), impl_IsValidLin_eq c cs n (by omega) k (by omega), impl_within_eq]
 simp only [Option.bind_some]
 obtain ⟨k, rfl⟩ := succ_of hk
 simp only [impl_CheckFarkas.j0]
 cases h0 : validSys n rows
 ·have h1 : ¬ (combine n rows ms).2.2 = true := fun e => by rw [combine_valid e] at h0; cases h0
  simp [h1]
 cases h2 : validLin c cs n
 ·simp
 cases h3 : multOk m
 ·have h4 : ¬ (0 ≤ m ∧ m ≤ 1000000000) := by unfold multOk at h3; exact of_decide_eq_false h3
  simp [h4]
 ·have h4 : decide (0 ≤ m ∧ m ≤ 1000000000) = true := h3
  have hv : validLin c cs (cs.length : Int) = true := by rw [((validLin_iff _ _ _).1 h2).2.1]; exact h2
  rw [h4, impl_CombineRows_eq n rows ms hn hm hx k (by omega), impl_plus_eq c cs hc k (by omega) hv]
  simp only [Option.bind_some, if_true, Bool.not_true, Bool.false_eq_true, if_false, true_and]
  obtain ⟨k, rfl⟩ : ∃ j, k = j + 1 := ⟨k - 1, by omega⟩
  simp only [impl_CheckFarkas.j1]
  cases h1 : (combine n rows ms).2.2
  ·simp
  by_cases ho : okc (c + 1) = true
  ·rw [if_pos ho, neg_mult h3]
   simp only [ho, and_self, if_true, Bool.not_true, Bool.false_eq_true, if_false]
   have hq := addSc_length (combine n rows ms).1 (combine n rows ms).2.1 (-m) (c + 1) cs
   rw [impl_AddScaled_eq _ _ _ _ _ (by omega) (by omega) k (by omega), Option.bind_some, impl_IsConstant_eq _ _ (by omega) k (by omega)]
   simp only [Option.bind_some]
   split
   ·cases isConst (addSc (combine n rows ms).1 (combine n rows ms).2.1 (-m) (c + 1) cs).2.1 <;> simp
   ·rfl
  ·simp [ho]
theorem impl_FF_l0 (rows : List S29) (hr : rows.length ≤ 1048576) : ∀ (d i f : Nat) (out : List S89), i + d = rows.length → d < f → out.length = i →
  impl_FindFarkas.l0 f rows (i : Int) out = some (out ++ (startRows (rows.drop i) rows.length i).map ofD) := by
 intro d
 induction d with
 | zero =>
  intro i f out hi hf ho
  obtain ⟨f, rfl⟩ := succ_of hf
  simp only [impl_FindFarkas.l0]
  rw [if_neg (by omega), List.drop_eq_nil_of_le (by omega)]
  simp [startRows]
 | succ d ih =>
  intro i f out hi hf ho
  obtain ⟨f, rfl⟩ := succ_of hf
  have h1 : i < rows.length := by omega
  simp only [impl_FindFarkas.l0]
  rw [if_pos (by omega), if_pos (by omega), if_pos (by omega), if_pos (by omega), rd_lin _ _ h1, wrap_succ h1 (by omega), ih (i + 1) f _ (by omega) (by omega) (by simp; omega), List.drop_eq_getElem_cons h1, Int.toNat_natCast, List.append_assoc]
  rfl
theorem impl_FF_l1 {n m : Nat} (hn : n ≤ 8) (hm : m ≤ 1048576) : ∀ (d v f : Nat) (l : List DRow), v + d = n → d + 1000100000 < f → (∀ a ∈ l, GoodR n m a) → l.length ≤ 60 →
  impl_FindFarkas.l1 f (n : Int) (v : Int) (l.map ofD) = some ((elims l v d).map (List.map ofD)) := by
 intro d
 induction d with
 | zero =>
  intro v f l hv hf hg hl
  obtain ⟨f, rfl⟩ := succ_of hf
  simp only [impl_FindFarkas.l1]
  rw [if_neg (by omega)]; rfl
 | succ d ih =>
  intro v f l hv hf hg hl
  obtain ⟨f, rfl⟩ := succ_of (show 0 < f by omega)
  simp only [impl_FindFarkas.l1, elims]
  rw [if_pos (by omega), impl_without_eq (n := n) (by omega) hm l hg (by omega) f (by omega), Option.bind_some, List.length_map]
  by_cases hc : 60 < (elim v l).length
  ·rw [if_pos (by omega), if_pos hc]; rfl
  ·rw [if_neg (by omega), if_neg hc, wrap_succ (n := n) (by omega) (by omega), ih (v + 1) f (elim v l) (by omega) (by omega) (elim_good hg) (by omega)]
theorem impl_FF_l2 {N m : Nat} (n : Int) (rows : List S29) (c : Int) (cs : List Int) (hn : rows.length ≤ 1048576) (hx : ∀ x ∈ rows, x.f1.length ≤ 1048576) (hc : cs.length ≤ 1048576) (hm : m ≤ 1048576) (l : List DRow) (hg : ∀ a ∈ l, GoodR N m a) (hl : l.length ≤ 1048576) : ∀ (d i f : Nat), i + d = l.length → d + 2097210 < f →
  impl_FindFarkas.l2 f n rows c cs (l.map ofD) (i : Int) = some (foundIn n rows c cs (l.drop i)) := by
 intro d
 induction d with
 | zero =>
  intro i f hi hf
  obtain ⟨f, rfl⟩ := succ_of hf
  simp only [impl_FindFarkas.l2]
  rw [if_neg (by rw [List.length_map]; omega), List.drop_eq_nil_of_le (by omega)]; rfl
 | succ d ih =>
  intro i f hi hf
  obtain ⟨f, rfl⟩ := succ_of (show 0 < f by omega)
  have h1 : i < l.length := by omega
  have ha := hg _ (List.getElem_mem h1)
  simp only [impl_FindFarkas.l2]
  rw [if_pos (by rw [List.length_map]; omega), if_pos (by omega), rd_D _ _ h1, wrap_succ h1 (by omega), ih (i + 1) f (by omega) (by omega), List.drop_eq_getElem_cons h1]
  unfold foundIn
  rw [firstNeg_cons, show (ofD l[i]).f0.f0 = l[i].c from rfl, show (ofD l[i]).f2 = l[i].s from rfl, show (ofD l[i]).f1 = l[i].ms from rfl]
  by_cases h0 : l[i].c < 0
  ·rw [if_pos h0, if_pos h0, impl_CheckFarkas_eq n rows c cs _ _ hn hx hc (by rw [ha.2]; omega) f (by omega), Option.bind_some]
   simp only
   split
   ·rfl
   ·rfl
  ·rw [if_neg h0, if_neg h0]
theorem impl_FindFarkas_eq (n : Int) (rows : List S29) (c : Int) (cs : List Int) (hn : rows.length ≤ 1048576) (hx : ∀ x ∈ rows, x.f1.length ≤ 1048576) (hc : cs.length ≤ 1048576) (f : Nat) (hf : 1000200000 < f) : impl_FindFarkas.f f n rows c cs = some (findF n rows c cs) := by
 unfold impl_FindFarkas.f findF
 rw [impl_IsValidSystem_eq n rows (by omega) hx f (by omega), Option.bind_some]
 by_cases h1 : validSys n rows = true
 ·rw [if_pos h1, impl_IsValidLin_eq c cs n (by omega) f (by omega), Option.bind_some]
  by_cases h2 : validLin c cs n = true
  ·rw [if_pos h2, impl_ConstLin_eq]
   simp only [Option.bind_some]
   have hcl := constLin_length (-1) n
   rw [impl_AddScaled_eq _ _ _ _ _ (by omega) (by omega) f (by omega), Option.bind_some]
   change (if (lastSc n c cs).2.2 = true then _ else _) = _
   by_cases h3 : (lastSc n c cs).2.2 = true
   ·rw [if_pos h3, if_pos ⟨h1, h2, h3⟩]
    obtain ⟨hv1, hv2, hv3⟩ := (validSys_iff _ _).1 h1
    obtain ⟨N, rfl⟩ := Int.eq_ofNat_of_zero_le hv1.1
    have hN : N ≤ 8 := by omega
    have hg := first_good (n := N) hN hv3 h3
    have hlen : (firstRows (N : Int) rows c cs).length ≤ 60 := by unfold firstRows; rw [List.length_append, startRows_len]; simp; omega
    unfold impl_FindFarkas.j1
    have h0 := impl_FF_l0 rows (by omega) rows.length 0 f [] (by omega) (by omega) rfl
    rw [show ((0 : Nat) : Int) = 0 from rfl, List.drop_zero, List.nil_append] at h0
    rw [h0, Option.bind_some, if_pos ⟨by rw [List.length_map, startRows_len]; omega, by omega⟩]
    have e : (startRows rows rows.length 0).map ofD ++ [(⟨⟨(lastSc (N : Int) c cs).1, (lastSc (N : Int) c cs).2.1⟩, List.replicate rows.length 0, 1⟩ : S89)] = (firstRows (N : Int) rows c cs).map ofD := by
     unfold firstRows; rw [List.map_append]; rfl
    change (impl_FindFarkas.l1 f (N : Int) 0 ((startRows rows rows.length 0).map ofD ++ [(⟨⟨(lastSc (N : Int) c cs).1, (lastSc (N : Int) c cs).2.1⟩, List.replicate rows.length 0, 1⟩ : S89)])).bind _ = _
    rw [e]
    have h4 := impl_FF_l1 (m := rows.length) hN (by omega) N 0 f (firstRows (N : Int) rows c cs) (by omega) (by omega) hg hlen
    rw [show ((0 : Nat) : Int) = 0 from rfl] at h4
    rw [h4, Option.bind_some, Int.toNat_natCast]
    cases he : elims (firstRows (N : Int) rows c cs) 0 N with
    | none => rfl
    | some l =>
     have hgl := elims_good N 0 _ l hg he
     have hll : l.length ≤ 1048576 := by
      have := elims_len N 0 _ l hlen he
      omega
     have h5 := impl_FF_l2 (N : Int) rows c cs hn hx hc (by omega) l hgl hll l.length 0 f (by omega) (by omega)
     rw [show ((0 : Nat) : Int) = 0 from rfl, List.drop_zero] at h5
     simp only [Option.map_some, impl_FindFarkas.j2]
     exact h5
   ·rw [if_neg h3, if_neg (fun h => h3 h.2.2)]
  ·rw [if_neg h2, if_neg (fun h => h2 h.2.1)]
 ·rw [if_neg h1, if_neg (fun h => h1 h.1)]
theorem impl_Entails_eq (n : Int) (rows : List S29) (c : Int) (cs : List Int) (hn : rows.length ≤ 1048576) (hx : ∀ x ∈ rows, x.f1.length ≤ 1048576) (hc : cs.length ≤ 1048576) (f : Nat) (hf : 1000200000 < f) : impl_Entails.f f n rows c cs = some (findF n rows c cs).2.2 := by
 unfold impl_Entails.f
 rw [impl_FindFarkas_eq n rows c cs hn hx hc f hf]; rfl
theorem impl_IsEmptySystem_eq (n : Int) (rows : List S29) (hn : rows.length ≤ 1048576) (hx : ∀ x ∈ rows, x.f1.length ≤ 1048576) (f : Nat) (hf : 1000200000 < f) : impl_IsEmptySystem.f f n rows = some (findF n rows (constLin (-1) n).1 (constLin (-1) n).2).2.2 := by
 unfold impl_IsEmptySystem.f
 have hcl := constLin_length (-1) n
 rw [impl_ConstLin_eq]; simp only [Option.bind_some]
 rw [impl_Entails_eq n rows _ _ hn hx (by omega) f hf]; rfl
theorem spec_l3Size_eq (n : Int) (h : okc n = true) : spec_l3Size.f n = some (n.natAbs : Int) := by
 rw [okc_iff] at h
 unfold spec_l3Size.f
 split
 ·rw [wrap_id (by omega) (by omega)]; congr 1; omega
 ·congr 1; omega
theorem spec_Gcd_l0 : ∀ (n k : Nat) (a b : Int), 0 ≤ a → 0 ≤ b → b.toNat ≤ n → n < k → spec_Gcd.l0 k a b = some (Int.gcd a b : Int) := by
 intro n
 induction n with
 | zero =>
  intro k a b ha hb hn hk
  obtain ⟨k, rfl⟩ := succ_of hk
  have : b = 0 := by omega
  subst this
  simp only [spec_Gcd.l0]
  rw [if_neg (by omega)]; congr 1; simp [Int.gcd]; omega
 | succ n ih =>
  intro k a b ha hb hn hk
  obtain ⟨k, rfl⟩ := succ_of hk
  simp only [spec_Gcd.l0]
  by_cases h : b > 0
  ·have h1 : 0 ≤ Int.tmod a b := Int.tmod_nonneg _ ha
   have h2 : Int.tmod a b < b := Int.tmod_lt_of_pos _ h
   rw [if_pos h, if_neg (by omega), ih k b (Int.tmod a b) hb h1 (by omega) (by omega), gcd_step]
  ·have : b = 0 := by omega
   subst this
   rw [if_neg (by omega)]; congr 1; simp [Int.gcd]; omega
theorem spec_Gcd_eq (x y : Int) (k : Nat) (hk : 1000000001 < k) : spec_Gcd.f k x y = some (gcdOf x y) := by
 obtain ⟨k, rfl⟩ := succ_of hk
 unfold spec_Gcd.f gcdOf
 rw [spec_l3In_eq, spec_l3In_eq]; simp only [Option.bind_some, spec_Gcd.j0]
 cases hx : okc x with
 | false => simp
 | true =>
  cases hy : okc y with
  | false => simp
  | true =>
   have hx' := (okc_iff x).1 hx
   have hy' := (okc_iff y).1 hy
   simp only [Bool.not_true, if_true, and_self, Bool.false_eq_true, if_false]
   rw [spec_l3Size_eq x hx, spec_l3Size_eq y hy]; simp only [Option.bind_some]
   rw [spec_Gcd_l0 1000000000 k _ _ (by omega) (by omega) (by omega) (by omega)]
   simp [Int.gcd]
theorem spec_l8Scaled_l0 (j k : Int) (xs ys : List Int) (hl : xs.length = ys.length) (hn : xs.length ≤ 1048577) : ∀ (d i f : Nat) (out : List Int), i + d = xs.length → d < f → out.length = i →
  spec_l8Scaled.l0 f xs j ys k out (i : Int) = some (if mixOks j k (xs.drop i) (ys.drop i) = true then (out ++ mixVals j k (xs.drop i) (ys.drop i), true) else ([], false)) := by
 intro d
 induction d with
 | zero =>
  intro i f out hi hf ho
  obtain ⟨f, rfl⟩ := succ_of hf
  simp only [spec_l8Scaled.l0]
  rw [if_neg (by omega), List.drop_eq_nil_of_le (by omega), mixVals_nil, mixOks_nil, List.append_nil, if_pos rfl]
 | succ d ih =>
  intro i f out hi hf ho
  obtain ⟨f, rfl⟩ := succ_of hf
  have h1 : i < xs.length := by omega
  have h2 : i < ys.length := by omega
  simp only [spec_l8Scaled.l0]
  rw [if_pos (by omega), if_pos (by omega), rd_nat _ _ h1, rd_nat _ _ h2, spec_MulLimited_eq, spec_MulLimited_eq, Option.bind_some, if_pos (by omega), Option.bind_some, spec_AddLimited_eq, Option.bind_some, wrap_succ h1 (by omega), ih (i + 1) f _ (by omega) (by omega) (by simp; omega), drop_mixVals _ _ _ _ _ h1 h2, drop_mixOks _ _ _ _ _ h1 h2, List.append_assoc]
  have h3 : out.length < 17592186044416 := by omega
  have e1 : mixOk j xs[i] k ys[i] = ((mulLim xs[i] j).2 && ((mulLim ys[i] k).2 && (addLim (mulLim xs[i] j).1 (mulLim ys[i] k).1).2)) := by unfold mixOk scOk; rw [mulLim_comm j, mulLim_comm k]
  have e2 : mixVal j xs[i] k ys[i] = (addLim (mulLim xs[i] j).1 (mulLim ys[i] k).1).1 := by unfold mixVal scVal; rw [mulLim_comm j, mulLim_comm k]
  rw [e1, e2]
  cases (mulLim xs[i] j).2 <;> cases (mulLim ys[i] k).2 <;> cases (addLim (mulLim xs[i] j).1 (mulLim ys[i] k).1).2 <;> simp [h3]
theorem spec_l1Max_one {g : Int} (h : 1 ≤ g) : spec_l1Max.f g 1 = some g := by
 unfold spec_l1Max.f
 by_cases h1 : g > 1
 ·rw [if_pos h1]
 ·rw [if_neg h1]; congr 1; omega
theorem spec_l8Join_eq {n m v : Nat} {a b : DRow} (hv : v < n) (ha : GoodR n m a) (hb : GoodR n m b) (hm : m ≤ 1048576) (hp : 0 < coefAt v a) (hq : coefAt v b < 0) (f : Nat) (hf : 1000000002 < f) :
  ∃ t, spec_l8Join.f f a.c a.cs (a.ms ++ [a.s]) b.c b.cs (b.ms ++ [b.s]) (v : Int) = some t ∧ t.2.2.2 = combOk (qOf v a b) a (pOf v a b) b ∧ (t.2.2.2 = true → (⟨⟨t.1, t.2.1⟩, t.2.2.1⟩ : S93) = ofE (combV (qOf v a b) a (pOf v a b) b)) := by
 obtain ⟨e1, e2, e3, e4, e5⟩ := div_q ha hb hp hq
 have hla := ha.len
 have hlb := hb.len
 unfold spec_l8Join.f
 rw [if_pos (by omega), if_pos (by omega), if_pos (by omega), rd_coef ha hv, rd_coef hb hv, e1, spec_Gcd_eq _ _ f (by omega), Option.bind_some, spec_l1Max_one e3, Option.bind_some, if_pos (by omega), if_pos (by rw [Int.toNat_natCast]; omega), if_neg e2, e4, e5, Int.toNat_natCast]
 rw [spec_AddScaled_eq _ _ _ _ _ (by rw [List.length_replicate]; omega) (by omega) f (by omega)]
 simp only [Option.bind_some]
 have l1 := addSc_length 0 (List.replicate a.cs.length 0) (qOf v a b) a.c a.cs
 rw [spec_AddScaled_eq _ _ _ _ _ (by omega) (by omega) f (by omega)]
 simp only [Option.bind_some]
 have hml : (a.ms ++ [a.s]).length = (b.ms ++ [b.s]).length := by simp [ha.2, hb.2]
 have h0 := spec_l8Scaled_l0 (qOf v a b) (pOf v a b) (a.ms ++ [a.s]) (b.ms ++ [b.s]) hml (by simp [ha.2]; omega) (a.ms ++ [a.s]).length 0 f [] (by omega) (by simp [ha.2]; omega) rfl
 rw [show ((0 : Nat) : Int) = 0 from rfl, List.drop_zero, List.drop_zero, List.nil_append, mixOks_snoc _ _ _ _ _ _ (by rw [ha.2, hb.2]), mixVals_snoc _ _ _ _ _ _ (by rw [ha.2, hb.2])] at h0
 unfold spec_l8Scaled.f
 rw [h0]
 simp only [Option.bind_some]
 unfold combOk
 change ∃ t, (if (firstSc (qOf v a b) a).2.2 = true then (if (combSc (qOf v a b) a (pOf v a b) b).2.2 = true then _ else _) else _) = some t ∧ _
 generalize hO : (mixOks (qOf v a b) (pOf v a b) a.ms b.ms && mixOk (qOf v a b) a.s (pOf v a b) b.s) = o
 cases h1 : (firstSc (qOf v a b) a).2.2 with
 | false => exact ⟨_, by rw [if_neg (by simp)], rfl, fun h => by cases h⟩
 | true =>
  cases h2 : (combSc (qOf v a b) a (pOf v a b) b).2.2 with
  | false => exact ⟨_, by rw [if_pos rfl, if_neg (by simp)], rfl, fun h => by cases h⟩
  | true =>
   cases o with
   | false => exact ⟨_, by rw [if_pos rfl, if_pos rfl], by simp, fun h => by simp at h⟩
   | true => exact ⟨_, by rw [if_pos rfl, if_pos rfl], by simp, fun _ => rfl⟩
theorem spec_l8Eliminate_l0 {n m v : Nat} (hv : v < n) (l : List DRow) (hg : ∀ a ∈ l, GoodR n m a) (hn : l.length ≤ 1048576) : ∀ (d i f : Nat) (out : List S93), i + d = l.length → d < f → out.length ≤ i →
  spec_l8Eliminate.l0 f (l.map ofE) (v : Int) (i : Int) out = some (out ++ (zeroRows v (l.drop i)).map ofE) := by
 intro d
 induction d with
 | zero =>
  intro i f out hi hf ho
  obtain ⟨f, rfl⟩ := succ_of hf
  simp only [spec_l8Eliminate.l0]
  rw [if_neg (by rw [List.length_map]; omega), List.drop_eq_nil_of_le (by omega)]
  simp [zeroRows]
 | succ d ih =>
  intro i f out hi hf ho
  obtain ⟨f, rfl⟩ := succ_of hf
  have h1 : i < l.length := by omega
  have hgi := hg _ (List.getElem_mem h1)
  have hli := hgi.len.1
  simp only [spec_l8Eliminate.l0]
  rw [if_pos (by rw [List.length_map]; omega), if_pos (by omega), if_pos (by omega), rd_E _ _ h1, show (ofE l[i]).f0.f1 = l[i].cs from rfl, if_pos (by omega), rd_coef hgi hv, wrap_succ h1 (by omega), List.drop_eq_getElem_cons h1, zeroRows]
  by_cases hz : coefAt v l[i] = 0
  ·rw [if_pos hz, if_pos hz, if_pos (by omega), ih (i + 1) f _ (by omega) (by omega) (by simp; omega), List.map_cons, List.append_assoc]
   rfl
  ·rw [if_neg hz, if_neg hz, ih (i + 1) f _ (by omega) (by omega) (by omega)]
theorem spec_l8Eliminate_l2 {n m v : Nat} (hv : v < n) (hm : m ≤ 1048576) (l : List DRow) (hg : ∀ a ∈ l, GoodR n m a) (hn : l.length ≤ 1048576) (q : Nat) (hq : q < l.length) (hp : 0 < coefAt v l[q]) : ∀ (d i f : Nat) (out : List S93), i + d = l.length → d + 1000000010 < f → out.length + d ≤ 2513169434915 →
  spec_l8Eliminate.l2 f (l.map ofE) (v : Int) (q : Int) (i : Int) out = some (out ++ (pairs v l[q] (l.drop i)).map ofE) := by
 have ha := hg _ (List.getElem_mem hq)
 have hla := ha.len.1
 intro d
 induction d with
 | zero =>
  intro i f out hi hf ho
  obtain ⟨f, rfl⟩ := succ_of hf
  simp only [spec_l8Eliminate.l2]
  rw [if_neg (by rw [List.length_map]; omega), List.drop_eq_nil_of_le (by omega)]
  simp [pairs]
 | succ d ih =>
  intro i f out hi hf ho
  obtain ⟨f, rfl⟩ := succ_of hf
  have h1 : i < l.length := by omega
  have hb := hg _ (List.getElem_mem h1)
  have hli := hb.len.1
  simp only [spec_l8Eliminate.l2]
  rw [if_pos (by rw [List.length_map]; omega), rd_E _ _ h1, rd_E _ _ hq, show (ofE l[i]).f0.f1 = l[i].cs from rfl, show (ofE l[q]).f0.f1 = l[q].cs from rfl, rd_coef ha hv, if_pos (by omega), if_pos (by omega), if_pos (by omega), rd_coef hb hv, wrap_succ h1 (by omega), List.drop_eq_getElem_cons h1, pairs]
  by_cases hc : coefAt v l[i] < 0
  ·rw [if_neg (by omega), if_pos hc]
   obtain ⟨t, ht, hok, hrow⟩ := spec_l8Join_eq hv ha hb hm hp hc f (by omega)
   have ht' : spec_l8Join.f f (ofE l[q]).f0.f0 l[q].cs (ofE l[q]).f1 (ofE l[i]).f0.f0 l[i].cs (ofE l[i]).f1 (v : Int) = some t := ht
   rw [ht', Option.bind_some]
   by_cases hk : combOk (qOf v l[q] l[i]) l[q] (pOf v l[q] l[i]) l[i] = true
   ·rw [if_pos (by rw [hok]; exact hk), if_pos hk, if_pos (by omega), hrow (by rw [hok]; exact hk), ih (i + 1) f _ (by omega) (by omega) (by simp; omega), List.map_cons, List.append_assoc]
    rfl
   ·rw [if_neg (by rw [hok]; exact hk), if_neg hk, ih (i + 1) f out (by omega) (by omega) (by omega)]
  ·rw [if_pos (by omega), if_neg hc, ih (i + 1) f out (by omega) (by omega) (by omega)]
theorem spec_l8Eliminate_l1 {n m v : Nat} (hv : v < n) (hm : m ≤ 1048576) (l : List DRow) (hg : ∀ a ∈ l, GoodR n m a) (hn : l.length ≤ 1048576) : ∀ (d i f : Nat) (out : List S93), i + d = l.length → d + l.length + 1000000020 < f → out.length + d * l.length + l.length ≤ 2513169434915 →
  spec_l8Eliminate.l1 f (l.map ofE) (v : Int) (i : Int) out = some (out ++ (allPairs v l (l.drop i)).map ofE) := by
 intro d
 induction d with
 | zero =>
  intro i f out hi hf ho
  obtain ⟨f, rfl⟩ := succ_of hf
  simp only [spec_l8Eliminate.l1]
  rw [if_neg (by rw [List.length_map]; omega), List.drop_eq_nil_of_le (by omega)]
  simp [allPairs]
 | succ d ih =>
  intro i f out hi hf ho
  obtain ⟨f, rfl⟩ := succ_of hf
  have h1 : i < l.length := by omega
  have ha := hg _ (List.getElem_mem h1)
  have hli := ha.len.1
  rw [Nat.succ_mul] at ho
  simp only [spec_l8Eliminate.l1]
  rw [if_pos (by rw [List.length_map]; omega), if_pos (by omega), if_pos (by omega), rd_E _ _ h1]
  have e0 : (ofE l[i]).f0.f1 = l[i].cs := rfl
  rw [e0, if_pos (by omega), wrap_succ h1 (by omega), List.drop_eq_getElem_cons h1, allPairs]
  by_cases hp : 0 < coefAt v l[i]
  ·rw [if_pos hp]
   have h2 := spec_l8Eliminate_l2 hv hm l hg hn i h1 hp l.length 0 f out (by omega) (by omega) (by omega)
   rw [show ((0 : Nat) : Int) = 0 from rfl, List.drop_zero] at h2
   rw [h2, Option.bind_some]
   have hpl := pairs_len v l[i] l
   rw [ih (i + 1) f _ (by omega) (by omega) (by rw [List.length_append, List.length_map]; omega), List.map_append, List.append_assoc]
  ·have h2 : spec_l8Eliminate.l2 f (l.map ofE) (v : Int) (i : Int) 0 out = some out := by
    obtain ⟨f, rfl⟩ := succ_of (show 0 < f by omega)
    simp only [spec_l8Eliminate.l2]
    by_cases h0 : (0 : Int) < ((l.map ofE).length : Int)
    ·rw [if_pos h0, rd_E _ _ h1, e0, rd_coef ha hv, if_neg (by omega)]
    ·rw [if_neg h0]
   rw [h2, Option.bind_some, if_neg hp, ih (i + 1) f out (by omega) (by omega) (by omega)]
theorem spec_l8Eliminate_eq {n m v : Nat} (hv : v < n) (hm : m ≤ 1048576) (l : List DRow) (hg : ∀ a ∈ l, GoodR n m a) (hn : l.length ≤ 4096) (f : Nat) (hf : 1000100000 < f) : spec_l8Eliminate.f f (l.map ofE) (v : Int) = some ((elim v l).map ofE) := by
 unfold spec_l8Eliminate.f elim
 have h0 := spec_l8Eliminate_l0 hv l hg (by omega) l.length 0 f [] (by omega) (by omega) (by simp)
 have hz := zeroRows_len v l
 have hsq : l.length * l.length ≤ 4096 * 4096 := Nat.mul_le_mul hn hn
 have h1 := spec_l8Eliminate_l1 hv hm l hg (by omega) l.length 0 f ((zeroRows v l).map ofE) (by omega) (by omega) (by rw [List.length_map]; omega)
 rw [show ((0 : Nat) : Int) = 0 from rfl, List.drop_zero] at h0 h1
 rw [h0, Option.bind_some, List.nil_append, h1, List.map_append]
theorem spec_IsConstant_l0 (c : Int) (cs : List Int) (hn : cs.length ≤ 4611686018427387904) : ∀ (d j k : Nat), j + d = cs.length → d < k →
  spec_IsConstant.l0 k (j : Int) c cs = some (isConst (cs.drop j)) := by
 intro d
 induction d with
 | zero =>
  intro j k hj hk
  obtain ⟨k, rfl⟩ := succ_of hk
  simp only [spec_IsConstant.l0]
  rw [if_neg (by omega), List.drop_eq_nil_of_le (by omega)]; rfl
 | succ d ih =>
  intro j k hj hk
  obtain ⟨k, rfl⟩ := succ_of hk
  have hlt : j < cs.length := by omega
  simp only [spec_IsConstant.l0]
  rw [if_pos (by omega), if_pos (by omega), rd_nat _ _ hlt, wrap_succ hlt hn, ih (j + 1) k (by omega) (by omega), List.drop_eq_getElem_cons hlt]
  unfold isConst
  rw [List.all_cons]
  by_cases h : cs[j] = 0
  ·rw [if_pos h]; simp [h]
  ·rw [if_neg h]; simp [h]
theorem spec_IsConstant_eq (c : Int) (cs : List Int) (hn : cs.length ≤ 4611686018427387904) (k : Nat) (hk : cs.length < k) : spec_IsConstant.f k c cs = some (isConst cs) := by
 unfold spec_IsConstant.f
 have := spec_IsConstant_l0 c cs hn cs.length 0 k (by omega) hk
 simpa using this
theorem spec_CheckFarkas_eq (n : Int) (rows : List S29) (c : Int) (cs : List Int) (m : Int) (ms : List Int) (hn : rows.length ≤ 1048576) (hx : ∀ x ∈ rows, x.f1.length ≤ 1048576) (hc : cs.length ≤ 1048576) (k : Nat) (hk : 2097210 < k) : spec_CheckFarkas.f k n rows c cs m ms = some (checkFarkas n rows c cs m ms) := by
 unfold spec_CheckFarkas.f checkFarkas
 have hl := combine_length n rows ms
 rw [spec_CombineRows_eq n rows ms hn hx k (by omega), Option.bind_some, spec_IsValidLin_eq c cs n (by omega) k (by omega), spec_l1In_eq]
 simp only [Option.bind_some]
 obtain ⟨k, rfl⟩ := succ_of hk
 simp only [spec_CheckFarkas.j0]
 cases h1 : (combine n rows ms).2.2
 ·simp
 cases h2 : validLin c cs n
 ·simp
 cases h3 : multOk m
 ·have h4 : ¬ (0 ≤ m ∧ m ≤ 1000000000) := by unfold multOk at h3; exact of_decide_eq_false h3
  simp [h4]
 ·have h4 : decide (0 ≤ m ∧ m ≤ 1000000000) = true := h3
  rw [h4, spec_ConstLin_eq]
  simp only [Option.bind_some, if_true, Bool.not_true, Bool.false_eq_true, if_false, true_and]
  have hcl := constLin_length 1 n
  rw [spec_AddScaled_eq c cs 1 _ _ (by omega) (by omega) k (by omega), Option.bind_some, addSc_one c cs n h2, neg_mult h3]
  by_cases ho : okc (c + 1) = true
  ·rw [if_pos ho, if_pos ho]
   simp only
   have hq := addSc_length (combine n rows ms).1 (combine n rows ms).2.1 (-m) (c + 1) cs
   rw [spec_AddScaled_eq _ _ _ _ _ (by omega) (by omega) k (by omega), Option.bind_some, spec_IsConstant_eq _ _ (by omega) k (by omega)]
   simp only [Option.bind_some, if_true]
   split
   ·cases isConst (addSc (combine n rows ms).1 (combine n rows ms).2.1 (-m) (c + 1) cs).2.1 <;> simp
   ·rfl
  ·rw [if_neg ho, if_neg ho]
   simp only
   rw [spec_AddScaled_eq _ _ _ _ _ (by omega) (by simp) k (by omega)]
   simp
theorem unit_E (m i : Nat) (h : i < m) : (List.replicate (m + 1) (0 : Int)).set i 1 = unitAt m i ++ [0] := by
 unfold unitAt
 rw [List.replicate_succ', List.set_append_left _ _ (by rw [List.length_replicate]; exact h)]
theorem unit_last (m : Nat) : (List.replicate (m + 1) (0 : Int)).set m 1 = List.replicate m 0 ++ [1] := by
 rw [List.replicate_succ', List.set_append_right _ _ (by rw [List.length_replicate]; exact Nat.le_refl _), List.length_replicate, Nat.sub_self]; rfl
theorem spec_FF_l0 (rows : List S29) (hr : rows.length ≤ 1048576) : ∀ (d i f : Nat) (out : List S93), i + d = rows.length → d < f → out.length = i →
  spec_FindFarkas.l0 f rows (i : Int) out = some (out ++ (startRows (rows.drop i) rows.length i).map ofE) := by
 intro d
 induction d with
 | zero =>
  intro i f out hi hf ho
  obtain ⟨f, rfl⟩ := succ_of hf
  simp only [spec_FindFarkas.l0]
  rw [if_neg (by omega), List.drop_eq_nil_of_le (by omega)]
  simp [startRows]
 | succ d ih =>
  intro i f out hi hf ho
  obtain ⟨f, rfl⟩ := succ_of hf
  have h1 : i < rows.length := by omega
  simp only [spec_FindFarkas.l0]
  rw [if_pos (by omega), if_pos (by omega), if_pos (by omega), if_pos (by omega), rd_lin _ _ h1, wrap_succ h1 (by omega), ih (i + 1) f _ (by omega) (by omega) (by simp; omega), List.drop_eq_getElem_cons h1, Int.toNat_natCast, List.append_assoc, unit_E _ _ h1]
  rfl
theorem spec_FF_l1 {n m : Nat} (hn : n ≤ 8) (hm : m ≤ 1048576) : ∀ (d v f : Nat) (l : List DRow), v + d = n → d + 1000100000 < f → (∀ a ∈ l, GoodR n m a) → l.length ≤ 60 →
  spec_FindFarkas.l1 f (n : Int) (v : Int) (l.map ofE) = some ((elims l v d).map (List.map ofE)) := by
 intro d
 induction d with
 | zero =>
  intro v f l hv hf hg hl
  obtain ⟨f, rfl⟩ := succ_of hf
  simp only [spec_FindFarkas.l1]
  rw [if_neg (by omega)]; rfl
 | succ d ih =>
  intro v f l hv hf hg hl
  obtain ⟨f, rfl⟩ := succ_of (show 0 < f by omega)
  simp only [spec_FindFarkas.l1, elims]
  rw [if_pos (by omega), spec_l8Eliminate_eq (n := n) (by omega) hm l hg (by omega) f (by omega), Option.bind_some, List.length_map]
  by_cases hc : 60 < (elim v l).length
  ·rw [if_pos (by omega), if_pos hc]; rfl
  ·rw [if_neg (by omega), if_neg hc, wrap_succ (n := n) (by omega) (by omega), ih (v + 1) f (elim v l) (by omega) (by omega) (elim_good hg) (by omega)]
theorem spec_FF_l2 {N : Nat} (n : Int) (rows : List S29) (c : Int) (cs : List Int) (hn : rows.length ≤ 1048576) (hx : ∀ x ∈ rows, x.f1.length ≤ 1048576) (hc : cs.length ≤ 1048576) (l : List DRow) (hg : ∀ a ∈ l, GoodR N rows.length a) (hl : l.length ≤ 1048576) : ∀ (d i f : Nat), i + d = l.length → d + 2097210 < f →
  spec_FindFarkas.l2 f n rows c cs (l.map ofE) (i : Int) = some (foundIn n rows c cs (l.drop i)) := by
 intro d
 induction d with
 | zero =>
  intro i f hi hf
  obtain ⟨f, rfl⟩ := succ_of hf
  simp only [spec_FindFarkas.l2]
  rw [if_neg (by rw [List.length_map]; omega), List.drop_eq_nil_of_le (by omega)]; rfl
 | succ d ih =>
  intro i f hi hf
  obtain ⟨f, rfl⟩ := succ_of (show 0 < f by omega)
  have h1 : i < l.length := by omega
  have ha := (hg _ (List.getElem_mem h1)).2
  simp only [spec_FindFarkas.l2]
  rw [if_pos (by rw [List.length_map]; omega), if_pos (by omega), rd_E _ _ h1, wrap_succ h1 (by omega), ih (i + 1) f (by omega) (by omega), List.drop_eq_getElem_cons h1]
  unfold foundIn
  rw [firstNeg_cons, show (ofE l[i]).f0.f0 = l[i].c from rfl, show (ofE l[i]).f1 = l[i].ms ++ [l[i].s] from rfl]
  by_cases h0 : l[i].c < 0
  ·have e1 : rd (l[i].ms ++ [l[i].s]) (rows.length : Int) = l[i].s := by
    rw [rd_nat _ _ (by rw [List.length_append, ha]; simp), List.getElem_append_right (by omega)]
    simp
   have e2 : (l[i].ms ++ [l[i].s]).take rows.length = l[i].ms := by rw [← ha, List.take_left]
   rw [if_pos h0, if_pos h0, if_pos (by rw [List.length_append, ha]; simp), e1, e2, spec_CheckFarkas_eq n rows c cs _ _ hn hx hc f (by omega), Option.bind_some]
   simp only
   split
   ·rfl
   ·rfl
  ·rw [if_neg h0, if_neg h0]
theorem spec_FindFarkas_eq (n : Int) (rows : List S29) (c : Int) (cs : List Int) (hn : rows.length ≤ 1048576) (hx : ∀ x ∈ rows, x.f1.length ≤ 1048576) (hc : cs.length ≤ 1048576) (f : Nat) (hf : 1000200000 < f) : spec_FindFarkas.f f n rows c cs = some (findF n rows c cs) := by
 unfold spec_FindFarkas.f findF
 rw [spec_IsValidSystem_eq n rows (by omega) hx f (by omega), Option.bind_some]
 by_cases h1 : validSys n rows = true
 ·rw [if_pos h1, spec_IsValidLin_eq c cs n (by omega) f (by omega), Option.bind_some]
  by_cases h2 : validLin c cs n = true
  ·have h0 := spec_FF_l0 rows (by omega) rows.length 0 f [] (by omega) (by omega) rfl
   rw [show ((0 : Nat) : Int) = 0 from rfl, List.drop_zero, List.nil_append] at h0
   rw [if_pos h2, h0, Option.bind_some, spec_ConstLin_eq]
   simp only [Option.bind_some]
   have hcl := constLin_length (-1) n
   rw [spec_AddScaled_eq _ _ _ _ _ (by omega) (by omega) f (by omega), Option.bind_some]
   change (if (lastSc n c cs).2.2 = true then _ else _) = _
   by_cases h3 : (lastSc n c cs).2.2 = true
   ·rw [if_pos h3, if_pos (show validSys n rows = true ∧ validLin c cs n = true ∧ (lastSc n c cs).2.2 = true from ⟨h1, h2, h3⟩)]
    obtain ⟨hv1, hv2, hv3⟩ := (validSys_iff _ _).1 h1
    obtain ⟨N, rfl⟩ := Int.eq_ofNat_of_zero_le hv1.1
    have hN : N ≤ 8 := by omega
    have hg := first_good (n := N) hN hv3 h3
    have hlen : (firstRows (N : Int) rows c cs).length ≤ 60 := by unfold firstRows; rw [List.length_append, startRows_len]; simp; omega
    rw [if_pos ⟨by rw [List.length_map, startRows_len]; omega, by omega⟩, unit_last]
    have e : (startRows rows rows.length 0).map ofE ++ [(⟨⟨(lastSc (N : Int) c cs).1, (lastSc (N : Int) c cs).2.1⟩, List.replicate rows.length 0 ++ [1]⟩ : S93)] = (firstRows (N : Int) rows c cs).map ofE := by
     unfold firstRows; rw [List.map_append]; rfl
    change (spec_FindFarkas.l1 f (N : Int) 0 ((startRows rows rows.length 0).map ofE ++ [(⟨⟨(lastSc (N : Int) c cs).1, (lastSc (N : Int) c cs).2.1⟩, List.replicate rows.length 0 ++ [1]⟩ : S93)])).bind _ = _
    rw [e]
    have h4 := spec_FF_l1 (m := rows.length) hN (by omega) N 0 f (firstRows (N : Int) rows c cs) (by omega) (by omega) hg hlen
    rw [show ((0 : Nat) : Int) = 0 from rfl] at h4
    rw [h4, Option.bind_some, Int.toNat_natCast]
    cases he : elims (firstRows (N : Int) rows c cs) 0 N with
    | none => rfl
    | some l =>
     have hgl := elims_good N 0 _ l hg he
     have hll : l.length ≤ 1048576 := by
      have := elims_len N 0 _ l hlen he
      omega
     have h5 := spec_FF_l2 (N : Int) rows c cs hn hx hc l hgl hll l.length 0 f (by omega) (by omega)
     rw [show ((0 : Nat) : Int) = 0 from rfl, List.drop_zero] at h5
     simp only [Option.map_some, spec_FindFarkas.j2]
     exact h5
   ·rw [if_neg h3, if_neg (fun h => h3 h.2.2)]
  ·rw [if_neg h2, if_neg (fun h => h2 h.2.1)]
 ·rw [if_neg h1, if_neg (fun h => h1 h.1)]
theorem spec_Entails_eq (n : Int) (rows : List S29) (c : Int) (cs : List Int) (hn : rows.length ≤ 1048576) (hx : ∀ x ∈ rows, x.f1.length ≤ 1048576) (hc : cs.length ≤ 1048576) (f : Nat) (hf : 1000200000 < f) : spec_Entails.f f n rows c cs = some (findF n rows c cs).2.2 := by
 unfold spec_Entails.f
 rw [spec_FindFarkas_eq n rows c cs hn hx hc f hf]; rfl
theorem spec_IsEmptySystem_eq (n : Int) (rows : List S29) (hn : rows.length ≤ 1048576) (hx : ∀ x ∈ rows, x.f1.length ≤ 1048576) (f : Nat) (hf : 1000200000 < f) : spec_IsEmptySystem.f f n rows = some (findF n rows (constLin (-1) n).1 (constLin (-1) n).2).2.2 := by
 unfold spec_IsEmptySystem.f
 have hcl := constLin_length (-1) n
 rw [spec_ConstLin_eq]; simp only [Option.bind_some]
 rw [spec_Entails_eq n rows _ _ hn hx (by omega) f hf]; rfl
theorem spec_Fits_eq (n : Int) : spec_Fits.f n = some (fitsB n) := by unfold spec_Fits.f; rw [spec_l1In_eq]; rfl
theorem spec_EvalLin_l0 (c0 : Int) (cs vs : List Int) (hl : cs.length = vs.length) (h8 : vs.length ≤ 8) (hc : ∀ x ∈ cs, okc x = true) : ∀ (d j k : Nat) (s : Int), j + d = vs.length → d < k → -(1000000000 + 1000000000000000 * (j : Int)) ≤ s → s ≤ 1000000000 + 1000000000000000 * (j : Int) →
  spec_EvalLin.l0 k vs s (j : Int) c0 cs = some (if (vs.drop j).all fitsB = true then (s + dot (cs.drop j) (vs.drop j), true) else (0, false)) := by
 intro d
 induction d with
 | zero =>
  intro j k s hj hk h0 h1
  obtain ⟨k, rfl⟩ := succ_of hk
  simp only [spec_EvalLin.l0]
  rw [if_neg (by omega), List.drop_eq_nil_of_le (by omega : vs.length ≤ j)]; simp [dot]
 | succ d ih =>
  intro j k s hj hk h0 h1
  obtain ⟨k, rfl⟩ := succ_of hk
  have hlt : j < vs.length := by omega
  have hlc : j < cs.length := by omega
  simp only [spec_EvalLin.l0]
  rw [if_pos (by omega), if_pos (by omega), rd_nat _ _ hlt, rd_nat _ _ hlc, spec_Fits_eq, Option.bind_some, drop_cons vs j hlt, drop_cons cs j hlc, List.all_cons]
  cases h : fitsB vs[j] with
  | false => simp
  | true =>
   have hb := mul_okc_fits ((okc_iff _).1 (hc _ (List.getElem_mem hlc))) ((fitsB_iff _).1 h)
   rw [if_pos rfl, if_pos (by omega), wrap_id (n := cs[j] * vs[j]) (by omega) (by omega), wrap_id (by omega) (by omega), wrap_succ hlt (by omega), ih (j + 1) k _ (by omega) (by omega) (by omega) (by omega), Bool.true_and]
   simp only [dot]
   rw [Int.add_assoc]
theorem spec_EvalLin_eq (c : Int) (cs vs : List Int) (hn : cs.length ≤ 4611686018427387904) (k : Nat) (hk : cs.length + 10 < k) : spec_EvalLin.f k c cs vs = some (evalLin c cs vs) := by
 unfold spec_EvalLin.f evalLin
 rw [spec_IsValidLin_eq c cs _ hn k (by omega), Option.bind_some]
 cases h : validLin c cs (vs.length : Int) with
 | false => simp
 | true =>
  obtain ⟨h1, h2, h3, h4⟩ := (validLin_iff _ _ _).1 h
  have h3 := (okc_iff _).1 h3
  have := spec_EvalLin_l0 c cs vs (by omega) (by omega) h4 vs.length 0 k c (by omega) (by omega) (by omega) (by omega)
  rw [show ((0 : Nat) : Int) = 0 from rfl, List.drop_zero, List.drop_zero] at this
  rw [if_pos rfl, this]; simp
theorem spec_Satisfies_l1 (n : Int) (rows : List S29) (vs : List Int) (hn : rows.length ≤ 4611686018427387904) (hx : ∀ x ∈ rows, x.f1.length ≤ 1048576) : ∀ (d j k : Nat), j + d = rows.length → d + 1048587 < k →
  spec_Satisfies.l1 k vs (j : Int) n rows = some ((rows.drop j).all fun r => !(decide ((evalLin r.f0 r.f1 vs).1 < 0))) := by
 intro d
 induction d with
 | zero =>
  intro j k hj hk
  obtain ⟨k, rfl⟩ := succ_of hk
  simp only [spec_Satisfies.l1]
  rw [if_neg (by omega), List.drop_eq_nil_of_le (by omega)]; rfl
 | succ d ih =>
  intro j k hj hk
  obtain ⟨k, rfl⟩ := succ_of hk
  have hlt : j < rows.length := by omega
  have hxj := hx _ (List.getElem_mem hlt)
  simp only [spec_Satisfies.l1]
  rw [if_pos (by omega), if_pos (by omega), rd_lin _ _ hlt, spec_EvalLin_eq _ _ _ (by omega) k (by omega), Option.bind_some, wrap_succ hlt hn, ih (j + 1) k (by omega) (by omega), List.drop_eq_getElem_cons hlt, List.all_cons]
  by_cases h : (evalLin rows[j].f0 rows[j].f1 vs).1 < 0
  ·rw [if_pos h]; simp [h]
  ·rw [if_neg h]; simp [h]
theorem spec_Satisfies_l0 (n : Int) (rows : List S29) (vs : List Int) (hn : rows.length ≤ 1048577) (hv : vs.length ≤ 4611686018427387904) (hx : ∀ x ∈ rows, x.f1.length ≤ 1048576) : ∀ (d j k : Nat), j + d = vs.length → d + 2097176 < k →
  spec_Satisfies.l0 k vs (j : Int) n rows = some ((vs.drop j).all fitsB && (validSys n rows && (decide ((vs.length : Int) = n) && rows.all fun r => !(decide ((evalLin r.f0 r.f1 vs).1 < 0))))) := by
 intro d
 induction d with
 | zero =>
  intro j k hj hk
  obtain ⟨k, rfl⟩ := succ_of hk
  simp only [spec_Satisfies.l0]
  rw [if_neg (by omega), List.drop_eq_nil_of_le (by omega), spec_IsValidSystem_eq n rows hn hx k (by omega), Option.bind_some]
  obtain ⟨k, rfl⟩ : ∃ m, k = m + 1 := ⟨k - 1, by omega⟩
  simp only [spec_Satisfies.j1, List.all_nil, Bool.true_and]
  have := spec_Satisfies_l1 n rows vs (by omega) hx rows.length 0 k (by omega) (by omega)
  rw [show ((0 : Nat) : Int) = 0 from rfl, List.drop_zero] at this
  rw [this]
  cases validSys n rows
  ·simp
  ·by_cases h : (vs.length : Int) = n <;> simp [h]
 | succ d ih =>
  intro j k hj hk
  obtain ⟨k, rfl⟩ := succ_of hk
  have hlt : j < vs.length := by omega
  simp only [spec_Satisfies.l0]
  rw [if_pos (by omega), if_pos (by omega), rd_nat _ _ hlt, spec_Fits_eq, Option.bind_some, wrap_succ hlt hv, ih (j + 1) k (by omega) (by omega), List.drop_eq_getElem_cons hlt, List.all_cons]
  cases fitsB vs[j] <;> simp
theorem spec_Satisfies_eq (n : Int) (rows : List S29) (vs : List Int) (hn : rows.length ≤ 1048577) (hv : vs.length ≤ 1048576) (hx : ∀ x ∈ rows, x.f1.length ≤ 1048576) (k : Nat) (hk : 3200000 < k) : spec_Satisfies.f k n rows vs = some (sat n rows vs) := by
 unfold spec_Satisfies.f sat
 have := spec_Satisfies_l0 n rows vs hn (by omega) hx vs.length 0 k (by omega) (by omega)
 rw [show ((0 : Nat) : Int) = 0 from rfl, List.drop_zero] at this
 rw [this]
 cases vs.all fitsB <;> cases validSys n rows <;> simp
theorem entailed_l1 (b : List Int) (hb : b.length ≤ 1048576) (hx : ∀ x ∈ b, 0 ≤ x ∧ x ≤ 255) (n : Int) (rows : List S29) (c : Int) (cs : List Int) (hn : 0 ≤ n ∧ n ≤ 8) (hr : rows.length ≤ 25) (hy : ∀ x ∈ rows, x.f1.length ≤ 1048576) (hc : cs.length ≤ 9) (holds : ∀ vs, sat n rows vs = true → ¬ (evalLin c cs vs).1 < 0) (s : Nat) (hs : s ≤ 11) (K : Nat) (hK : 1000300000 < K) (next : ∀ k, K ≤ k → laws_FnEntailed.l0 k b ((s + 1 : Nat) : Int) n rows c cs = some true) : ∀ (e j k : Nat) (vs : List Int), (j : Int) + e = n → e + K < k → vs.length = j →
  laws_FnEntailed.l1 k b (s : Int) vs (j : Int) n rows c cs = some true := by
 intro e
 induction e with
 | zero =>
  intro j k vs hj hk hvs
  obtain ⟨k, rfl⟩ := succ_of hk
  simp only [laws_FnEntailed.l1]
  rw [if_neg (by omega), spec_EvalLin_eq _ _ _ (by omega) k (by omega), spec_Satisfies_eq n rows vs (by omega) (by omega) hy k (by omega)]
  simp only [Option.bind_some]
  rw [wrap_succ (n := 12) (by omega) (by omega), next k (by omega)]
  cases h : sat n rows vs
  ·simp
  ·rw [if_pos rfl, if_neg (holds vs h), impl_IsEmptySystem_eq n rows (by omega) hy k (by omega), Option.bind_some, none_sat h]
   simp
 | succ e ih =>
  intro j k vs hj hk hvs
  obtain ⟨k, rfl⟩ := succ_of hk
  simp only [laws_FnEntailed.l1]
  have es : wrap64 ((wrap64 (2 * (s : Int))) + (j : Int)) = ((2 * s + j : Nat) : Int) := by clear hK hk next hb; rw [wrap_id (n := 2 * (s : Int)) (by omega) (by omega), wrap_id (by omega) (by omega)]; omega
  have hb3 : b.length ≤ 140737488351232 := by clear hK hk next hs hj; omega
  have hsj : 2 * s + j ≤ 1000 := by clear hK hk next hb; omega
  obtain ⟨t, er, r0, r1⟩ := laws_at0_ex b (2 * s + j) hb3 hx hsj
  have q1 : (j : Int) < n := by clear hK hk next hb; omega
  have q2 : vs.length < 17592186044416 := by clear hK hk next hb; omega
  have q3 : wrap64 ((j : Int) + 1) = ((j + 1 : Nat) : Int) := by clear hK hk next hb; exact wrap_succ (n := 9) (by omega) (by omega)
  have q4 : ((j + 1 : Nat) : Int) + e = n := by clear hK hk next hb; omega
  rw [if_pos q1, es, er, Option.bind_some, if_pos q2, q3]
  exact ih (j + 1) k _ q4 (by omega) (by rw [List.length_append, hvs]; rfl)
theorem entailed_l0 (b : List Int) (hb : b.length ≤ 1048576) (hx : ∀ x ∈ b, 0 ≤ x ∧ x ≤ 255) (n : Int) (rows : List S29) (c : Int) (cs : List Int) (hn : 0 ≤ n ∧ n ≤ 8) (hr : rows.length ≤ 25) (hy : ∀ x ∈ rows, x.f1.length ≤ 1048576) (hc : cs.length ≤ 9) (holds : ∀ vs, sat n rows vs = true → ¬ (evalLin c cs vs).1 < 0) : ∀ (d s k : Nat), s + d = 12 → 1002000000 + 20 * d < k →
  laws_FnEntailed.l0 k b (s : Int) n rows c cs = some true := by
 intro d
 induction d with
 | zero =>
  intro s k hs hk
  obtain ⟨k, rfl⟩ := succ_of hk
  simp only [laws_FnEntailed.l0]
  rw [if_neg (by omega)]
  obtain ⟨n2, rows2, e, a1, a2⟩ := spec_DrawIsEmptySystem_ex b (by omega) k (by omega) (by omega)
  have a3 : ∀ x ∈ rows2, x.f1.length ≤ 1048576 := fun x h => by have := a2 x h; omega
  rw [e]; simp only [Option.bind_some]
  rw [impl_IsEmptySystem_eq n2 rows2 (by omega) a3 k (by omega), spec_IsEmptySystem_eq n2 rows2 (by omega) a3 k (by omega)]
  simp
 | succ d ih =>
  intro s k hs hk
  obtain ⟨k, rfl⟩ := succ_of hk
  simp only [laws_FnEntailed.l0]
  rw [if_pos (by omega)]
  exact entailed_l1 b hb hx n rows c cs hn hr hy hc holds s (by omega) (1002000001 + 20 * d) (by omega) (fun k' hk' => ih (s + 1) k' (by omega) (by omega)) n.toNat 0 k [] (by omega) (by omega) rfl
theorem FnEntailed : laws_FnEntailed.Pure := by
 intro b hb hb2 hu
 have hx : ∀ x ∈ b, 0 ≤ x ∧ x ≤ 255 := fun x h => lit_u8 (hu x h)
 refine ⟨1010002999 + b.length + 1, ?_⟩
 unfold laws_FnEntailed.f laws_big.f
 rw [Option.bind_some]
 split
 ·rfl
 rename_i hbig
 simp only [decide_eq_true_eq] at hbig
 unfold spec_DrawEntails.f
 obtain ⟨n, rows, c, cs, e1, h1, h2, h3⟩ := spec_DrawFindFarkas_ex b (by omega) (1010002999 + b.length + 1) (by omega) (by omega)
 have hy : ∀ x ∈ rows, x.f1.length ≤ 1048576 := fun x h => by have := h2 x h; omega
 rw [e1]; simp only [Option.bind_some]
 rw [impl_Entails_eq n rows c cs (by omega) hy (by omega) _ (by omega), Option.bind_some, spec_Entails_eq n rows c cs (by omega) hy (by omega) _ (by omega), Option.bind_some]
 cases hf : (findF n rows c cs).2.2
 ·simp
 ·rw [if_pos rfl]
  have hv : validSys n rows = true := by
   have hk := findF_checked hf
   unfold checkFarkas at hk
   split at hk
   ·rename_i h; exact combine_valid h.1
   ·cases hk
  exact entailed_l0 b (by omega) hx n rows c cs ((validSys_iff _ _).1 hv).1 h1 hy h3 (fun vs hs => find_sat hf hs) 12 0 (1010002999 + b.length + 1) (by omega) (by omega)
end Go.Proofs.Ytlencemmlgkflaa.Pure
