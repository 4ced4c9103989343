/- The program's AllDistinct returns what the reference's returns, for every slice of strings, and leaves it as it was. -/
import Derived.Test.YtjjcdiddpdjboaaQFnExactAllDistinctx2
namespace Go.Proofs.Ytjjcdiddpdjboaa.Pure
open Go.RowKit Go.Proofs.YtjjcdiddpdjboaaV.PrintWords Go.Proofs.YtjjcdiddpdjboaaV.PrintLast Go.Proofs.YtjjcdiddpdjboaaV.PrintMore Go.Proofs.Ytjjcdiddpdjboaa.QFnExactAllDistinct
set_option linter.unusedVariables false
set_option linter.unusedSimpArgs false

theorem wrap_id {n : Int} (h0 : -9223372036854775808 ≤ n) (h1 : n ≤ 9223372036854775807) : wrap64 n = n := by
  unfold wrap64; omega
theorem wrap_succ {j n : Nat} (h : j < n) (hn : n ≤ 4611686018427387904) : wrap64 ((j : Int) + 1) = ((j + 1 : Nat) : Int) := by
  unfold wrap64; omega
theorem succ_of {d k : Nat} (h : d < k) : ∃ m, k = m + 1 := ⟨k - 1, by omega⟩
theorem lit_int {n : Int} (h : (Lit.int .i64 n).wf = true) : -9223372036854775808 ≤ n ∧ n ≤ 9223372036854775807 := by
  simpa [Lit.wf, IntKind.min, IntKind.max, IntKind.signed, IntKind.bits] using h

theorem rdOf_nat {α : Type} (d : α) (xs : List α) (j : Nat) (h : j < xs.length) : rdOf d xs (j : Int) = xs[j] := by
  unfold rdOf; rw [Int.toNat_natCast, List.getD_eq_getElem?_getD, List.getElem?_eq_getElem h]; rfl
theorem rd_nat (xs : List Int) (j : Nat) (h : j < xs.length) : rd xs (j : Int) = xs[j] := by
  unfold rd; rw [Int.toNat_natCast, List.getD_eq_getElem?_getD, List.getElem?_eq_getElem h]; rfl

/-- What is left behind the strings' bytes; -1 where it is not enough. -/
def szFrom : List ByteArray → Int → Int
  | [], l => l
  | x :: xs, l => if l - (x.size : Int) < 0 then -1 else szFrom xs (l - (x.size : Int))
def szS (xs : List ByteArray) (left : Int) : Int := if left - (xs.length : Int) < 0 then -1 else szFrom xs (left - (xs.length : Int))
theorem szFrom_le : ∀ (xs : List ByteArray) (l : Int), 0 ≤ l → szFrom xs l ≤ l ∧ -1 ≤ szFrom xs l := by
  intro xs
  induction xs with
  | nil => intro l h; simp only [szFrom]; omega
  | cons x xs ih =>
    intro l h
    simp only [szFrom]
    split
    · omega
    · have := ih (l - (x.size : Int)) (by omega); omega
theorem szFrom_mem : ∀ (xs : List ByteArray) (l : Int), 0 ≤ szFrom xs l → ∀ x ∈ xs, (x.size : Int) ≤ l := by
  intro xs
  induction xs with
  | nil => intro l _ x hx; simp at hx
  | cons y xs ih =>
    intro l h x hx
    simp only [szFrom] at h
    split at h
    · omega
    · rcases List.mem_cons.1 hx with rfl | hx
      · omega
      · have := ih _ h x hx; omega
theorem szS_len {xs : List ByteArray} {l : Int} (h : 0 ≤ szS xs l) : (xs.length : Int) ≤ l ∧ (∀ x ∈ xs, (x.size : Int) ≤ l) ∧ (szS xs l ≤ l) := by
  unfold szS at h ⊢
  split at h
  · omega
  · rename_i h0
    have h1 := (szFrom_le xs (l - (xs.length : Int)) (by omega)).1
    refine ⟨by omega, fun x hx => ?_, ?_⟩
    · have := szFrom_mem xs _ h x hx; omega
    · rw [if_neg h0]; omega
theorem laws_szStringS_l0 (xs : List ByteArray) (hn : xs.length ≤ 4611686018427387904) (hx : ∀ x ∈ xs, x.size ≤ 9223372036854775807) : ∀ (d j k : Nat) (l : Int), j + d = xs.length → d < k → 0 ≤ l → l ≤ 1048576 →
    laws_szStringS.l0 k xs l (j : Int) = some (szFrom (xs.drop j) l) := by
  intro d
  induction d with
  | zero =>
    intro j k l hj hk h0 h1
    obtain ⟨k, rfl⟩ := succ_of hk
    simp only [laws_szStringS.l0]
    rw [if_neg (by omega), List.drop_eq_nil_of_le (by omega)]; rfl
  | succ d ih =>
    intro j k l hj hk h0 h1
    obtain ⟨k, rfl⟩ := succ_of hk
    have hlt : j < xs.length := by omega
    have := hx _ (List.getElem_mem hlt)
    simp only [laws_szStringS.l0]
    rw [if_pos (by omega), if_pos (by omega), rdOf_nat _ _ _ hlt, wrap_id (by omega) (by omega), wrap_succ hlt hn, List.drop_eq_getElem_cons hlt]
    simp only [szFrom]
    by_cases h : l - (xs[j].size : Int) < 0
    · rw [if_pos h, if_pos h]
    · rw [if_neg h, if_neg h, ih (j + 1) k _ (by omega) (by omega) (by omega) (by omega)]
theorem laws_szStringS_eq (xs : List ByteArray) (l : Int) (hn : xs.length ≤ 9223372036854775807) (hx : ∀ x ∈ xs, x.size ≤ 9223372036854775807) (h0 : 0 ≤ l) (h1 : l ≤ 1048576) (k : Nat) (hk : 1048577 < k) :
    laws_szStringS.f k xs l = some (szS xs l) := by
  unfold laws_szStringS.f szS
  rw [wrap_id (by omega) (by omega)]
  split
  · rfl
  · have := laws_szStringS_l0 xs (by omega) hx xs.length 0 k (l - (xs.length : Int)) (by omega) (by omega) (by omega) (by omega)
    simpa using this

theorem set_at_end {α : Type} (p : List α) (x y : α) (r : List α) : (p ++ x :: r).set p.length y = (p ++ [y]) ++ r := by simp
theorem laws_toStringS_l0 (xs : List ByteArray) (hn : xs.length ≤ 4611686018427387904) : ∀ (d j k : Nat) (r : List ByteArray), j + d = xs.length → d < k → r.length = d →
    laws_toStringS.l0 k xs (xs.take j ++ r) (j : Int) = some xs := by
  intro d
  induction d with
  | zero =>
    intro j k r hj hk hr
    obtain ⟨k, rfl⟩ := succ_of hk
    have : r = [] := List.length_eq_zero_iff.1 hr
    subst this
    simp only [laws_toStringS.l0]
    rw [if_neg (by omega), List.append_nil, List.take_of_length_le (by omega)]
  | succ d ih =>
    intro j k r hj hk hr
    obtain ⟨k, rfl⟩ := succ_of hk
    have hlt : j < xs.length := by omega
    cases r with
    | nil => simp at hr
    | cons y r =>
      simp only [laws_toStringS.l0]
      have hl : (xs.take j).length = j := by rw [List.length_take]; omega
      rw [if_pos (by omega), if_pos (by omega), if_pos (by simp only [List.length_append, List.length_cons, hl] at *; omega), rdOf_nat _ _ _ hlt, wrap_succ hlt hn, Int.toNat_natCast]
      have e : (xs.take j ++ y :: r).set j xs[j] = xs.take (j + 1) ++ r := by
        have := set_at_end (xs.take j) y xs[j] r
        rw [hl] at this
        rw [this, List.take_succ_eq_append_getElem hlt]
      rw [e]
      exact ih (j + 1) k r (by omega) (by omega) (by simpa using hr)
theorem laws_toStringS_eq (xs : List ByteArray) (hn : xs.length ≤ 17592186044416) (k : Nat) (hk : xs.length < k) : laws_toStringS.f k xs = some xs := by
  unfold laws_toStringS.f
  rw [if_pos (by omega), if_pos (by omega)]
  have := laws_toStringS_l0 xs (by omega) xs.length 0 k (List.replicate xs.length (⟨#[]⟩ : ByteArray)) (by omega) hk (by simp)
  simpa using this

instance bytesDec : DecidableEq ByteArray := fun a b => decidable_of_iff (a.data = b.data) ⟨fun h => by cases a; cases b; exact congrArg ByteArray.mk h, fun h => by rw [h]⟩
theorem bytes_eq (a b : ByteArray) : a.toList = b.toList ↔ a = b := by
  rw [ByteArray.toList_eq, ByteArray.toList_eq]
  constructor
  · intro h; cases a; cases b; simp only [ByteArray.mk.injEq] at *; exact Array.toList_inj.mp h
  · intro h; rw [h]
theorem bytes_lit (s : ByteArray) (a : Array UInt8) : s.toList = a.toList ↔ s = ⟨a⟩ := by
  rw [ByteArray.toList_eq]
  constructor
  · intro h; cases s; simp only [ByteArray.mk.injEq] at *; exact Array.toList_inj.mp h
  · intro h; rw [h]

theorem laws_eqStringS_l0 (a b : List ByteArray) (hab : a.length = b.length) (hn : a.length ≤ 4611686018427387904) : ∀ (d j k : Nat), j + d = a.length → d < k →
    laws_eqStringS.l0 k a b (j : Int) = some (decide (a.drop j = b.drop j)) := by
  intro d
  induction d with
  | zero =>
    intro j k hj hk
    obtain ⟨k, rfl⟩ := succ_of hk
    simp only [laws_eqStringS.l0]
    rw [if_neg (by omega), List.drop_eq_nil_of_le (by omega), List.drop_eq_nil_of_le (by omega)]; simp
  | succ d ih =>
    intro j k hj hk
    obtain ⟨k, rfl⟩ := succ_of hk
    have hlt : j < a.length := by omega
    simp only [laws_eqStringS.l0]
    rw [if_pos (by omega), if_pos (by omega), if_pos (by omega), rdOf_nat _ _ _ hlt, rdOf_nat _ _ _ (by omega), wrap_succ hlt hn, ih (j + 1) k (by omega) (by omega), List.drop_eq_getElem_cons hlt, List.drop_eq_getElem_cons (hab ▸ hlt : j < b.length)]
    simp only [List.cons.injEq, bytes_eq]
    by_cases h : a[j] = b[j]
    · rw [if_pos h]; simp only [h, true_and]
    · rw [if_neg h]; simp only [h, false_and, decide_false]
theorem laws_eqStringS_eq (a b : List ByteArray) (hn : a.length ≤ 4611686018427387904) (k : Nat) (hk : a.length < k) : laws_eqStringS.f k a b = some (decide (a = b)) := by
  unfold laws_eqStringS.f
  by_cases h : a.length = b.length
  · rw [if_pos (by omega)]
    have := laws_eqStringS_l0 a b h hn a.length 0 k (by omega) hk
    simpa using this
  · rw [if_neg (by omega)]; congr 1; symm; rw [decide_eq_false_iff_not]; intro e; exact h (by rw [e])

/-- Is s among xs? -/
def bmem (s : ByteArray) : List ByteArray → Bool
  | [] => false
  | x :: xs => decide (x = s) || bmem s xs
theorem bmem_iff (s : ByteArray) : ∀ xs : List ByteArray, bmem s xs = true ↔ s ∈ xs := by
  intro xs
  induction xs with
  | nil => simp [bmem]
  | cons x xs ih => simp only [bmem, Bool.or_eq_true, decide_eq_true_eq, ih, List.mem_cons]; exact or_congr eq_comm Iff.rfl

/-- Does none of the strings from place j on stand ahead of itself? -/
def distinctFrom (xs : List ByteArray) (j : Nat) : Nat → Bool
  | 0 => true
  | d + 1 => match xs[j]? with
    | some x => !(bmem x (xs.take j)) && distinctFrom xs (j + 1) d
    | none => true

theorem spec_l1Has_l0 (xs : List ByteArray) (s : ByteArray) (hn : xs.length ≤ 4611686018427387904) : ∀ (d j k : Nat), j + d = xs.length → d < k →
    spec_l1Has.l0 k xs s (j : Int) = some (bmem s (xs.drop j)) := by
  intro d
  induction d with
  | zero =>
    intro j k hj hk
    obtain ⟨k, rfl⟩ := succ_of hk
    simp only [spec_l1Has.l0]
    rw [if_neg (by omega), List.drop_eq_nil_of_le (by omega)]
    rfl
  | succ d ih =>
    intro j k hj hk
    obtain ⟨k, rfl⟩ := succ_of hk
    have hlt : j < xs.length := by omega
    simp only [spec_l1Has.l0]
    rw [if_pos (by omega), if_pos (by omega), rdOf_nat _ _ _ hlt, wrap_succ hlt hn, ih (j + 1) k (by omega) (by omega), List.drop_eq_getElem_cons hlt]
    by_cases h : xs[j] = s
    · rw [if_pos (by rw [h])]; simp [bmem, h]
    · rw [if_neg (by rw [bytes_eq]; exact h)]; simp [bmem, h]
theorem spec_l1Has_eq (xs : List ByteArray) (s : ByteArray) (hn : xs.length ≤ 4611686018427387904) (k : Nat) (hk : xs.length < k) :
    spec_l1Has.f k xs s = some (bmem s xs) := by
  unfold spec_l1Has.f
  have := spec_l1Has_l0 xs s hn xs.length 0 k (by omega) hk
  simpa using this

theorem spec_AllDistinct_l0 (xs : List ByteArray) (hn : xs.length ≤ 4611686018427387904) : ∀ (d j k : Nat), j + d = xs.length → xs.length + d < k →
    spec_AllDistinct.l0 k xs (j : Int) = some (distinctFrom xs j d) := by
  intro d
  induction d with
  | zero =>
    intro j k hj hk
    obtain ⟨k, rfl⟩ := succ_of hk
    simp only [spec_AllDistinct.l0, distinctFrom]
    rw [if_neg (by omega)]
  | succ d ih =>
    intro j k hj hk
    obtain ⟨k, rfl⟩ := succ_of hk
    have hlt : j < xs.length := by omega
    simp only [spec_AllDistinct.l0, distinctFrom, List.getElem?_eq_getElem hlt]
    rw [if_pos (by omega), if_pos (by omega), if_pos (by omega), rdOf_nat _ _ _ hlt, Int.toNat_natCast, spec_l1Has_eq _ _ (by rw [List.length_take]; omega) k (by rw [List.length_take]; omega), Option.bind_some, wrap_succ hlt hn, ih (j + 1) k (by omega) (by omega)]
    cases bmem xs[j] (xs.take j) <;> simp
theorem spec_AllDistinct_eq (xs : List ByteArray) (hn : xs.length ≤ 4611686018427387904) (k : Nat) (hk : xs.length + xs.length < k) : spec_AllDistinct.f k xs = some (distinctFrom xs 0 xs.length) := by
  unfold spec_AllDistinct.f
  exact spec_AllDistinct_l0 xs hn xs.length 0 k (by omega) (by omega)

/-- The place of the first s, counted from i on; -1 where there is none. -/
def idxFrom (s : ByteArray) : List ByteArray → Int → Int
  | [], _ => -1
  | x :: xs, i => if x = s then i else idxFrom s xs (i + 1)

theorem slices_Index_l0 (xs : List ByteArray) (s : ByteArray) (hn : xs.length ≤ 4611686018427387904) : ∀ (d j k : Nat), j + d = xs.length → d < k →
    slices_Index_string_string.l0 k xs s (xs.length : Int) (j : Int) = some (idxFrom s (xs.drop j) (j : Int)) := by
  intro d
  induction d with
  | zero =>
    intro j k hj hk
    obtain ⟨k, rfl⟩ := succ_of hk
    simp only [slices_Index_string_string.l0]
    rw [if_neg (by omega), List.drop_eq_nil_of_le (by omega)]; rfl
  | succ d ih =>
    intro j k hj hk
    obtain ⟨k, rfl⟩ := succ_of hk
    have hlt : j < xs.length := by omega
    simp only [slices_Index_string_string.l0]
    rw [if_pos (by omega), if_pos (by omega), if_pos (by omega), rdOf_nat _ _ _ hlt, wrap_succ hlt hn, ih (j + 1) k (by omega) (by omega), List.drop_eq_getElem_cons hlt]
    simp only [idxFrom, bytes_eq]
    by_cases h : s = xs[j]
    · rw [if_pos h, if_pos h.symm]
    · rw [if_neg h, if_neg (fun e => h e.symm)]; rfl
theorem slices_Index_eq (xs : List ByteArray) (s : ByteArray) (hn : xs.length ≤ 4611686018427387904) (k : Nat) (hk : xs.length < k) : slices_Index_string_string.f k xs s = some (idxFrom s xs 0) := by
  unfold slices_Index_string_string.f
  have := slices_Index_l0 xs s hn xs.length 0 k (by omega) hk
  simpa using this

theorem idxFrom_iff (s : ByteArray) : ∀ (xs : List ByteArray) (i : Int), 0 ≤ i → (idxFrom s xs i ≥ 0 ↔ bmem s xs = true) := by
  intro xs
  induction xs with
  | nil => intro i _; simp [idxFrom, bmem]
  | cons x xs ih =>
    intro i hi
    show (if x = s then i else idxFrom s xs (i + 1)) ≥ 0 ↔ (decide (x = s) || bmem s xs) = true
    by_cases h : x = s
    · rw [if_pos h]; simp [h]; omega
    · rw [if_neg h, ih (i + 1) (by omega)]; simp [h]
theorem idxFrom_nonneg (s : ByteArray) (xs : List ByteArray) (i : Int) (hi : 0 ≤ i) : decide (idxFrom s xs i ≥ 0) = bmem s xs := by
  rw [Bool.eq_iff_iff, decide_eq_true_iff]; exact idxFrom_iff s xs i hi
theorem slices_Contains_eq (xs : List ByteArray) (s : ByteArray) (hn : xs.length ≤ 4611686018427387904) (k : Nat) (hk : xs.length < k) : slices_Contains_string_string.f k xs s = some (bmem s xs) := by
  unfold slices_Contains_string_string.f
  rw [slices_Index_eq xs s hn k hk, Option.bind_some, idxFrom_nonneg s xs 0 (by omega)]

theorem impl_AllDistinct_l0 (xs : List ByteArray) (hn : xs.length ≤ 4611686018427387904) : ∀ (d j k : Nat), j + d = xs.length → xs.length + d < k →
    impl_AllDistinct.l0 k xs xs (xs.length : Int) (j : Int) = some (distinctFrom xs j d) := by
  intro d
  induction d with
  | zero =>
    intro j k hj hk
    obtain ⟨k, rfl⟩ := succ_of hk
    simp only [impl_AllDistinct.l0, distinctFrom]
    rw [if_neg (by omega)]
  | succ d ih =>
    intro j k hj hk
    obtain ⟨k, rfl⟩ := succ_of hk
    have hlt : j < xs.length := by omega
    simp only [impl_AllDistinct.l0, distinctFrom, List.getElem?_eq_getElem hlt]
    rw [if_pos (by omega), if_pos (by omega), if_pos (by omega), if_pos (by omega), rdOf_nat _ _ _ hlt, Int.toNat_natCast, slices_Contains_eq _ _ (by rw [List.length_take]; omega) k (by rw [List.length_take]; omega), Option.bind_some, wrap_succ hlt hn, ih (j + 1) k (by omega) (by omega)]
    cases bmem xs[j] (xs.take j) <;> simp
theorem impl_AllDistinct_eq (xs : List ByteArray) (hn : xs.length ≤ 4611686018427387904) (k : Nat) (hk : xs.length + xs.length < k) : impl_AllDistinct.f k xs = some (distinctFrom xs 0 xs.length) := by
  unfold impl_AllDistinct.f
  exact impl_AllDistinct_l0 xs hn xs.length 0 k (by omega) (by omega)

theorem FnExactAllDistinct : laws_FnExactAllDistinct.Pure := by
  intro xs hxs
  refine ⟨3000000, ?_⟩
  unfold laws_FnExactAllDistinct.f
  rw [laws_szStringS_eq xs _ hxs.1 hxs.2 (by omega) (by omega) _ (by omega), Option.bind_some]
  split
  · rfl
  have hb := szS_len (xs := xs) (l := 1048576) (by omega)
  have hl : xs.length ≤ 1048576 := by omega
  rw [laws_toStringS_eq xs (by omega) _ (by omega)]; simp only [Option.bind_some]
  rw [spec_AllDistinct_eq xs (by omega) _ (by omega), impl_AllDistinct_eq xs (by omega) _ (by omega)]; simp only [Option.bind_some]
  rw [laws_eqStringS_eq xs xs (by omega) _ (by omega)]
  simp

end Go.Proofs.Ytjjcdiddpdjboaa.Pure
