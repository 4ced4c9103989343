/- The program's Without returns what the reference's returns, for all slices of strings, leaves them as they were, and shares no memory with them. -/
import Derived.Test.YtjjcdiddpdjboaaQFnExactWithoutx3
namespace Go.Proofs.Ytjjcdiddpdjboaa.Pure
open Go.RowKit Go.Proofs.YtjjcdiddpdjboaaV.PrintWords Go.Proofs.YtjjcdiddpdjboaaV.PrintLast Go.Proofs.YtjjcdiddpdjboaaV.PrintMore Go.Proofs.Ytjjcdiddpdjboaa.QFnExactWithout
set_option linter.unusedVariables false
set_option linter.unusedSimpArgs false

theorem wrap_id {n : Int} (h0 : -9223372036854775808 ≤ n) (h1 : n ≤ 9223372036854775807) : wrap64 n = n := by
  unfold wrap64; omega
theorem wrap_succ {j n : Nat} (h : j < n) (hn : n ≤ 4611686018427387904) : wrap64 ((j : Int) + 1) = ((j + 1 : Nat) : Int) := by
  unfold wrap64; omega
theorem succ_of {d k : Nat} (h : d < k) : ∃ m, k = m + 1 := ⟨k - 1, by omega⟩
theorem lit_int {n : Int} (h : (Lit.int .i64 n).wf = true) : -9223372036854775808 ≤ n ∧ n ≤ 9223372036854775807 := by
  simpa [Lit.wf, IntKind.min, IntKind.max, IntKind.signed, IntKind.bits] using h

theorem rdOf_nat {α : Type} (d : α) (xs : List α) (j : Nat) (h : j < xs.length) : rdOf d xs (j : Int) = xs[j] := by
  unfold rdOf; rw [Int.toNat_natCast, List.getD_eq_getElem?_getD, List.getElem?_eq_getElem h]; rfl
theorem rd_nat (xs : List Int) (j : Nat) (h : j < xs.length) : rd xs (j : Int) = xs[j] := by
  unfold rd; rw [Int.toNat_natCast, List.getD_eq_getElem?_getD, List.getElem?_eq_getElem h]; rfl

/-- What is left behind the strings' bytes; -1 where it is not enough. -/
def szFrom : List ByteArray → Int → Int
  | [], l => l
  | x :: xs, l => if l - (x.size : Int) < 0 then -1 else szFrom xs (l - (x.size : Int))
def szS (xs : List ByteArray) (left : Int) : Int := if left - (xs.length : Int) < 0 then -1 else szFrom xs (left - (xs.length : Int))
theorem szFrom_le : ∀ (xs : List ByteArray) (l : Int), 0 ≤ l → szFrom xs l ≤ l ∧ -1 ≤ szFrom xs l := by
  intro xs
  induction xs with
  | nil => intro l h; simp only [szFrom]; omega
  | cons x xs ih =>
    intro l h
    simp only [szFrom]
    split
    · omega
    · have := ih (l - (x.size : Int)) (by omega); omega
theorem szFrom_mem : ∀ (xs : List ByteArray) (l : Int), 0 ≤ szFrom xs l → ∀ x ∈ xs, (x.size : Int) ≤ l := by
  intro xs
  induction xs with
  | nil => intro l _ x hx; simp at hx
  | cons y xs ih =>
    intro l h x hx
    simp only [szFrom] at h
    split at h
    · omega
    · rcases List.mem_cons.1 hx with rfl | hx
      · omega
      · have := ih _ h x hx; omega
theorem szS_len {xs : List ByteArray} {l : Int} (h : 0 ≤ szS xs l) : (xs.length : Int) ≤ l ∧ (∀ x ∈ xs, (x.size : Int) ≤ l) ∧ (szS xs l ≤ l) := by
  unfold szS at h ⊢
  split at h
  · omega
  · rename_i h0
    have h1 := (szFrom_le xs (l - (xs.length : Int)) (by omega)).1
    refine ⟨by omega, fun x hx => ?_, ?_⟩
    · have := szFrom_mem xs _ h x hx; omega
    · rw [if_neg h0]; omega
theorem laws_szStringS_l0 (xs : List ByteArray) (hn : xs.length ≤ 4611686018427387904) (hx : ∀ x ∈ xs, x.size ≤ 9223372036854775807) : ∀ (d j k : Nat) (l : Int), j + d = xs.length → d < k → 0 ≤ l → l ≤ 1048576 →
    laws_szStringS.l0 k xs l (j : Int) = some (szFrom (xs.drop j) l) := by
  intro d
  induction d with
  | zero =>
    intro j k l hj hk h0 h1
    obtain ⟨k, rfl⟩ := succ_of hk
    simp only [laws_szStringS.l0]
    rw [if_neg (by omega), List.drop_eq_nil_of_le (by omega)]; rfl
  | succ d ih =>
    intro j k l hj hk h0 h1
    obtain ⟨k, rfl⟩ := succ_of hk
    have hlt : j < xs.length := by omega
    have := hx _ (List.getElem_mem hlt)
    simp only [laws_szStringS.l0]
    rw [if_pos (by omega), if_pos (by omega), rdOf_nat _ _ _ hlt, wrap_id (by omega) (by omega), wrap_succ hlt hn, List.drop_eq_getElem_cons hlt]
    simp only [szFrom]
    by_cases h : l - (xs[j].size : Int) < 0
    · rw [if_pos h, if_pos h]
    · rw [if_neg h, if_neg h, ih (j + 1) k _ (by omega) (by omega) (by omega) (by omega)]
theorem laws_szStringS_eq (xs : List ByteArray) (l : Int) (hn : xs.length ≤ 9223372036854775807) (hx : ∀ x ∈ xs, x.size ≤ 9223372036854775807) (h0 : 0 ≤ l) (h1 : l ≤ 1048576) (k : Nat) (hk : 1048577 < k) :
    laws_szStringS.f k xs l = some (szS xs l) := by
  unfold laws_szStringS.f szS
  rw [wrap_id (by omega) (by omega)]
  split
  · rfl
  · have := laws_szStringS_l0 xs (by omega) hx xs.length 0 k (l - (xs.length : Int)) (by omega) (by omega) (by omega) (by omega)
    simpa using this

theorem set_at_end {α : Type} (p : List α) (x y : α) (r : List α) : (p ++ x :: r).set p.length y = (p ++ [y]) ++ r := by simp
theorem laws_toStringS_l0 (xs : List ByteArray) (hn : xs.length ≤ 4611686018427387904) : ∀ (d j k : Nat) (r : List ByteArray), j + d = xs.length → d < k → r.length = d →
    laws_toStringS.l0 k xs (xs.take j ++ r) (j : Int) = some xs := by
  intro d
  induction d with
  | zero =>
    intro j k r hj hk hr
    obtain ⟨k, rfl⟩ := succ_of hk
    have : r = [] := List.length_eq_zero_iff.1 hr
    subst this
    simp only [laws_toStringS.l0]
    rw [if_neg (by omega), List.append_nil, List.take_of_length_le (by omega)]
  | succ d ih =>
    intro j k r hj hk hr
    obtain ⟨k, rfl⟩ := succ_of hk
    have hlt : j < xs.length := by omega
    cases r with
    | nil => simp at hr
    | cons y r =>
      simp only [laws_toStringS.l0]
      have hl : (xs.take j).length = j := by rw [List.length_take]; omega
      rw [if_pos (by omega), if_pos (by omega), if_pos (by simp only [List.length_append, List.length_cons, hl] at *; omega), rdOf_nat _ _ _ hlt, wrap_succ hlt hn, Int.toNat_natCast]
      have e : (xs.take j ++ y :: r).set j xs[j] = xs.take (j + 1) ++ r := by
        have := set_at_end (xs.take j) y xs[j] r
        rw [hl] at this
        rw [this, List.take_succ_eq_append_getElem hlt]
      rw [e]
      exact ih (j + 1) k r (by omega) (by omega) (by simpa using hr)
theorem laws_toStringS_eq (xs : List ByteArray) (hn : xs.length ≤ 17592186044416) (k : Nat) (hk : xs.length < k) : laws_toStringS.f k xs = some xs := by
  unfold laws_toStringS.f
  rw [if_pos (by omega), if_pos (by omega)]
  have := laws_toStringS_l0 xs (by omega) xs.length 0 k (List.replicate xs.length (⟨#[]⟩ : ByteArray)) (by omega) hk (by simp)
  simpa using this

instance bytesDec : DecidableEq ByteArray := fun a b => decidable_of_iff (a.data = b.data) ⟨fun h => by cases a; cases b; exact congrArg ByteArray.mk h, fun h => by rw [h]⟩
theorem bytes_eq (a b : ByteArray) : a.toList = b.toList ↔ a = b := by
  rw [ByteArray.toList_eq, ByteArray.toList_eq]
  constructor
  · intro h; cases a; cases b; simp only [ByteArray.mk.injEq] at *; exact Array.toList_inj.mp h
  · intro h; rw [h]
theorem bytes_lit (s : ByteArray) (a : Array UInt8) : s.toList = a.toList ↔ s = ⟨a⟩ := by
  rw [ByteArray.toList_eq]
  constructor
  · intro h; cases s; simp only [ByteArray.mk.injEq] at *; exact Array.toList_inj.mp h
  · intro h; rw [h]

theorem laws_eqStringS_l0 (a b : List ByteArray) (hab : a.length = b.length) (hn : a.length ≤ 4611686018427387904) : ∀ (d j k : Nat), j + d = a.length → d < k →
    laws_eqStringS.l0 k a b (j : Int) = some (decide (a.drop j = b.drop j)) := by
  intro d
  induction d with
  | zero =>
    intro j k hj hk
    obtain ⟨k, rfl⟩ := succ_of hk
    simp only [laws_eqStringS.l0]
    rw [if_neg (by omega), List.drop_eq_nil_of_le (by omega), List.drop_eq_nil_of_le (by omega)]; simp
  | succ d ih =>
    intro j k hj hk
    obtain ⟨k, rfl⟩ := succ_of hk
    have hlt : j < a.length := by omega
    simp only [laws_eqStringS.l0]
    rw [if_pos (by omega), if_pos (by omega), if_pos (by omega), rdOf_nat _ _ _ hlt, rdOf_nat _ _ _ (by omega), wrap_succ hlt hn, ih (j + 1) k (by omega) (by omega), List.drop_eq_getElem_cons hlt, List.drop_eq_getElem_cons (hab ▸ hlt : j < b.length)]
    simp only [List.cons.injEq, bytes_eq]
    by_cases h : a[j] = b[j]
    · rw [if_pos h]; simp only [h, true_and]
    · rw [if_neg h]; simp only [h, false_and, decide_false]
theorem laws_eqStringS_eq (a b : List ByteArray) (hn : a.length ≤ 4611686018427387904) (k : Nat) (hk : a.length < k) : laws_eqStringS.f k a b = some (decide (a = b)) := by
  unfold laws_eqStringS.f
  by_cases h : a.length = b.length
  · rw [if_pos (by omega)]
    have := laws_eqStringS_l0 a b h hn a.length 0 k (by omega) hk
    simpa using this
  · rw [if_neg (by omega)]; congr 1; symm; rw [decide_eq_false_iff_not]; intro e; exact h (by rw [e])

/-- Is s among xs? -/
def bmem (s : ByteArray) : List ByteArray → Bool
  | [] => false
  | x :: xs => decide (x = s) || bmem s xs
theorem bmem_iff (s : ByteArray) : ∀ xs : List ByteArray, bmem s xs = true ↔ s ∈ xs := by
  intro xs
  induction xs with
  | nil => simp [bmem]
  | cons x xs ih => simp only [bmem, Bool.or_eq_true, decide_eq_true_eq, ih, List.mem_cons]; exact or_congr eq_comm Iff.rfl

/-- The strings that do not occur in remove. -/
def withoutL (rem : List ByteArray) : List ByteArray → List ByteArray
  | [] => []
  | x :: xs => if bmem x rem = true then withoutL rem xs else x :: withoutL rem xs
theorem withoutL_length (rem : List ByteArray) : ∀ xs, (withoutL rem xs).length ≤ xs.length := by
  intro xs
  induction xs with
  | nil => simp [withoutL]
  | cons x xs ih => simp only [withoutL]; split <;> simp only [List.length_cons] <;> omega

theorem spec_l1Has_l0 (xs : List ByteArray) (s : ByteArray) (hn : xs.length ≤ 4611686018427387904) : ∀ (d j k : Nat), j + d = xs.length → d < k →
    spec_l1Has.l0 k xs s (j : Int) = some (bmem s (xs.drop j)) := by
  intro d
  induction d with
  | zero =>
    intro j k hj hk
    obtain ⟨k, rfl⟩ := succ_of hk
    simp only [spec_l1Has.l0]
    rw [if_neg (by omega), List.drop_eq_nil_of_le (by omega)]
    rfl
  | succ d ih =>
    intro j k hj hk
    obtain ⟨k, rfl⟩ := succ_of hk
    have hlt : j < xs.length := by omega
    simp only [spec_l1Has.l0]
    rw [if_pos (by omega), if_pos (by omega), rdOf_nat _ _ _ hlt, wrap_succ hlt hn, ih (j + 1) k (by omega) (by omega), List.drop_eq_getElem_cons hlt]
    by_cases h : xs[j] = s
    · rw [if_pos (by rw [h])]; simp [bmem, h]
    · rw [if_neg (by rw [bytes_eq]; exact h)]; simp [bmem, h]
theorem spec_l1Has_eq (xs : List ByteArray) (s : ByteArray) (hn : xs.length ≤ 4611686018427387904) (k : Nat) (hk : xs.length < k) :
    spec_l1Has.f k xs s = some (bmem s xs) := by
  unfold spec_l1Has.f
  have := spec_l1Has_l0 xs s hn xs.length 0 k (by omega) hk
  simpa using this

theorem spec_Without_l0 (xs rem : List ByteArray) (hn : xs.length ≤ 4000000000000) (hr : rem.length ≤ 4611686018427387904) : ∀ (d j k : Nat) (out : List ByteArray), j + d = xs.length → rem.length + d < k → out.length ≤ j →
    spec_Without.l0 k xs rem out (j : Int) = some (out ++ withoutL rem (xs.drop j)) := by
  intro d
  induction d with
  | zero =>
    intro j k out hj hk ho
    obtain ⟨k, rfl⟩ := succ_of hk
    simp only [spec_Without.l0]
    rw [if_neg (by omega), List.drop_eq_nil_of_le (by omega)]; simp [withoutL]
  | succ d ih =>
    intro j k out hj hk ho
    obtain ⟨k, rfl⟩ := succ_of hk
    have hlt : j < xs.length := by omega
    simp only [spec_Without.l0]
    rw [if_pos (by omega), if_pos (by omega), rdOf_nat _ _ _ hlt, spec_l1Has_eq _ _ hr k (by omega), Option.bind_some, wrap_succ hlt (by omega), List.drop_eq_getElem_cons hlt]
    simp only [withoutL]
    by_cases h : bmem xs[j] rem = true
    · rw [if_pos h, if_pos h, ih (j + 1) k out (by omega) (by omega) (by omega)]
    · rw [if_neg h, if_neg h, if_pos (by omega), ih (j + 1) k (out ++ [xs[j]]) (by omega) (by omega) (by simp; omega)]; simp
theorem spec_Without_eq (xs rem : List ByteArray) (hn : xs.length ≤ 4000000000000) (hr : rem.length ≤ 4611686018427387904) (k : Nat) (hk : rem.length + xs.length < k) : spec_Without.f k xs rem = some (withoutL rem xs) := by
  unfold spec_Without.f
  have := spec_Without_l0 xs rem hn hr xs.length 0 k [] (by omega) hk (by simp)
  simpa using this

/-- The place of the first s, counted from i on; -1 where there is none. -/
def idxFrom (s : ByteArray) : List ByteArray → Int → Int
  | [], _ => -1
  | x :: xs, i => if x = s then i else idxFrom s xs (i + 1)

theorem slices_Index_l0 (xs : List ByteArray) (s : ByteArray) (hn : xs.length ≤ 4611686018427387904) : ∀ (d j k : Nat), j + d = xs.length → d < k →
    slices_Index_string_string.l0 k xs s (xs.length : Int) (j : Int) = some (idxFrom s (xs.drop j) (j : Int)) := by
  intro d
  induction d with
  | zero =>
    intro j k hj hk
    obtain ⟨k, rfl⟩ := succ_of hk
    simp only [slices_Index_string_string.l0]
    rw [if_neg (by omega), List.drop_eq_nil_of_le (by omega)]; rfl
  | succ d ih =>
    intro j k hj hk
    obtain ⟨k, rfl⟩ := succ_of hk
    have hlt : j < xs.length := by omega
    simp only [slices_Index_string_string.l0]
    rw [if_pos (by omega), if_pos (by omega), if_pos (by omega), rdOf_nat _ _ _ hlt, wrap_succ hlt hn, ih (j + 1) k (by omega) (by omega), List.drop_eq_getElem_cons hlt]
    simp only [idxFrom, bytes_eq]
    by_cases h : s = xs[j]
    · rw [if_pos h, if_pos h.symm]
    · rw [if_neg h, if_neg (fun e => h e.symm)]; rfl
theorem slices_Index_eq (xs : List ByteArray) (s : ByteArray) (hn : xs.length ≤ 4611686018427387904) (k : Nat) (hk : xs.length < k) : slices_Index_string_string.f k xs s = some (idxFrom s xs 0) := by
  unfold slices_Index_string_string.f
  have := slices_Index_l0 xs s hn xs.length 0 k (by omega) hk
  simpa using this

theorem idxFrom_iff (s : ByteArray) : ∀ (xs : List ByteArray) (i : Int), 0 ≤ i → (idxFrom s xs i ≥ 0 ↔ bmem s xs = true) := by
  intro xs
  induction xs with
  | nil => intro i _; simp [idxFrom, bmem]
  | cons x xs ih =>
    intro i hi
    show (if x = s then i else idxFrom s xs (i + 1)) ≥ 0 ↔ (decide (x = s) || bmem s xs) = true
    by_cases h : x = s
    · rw [if_pos h]; simp [h]; omega
    · rw [if_neg h, ih (i + 1) (by omega)]; simp [h]
theorem idxFrom_nonneg (s : ByteArray) (xs : List ByteArray) (i : Int) (hi : 0 ≤ i) : decide (idxFrom s xs i ≥ 0) = bmem s xs := by
  rw [Bool.eq_iff_iff, decide_eq_true_iff]; exact idxFrom_iff s xs i hi
theorem slices_Contains_eq (xs : List ByteArray) (s : ByteArray) (hn : xs.length ≤ 4611686018427387904) (k : Nat) (hk : xs.length < k) : slices_Contains_string_string.f k xs s = some (bmem s xs) := by
  unfold slices_Contains_string_string.f
  rw [slices_Index_eq xs s hn k hk, Option.bind_some, idxFrom_nonneg s xs 0 (by omega)]

theorem impl_Without_l0 (xs rem : List ByteArray) (hn : xs.length ≤ 4000000000000) (hr : rem.length ≤ 4611686018427387904) : ∀ (d j k : Nat) (out : List ByteArray), j + d = xs.length → rem.length + d < k → out.length ≤ j →
    impl_Without.l0 k rem out xs (xs.length : Int) (j : Int) = some (out ++ withoutL rem (xs.drop j)) := by
  intro d
  induction d with
  | zero =>
    intro j k out hj hk ho
    obtain ⟨k, rfl⟩ := succ_of hk
    simp only [impl_Without.l0]
    rw [if_neg (by omega), List.drop_eq_nil_of_le (by omega)]; simp [withoutL]
  | succ d ih =>
    intro j k out hj hk ho
    obtain ⟨k, rfl⟩ := succ_of hk
    have hlt : j < xs.length := by omega
    simp only [impl_Without.l0]
    rw [if_pos (by omega), if_pos (by omega), if_pos (by omega), rdOf_nat _ _ _ hlt, slices_Contains_eq _ _ hr k (by omega), Option.bind_some, wrap_succ hlt (by omega), List.drop_eq_getElem_cons hlt]
    simp only [withoutL]
    by_cases h : bmem xs[j] rem = true
    · rw [if_pos h, if_pos h, ih (j + 1) k out (by omega) (by omega) (by omega)]
    · rw [if_neg h, if_neg h, if_pos (by omega), ih (j + 1) k (out ++ [xs[j]]) (by omega) (by omega) (by simp; omega)]; simp
theorem impl_Without_eq (xs rem : List ByteArray) (hn : xs.length ≤ 4000000000000) (hr : rem.length ≤ 4611686018427387904) (k : Nat) (hk : rem.length + xs.length < k) : impl_Without.f k xs rem = some (withoutL rem xs) := by
  unfold impl_Without.f
  have := impl_Without_l0 xs rem hn hr xs.length 0 k [] (by omega) hk (by simp)
  simpa using this

theorem strOf_one (a : Int) : (strOfNums [a]).size = 1 := by unfold strOfNums; rfl
theorem laws_markText_l0 : ∀ (d k : Nat) (x : Int) (t : ByteArray), 0 ≤ x → x < 10 ^ d → x ≤ 9223372036854775807 → t.size + d ≤ 1000000 → d < k → ∃ r, laws_markText.l0 k x t = some r := by
  intro d
  induction d with
  | zero =>
    intro k x t h0 h1 _ ht hk
    obtain ⟨k, rfl⟩ := succ_of hk
    have : x = 0 := by simp at h1; omega
    subst this
    simp only [laws_markText.l0]
    rw [if_neg (by omega), if_pos (by omega)]
    exact ⟨_, rfl⟩
  | succ d ih =>
    intro k x t h0 h1 h2 ht hk
    obtain ⟨k, rfl⟩ := succ_of hk
    simp only [laws_markText.l0]
    by_cases h : x > 0
    · rw [if_pos h]; simp only [Option.bind_some]
      rw [strOf_one, if_pos (by omega)]
      have e : Int.tdiv x 10 = x / 10 := Int.tdiv_eq_ediv_of_nonneg h0
      rw [e, wrap_id (by omega) (by omega)]
      have hp : (10 : Int) ^ (d + 1) = 10 ^ d * 10 := Int.pow_succ 10 d
      exact ih k (x / 10) _ (by omega) (by omega) (by omega) (by rw [ByteArray.size_append, strOf_one]; omega) (by omega)
    · rw [if_neg h, if_pos (by omega)]
      exact ⟨_, rfl⟩
/-- The text of a number. -/
def txt (m : Int) : ByteArray := (laws_markText.f 100 m).getD ⟨#[]⟩
theorem laws_markText_eq (m : Int) (h0 : 0 ≤ m) (h1 : m ≤ 4611686018427387904) (k : Nat) (hk : 100 ≤ k) : laws_markText.f k m = some (txt m) := by
  have h : ∃ t, laws_markText.f 100 m = some t := by
    unfold laws_markText.f
    split
    · exact ⟨_, rfl⟩
    · have hb : m < 10 ^ 19 := by have : (10 : Int) ^ 19 = 10000000000000000000 := by decide
                                  omega
      exact laws_markText_l0 19 100 m _ h0 hb (by omega) (by show 0 + 19 ≤ 1000000; omega) (by omega)
  obtain ⟨t, ht⟩ := h
  have : txt m = t := by unfold txt; rw [ht]; rfl
  rw [this]
  exact at_rounds (laws_markText.mono m) hk ht
/-- d texts from m on. -/
def txts (m : Int) : Nat → List ByteArray
  | 0 => []
  | d + 1 => txt m :: txts (m + 1) d
theorem txts_length : ∀ (d : Nat) (m : Int), (txts m d).length = d := by
  intro d; induction d with
  | zero => intro m; rfl
  | succ d ih => intro m; simp [txts, ih]
theorem txts_get : ∀ (d j : Nat) (m : Int) (h : j < (txts m d).length), (txts m d)[j] = txt (m + j) := by
  intro d; induction d with
  | zero => intro j m h; simp [txts] at h
  | succ d ih =>
    intro j m h
    cases j with
    | zero => simp [txts]
    | succ j => simp only [txts, List.getElem_cons_succ]; rw [ih]; congr 1; omega

theorem laws_markStringS_l0 : ∀ (d : Nat) (p xs : List ByteArray) (m : Int) (k : Nat), xs.length = d → d + 100 < k → 0 ≤ m → m + d ≤ 4611686018427387904 → p.length + d ≤ 4611686018427387904 →
    laws_markStringS.l0 k (p ++ xs) m (p.length : Int) = some (m + d, p ++ txts m d) := by
  intro d
  induction d with
  | zero =>
    intro p xs m k hx hk h0 hm hp
    obtain ⟨k, rfl⟩ := succ_of hk
    have : xs = [] := List.length_eq_zero_iff.1 hx
    subst this
    simp only [laws_markStringS.l0]
    rw [if_neg (by simp)]; simp [txts]
  | succ d ih =>
    intro p xs m k hx hk h0 hm hp
    obtain ⟨k, rfl⟩ := succ_of hk
    cases xs with
    | nil => simp at hx
    | cons x xs =>
      simp only [laws_markStringS.l0]
      rw [if_pos (by simp only [List.length_append, List.length_cons]; omega), laws_markText_eq m h0 (by omega) k (by omega), Option.bind_some, if_pos (by omega), wrap_id (by omega) (by omega), wrap_id (by omega) (by omega), Int.toNat_natCast]
      have e : (p ++ x :: xs).set p.length (txt m) = (p ++ [txt m]) ++ xs := by simp
      have := ih (p ++ [txt m]) xs (m + 1) k (by simpa using hx) (by omega) (by omega) (by omega) (by simp; omega)
      rw [e, show ((p.length : Int) + 1) = ((p ++ [txt m]).length : Int) by simp, this]
      simp [txts]; omega
theorem laws_markStringS_eq (xs : List ByteArray) (m : Int) (k : Nat) (hk : xs.length + 100 < k) (h0 : 0 ≤ m) (hm : m + xs.length ≤ 4611686018427387904) :
    laws_markStringS.f k xs m = some (m + xs.length, txts m xs.length) := by
  unfold laws_markStringS.f
  have := laws_markStringS_l0 xs.length [] xs m k rfl hk h0 hm (by simp; omega)
  simpa using this

theorem laws_heldStringS_l0 (m : Int) (n : Nat) (h0 : 0 ≤ m) (hm : m + n ≤ 4611686018427387904) : ∀ (d j k : Nat), j + d = n → d + 100 < k →
    laws_heldStringS.l0 k (txts m n) (m + j) (j : Int) = some (m + n) := by
  intro d
  induction d with
  | zero =>
    intro j k hj hk
    obtain ⟨k, rfl⟩ := succ_of hk
    simp only [laws_heldStringS.l0]
    rw [if_neg (by rw [txts_length]; omega)]; congr 1; omega
  | succ d ih =>
    intro j k hj hk
    obtain ⟨k, rfl⟩ := succ_of hk
    simp only [laws_heldStringS.l0]
    rw [if_pos (by rw [txts_length]; omega), if_pos (by omega), rdOf_nat _ _ _ (by rw [txts_length]; omega), txts_get, laws_markText_eq (m + j) (by omega) (by omega) k (by omega), Option.bind_some, if_pos rfl, wrap_id (by omega) (by omega), wrap_id (by omega) (by omega)]
    have := ih (j + 1) k (by omega) (by omega)
    rw [← this]; congr 1 <;> omega
theorem laws_heldStringS_eq (m : Int) (n : Nat) (k : Nat) (hk : n + 100 < k) (h0 : 0 ≤ m) (hm : m + n ≤ 4611686018427387904) : laws_heldStringS.f k (txts m n) m = some (m + n) := by
  unfold laws_heldStringS.f
  have := laws_heldStringS_l0 m n h0 hm n 0 k (by omega) hk
  simpa using this

theorem FnExactWithout : laws_FnExactWithout.Pure := by
  intro xs rem hxs hrem
  refine ⟨3000001, ?_⟩
  unfold laws_FnExactWithout.f
  rw [laws_szStringS_eq xs _ hxs.1 hxs.2 (by omega) (by omega) _ (by omega), Option.bind_some]
  split
  · rfl
  have hb := szS_len (xs := xs) (l := 1048576) (by omega)
  have hl : xs.length ≤ 1048576 := by omega
  rw [laws_szStringS_eq rem _ hrem.1 hrem.2 (by omega) (by omega) _ (by omega), Option.bind_some]
  split
  · rfl
  have hb2 := szS_len (xs := rem) (l := szS xs 1048576) (by omega)
  have hl2 : rem.length ≤ 1048576 := by omega
  have hw := withoutL_length rem xs
  rw [laws_toStringS_eq xs (by omega) _ (by omega), laws_toStringS_eq rem (by omega) _ (by omega)]; simp only [Option.bind_some]
  rw [spec_Without_eq xs rem (by omega) (by omega) _ (by omega), impl_Without_eq xs rem (by omega) (by omega) _ (by omega)]; simp only [Option.bind_some]
  rw [laws_eqStringS_eq _ _ (by omega) _ (by omega)]; simp only [Option.bind_some, decide_true, if_true]
  rw [laws_eqStringS_eq xs _ (by omega) _ (by omega), laws_eqStringS_eq rem _ (by omega) _ (by omega)]; simp only [Option.bind_some, decide_true, if_true]
  rw [laws_markStringS_eq xs _ _ (by omega) (by omega) (by omega)]; simp only [Option.bind_some]
  rw [laws_markStringS_eq rem _ _ (by omega) (by omega) (by omega)]; simp only [Option.bind_some]
  rw [if_neg (by omega)]
  simp only [Bool.not_true, laws_FnExactWithout.j0]
  rw [if_neg (by simp), laws_markStringS_eq _ _ _ (by omega) (by omega) (by omega)]; simp only [Option.bind_some]
  rw [laws_heldStringS_eq _ _ _ (by omega) (by omega) (by omega)]; simp only [Option.bind_some]
  rw [if_neg (by omega)]; simp only [if_true]
  rw [laws_toStringS_eq xs (by omega) _ (by omega), laws_toStringS_eq rem (by omega) _ (by omega)]; simp only [Option.bind_some]
  rw [impl_Without_eq xs rem (by omega) (by omega) _ (by omega)]; simp only [Option.bind_some]
  rw [laws_eqStringS_eq _ _ (by omega) _ (by omega)]; simp only [Option.bind_some, decide_true, if_true]
  rw [if_neg (by omega)]

end Go.Proofs.Ytjjcdiddpdjboaa.Pure
