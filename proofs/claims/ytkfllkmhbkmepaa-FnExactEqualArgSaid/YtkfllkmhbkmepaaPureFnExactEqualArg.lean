/- The program's EqualArg returns what the reference's returns, for all arguments, and leaves them as they were. -/
import Derived.Test.YtkfllkmhbkmepaaQFnExactEqualArgx7
namespace Go.Proofs.Ytkfllkmhbkmepaa.Pure
open Go.RowKit Go.Proofs.YtkfllkmhbkmepaaV.PrintWords Go.Proofs.YtkfllkmhbkmepaaV.PrintLast Go.Proofs.YtkfllkmhbkmepaaV.PrintMore Go.Proofs.Ytkfllkmhbkmepaa.QFnExactEqualArg
set_option linter.unusedVariables false
set_option linter.unusedSimpArgs false

theorem rd_lterm (xs : List S118) (j : Nat) (h : j < xs.length) : rd_T118 xs (j : Int) = xs[j] := by
  unfold rd_T118; rw [Int.toNat_natCast, List.getD_eq_getElem?_getD, List.getElem?_eq_getElem h]; rfl

theorem wrap_id {n : Int} (h0 : -9223372036854775808 ≤ n) (h1 : n ≤ 9223372036854775807) : wrap64 n = n := by
  unfold wrap64; omega
theorem wrap_succ {j n : Nat} (h : j < n) (hn : n ≤ 4611686018427387904) : wrap64 ((j : Int) + 1) = ((j + 1 : Nat) : Int) := by
  unfold wrap64; omega
theorem succ_of {d k : Nat} (h : d < k) : ∃ m, k = m + 1 := ⟨k - 1, by omega⟩
theorem lit_int {n : Int} (h : (Lit.int .i64 n).wf = true) : -9223372036854775808 ≤ n ∧ n ≤ 9223372036854775807 := by
  simpa [Lit.wf, IntKind.min, IntKind.max, IntKind.signed, IntKind.bits] using h

def szTs : List S118 → Int → Int
  | [], l => l
  | x :: xs, l => if l - (x.f1.size : Int) < 0 then -1 else szTs xs (l - (x.f1.size : Int))
def szTerms (xs : List S118) (l : Int) : Int := if l - (xs.length : Int) < 0 then -1 else szTs xs (l - (xs.length : Int))
theorem szTs_le : ∀ (xs : List S118) (l : Int), 0 ≤ l → szTs xs l ≤ l ∧ -1 ≤ szTs xs l := by
  intro xs
  induction xs with
  | nil => intro l h; simp only [szTs]; omega
  | cons x xs ih =>
    intro l h
    simp only [szTs]
    split
    · omega
    · have := ih (l - (x.f1.size : Int)) (by omega); omega
theorem szTs_mem : ∀ (xs : List S118) (l : Int), 0 ≤ szTs xs l → ∀ x ∈ xs, (x.f1.size : Int) ≤ l := by
  intro xs
  induction xs with
  | nil => intro l _ x hx; simp at hx
  | cons y xs ih =>
    intro l h x hx
    simp only [szTs] at h
    split at h
    · omega
    · rcases List.mem_cons.1 hx with rfl | hx
      · omega
      · have := ih _ h x hx; omega
theorem szTerms_le (xs : List S118) (l : Int) (h : 0 ≤ l) : szTerms xs l ≤ l ∧ -1 ≤ szTerms xs l := by
  unfold szTerms
  split
  · omega
  · have := szTs_le xs (l - (xs.length : Int)) (by omega); omega
theorem szTerms_len {xs : List S118} {l : Int} (h : 0 ≤ szTerms xs l) : (xs.length : Int) ≤ l ∧ (∀ x ∈ xs, (x.f1.size : Int) ≤ l) ∧ szTerms xs l ≤ l := by
  unfold szTerms at h ⊢
  split at h
  · omega
  · rename_i h0
    have h1 := (szTs_le xs (l - (xs.length : Int)) (by omega)).1
    refine ⟨by omega, fun x hx => ?_, ?_⟩
    · have := szTs_mem xs _ h x hx; omega
    · rw [if_neg h0]; omega
theorem laws_szTermS_l0 (xs : List S118) (hn : xs.length ≤ 4611686018427387904) (hx : ∀ x ∈ xs, x.f1.size ≤ 9223372036854775807) : ∀ (d j k : Nat) (l : Int), j + d = xs.length → d < k → 0 ≤ l → l ≤ 1048576 →
    laws_szTermS.l0 k xs l (j : Int) = some (szTs (xs.drop j) l) := by
  intro d
  induction d with
  | zero =>
    intro j k l hj hk h0 h1
    obtain ⟨k, rfl⟩ := succ_of hk
    simp only [laws_szTermS.l0]
    rw [if_neg (by omega), List.drop_eq_nil_of_le (by omega)]; rfl
  | succ d ih =>
    intro j k l hj hk h0 h1
    obtain ⟨k, rfl⟩ := succ_of hk
    have hlt : j < xs.length := by omega
    have hxj := hx _ (List.getElem_mem hlt)
    simp only [laws_szTermS.l0, laws_szTerm.f]
    rw [if_pos (by omega), if_pos (by omega), rd_lterm _ _ hlt, wrap_id (n := l - (xs[j].f1.size : Int)) (by omega) (by omega), wrap_succ hlt hn, List.drop_eq_getElem_cons hlt]
    simp only [szTs]
    by_cases h : l - (xs[j].f1.size : Int) < 0
    · rw [if_pos h, if_pos h, Option.bind_some, if_pos (by omega)]
    · rw [if_neg h, if_neg h, Option.bind_some, if_neg h, ih (j + 1) k _ (by omega) (by omega) (by omega) (by omega)]
theorem laws_szTermS_eq (xs : List S118) (l : Int) (hn : xs.length ≤ 9223372036854775807) (hx : ∀ x ∈ xs, x.f1.size ≤ 9223372036854775807) (h0 : 0 ≤ l) (h1 : l ≤ 1048576) (k : Nat) (hk : 1048577 < k) :
    laws_szTermS.f k xs l = some (szTerms xs l) := by
  unfold laws_szTermS.f szTerms
  rw [wrap_id (by omega) (by omega)]
  split
  · rfl
  · have := laws_szTermS_l0 xs (by omega) hx xs.length 0 k (l - (xs.length : Int)) (by omega) (by omega) (by omega) (by omega)
    simpa using this

theorem laws_szSum_eq (c : Int) (xs : List S118) (l : Int) (hn : xs.length ≤ 9223372036854775807) (hx : ∀ x ∈ xs, x.f1.size ≤ 9223372036854775807) (h0 : 0 ≤ l) (h1 : l ≤ 1048576) (k : Nat) (hk : 1048577 < k) :
    laws_szSum.f k c xs l = some (szTerms xs l) := by
  unfold laws_szSum.f; rw [laws_szTermS_eq xs l hn hx h0 h1 k hk, Option.bind_some]
  have := szTerms_le xs l h0
  split
  · congr 1; omega
  · rfl

theorem rd_lsum (xs : List S35) (j : Nat) (h : j < xs.length) : rd_T35 xs (j : Int) = xs[j] := by
  unfold rd_T35; rw [Int.toNat_natCast, List.getD_eq_getElem?_getD, List.getElem?_eq_getElem h]; rfl

def szSs : List S35 → Int → Int
  | [], l => l
  | x :: xs, l => if szTerms x.f1 l < 0 then -1 else szSs xs (szTerms x.f1 l)
def szSums (xs : List S35) (l : Int) : Int := if l - (xs.length : Int) < 0 then -1 else szSs xs (l - (xs.length : Int))
/-- What the sizes of sums leave is small. -/
def smallSums (B : Int) (xs : List S35) : Prop := (xs.length : Int) ≤ B ∧ ∀ x ∈ xs, (x.f1.length : Int) ≤ B ∧ ∀ y ∈ x.f1, (y.f1.size : Int) ≤ B
theorem szSs_le : ∀ (xs : List S35) (l : Int), 0 ≤ l → szSs xs l ≤ l ∧ -1 ≤ szSs xs l := by
  intro xs
  induction xs with
  | nil => intro l h; simp only [szSs]; omega
  | cons x xs ih =>
    intro l h
    simp only [szSs]
    split
    · omega
    · have h1 := szTerms_le x.f1 l h
      have := ih (szTerms x.f1 l) (by omega); omega
theorem szSs_mem : ∀ (xs : List S35) (l : Int), 0 ≤ l → 0 ≤ szSs xs l → ∀ x ∈ xs, (x.f1.length : Int) ≤ l ∧ ∀ y ∈ x.f1, (y.f1.size : Int) ≤ l := by
  intro xs
  induction xs with
  | nil => intro l _ _ x hx; simp at hx
  | cons y xs ih =>
    intro l h0 h x hx
    simp only [szSs] at h
    split at h
    · omega
    · have h1 := szTerms_len (xs := y.f1) (l := l) (by omega)
      rcases List.mem_cons.1 hx with rfl | hx
      · exact ⟨h1.1, h1.2.1⟩
      · have h2 := ih _ (by omega) h x hx
        exact ⟨by omega, fun z hz => by have := h2.2 z hz; omega⟩
theorem szSums_len {xs : List S35} {l : Int} (h : 0 ≤ szSums xs l) : smallSums l xs ∧ szSums xs l ≤ l := by
  unfold szSums at h ⊢
  split at h
  · omega
  · rename_i h0
    have h1 := (szSs_le xs (l - (xs.length : Int)) (by omega)).1
    refine ⟨⟨by omega, fun x hx => ?_⟩, ?_⟩
    · have h2 := szSs_mem xs _ (by omega) h x hx
      exact ⟨by omega, fun z hz => by have := h2.2 z hz; omega⟩
    · rw [if_neg h0]; omega
theorem laws_szSumS_l0 (xs : List S35) (hn : xs.length ≤ 4611686018427387904) (hx : ∀ x ∈ xs, x.f1.length ≤ 9223372036854775807 ∧ ∀ y ∈ x.f1, y.f1.size ≤ 9223372036854775807) : ∀ (d j k : Nat) (l : Int), j + d = xs.length → d + 1048577 < k → 0 ≤ l → l ≤ 1048576 →
    laws_szSumS.l0 k xs l (j : Int) = some (szSs (xs.drop j) l) := by
  intro d
  induction d with
  | zero =>
    intro j k l hj hk h0 h1
    obtain ⟨k, rfl⟩ := succ_of hk
    simp only [laws_szSumS.l0]
    rw [if_neg (by omega), List.drop_eq_nil_of_le (by omega)]; rfl
  | succ d ih =>
    intro j k l hj hk h0 h1
    obtain ⟨k, rfl⟩ := succ_of hk
    have hlt : j < xs.length := by omega
    have hxj := hx _ (List.getElem_mem hlt)
    simp only [laws_szSumS.l0]
    rw [if_pos (by omega), if_pos (by omega), rd_lsum _ _ hlt, laws_szSum_eq _ _ _ hxj.1 hxj.2 h0 h1 k (by omega), Option.bind_some, wrap_succ hlt hn, List.drop_eq_getElem_cons hlt]
    simp only [szSs]
    have h2 := szTerms_le xs[j].f1 l h0
    by_cases h : szTerms xs[j].f1 l < 0
    · rw [if_pos h, if_pos h]
    · rw [if_neg h, if_neg h, ih (j + 1) k _ (by omega) (by omega) (by omega) (by omega)]
theorem laws_szSumS_eq (xs : List S35) (l : Int) (hn : xs.length ≤ 9223372036854775807) (hx : ∀ x ∈ xs, x.f1.length ≤ 9223372036854775807 ∧ ∀ y ∈ x.f1, y.f1.size ≤ 9223372036854775807) (h0 : 0 ≤ l) (h1 : l ≤ 1048576) (k : Nat) (hk : 2097154 < k) :
    laws_szSumS.f k xs l = some (szSums xs l) := by
  unfold laws_szSumS.f szSums
  rw [wrap_id (by omega) (by omega)]
  split
  · rfl
  · have := laws_szSumS_l0 xs (by omega) hx xs.length 0 k (l - (xs.length : Int)) (by omega) (by omega) (by omega) (by omega)
    simpa using this

def szArgV (xs : List S35) (s : ByteArray) (l : Int) : Int := if szSums xs l < 0 then -1 else if szSums xs l - (s.size : Int) < 0 then -1 else szSums xs l - (s.size : Int)
theorem laws_szArg_eq (b : Bool) (xs : List S35) (s : ByteArray) (l : Int) (hn : xs.length ≤ 9223372036854775807) (hx : ∀ x ∈ xs, x.f1.length ≤ 9223372036854775807 ∧ ∀ y ∈ x.f1, y.f1.size ≤ 9223372036854775807) (hs : s.size ≤ 9223372036854775807) (h0 : 0 ≤ l) (h1 : l ≤ 1048576) (k : Nat) (hk : 2097154 < k) :
    laws_szArg.f k b xs s l = some (szArgV xs s l) := by
  unfold laws_szArg.f szArgV; rw [laws_szSumS_eq xs l hn hx h0 h1 k hk, Option.bind_some]
  split
  · rfl
  · rename_i h2
    have h3 := szSums_len (xs := xs) (l := l) (by omega)
    rw [wrap_id (by omega) (by omega)]
    split <;> rfl
theorem szArgV_len {xs : List S35} {s : ByteArray} {l : Int} (h : 0 ≤ szArgV xs s l) : smallSums l xs ∧ (s.size : Int) ≤ l ∧ szArgV xs s l ≤ l := by
  unfold szArgV at h ⊢
  split at h
  · omega
  · rename_i h2
    have h3 := szSums_len (xs := xs) (l := l) (by omega)
    split at h
    · omega
    · rename_i h4
      rw [if_neg h2, if_neg h4]
      exact ⟨h3.1, by omega, by omega⟩

instance bytesDec : DecidableEq ByteArray := fun a b => decidable_of_iff (a.data = b.data) ⟨fun h => by cases a; cases b; exact congrArg ByteArray.mk h, fun h => by rw [h]⟩
theorem bytes_eq (a b : ByteArray) : a.toList = b.toList ↔ a = b := by
  rw [ByteArray.toList_eq, ByteArray.toList_eq]
  constructor
  · intro h; cases a; cases b; simp only [ByteArray.mk.injEq] at *; exact Array.toList_inj.mp h
  · intro h; rw [h]
theorem bytes_lit (s : ByteArray) (a : Array UInt8) : s.toList = a.toList ↔ s = ⟨a⟩ := by
  rw [ByteArray.toList_eq]
  constructor
  · intro h; cases s; simp only [ByteArray.mk.injEq] at *; exact Array.toList_inj.mp h
  · intro h; rw [h]

instance termDec : DecidableEq S94 := fun a b => decidable_of_iff (a.f0 = b.f0 ∧ a.f1 = b.f1) ⟨fun h => by cases a; cases b; simp only at h; rw [h.1, h.2], fun h => by rw [h]; exact ⟨rfl, rfl⟩⟩
theorem term_eq_iff (a b : S94) : a = b ↔ a.f0 = b.f0 ∧ a.f1 = b.f1 := ⟨fun h => by rw [h]; exact ⟨rfl, rfl⟩, fun h => by cases a; cases b; simp only at h; rw [h.1, h.2]⟩
theorem rd_term (xs : List S94) (j : Nat) (h : j < xs.length) : rd_T94 xs (j : Int) = xs[j] := by
  unfold rd_T94; rw [Int.toNat_natCast, List.getD_eq_getElem?_getD, List.getElem?_eq_getElem h]; rfl

def convT (x : S118) : S94 := ⟨x.f0, x.f1⟩
theorem laws_toTermS_l0 (xs : List S118) (hn : xs.length ≤ 4611686018427387904) : ∀ (d j k : Nat) (r : List S94), j + d = xs.length → d < k → r.length = d →
    laws_toTermS.l0 k xs ((xs.map convT).take j ++ r) (j : Int) = some (xs.map convT) := by
  intro d
  induction d with
  | zero =>
    intro j k r hj hk hr
    obtain ⟨k, rfl⟩ := succ_of hk
    have : r = [] := List.length_eq_zero_iff.1 hr
    subst this
    simp only [laws_toTermS.l0]
    rw [if_neg (by omega), List.append_nil, List.take_of_length_le (by rw [List.length_map]; omega)]
  | succ d ih =>
    intro j k r hj hk hr
    obtain ⟨k, rfl⟩ := succ_of hk
    have hlt : j < xs.length := by omega
    cases r with
    | nil => simp at hr
    | cons y r =>
      simp only [laws_toTermS.l0, laws_toTerm.f]
      have hl : ((xs.map convT).take j).length = j := by rw [List.length_take, List.length_map]; omega
      rw [if_pos (by omega), if_pos (by omega), rd_lterm _ _ hlt, Option.bind_some, if_pos (by simp only [List.length_append, List.length_cons, hl] at *; omega), wrap_succ hlt hn, Int.toNat_natCast]
      have e : ((xs.map convT).take j ++ y :: r).set j (⟨xs[j].f0, xs[j].f1⟩ : S94) = (xs.map convT).take (j + 1) ++ r := by
        have h1 : ((xs.map convT).take j ++ y :: r).set ((xs.map convT).take j).length (convT xs[j]) = ((xs.map convT).take j ++ [convT xs[j]]) ++ r := by simp
        rw [hl] at h1
        rw [show (⟨xs[j].f0, xs[j].f1⟩ : S94) = convT xs[j] from rfl, h1, List.take_succ_eq_append_getElem (by rw [List.length_map]; omega), List.getElem_map]
      rw [e]
      exact ih (j + 1) k r (by omega) (by omega) (by simpa using hr)
theorem laws_toTermS_eq (xs : List S118) (hn : xs.length ≤ 1048576) (k : Nat) (hk : xs.length < k) : laws_toTermS.f k xs = some (xs.map convT) := by
  unfold laws_toTermS.f
  rw [if_pos (by omega), if_pos (by omega)]
  have := laws_toTermS_l0 xs (by omega) xs.length 0 k (List.replicate xs.length z94) (by omega) (by omega) (by simp)
  simpa using this
theorem laws_toSum_eq (c : Int) (xs : List S118) (hn : xs.length ≤ 1048576) (k : Nat) (hk : xs.length < k) : laws_toSum.f k c xs = some (c, xs.map convT) := by
  unfold laws_toSum.f; rw [laws_toTermS_eq xs hn k hk]; rfl

instance sumDec : DecidableEq S40 := fun a b => decidable_of_iff (a.f0 = b.f0 ∧ a.f1 = b.f1) ⟨fun h => by cases a; cases b; simp only at h; rw [h.1, h.2], fun h => by rw [h]; exact ⟨rfl, rfl⟩⟩
theorem sum_eq_iff (a b : S40) : a = b ↔ a.f0 = b.f0 ∧ a.f1 = b.f1 := ⟨fun h => by rw [h]; exact ⟨rfl, rfl⟩, fun h => by cases a; cases b; simp only at h; rw [h.1, h.2]⟩
theorem rd_sum (xs : List S40) (j : Nat) (h : j < xs.length) : rd_T40 xs (j : Int) = xs[j] := by
  unfold rd_T40; rw [Int.toNat_natCast, List.getD_eq_getElem?_getD, List.getElem?_eq_getElem h]; rfl

def convS (x : S35) : S40 := ⟨x.f0, x.f1.map convT⟩
theorem laws_toSumS_l0 (xs : List S35) (hn : xs.length ≤ 4611686018427387904) (hx : ∀ x ∈ xs, x.f1.length ≤ 1048576) : ∀ (d j k : Nat) (r : List S40), j + d = xs.length → d + 1048577 < k → r.length = d →
    laws_toSumS.l0 k xs ((xs.map convS).take j ++ r) (j : Int) = some (xs.map convS) := by
  intro d
  induction d with
  | zero =>
    intro j k r hj hk hr
    obtain ⟨k, rfl⟩ := succ_of hk
    have : r = [] := List.length_eq_zero_iff.1 hr
    subst this
    simp only [laws_toSumS.l0]
    rw [if_neg (by omega), List.append_nil, List.take_of_length_le (by rw [List.length_map]; omega)]
  | succ d ih =>
    intro j k r hj hk hr
    obtain ⟨k, rfl⟩ := succ_of hk
    have hlt : j < xs.length := by omega
    cases r with
    | nil => simp at hr
    | cons y r =>
      simp only [laws_toSumS.l0]
      have hl : ((xs.map convS).take j).length = j := by rw [List.length_take, List.length_map]; omega
      have hxj := hx _ (List.getElem_mem hlt)
      rw [if_pos (by omega), if_pos (by omega), rd_lsum _ _ hlt, laws_toSum_eq _ _ (by omega) k (by omega), Option.bind_some, if_pos (by simp only [List.length_append, List.length_cons, hl] at *; omega), wrap_succ hlt hn, Int.toNat_natCast]
      have e : ((xs.map convS).take j ++ y :: r).set j (⟨xs[j].f0, xs[j].f1.map convT⟩ : S40) = (xs.map convS).take (j + 1) ++ r := by
        have h1 : ((xs.map convS).take j ++ y :: r).set ((xs.map convS).take j).length (convS xs[j]) = ((xs.map convS).take j ++ [convS xs[j]]) ++ r := by simp
        rw [hl] at h1
        rw [show (⟨xs[j].f0, xs[j].f1.map convT⟩ : S40) = convS xs[j] from rfl, h1, List.take_succ_eq_append_getElem (by rw [List.length_map]; omega), List.getElem_map]
      rw [e]
      exact ih (j + 1) k r (by omega) (by omega) (by simpa using hr)
theorem laws_toArg_eq (b : Bool) (xs : List S35) (s : ByteArray) (hn : xs.length ≤ 1048576) (hx : ∀ x ∈ xs, x.f1.length ≤ 1048576) (k : Nat) (hk : 2097154 < k) : laws_toArg.f k b xs s = some (b, xs.map convS, s) := by
  have h : laws_toSumS.f k xs = some (xs.map convS) := by
    unfold laws_toSumS.f
    rw [if_pos (by omega), if_pos (by omega)]
    have := laws_toSumS_l0 xs (by omega) hx xs.length 0 k (List.replicate xs.length z40) (by omega) (by omega) (by simp)
    simpa using this
  unfold laws_toArg.f; rw [h]; rfl
/-- Sums of the program's own type are small. -/
def smallS (B : Int) (xs : List S40) : Prop := (xs.length : Int) ≤ B ∧ ∀ x ∈ xs, (x.f1.length : Int) ≤ B ∧ ∀ y ∈ x.f1, (y.f1.size : Int) ≤ B

theorem convT_size {B : Int} {xs : List S118} (h : ∀ y ∈ xs, (y.f1.size : Int) ≤ B) : ∀ y ∈ xs.map convT, (y.f1.size : Int) ≤ B := by
  intro y hy
  obtain ⟨z, hz, rfl⟩ := List.mem_map.1 hy
  exact h z hz
theorem conv_small {B : Int} {xs : List S35} (h : smallSums B xs) : smallS B (xs.map convS) := by
  refine ⟨by rw [List.length_map]; exact h.1, fun x hx => ?_⟩
  obtain ⟨z, hz, rfl⟩ := List.mem_map.1 hx
  have := h.2 z hz
  exact ⟨by unfold convS; rw [List.length_map]; exact this.1, convT_size this.2⟩

theorem laws_eqTerm_eq (a : Int) (s : ByteArray) (b : Int) (t : ByteArray) : laws_eqTerm.f a s b t = some (decide (a = b ∧ s = t)) := by
  unfold laws_eqTerm.f
  by_cases h1 : a = b
  · by_cases h2 : s = t
    · rw [if_pos h1, if_pos ((bytes_eq s t).2 h2)]; simp [h1, h2]
    · rw [if_pos h1, if_neg (fun e => h2 ((bytes_eq s t).1 e))]; simp [h2]
  · rw [if_neg h1]; simp [h1]
theorem laws_eqTermS_l0 (a b : List S94) (hab : a.length = b.length) (hn : a.length ≤ 4611686018427387904) : ∀ (d j k : Nat), j + d = a.length → d < k →
    laws_eqTermS.l0 k a b (j : Int) = some (decide (a.drop j = b.drop j)) := by
  intro d
  induction d with
  | zero =>
    intro j k hj hk
    obtain ⟨k, rfl⟩ := succ_of hk
    simp only [laws_eqTermS.l0]
    rw [if_neg (by omega), List.drop_eq_nil_of_le (by omega), List.drop_eq_nil_of_le (by omega)]; simp
  | succ d ih =>
    intro j k hj hk
    obtain ⟨k, rfl⟩ := succ_of hk
    have hlt : j < a.length := by omega
    simp only [laws_eqTermS.l0]
    rw [if_pos (by omega), if_pos (by omega), if_pos (by omega), rd_term _ _ hlt, rd_term _ _ (by omega), laws_eqTerm_eq, Option.bind_some, wrap_succ hlt hn, ih (j + 1) k (by omega) (by omega), List.drop_eq_getElem_cons hlt, List.drop_eq_getElem_cons (hab ▸ hlt : j < b.length)]
    simp only [List.cons.injEq, term_eq_iff, decide_eq_true_eq]
    by_cases h : a[j].f0 = b[j].f0 ∧ a[j].f1 = b[j].f1
    · rw [if_pos h]; simp only [h, true_and, and_self]
    · rw [if_neg h]; simp only [h, false_and, decide_false]
theorem laws_eqTermS_eq (a b : List S94) (hn : a.length ≤ 1048576) (k : Nat) (hk : 1048577 < k) : laws_eqTermS.f k a b = some (decide (a = b)) := by
  unfold laws_eqTermS.f
  by_cases h : a.length = b.length
  · rw [if_pos (by omega)]
    have := laws_eqTermS_l0 a b h (by omega) a.length 0 k (by omega) (by omega)
    simpa using this
  · rw [if_neg (by omega)]; congr 1; symm; rw [decide_eq_false_iff_not]; intro e; exact h (by rw [e])
theorem laws_eqSum_eq (c : Int) (a : List S94) (d : Int) (b : List S94) (hn : a.length ≤ 1048576) (k : Nat) (hk : 1048577 < k) : laws_eqSum.f k c a d b = some (decide (c = d ∧ a = b)) := by
  unfold laws_eqSum.f
  rw [laws_eqTermS_eq a b hn k hk]
  by_cases h : c = d <;> by_cases h2 : a = b <;> simp [h, h2]

theorem laws_eqSumS_l0 (a b : List S40) (hab : a.length = b.length) (hn : a.length ≤ 4611686018427387904) (hx : ∀ x ∈ a, x.f1.length ≤ 1048576) : ∀ (d j k : Nat), j + d = a.length → d + 1048577 < k →
    laws_eqSumS.l0 k a b (j : Int) = some (decide (a.drop j = b.drop j)) := by
  intro d
  induction d with
  | zero =>
    intro j k hj hk
    obtain ⟨k, rfl⟩ := succ_of hk
    simp only [laws_eqSumS.l0]
    rw [if_neg (by omega), List.drop_eq_nil_of_le (by omega), List.drop_eq_nil_of_le (by omega)]; simp
  | succ d ih =>
    intro j k hj hk
    obtain ⟨k, rfl⟩ := succ_of hk
    have hlt : j < a.length := by omega
    have hxj := hx _ (List.getElem_mem hlt)
    simp only [laws_eqSumS.l0]
    rw [if_pos (by omega), if_pos (by omega), if_pos (by omega), rd_sum _ _ hlt, rd_sum _ _ (by omega), laws_eqSum_eq _ _ _ _ (by omega) k (by omega), Option.bind_some, wrap_succ hlt hn, ih (j + 1) k (by omega) (by omega), List.drop_eq_getElem_cons hlt, List.drop_eq_getElem_cons (hab ▸ hlt : j < b.length)]
    simp only [List.cons.injEq, sum_eq_iff, decide_eq_true_eq]
    by_cases h : a[j].f0 = b[j].f0 ∧ a[j].f1 = b[j].f1
    · rw [if_pos h]; simp only [h, true_and, and_self]
    · rw [if_neg h]; simp only [h, false_and, decide_false]
theorem laws_eqArg_eq (b : Bool) (xs : List S40) (s : ByteArray) (b' : Bool) (ys : List S40) (s' : ByteArray) (hn : xs.length ≤ 1048576) (hx : ∀ x ∈ xs, x.f1.length ≤ 1048576) (k : Nat) (hk : 2097154 < k) :
    laws_eqArg.f k b xs s b' ys s' = some (decide (b = b' ∧ xs = ys ∧ s = s')) := by
  have h : laws_eqSumS.f k xs ys = some (decide (xs = ys)) := by
    unfold laws_eqSumS.f
    by_cases h : xs.length = ys.length
    · rw [if_pos (by omega)]
      have := laws_eqSumS_l0 xs ys h (by omega) hx xs.length 0 k (by omega) (by omega)
      simpa using this
    · rw [if_neg (by omega)]; congr 1; symm; rw [decide_eq_false_iff_not]; intro e; exact h (by rw [e])
  unfold laws_eqArg.f
  rw [h, Option.bind_some]
  by_cases h1 : b = b'
  · subst h1
    by_cases h2 : xs = ys
    · by_cases h3 : s = s'
      · simp [h2, h3]
      · have h4 : ¬ s.toList = s'.toList := fun e => h3 ((bytes_eq s s').1 e)
        simp [h2, h3, h4]
    · simp [h2]
  · simp [h1]

theorem spec_l9Same_l0 (c : Int) (a : List S94) (c' : Int) (b : List S94) (hab : a.length = b.length) (hn : a.length ≤ 4611686018427387904) : ∀ (d j k : Nat), j + d = a.length → d < k →
    spec_l9Same.l0 k (j : Int) c a c' b = some (decide (a.drop j = b.drop j)) := by
  intro d
  induction d with
  | zero =>
    intro j k hj hk
    obtain ⟨k, rfl⟩ := succ_of hk
    simp only [spec_l9Same.l0]
    rw [if_neg (by omega), List.drop_eq_nil_of_le (by omega), List.drop_eq_nil_of_le (by omega)]; simp
  | succ d ih =>
    intro j k hj hk
    obtain ⟨k, rfl⟩ := succ_of hk
    have hlt : j < a.length := by omega
    simp only [spec_l9Same.l0]
    rw [if_pos (by omega), if_pos (by omega), if_pos (by omega), rd_term _ _ hlt, rd_term _ _ (by omega), wrap_succ hlt hn, ih (j + 1) k (by omega) (by omega), List.drop_eq_getElem_cons hlt, List.drop_eq_getElem_cons (hab ▸ hlt : j < b.length)]
    simp only [List.cons.injEq, term_eq_iff]
    by_cases h : a[j].f0 = b[j].f0
    · by_cases h2 : a[j].f1 = b[j].f1
      · simp [h, h2]
      · have h4 : ¬ a[j].f1.toList = b[j].f1.toList := fun e => h2 ((bytes_eq _ _).1 e)
        simp [h, h2, h4]
    · simp [h]
theorem spec_l9Same_eq (c : Int) (a : List S94) (c' : Int) (b : List S94) (hn : a.length ≤ 1048576) (k : Nat) (hk : 1048578 < k) : spec_l9Same.f k c a c' b = some (decide (c = c' ∧ a = b)) := by
  unfold spec_l9Same.f
  obtain ⟨k, rfl⟩ := succ_of hk
  simp only [spec_l9Same.j0]
  by_cases h : a.length = b.length
  · have := spec_l9Same_l0 c a c' b h (by omega) a.length 0 k (by omega) (by omega)
    rw [show ((0 : Nat) : Int) = 0 from rfl, List.drop_zero, List.drop_zero] at this
    rw [this]
    by_cases h1 : c = c' <;> simp [h, h1]
  · have h2 : ¬ a = b := fun e => h (by rw [e])
    have h3 : ¬ ((a.length : Int) = (b.length : Int)) := by omega
    by_cases h1 : c = c' <;> simp [h1, h2, h3]

theorem spec_EqualArg_l0 (b : Bool) (xs : List S40) (s : ByteArray) (b' : Bool) (ys : List S40) (s' : ByteArray) (hab : xs.length = ys.length) (hn : xs.length ≤ 4611686018427387904) (hx : ∀ x ∈ xs, x.f1.length ≤ 1048576) : ∀ (d j k : Nat), j + d = xs.length → d + 1048578 < k →
    spec_EqualArg.l0 k (j : Int) b xs s b' ys s' = some (decide (xs.drop j = ys.drop j)) := by
  intro d
  induction d with
  | zero =>
    intro j k hj hk
    obtain ⟨k, rfl⟩ := succ_of hk
    simp only [spec_EqualArg.l0]
    rw [if_neg (by omega), List.drop_eq_nil_of_le (by omega), List.drop_eq_nil_of_le (by omega)]; simp
  | succ d ih =>
    intro j k hj hk
    obtain ⟨k, rfl⟩ := succ_of hk
    have hlt : j < xs.length := by omega
    have hxj := hx _ (List.getElem_mem hlt)
    simp only [spec_EqualArg.l0]
    rw [if_pos (by omega), if_pos (by omega), if_pos (by omega), rd_sum _ _ hlt, rd_sum _ _ (by omega), spec_l9Same_eq _ _ _ _ (by omega) k (by omega), Option.bind_some, wrap_succ hlt hn, ih (j + 1) k (by omega) (by omega), List.drop_eq_getElem_cons hlt, List.drop_eq_getElem_cons (hab ▸ hlt : j < ys.length)]
    simp only [List.cons.injEq, sum_eq_iff, decide_eq_true_eq]
    by_cases h : xs[j].f0 = ys[j].f0 ∧ xs[j].f1 = ys[j].f1
    · rw [if_pos h]; simp only [h, true_and, and_self]
    · rw [if_neg h]; simp only [h, false_and, decide_false]
theorem spec_EqualArg_eq (b : Bool) (xs : List S40) (s : ByteArray) (b' : Bool) (ys : List S40) (s' : ByteArray) (hn : xs.length ≤ 1048576) (hx : ∀ x ∈ xs, x.f1.length ≤ 1048576) (k : Nat) (hk : 2097156 < k) :
    spec_EqualArg.f k b xs s b' ys s' = some (decide (b = b' ∧ xs = ys ∧ s = s')) := by
  unfold spec_EqualArg.f
  obtain ⟨k, rfl⟩ := succ_of hk
  simp only [spec_EqualArg.j0]
  by_cases h1 : b = b'
  · subst h1
    by_cases h3 : s = s'
    · subst h3
      by_cases h : xs.length = ys.length
      · have := spec_EqualArg_l0 b xs s b ys s h (by omega) hx xs.length 0 k (by omega) (by omega)
        rw [show ((0 : Nat) : Int) = 0 from rfl, List.drop_zero, List.drop_zero] at this
        rw [this]
        simp [h]
      · have h2 : ¬ xs = ys := fun e => h (by rw [e])
        have h5 : ¬ ((xs.length : Int) = (ys.length : Int)) := by omega
        simp [h2, h5]
    · have h4 : ¬ s.toList = s'.toList := fun e => h3 ((bytes_eq s s').1 e)
      simp [h3, h4]
  · simp [h1]

theorem impl_Term_l0 (a b : List S94) (hab : a.length = b.length) (hn : a.length ≤ 4611686018427387904) : ∀ (d j k : Nat), j + d = a.length → d < k →
    impl_Term.l0 k a b (a.length : Int) (j : Int) = some (decide (a.drop j = b.drop j)) := by
  intro d
  induction d with
  | zero =>
    intro j k hj hk
    obtain ⟨k, rfl⟩ := succ_of hk
    simp only [impl_Term.l0]
    rw [if_neg (by omega), List.drop_eq_nil_of_le (by omega), List.drop_eq_nil_of_le (by omega)]; simp
  | succ d ih =>
    intro j k hj hk
    obtain ⟨k, rfl⟩ := succ_of hk
    have hlt : j < a.length := by omega
    simp only [impl_Term.l0]
    rw [if_pos (by omega), if_pos (by omega), if_pos (by omega), if_pos (by omega), rd_term _ _ hlt, rd_term _ _ (by omega), wrap_succ hlt hn, ih (j + 1) k (by omega) (by omega), List.drop_eq_getElem_cons hlt, List.drop_eq_getElem_cons (hab ▸ hlt : j < b.length)]
    simp only [List.cons.injEq, term_eq_iff]
    by_cases h : a[j].f0 = b[j].f0
    · by_cases h2 : a[j].f1 = b[j].f1
      · simp [h, h2]
      · have h4 : ¬ a[j].f1.toList = b[j].f1.toList := fun e => h2 ((bytes_eq _ _).1 e)
        simp [h, h2, h4]
    · simp [h]
theorem impl_equalSum_eq (c : Int) (a : List S94) (c' : Int) (b : List S94) (hn : a.length ≤ 1048576) (k : Nat) (hk : 1048578 < k) : impl_equalSum.f k c a c' b = some (decide (c = c' ∧ a = b)) := by
  have ht : impl_Term.f k a b = some (decide (a = b)) := by
    unfold impl_Term.f
    by_cases h : a.length = b.length
    · rw [if_pos (by omega)]
      have := impl_Term_l0 a b h (by omega) a.length 0 k (by omega) (by omega)
      simpa using this
    · rw [if_neg (by omega)]; congr 1; symm; rw [decide_eq_false_iff_not]; intro e; exact h (by rw [e])
  unfold impl_equalSum.f
  rw [ht]
  by_cases h1 : c = c' <;> simp [h1]

theorem impl_EqualArg_l0 (xs ys : List S40) (hab : xs.length = ys.length) (hn : xs.length ≤ 4611686018427387904) (hx : ∀ x ∈ xs, x.f1.length ≤ 1048576) : ∀ (d j k : Nat), j + d = xs.length → d + 1048578 < k →
    slices_EqualFunc_impl_Sum_impl_Sum_impl_Sum_impl_Sum__equalSum.l0 k ys xs (xs.length : Int) (j : Int) = some (decide (xs.drop j = ys.drop j)) := by
  intro d
  induction d with
  | zero =>
    intro j k hj hk
    obtain ⟨k, rfl⟩ := succ_of hk
    simp only [slices_EqualFunc_impl_Sum_impl_Sum_impl_Sum_impl_Sum__equalSum.l0]
    rw [if_neg (by omega), List.drop_eq_nil_of_le (by omega), List.drop_eq_nil_of_le (by omega)]; simp
  | succ d ih =>
    intro j k hj hk
    obtain ⟨k, rfl⟩ := succ_of hk
    have hlt : j < xs.length := by omega
    have hxj := hx _ (List.getElem_mem hlt)
    simp only [slices_EqualFunc_impl_Sum_impl_Sum_impl_Sum_impl_Sum__equalSum.l0]
    rw [if_pos (by omega), if_pos (by omega), if_pos (by omega), if_pos (by omega), rd_sum _ _ hlt, rd_sum _ _ (by omega), impl_equalSum_eq _ _ _ _ (by omega) k (by omega), Option.bind_some, wrap_succ hlt hn, ih (j + 1) k (by omega) (by omega), List.drop_eq_getElem_cons hlt, List.drop_eq_getElem_cons (hab ▸ hlt : j < ys.length)]
    simp only [List.cons.injEq, sum_eq_iff, decide_eq_true_eq]
    by_cases h : xs[j].f0 = ys[j].f0 ∧ xs[j].f1 = ys[j].f1
    · rw [if_pos h]; simp only [h, true_and, and_self]
    · rw [if_neg h]; simp only [h, false_and, decide_false]
theorem impl_EqualArg_eq (b : Bool) (xs : List S40) (s : ByteArray) (b' : Bool) (ys : List S40) (s' : ByteArray) (hn : xs.length ≤ 1048576) (hx : ∀ x ∈ xs, x.f1.length ≤ 1048576) (k : Nat) (hk : 2097156 < k) :
    impl_EqualArg.f k b xs s b' ys s' = some (decide (b = b' ∧ xs = ys ∧ s = s')) := by
  have ht : slices_EqualFunc_impl_Sum_impl_Sum_impl_Sum_impl_Sum__equalSum.f k xs ys () = some (decide (xs = ys)) := by
    unfold slices_EqualFunc_impl_Sum_impl_Sum_impl_Sum_impl_Sum__equalSum.f
    by_cases h : xs.length = ys.length
    · rw [if_pos (by omega)]
      have := impl_EqualArg_l0 xs ys h (by omega) hx xs.length 0 k (by omega) (by omega)
      simpa using this
    · rw [if_neg (by omega)]; congr 1; symm; rw [decide_eq_false_iff_not]; intro e; exact h (by rw [e])
  unfold impl_EqualArg.f
  rw [ht, Option.bind_some]
  by_cases h1 : b = b'
  · subst h1
    by_cases h3 : s = s'
    · subst h3; simp
    · have h4 : ¬ s.toList = s'.toList := fun e => h3 ((bytes_eq s s').1 e)
      simp [h3, h4]
  · simp [h1]

theorem FnExactEqualArg : laws_FnExactEqualArg.Pure := by
  intro b xs s b' ys s' hx hs hy hs'
  have px : ∀ x ∈ xs, x.f1.length ≤ 9223372036854775807 ∧ ∀ y ∈ x.f1, y.f1.size ≤ 9223372036854775807 := fun x h => ⟨(hx.2 x h).2.1, fun y hy => ((hx.2 x h).2.2 y hy).2⟩
  have py : ∀ x ∈ ys, x.f1.length ≤ 9223372036854775807 ∧ ∀ y ∈ x.f1, y.f1.size ≤ 9223372036854775807 := fun x h => ⟨(hy.2 x h).2.1, fun y hy' => ((hy.2 x h).2.2 y hy').2⟩
  refine ⟨3000000, ?_⟩
  unfold laws_FnExactEqualArg.f
  rw [laws_szArg_eq b xs s _ hx.1 px hs (by omega) (by omega) _ (by omega), Option.bind_some]
  split
  · rfl
  obtain ⟨a1, a2, a3⟩ := szArgV_len (xs := xs) (s := s) (l := 1048576) (by omega)
  rw [laws_szArg_eq b' ys s' _ hy.1 py hs' (by omega) (by omega) _ (by omega), Option.bind_some]
  split
  · rfl
  obtain ⟨b1, b2, _⟩ := szArgV_len (xs := ys) (s := s') (l := szArgV xs s 1048576) (by omega)
  have a4 : ∀ x ∈ xs, x.f1.length ≤ 1048576 := fun x h => by have := (a1.2 x h).1; omega
  have b4 : ∀ x ∈ ys, x.f1.length ≤ 1048576 := fun x h => by have := (b1.2 x h).1; omega
  have a5 := a1.1
  have b5 := b1.1
  have c1 := conv_small a1
  have d1 := conv_small b1
  have c4 : ∀ x ∈ xs.map convS, x.f1.length ≤ 1048576 := fun x h => by have := (c1.2 x h).1; omega
  have d4 : ∀ x ∈ ys.map convS, x.f1.length ≤ 1048576 := fun x h => by have := (d1.2 x h).1; omega
  have c5 := c1.1
  have d5 := d1.1
  rw [laws_toArg_eq b xs s (by omega) a4 _ (by omega), laws_toArg_eq b' ys s' (by omega) b4 _ (by omega)]; simp only [Option.bind_some]
  rw [spec_EqualArg_eq b _ s b' _ s' (by omega) c4 _ (by omega), impl_EqualArg_eq b _ s b' _ s' (by omega) c4 _ (by omega)]; simp only [Option.bind_some, bne_self_eq_false, Bool.false_eq_true, if_false]
  rw [laws_eqArg_eq b _ s b _ s (by omega) c4 _ (by omega), laws_eqArg_eq b' _ s' b' _ s' (by omega) d4 _ (by omega)]
  simp

end Go.Proofs.Ytkfllkmhbkmepaa.Pure
