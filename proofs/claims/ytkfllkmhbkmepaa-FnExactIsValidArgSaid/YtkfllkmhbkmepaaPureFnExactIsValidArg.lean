/- The program's IsValidArg returns what the reference's returns, for all arguments, and leaves them as they were. -/
import Derived.Test.YtkfllkmhbkmepaaQFnExactIsValidArgx8
namespace Go.Proofs.Ytkfllkmhbkmepaa.Pure
open Go.RowKit Go.Proofs.YtkfllkmhbkmepaaV.PrintWords Go.Proofs.YtkfllkmhbkmepaaV.PrintLast Go.Proofs.YtkfllkmhbkmepaaV.PrintMore Go.Proofs.Ytkfllkmhbkmepaa.QFnExactIsValidArg
set_option linter.unusedVariables false
set_option linter.unusedSimpArgs false

theorem rd_lterm (xs : List S118) (j : Nat) (h : j < xs.length) : rd_T118 xs (j : Int) = xs[j] := by
  unfold rd_T118; rw [Int.toNat_natCast, List.getD_eq_getElem?_getD, List.getElem?_eq_getElem h]; rfl

theorem wrap_id {n : Int} (h0 : -9223372036854775808 ≤ n) (h1 : n ≤ 9223372036854775807) : wrap64 n = n := by
  unfold wrap64; omega
theorem wrap_succ {j n : Nat} (h : j < n) (hn : n ≤ 4611686018427387904) : wrap64 ((j : Int) + 1) = ((j + 1 : Nat) : Int) := by
  unfold wrap64; omega
theorem succ_of {d k : Nat} (h : d < k) : ∃ m, k = m + 1 := ⟨k - 1, by omega⟩
theorem lit_int {n : Int} (h : (Lit.int .i64 n).wf = true) : -9223372036854775808 ≤ n ∧ n ≤ 9223372036854775807 := by
  simpa [Lit.wf, IntKind.min, IntKind.max, IntKind.signed, IntKind.bits] using h

def szTs : List S118 → Int → Int
  | [], l => l
  | x :: xs, l => if l - (x.f1.size : Int) < 0 then -1 else szTs xs (l - (x.f1.size : Int))
def szTerms (xs : List S118) (l : Int) : Int := if l - (xs.length : Int) < 0 then -1 else szTs xs (l - (xs.length : Int))
theorem szTs_le : ∀ (xs : List S118) (l : Int), 0 ≤ l → szTs xs l ≤ l ∧ -1 ≤ szTs xs l := by
  intro xs
  induction xs with
  | nil => intro l h; simp only [szTs]; omega
  | cons x xs ih =>
    intro l h
    simp only [szTs]
    split
    · omega
    · have := ih (l - (x.f1.size : Int)) (by omega); omega
theorem szTs_mem : ∀ (xs : List S118) (l : Int), 0 ≤ szTs xs l → ∀ x ∈ xs, (x.f1.size : Int) ≤ l := by
  intro xs
  induction xs with
  | nil => intro l _ x hx; simp at hx
  | cons y xs ih =>
    intro l h x hx
    simp only [szTs] at h
    split at h
    · omega
    · rcases List.mem_cons.1 hx with rfl | hx
      · omega
      · have := ih _ h x hx; omega
theorem szTerms_le (xs : List S118) (l : Int) (h : 0 ≤ l) : szTerms xs l ≤ l ∧ -1 ≤ szTerms xs l := by
  unfold szTerms
  split
  · omega
  · have := szTs_le xs (l - (xs.length : Int)) (by omega); omega
theorem szTerms_len {xs : List S118} {l : Int} (h : 0 ≤ szTerms xs l) : (xs.length : Int) ≤ l ∧ (∀ x ∈ xs, (x.f1.size : Int) ≤ l) ∧ szTerms xs l ≤ l := by
  unfold szTerms at h ⊢
  split at h
  · omega
  · rename_i h0
    have h1 := (szTs_le xs (l - (xs.length : Int)) (by omega)).1
    refine ⟨by omega, fun x hx => ?_, ?_⟩
    · have := szTs_mem xs _ h x hx; omega
    · rw [if_neg h0]; omega
theorem laws_szTermS_l0 (xs : List S118) (hn : xs.length ≤ 4611686018427387904) (hx : ∀ x ∈ xs, x.f1.size ≤ 9223372036854775807) : ∀ (d j k : Nat) (l : Int), j + d = xs.length → d < k → 0 ≤ l → l ≤ 1048576 →
    laws_szTermS.l0 k xs l (j : Int) = some (szTs (xs.drop j) l) := by
  intro d
  induction d with
  | zero =>
    intro j k l hj hk h0 h1
    obtain ⟨k, rfl⟩ := succ_of hk
    simp only [laws_szTermS.l0]
    rw [if_neg (by omega), List.drop_eq_nil_of_le (by omega)]; rfl
  | succ d ih =>
    intro j k l hj hk h0 h1
    obtain ⟨k, rfl⟩ := succ_of hk
    have hlt : j < xs.length := by omega
    have hxj := hx _ (List.getElem_mem hlt)
    simp only [laws_szTermS.l0, laws_szTerm.f]
    rw [if_pos (by omega), if_pos (by omega), rd_lterm _ _ hlt, wrap_id (n := l - (xs[j].f1.size : Int)) (by omega) (by omega), wrap_succ hlt hn, List.drop_eq_getElem_cons hlt]
    simp only [szTs]
    by_cases h : l - (xs[j].f1.size : Int) < 0
    · rw [if_pos h, if_pos h, Option.bind_some, if_pos (by omega)]
    · rw [if_neg h, if_neg h, Option.bind_some, if_neg h, ih (j + 1) k _ (by omega) (by omega) (by omega) (by omega)]
theorem laws_szTermS_eq (xs : List S118) (l : Int) (hn : xs.length ≤ 9223372036854775807) (hx : ∀ x ∈ xs, x.f1.size ≤ 9223372036854775807) (h0 : 0 ≤ l) (h1 : l ≤ 1048576) (k : Nat) (hk : 1048577 < k) :
    laws_szTermS.f k xs l = some (szTerms xs l) := by
  unfold laws_szTermS.f szTerms
  rw [wrap_id (by omega) (by omega)]
  split
  · rfl
  · have := laws_szTermS_l0 xs (by omega) hx xs.length 0 k (l - (xs.length : Int)) (by omega) (by omega) (by omega) (by omega)
    simpa using this

theorem laws_szSum_eq (c : Int) (xs : List S118) (l : Int) (hn : xs.length ≤ 9223372036854775807) (hx : ∀ x ∈ xs, x.f1.size ≤ 9223372036854775807) (h0 : 0 ≤ l) (h1 : l ≤ 1048576) (k : Nat) (hk : 1048577 < k) :
    laws_szSum.f k c xs l = some (szTerms xs l) := by
  unfold laws_szSum.f; rw [laws_szTermS_eq xs l hn hx h0 h1 k hk, Option.bind_some]
  have := szTerms_le xs l h0
  split
  · congr 1; omega
  · rfl

theorem rd_lsum (xs : List S35) (j : Nat) (h : j < xs.length) : rd_T35 xs (j : Int) = xs[j] := by
  unfold rd_T35; rw [Int.toNat_natCast, List.getD_eq_getElem?_getD, List.getElem?_eq_getElem h]; rfl

def szSs : List S35 → Int → Int
  | [], l => l
  | x :: xs, l => if szTerms x.f1 l < 0 then -1 else szSs xs (szTerms x.f1 l)
def szSums (xs : List S35) (l : Int) : Int := if l - (xs.length : Int) < 0 then -1 else szSs xs (l - (xs.length : Int))
/-- What the sizes of sums leave is small. -/
def smallSums (B : Int) (xs : List S35) : Prop := (xs.length : Int) ≤ B ∧ ∀ x ∈ xs, (x.f1.length : Int) ≤ B ∧ ∀ y ∈ x.f1, (y.f1.size : Int) ≤ B
theorem szSs_le : ∀ (xs : List S35) (l : Int), 0 ≤ l → szSs xs l ≤ l ∧ -1 ≤ szSs xs l := by
  intro xs
  induction xs with
  | nil => intro l h; simp only [szSs]; omega
  | cons x xs ih =>
    intro l h
    simp only [szSs]
    split
    · omega
    · have h1 := szTerms_le x.f1 l h
      have := ih (szTerms x.f1 l) (by omega); omega
theorem szSs_mem : ∀ (xs : List S35) (l : Int), 0 ≤ l → 0 ≤ szSs xs l → ∀ x ∈ xs, (x.f1.length : Int) ≤ l ∧ ∀ y ∈ x.f1, (y.f1.size : Int) ≤ l := by
  intro xs
  induction xs with
  | nil => intro l _ _ x hx; simp at hx
  | cons y xs ih =>
    intro l h0 h x hx
    simp only [szSs] at h
    split at h
    · omega
    · have h1 := szTerms_len (xs := y.f1) (l := l) (by omega)
      rcases List.mem_cons.1 hx with rfl | hx
      · exact ⟨h1.1, h1.2.1⟩
      · have h2 := ih _ (by omega) h x hx
        exact ⟨by omega, fun z hz => by have := h2.2 z hz; omega⟩
theorem szSums_len {xs : List S35} {l : Int} (h : 0 ≤ szSums xs l) : smallSums l xs ∧ szSums xs l ≤ l := by
  unfold szSums at h ⊢
  split at h
  · omega
  · rename_i h0
    have h1 := (szSs_le xs (l - (xs.length : Int)) (by omega)).1
    refine ⟨⟨by omega, fun x hx => ?_⟩, ?_⟩
    · have h2 := szSs_mem xs _ (by omega) h x hx
      exact ⟨by omega, fun z hz => by have := h2.2 z hz; omega⟩
    · rw [if_neg h0]; omega
theorem laws_szSumS_l0 (xs : List S35) (hn : xs.length ≤ 4611686018427387904) (hx : ∀ x ∈ xs, x.f1.length ≤ 9223372036854775807 ∧ ∀ y ∈ x.f1, y.f1.size ≤ 9223372036854775807) : ∀ (d j k : Nat) (l : Int), j + d = xs.length → d + 1048577 < k → 0 ≤ l → l ≤ 1048576 →
    laws_szSumS.l0 k xs l (j : Int) = some (szSs (xs.drop j) l) := by
  intro d
  induction d with
  | zero =>
    intro j k l hj hk h0 h1
    obtain ⟨k, rfl⟩ := succ_of hk
    simp only [laws_szSumS.l0]
    rw [if_neg (by omega), List.drop_eq_nil_of_le (by omega)]; rfl
  | succ d ih =>
    intro j k l hj hk h0 h1
    obtain ⟨k, rfl⟩ := succ_of hk
    have hlt : j < xs.length := by omega
    have hxj := hx _ (List.getElem_mem hlt)
    simp only [laws_szSumS.l0]
    rw [if_pos (by omega), if_pos (by omega), rd_lsum _ _ hlt, laws_szSum_eq _ _ _ hxj.1 hxj.2 h0 h1 k (by omega), Option.bind_some, wrap_succ hlt hn, List.drop_eq_getElem_cons hlt]
    simp only [szSs]
    have h2 := szTerms_le xs[j].f1 l h0
    by_cases h : szTerms xs[j].f1 l < 0
    · rw [if_pos h, if_pos h]
    · rw [if_neg h, if_neg h, ih (j + 1) k _ (by omega) (by omega) (by omega) (by omega)]
theorem laws_szSumS_eq (xs : List S35) (l : Int) (hn : xs.length ≤ 9223372036854775807) (hx : ∀ x ∈ xs, x.f1.length ≤ 9223372036854775807 ∧ ∀ y ∈ x.f1, y.f1.size ≤ 9223372036854775807) (h0 : 0 ≤ l) (h1 : l ≤ 1048576) (k : Nat) (hk : 2097154 < k) :
    laws_szSumS.f k xs l = some (szSums xs l) := by
  unfold laws_szSumS.f szSums
  rw [wrap_id (by omega) (by omega)]
  split
  · rfl
  · have := laws_szSumS_l0 xs (by omega) hx xs.length 0 k (l - (xs.length : Int)) (by omega) (by omega) (by omega) (by omega)
    simpa using this

def szArgV (xs : List S35) (s : ByteArray) (l : Int) : Int := if szSums xs l < 0 then -1 else if szSums xs l - (s.size : Int) < 0 then -1 else szSums xs l - (s.size : Int)
theorem laws_szArg_eq (b : Bool) (xs : List S35) (s : ByteArray) (l : Int) (hn : xs.length ≤ 9223372036854775807) (hx : ∀ x ∈ xs, x.f1.length ≤ 9223372036854775807 ∧ ∀ y ∈ x.f1, y.f1.size ≤ 9223372036854775807) (hs : s.size ≤ 9223372036854775807) (h0 : 0 ≤ l) (h1 : l ≤ 1048576) (k : Nat) (hk : 2097154 < k) :
    laws_szArg.f k b xs s l = some (szArgV xs s l) := by
  unfold laws_szArg.f szArgV; rw [laws_szSumS_eq xs l hn hx h0 h1 k hk, Option.bind_some]
  split
  · rfl
  · rename_i h2
    have h3 := szSums_len (xs := xs) (l := l) (by omega)
    rw [wrap_id (by omega) (by omega)]
    split <;> rfl
theorem szArgV_len {xs : List S35} {s : ByteArray} {l : Int} (h : 0 ≤ szArgV xs s l) : smallSums l xs ∧ (s.size : Int) ≤ l ∧ szArgV xs s l ≤ l := by
  unfold szArgV at h ⊢
  split at h
  · omega
  · rename_i h2
    have h3 := szSums_len (xs := xs) (l := l) (by omega)
    split at h
    · omega
    · rename_i h4
      rw [if_neg h2, if_neg h4]
      exact ⟨h3.1, by omega, by omega⟩

instance bytesDec : DecidableEq ByteArray := fun a b => decidable_of_iff (a.data = b.data) ⟨fun h => by cases a; cases b; exact congrArg ByteArray.mk h, fun h => by rw [h]⟩
theorem bytes_eq (a b : ByteArray) : a.toList = b.toList ↔ a = b := by
  rw [ByteArray.toList_eq, ByteArray.toList_eq]
  constructor
  · intro h; cases a; cases b; simp only [ByteArray.mk.injEq] at *; exact Array.toList_inj.mp h
  · intro h; rw [h]
theorem bytes_lit (s : ByteArray) (a : Array UInt8) : s.toList = a.toList ↔ s = ⟨a⟩ := by
  rw [ByteArray.toList_eq]
  constructor
  · intro h; cases s; simp only [ByteArray.mk.injEq] at *; exact Array.toList_inj.mp h
  · intro h; rw [h]

instance termDec : DecidableEq S94 := fun a b => decidable_of_iff (a.f0 = b.f0 ∧ a.f1 = b.f1) ⟨fun h => by cases a; cases b; simp only at h; rw [h.1, h.2], fun h => by rw [h]; exact ⟨rfl, rfl⟩⟩
theorem term_eq_iff (a b : S94) : a = b ↔ a.f0 = b.f0 ∧ a.f1 = b.f1 := ⟨fun h => by rw [h]; exact ⟨rfl, rfl⟩, fun h => by cases a; cases b; simp only at h; rw [h.1, h.2]⟩
theorem rd_term (xs : List S94) (j : Nat) (h : j < xs.length) : rd_T94 xs (j : Int) = xs[j] := by
  unfold rd_T94; rw [Int.toNat_natCast, List.getD_eq_getElem?_getD, List.getElem?_eq_getElem h]; rfl

def convT (x : S118) : S94 := ⟨x.f0, x.f1⟩
theorem laws_toTermS_l0 (xs : List S118) (hn : xs.length ≤ 4611686018427387904) : ∀ (d j k : Nat) (r : List S94), j + d = xs.length → d < k → r.length = d →
    laws_toTermS.l0 k xs ((xs.map convT).take j ++ r) (j : Int) = some (xs.map convT) := by
  intro d
  induction d with
  | zero =>
    intro j k r hj hk hr
    obtain ⟨k, rfl⟩ := succ_of hk
    have : r = [] := List.length_eq_zero_iff.1 hr
    subst this
    simp only [laws_toTermS.l0]
    rw [if_neg (by omega), List.append_nil, List.take_of_length_le (by rw [List.length_map]; omega)]
  | succ d ih =>
    intro j k r hj hk hr
    obtain ⟨k, rfl⟩ := succ_of hk
    have hlt : j < xs.length := by omega
    cases r with
    | nil => simp at hr
    | cons y r =>
      simp only [laws_toTermS.l0, laws_toTerm.f]
      have hl : ((xs.map convT).take j).length = j := by rw [List.length_take, List.length_map]; omega
      rw [if_pos (by omega), if_pos (by omega), rd_lterm _ _ hlt, Option.bind_some, if_pos (by simp only [List.length_append, List.length_cons, hl] at *; omega), wrap_succ hlt hn, Int.toNat_natCast]
      have e : ((xs.map convT).take j ++ y :: r).set j (⟨xs[j].f0, xs[j].f1⟩ : S94) = (xs.map convT).take (j + 1) ++ r := by
        have h1 : ((xs.map convT).take j ++ y :: r).set ((xs.map convT).take j).length (convT xs[j]) = ((xs.map convT).take j ++ [convT xs[j]]) ++ r := by simp
        rw [hl] at h1
        rw [show (⟨xs[j].f0, xs[j].f1⟩ : S94) = convT xs[j] from rfl, h1, List.take_succ_eq_append_getElem (by rw [List.length_map]; omega), List.getElem_map]
      rw [e]
      exact ih (j + 1) k r (by omega) (by omega) (by simpa using hr)
theorem laws_toTermS_eq (xs : List S118) (hn : xs.length ≤ 1048576) (k : Nat) (hk : xs.length < k) : laws_toTermS.f k xs = some (xs.map convT) := by
  unfold laws_toTermS.f
  rw [if_pos (by omega), if_pos (by omega)]
  have := laws_toTermS_l0 xs (by omega) xs.length 0 k (List.replicate xs.length z94) (by omega) (by omega) (by simp)
  simpa using this
theorem laws_toSum_eq (c : Int) (xs : List S118) (hn : xs.length ≤ 1048576) (k : Nat) (hk : xs.length < k) : laws_toSum.f k c xs = some (c, xs.map convT) := by
  unfold laws_toSum.f; rw [laws_toTermS_eq xs hn k hk]; rfl

instance sumDec : DecidableEq S40 := fun a b => decidable_of_iff (a.f0 = b.f0 ∧ a.f1 = b.f1) ⟨fun h => by cases a; cases b; simp only at h; rw [h.1, h.2], fun h => by rw [h]; exact ⟨rfl, rfl⟩⟩
theorem sum_eq_iff (a b : S40) : a = b ↔ a.f0 = b.f0 ∧ a.f1 = b.f1 := ⟨fun h => by rw [h]; exact ⟨rfl, rfl⟩, fun h => by cases a; cases b; simp only at h; rw [h.1, h.2]⟩
theorem rd_sum (xs : List S40) (j : Nat) (h : j < xs.length) : rd_T40 xs (j : Int) = xs[j] := by
  unfold rd_T40; rw [Int.toNat_natCast, List.getD_eq_getElem?_getD, List.getElem?_eq_getElem h]; rfl

def convS (x : S35) : S40 := ⟨x.f0, x.f1.map convT⟩
theorem laws_toSumS_l0 (xs : List S35) (hn : xs.length ≤ 4611686018427387904) (hx : ∀ x ∈ xs, x.f1.length ≤ 1048576) : ∀ (d j k : Nat) (r : List S40), j + d = xs.length → d + 1048577 < k → r.length = d →
    laws_toSumS.l0 k xs ((xs.map convS).take j ++ r) (j : Int) = some (xs.map convS) := by
  intro d
  induction d with
  | zero =>
    intro j k r hj hk hr
    obtain ⟨k, rfl⟩ := succ_of hk
    have : r = [] := List.length_eq_zero_iff.1 hr
    subst this
    simp only [laws_toSumS.l0]
    rw [if_neg (by omega), List.append_nil, List.take_of_length_le (by rw [List.length_map]; omega)]
  | succ d ih =>
    intro j k r hj hk hr
    obtain ⟨k, rfl⟩ := succ_of hk
    have hlt : j < xs.length := by omega
    cases r with
    | nil => simp at hr
    | cons y r =>
      simp only [laws_toSumS.l0]
      have hl : ((xs.map convS).take j).length = j := by rw [List.length_take, List.length_map]; omega
      have hxj := hx _ (List.getElem_mem hlt)
      rw [if_pos (by omega), if_pos (by omega), rd_lsum _ _ hlt, laws_toSum_eq _ _ (by omega) k (by omega), Option.bind_some, if_pos (by simp only [List.length_append, List.length_cons, hl] at *; omega), wrap_succ hlt hn, Int.toNat_natCast]
      have e : ((xs.map convS).take j ++ y :: r).set j (⟨xs[j].f0, xs[j].f1.map convT⟩ : S40) = (xs.map convS).take (j + 1) ++ r := by
        have h1 : ((xs.map convS).take j ++ y :: r).set ((xs.map convS).take j).length (convS xs[j]) = ((xs.map convS).take j ++ [convS xs[j]]) ++ r := by simp
        rw [hl] at h1
        rw [show (⟨xs[j].f0, xs[j].f1.map convT⟩ : S40) = convS xs[j] from rfl, h1, List.take_succ_eq_append_getElem (by rw [List.length_map]; omega), List.getElem_map]
      rw [e]
      exact ih (j + 1) k r (by omega) (by omega) (by simpa using hr)
theorem laws_toArg_eq (b : Bool) (xs : List S35) (s : ByteArray) (hn : xs.length ≤ 1048576) (hx : ∀ x ∈ xs, x.f1.length ≤ 1048576) (k : Nat) (hk : 2097154 < k) : laws_toArg.f k b xs s = some (b, xs.map convS, s) := by
  have h : laws_toSumS.f k xs = some (xs.map convS) := by
    unfold laws_toSumS.f
    rw [if_pos (by omega), if_pos (by omega)]
    have := laws_toSumS_l0 xs (by omega) hx xs.length 0 k (List.replicate xs.length z40) (by omega) (by omega) (by simp)
    simpa using this
  unfold laws_toArg.f; rw [h]; rfl
/-- Sums of the program's own type are small. -/
def smallS (B : Int) (xs : List S40) : Prop := (xs.length : Int) ≤ B ∧ ∀ x ∈ xs, (x.f1.length : Int) ≤ B ∧ ∀ y ∈ x.f1, (y.f1.size : Int) ≤ B

theorem convT_size {B : Int} {xs : List S118} (h : ∀ y ∈ xs, (y.f1.size : Int) ≤ B) : ∀ y ∈ xs.map convT, (y.f1.size : Int) ≤ B := by
  intro y hy
  obtain ⟨z, hz, rfl⟩ := List.mem_map.1 hy
  exact h z hz

theorem conv_small {B : Int} {xs : List S35} (h : smallSums B xs) : smallS B (xs.map convS) := by
  refine ⟨by rw [List.length_map]; exact h.1, fun x hx => ?_⟩
  obtain ⟨z, hz, rfl⟩ := List.mem_map.1 hx
  have := h.2 z hz
  exact ⟨by unfold convS; rw [List.length_map]; exact this.1, convT_size this.2⟩

theorem laws_eqTerm_eq (a : Int) (s : ByteArray) (b : Int) (t : ByteArray) : laws_eqTerm.f a s b t = some (decide (a = b ∧ s = t)) := by
  unfold laws_eqTerm.f
  by_cases h1 : a = b
  · by_cases h2 : s = t
    · rw [if_pos h1, if_pos ((bytes_eq s t).2 h2)]; simp [h1, h2]
    · rw [if_pos h1, if_neg (fun e => h2 ((bytes_eq s t).1 e))]; simp [h2]
  · rw [if_neg h1]; simp [h1]
theorem laws_eqTermS_l0 (a b : List S94) (hab : a.length = b.length) (hn : a.length ≤ 4611686018427387904) : ∀ (d j k : Nat), j + d = a.length → d < k →
    laws_eqTermS.l0 k a b (j : Int) = some (decide (a.drop j = b.drop j)) := by
  intro d
  induction d with
  | zero =>
    intro j k hj hk
    obtain ⟨k, rfl⟩ := succ_of hk
    simp only [laws_eqTermS.l0]
    rw [if_neg (by omega), List.drop_eq_nil_of_le (by omega), List.drop_eq_nil_of_le (by omega)]; simp
  | succ d ih =>
    intro j k hj hk
    obtain ⟨k, rfl⟩ := succ_of hk
    have hlt : j < a.length := by omega
    simp only [laws_eqTermS.l0]
    rw [if_pos (by omega), if_pos (by omega), if_pos (by omega), rd_term _ _ hlt, rd_term _ _ (by omega), laws_eqTerm_eq, Option.bind_some, wrap_succ hlt hn, ih (j + 1) k (by omega) (by omega), List.drop_eq_getElem_cons hlt, List.drop_eq_getElem_cons (hab ▸ hlt : j < b.length)]
    simp only [List.cons.injEq, term_eq_iff, decide_eq_true_eq]
    by_cases h : a[j].f0 = b[j].f0 ∧ a[j].f1 = b[j].f1
    · rw [if_pos h]; simp only [h, true_and, and_self]
    · rw [if_neg h]; simp only [h, false_and, decide_false]
theorem laws_eqTermS_eq (a b : List S94) (hn : a.length ≤ 1048576) (k : Nat) (hk : 1048577 < k) : laws_eqTermS.f k a b = some (decide (a = b)) := by
  unfold laws_eqTermS.f
  by_cases h : a.length = b.length
  · rw [if_pos (by omega)]
    have := laws_eqTermS_l0 a b h (by omega) a.length 0 k (by omega) (by omega)
    simpa using this
  · rw [if_neg (by omega)]; congr 1; symm; rw [decide_eq_false_iff_not]; intro e; exact h (by rw [e])
theorem laws_eqSum_eq (c : Int) (a : List S94) (d : Int) (b : List S94) (hn : a.length ≤ 1048576) (k : Nat) (hk : 1048577 < k) : laws_eqSum.f k c a d b = some (decide (c = d ∧ a = b)) := by
  unfold laws_eqSum.f
  rw [laws_eqTermS_eq a b hn k hk]
  by_cases h : c = d <;> by_cases h2 : a = b <;> simp [h, h2]

theorem laws_eqSumS_l0 (a b : List S40) (hab : a.length = b.length) (hn : a.length ≤ 4611686018427387904) (hx : ∀ x ∈ a, x.f1.length ≤ 1048576) : ∀ (d j k : Nat), j + d = a.length → d + 1048577 < k →
    laws_eqSumS.l0 k a b (j : Int) = some (decide (a.drop j = b.drop j)) := by
  intro d
  induction d with
  | zero =>
    intro j k hj hk
    obtain ⟨k, rfl⟩ := succ_of hk
    simp only [laws_eqSumS.l0]
    rw [if_neg (by omega), List.drop_eq_nil_of_le (by omega), List.drop_eq_nil_of_le (by omega)]; simp
  | succ d ih =>
    intro j k hj hk
    obtain ⟨k, rfl⟩ := succ_of hk
    have hlt : j < a.length := by omega
    have hxj := hx _ (List.getElem_mem hlt)
    simp only [laws_eqSumS.l0]
    rw [if_pos (by omega), if_pos (by omega), if_pos (by omega), rd_sum _ _ hlt, rd_sum _ _ (by omega), laws_eqSum_eq _ _ _ _ (by omega) k (by omega), Option.bind_some, wrap_succ hlt hn, ih (j + 1) k (by omega) (by omega), List.drop_eq_getElem_cons hlt, List.drop_eq_getElem_cons (hab ▸ hlt : j < b.length)]
    simp only [List.cons.injEq, sum_eq_iff, decide_eq_true_eq]
    by_cases h : a[j].f0 = b[j].f0 ∧ a[j].f1 = b[j].f1
    · rw [if_pos h]; simp only [h, true_and, and_self]
    · rw [if_neg h]; simp only [h, false_and, decide_false]
theorem laws_eqArg_eq (b : Bool) (xs : List S40) (s : ByteArray) (b' : Bool) (ys : List S40) (s' : ByteArray) (hn : xs.length ≤ 1048576) (hx : ∀ x ∈ xs, x.f1.length ≤ 1048576) (k : Nat) (hk : 2097154 < k) :
    laws_eqArg.f k b xs s b' ys s' = some (decide (b = b' ∧ xs = ys ∧ s = s')) := by
  have h : laws_eqSumS.f k xs ys = some (decide (xs = ys)) := by
    unfold laws_eqSumS.f
    by_cases h : xs.length = ys.length
    · rw [if_pos (by omega)]
      have := laws_eqSumS_l0 xs ys h (by omega) hx xs.length 0 k (by omega) (by omega)
      simpa using this
    · rw [if_neg (by omega)]; congr 1; symm; rw [decide_eq_false_iff_not]; intro e; exact h (by rw [e])
  unfold laws_eqArg.f
  rw [h, Option.bind_some]
  by_cases h1 : b = b'
  · subst h1
    by_cases h2 : xs = ys
    · by_cases h3 : s = s'
      · simp [h2, h3]
      · have h4 : ¬ s.toList = s'.toList := fun e => h3 ((bytes_eq s s').1 e)
        simp [h2, h3, h4]
    · simp [h2]
  · simp [h1]

/-- p holds from j on, d times. -/
def allFrom (p : Nat → Bool) (j : Nat) : Nat → Bool
  | 0 => true
  | d + 1 => p j && allFrom p (j + 1) d
theorem allFrom_iff (p : Nat → Bool) : ∀ (d j : Nat), allFrom p j d = true ↔ ∀ i, j ≤ i → i < j + d → p i = true := by
  intro d
  induction d with
  | zero => intro j; simp only [allFrom, true_iff]; intro i h1 h2; omega
  | succ d ih =>
    intro j
    simp only [allFrom, Bool.and_eq_true, ih]
    constructor
    · rintro ⟨h1, h2⟩ i hi1 hi2
      by_cases e : i = j
      · rw [e]; exact h1
      · exact h2 i (by omega) (by omega)
    · intro h
      exact ⟨h j (by omega) (by omega), fun i h1 h2 => h i (by omega) (by omega)⟩

/-- Is s among xs? -/
def bmem (s : ByteArray) : List ByteArray → Bool
  | [] => false
  | x :: xs => decide (x = s) || bmem s xs
theorem bmem_iff (s : ByteArray) : ∀ xs : List ByteArray, bmem s xs = true ↔ s ∈ xs := by
  intro xs
  induction xs with
  | nil => simp [bmem]
  | cons x xs ih => simp only [bmem, Bool.or_eq_true, decide_eq_true_eq, ih, List.mem_cons]; exact or_congr eq_comm Iff.rfl

/-- The five reserved words. -/
def reservedWords : List ByteArray := [⟨#[102, 117, 110]⟩, ⟨#[112, 114, 101]⟩, ⟨#[114, 117, 108, 101]⟩, ⟨#[114, 101, 116, 117, 114, 110]⟩, ⟨#[110, 105, 108]⟩]
def reserved (s : ByteArray) : Bool := bmem s reservedWords

/-- Byte c may stand at place i of a name. -/
def okByte (c : Int) (i : Nat) : Bool := decide ((97 ≤ c ∧ c ≤ 122) ∨ ((48 ≤ c ∧ c ≤ 57) ∧ 0 < i))
def nameShape (s : ByteArray) : Bool := allFrom (fun i => okByte (bt s i) i) 0 s.size
def validName (s : ByteArray) : Bool := nameShape s && decide (1 ≤ s.size) && decide (s.size ≤ 8) && !reserved s
theorem okByte_yes {c : Int} {i : Nat} (h : okByte c i = true) : (97 ≤ c ∧ c ≤ 122) ∨ ((48 ≤ c ∧ c ≤ 57) ∧ 0 < i) := by unfold okByte at h; exact of_decide_eq_true h
theorem okByte_no {c : Int} {i : Nat} (h : okByte c i = false) : ¬ ((97 ≤ c ∧ c ≤ 122) ∨ ((48 ≤ c ∧ c ≤ 57) ∧ 0 < i)) := by unfold okByte at h; exact of_decide_eq_false h

def listName (s : ByteArray) : Bool := validName s && (bt s ((s.size : Int) - 1) == 115)
theorem validName_size {s : ByteArray} (h : validName s = true) : 1 ≤ s.size ∧ s.size ≤ 8 := by
  unfold validName at h
  simp only [Bool.and_eq_true, decide_eq_true_eq] at h
  exact ⟨h.1.1.2, h.1.2⟩

/-- Fits. -/
def fitsB (n : Int) : Bool := decide (-1000000 ≤ n ∧ n ≤ 1000000)
theorem fitsB_iff (n : Int) : fitsB n = true ↔ -1000000 ≤ n ∧ n ≤ 1000000 := by unfold fitsB; exact decide_eq_true_iff
theorem mul_bound {a b A B : Int} (ha : -A ≤ a ∧ a ≤ A) (hb : -B ≤ b ∧ b ≤ B) : -(A * B) ≤ a * b ∧ a * b ≤ A * B := by
  have h : (a * b).natAbs ≤ A.natAbs * B.natAbs := by rw [Int.natAbs_mul]; exact Nat.mul_le_mul (by omega) (by omega)
  have e : (A.natAbs * B.natAbs : Nat) = (A * B).natAbs := by rw [Int.natAbs_mul]
  have hA : 0 ≤ A := by omega
  have hB : 0 ≤ B := by omega
  have : 0 ≤ A * B := Int.mul_nonneg hA hB
  omega
theorem mul_okc_fits {a b : Int} (ha : -1000000000 ≤ a ∧ a ≤ 1000000000) (hb : -1000000 ≤ b ∧ b ≤ 1000000) : -1000000000000000 ≤ a * b ∧ a * b ≤ 1000000000000000 := by
  have := mul_bound (A := 1000000000) (B := 1000000) ha hb; omega
theorem mul_okc {a b : Int} (ha : -1000000000 ≤ a ∧ a ≤ 1000000000) (hb : -1000000000 ≤ b ∧ b ≤ 1000000000) : -1000000000000000000 ≤ a * b ∧ a * b ≤ 1000000000000000000 := by
  have := mul_bound (A := 1000000000) (B := 1000000000) ha hb; omega

/-- A term is valid. -/
def termOk (t : S94) : Bool := decide (t.f0 ≠ 0) && (fitsB t.f0 && (validName t.f1 && !listName t.f1))
/-- Is the earlier name, if there is one, ahead of this one? -/
def aheadOf (p : Option ByteArray) (s : ByteArray) : Bool := match p with
  | none => true
  | some q => Op.bytesLess q.toList s.toList
def termsOk : Option ByteArray → List S94 → Bool
  | _, [] => true
  | p, t :: ts => termOk t && (aheadOf p t.f1 && termsOk (some t.f1) ts)
/-- IsValidSum. -/
def validSum (c : Int) (ts : List S94) : Bool := fitsB c && (decide (ts.length ≤ 4) && termsOk none ts)
def before (ts : List S94) (j : Nat) : Option ByteArray := if j = 0 then none else some (rd_T94 ts ((j : Int) - 1)).f1
theorem before_succ (ts : List S94) (j : Nat) (h : j < ts.length) : before ts (j + 1) = some ts[j].f1 := by
  unfold before
  rw [if_neg (by omega), show (((j + 1 : Nat) : Int) - 1) = (j : Int) by omega, rd_term _ _ h]

/-- What an argument's marks tell, its sums apart. -/
def argTail (b : Bool) (n : Nat) (s : ByteArray) : Bool := if b = true then (if n ≤ 3 then (if s.toList = ([] : List UInt8) then true else listName s) else false) else (if n = 1 then (s.toList == ([] : List UInt8)) else false)
/-- IsValidArg. -/
def validArg (b : Bool) (xs : List S40) (s : ByteArray) : Bool := (xs.all fun x => validSum x.f0 x.f1) && argTail b xs.length s

theorem spec_l2Shape_l0 (s : ByteArray) (hn : s.size ≤ 4611686018427387904) : ∀ (d j k : Nat), j + d = s.size → d < k →
    spec_l2Shape.l0 k s (j : Int) = some (allFrom (fun i => okByte (bt s i) i) j d && decide (0 < s.size)) := by
  intro d
  induction d with
  | zero =>
    intro j k hj hk
    obtain ⟨k, rfl⟩ := succ_of hk
    simp only [spec_l2Shape.l0, allFrom]
    rw [if_neg (by omega), Bool.true_and]; congr 1; rw [decide_eq_decide]; omega
  | succ d ih =>
    intro j k hj hk
    obtain ⟨k, rfl⟩ := succ_of hk
    have hlt : j < s.size := by omega
    simp only [spec_l2Shape.l0, allFrom]
    rw [if_pos (by omega), if_pos (by omega), wrap_succ hlt hn, ih (j + 1) k (by omega) (by omega)]
    generalize bt s (j : Int) = c
    cases h : okByte c j with
    | true =>
      have := okByte_yes h
      rw [Bool.true_and]
      repeat' split
      all_goals first | rfl | (exfalso; omega)
    | false =>
      have := okByte_no h
      rw [Bool.false_and, Bool.false_and]
      repeat' split
      all_goals first | rfl | (exfalso; omega)
theorem spec_l2Shape_eq (s : ByteArray) (hn : s.size ≤ 4611686018427387904) (k : Nat) (hk : s.size < k) : spec_l2Shape.f k s = some (nameShape s && decide (1 ≤ s.size)) := by
  unfold spec_l2Shape.f nameShape
  exact spec_l2Shape_l0 s hn s.size 0 k (by omega) hk

theorem rdOf_nat {α : Type} (d : α) (xs : List α) (j : Nat) (h : j < xs.length) : rdOf d xs (j : Int) = xs[j] := by
  unfold rdOf; rw [Int.toNat_natCast, List.getD_eq_getElem?_getD, List.getElem?_eq_getElem h]; rfl
theorem rd_nat (xs : List Int) (j : Nat) (h : j < xs.length) : rd xs (j : Int) = xs[j] := by
  unfold rd; rw [Int.toNat_natCast, List.getD_eq_getElem?_getD, List.getElem?_eq_getElem h]; rfl

theorem spec_l1Has_l0 (xs : List ByteArray) (s : ByteArray) (hn : xs.length ≤ 4611686018427387904) : ∀ (d j k : Nat), j + d = xs.length → d < k →
    spec_l1Has.l0 k xs s (j : Int) = some (bmem s (xs.drop j)) := by
  intro d
  induction d with
  | zero =>
    intro j k hj hk
    obtain ⟨k, rfl⟩ := succ_of hk
    simp only [spec_l1Has.l0]
    rw [if_neg (by omega), List.drop_eq_nil_of_le (by omega)]
    rfl
  | succ d ih =>
    intro j k hj hk
    obtain ⟨k, rfl⟩ := succ_of hk
    have hlt : j < xs.length := by omega
    simp only [spec_l1Has.l0]
    rw [if_pos (by omega), if_pos (by omega), rdOf_nat _ _ _ hlt, wrap_succ hlt hn, ih (j + 1) k (by omega) (by omega), List.drop_eq_getElem_cons hlt]
    by_cases h : xs[j] = s
    · rw [if_pos (by rw [h])]; simp [bmem, h]
    · rw [if_neg (by rw [bytes_eq]; exact h)]; simp [bmem, h]
theorem spec_l1Has_eq (xs : List ByteArray) (s : ByteArray) (hn : xs.length ≤ 4611686018427387904) (k : Nat) (hk : xs.length < k) :
    spec_l1Has.f k xs s = some (bmem s xs) := by
  unfold spec_l1Has.f
  have := spec_l1Has_l0 xs s hn xs.length 0 k (by omega) hk
  simpa using this

theorem spec_IsReserved_eq (s : ByteArray) (k : Nat) (hk : 5 < k) : spec_IsReserved.f k s = some (reserved s) := by
  unfold spec_IsReserved.f spec_l2Reserved.f
  rw [Option.bind_some, spec_l1Has_eq _ _ (by simp) k (by simpa using hk)]
  rfl

theorem spec_IsValidName_eq (s : ByteArray) (hn : s.size ≤ 4611686018427387904) (k : Nat) (hk : s.size + 5 < k) : spec_IsValidName.f k s = some (validName s) := by
  unfold spec_IsValidName.f validName
  rw [spec_l2Shape_eq s hn k (by omega), Option.bind_some, spec_IsReserved_eq s k (by omega), Option.bind_some]
  cases h1 : nameShape s <;> by_cases h2 : 1 ≤ s.size <;> by_cases h3 : s.size ≤ 8 <;> simp [h2, h3] <;> (intros; omega)

theorem spec_IsListName_eq (s : ByteArray) (hn : s.size ≤ 4611686018427387904) (k : Nat) (hk : s.size + 5 < k) : spec_IsListName.f k s = some (listName s) := by
  unfold spec_IsListName.f listName
  rw [spec_IsValidName_eq s hn k hk, Option.bind_some]
  cases h : validName s with
  | false => simp
  | true =>
    have := validName_size h
    rw [if_pos rfl, wrap_id (by omega) (by omega), if_pos (by omega), if_pos (by omega)]; simp

theorem spec_l1In_eq (a b c : Int) : spec_l1In.f a b c = some (decide (b ≤ a ∧ a ≤ c)) := by
  unfold spec_l1In.f
  by_cases h : a ≥ b
  · rw [if_pos h]; congr 1; rw [decide_eq_decide]; omega
  · rw [if_neg h]; congr 1; symm; rw [decide_eq_false_iff_not]; omega

theorem spec_Fits_eq (n : Int) : spec_Fits.f n = some (fitsB n) := by unfold spec_Fits.f; rw [spec_l1In_eq]; rfl

theorem spec_IsValidSum_l0 (c : Int) (ts : List S94) (hn : ts.length ≤ 4611686018427387904) (hx : ∀ t ∈ ts, t.f1.size ≤ 1048576) : ∀ (d j k : Nat), j + d = ts.length → d + 1048600 < k →
    spec_IsValidSum.l0 k (j : Int) c ts = some (termsOk (before ts j) (ts.drop j) && (fitsB c && decide (ts.length ≤ 4))) := by
  intro d
  induction d with
  | zero =>
    intro j k hj hk
    obtain ⟨k, rfl⟩ := succ_of hk
    simp only [spec_IsValidSum.l0]
    rw [if_neg (by omega), List.drop_eq_nil_of_le (by omega), spec_Fits_eq, Option.bind_some]
    have e : decide ((ts.length : Int) ≤ 4) = decide (ts.length ≤ 4) := by rw [decide_eq_decide]; omega
    rw [e]
    cases fitsB c <;> simp [termsOk]
  | succ d ih =>
    intro j k hj hk
    obtain ⟨k, rfl⟩ := succ_of hk
    have hlt : j < ts.length := by omega
    have hxj := hx _ (List.getElem_mem hlt)
    simp only [spec_IsValidSum.l0]
    rw [if_pos (by omega), if_pos (by omega), rd_term _ _ hlt, spec_Fits_eq, Option.bind_some, spec_IsValidName_eq _ (by omega) k (by omega), Option.bind_some, spec_IsListName_eq _ (by omega) k (by omega), Option.bind_some, wrap_succ hlt hn, ih (j + 1) k (by omega) (by omega), List.drop_eq_getElem_cons hlt, before_succ _ _ hlt]
    simp only [termsOk, termOk]
    by_cases h0 : ts[j].f0 = 0
    · simp [h0]
    rw [if_neg h0]
    cases h1 : fitsB ts[j].f0
    · simp
    cases h2 : validName ts[j].f1
    · simp
    cases h3 : listName ts[j].f1
    · simp only [if_true, Bool.false_eq_true, if_false]
      by_cases hj0 : j = 0
      · subst hj0
        simp [before, aheadOf, h0]
      · have hb : before ts j = some ts[j - 1].f1 := by
          have := before_succ ts (j - 1) (by omega)
          rwa [show j - 1 + 1 = j by omega] at this
        have hr : rd_T94 ts ((j : Int) - 1) = ts[j - 1] := by
          have := rd_term ts (j - 1) (by omega)
          rwa [show ((j - 1 : Nat) : Int) = (j : Int) - 1 by omega] at this
        rw [if_pos (by omega), wrap_id (by omega) (by omega), if_pos (by omega), if_pos (by omega), hr, hb]
        cases h4 : Op.bytesLess ts[j - 1].f1.toList ts[j].f1.toList <;> simp [aheadOf, h4, h0]
    · simp
theorem spec_IsValidSum_eq (c : Int) (ts : List S94) (hn : ts.length ≤ 1048576) (hx : ∀ t ∈ ts, t.f1.size ≤ 1048576) (k : Nat) (hk : 2097180 < k) : spec_IsValidSum.f k c ts = some (validSum c ts) := by
  unfold spec_IsValidSum.f validSum
  have := spec_IsValidSum_l0 c ts (by omega) hx ts.length 0 k (by omega) (by omega)
  rw [show ((0 : Nat) : Int) = 0 from rfl, List.drop_zero] at this
  rw [this]
  simp only [before, if_true]
  cases termsOk none ts <;> simp

theorem spec_IsValidArg_l0 (b : Bool) (xs : List S40) (s : ByteArray) (hs : s.size ≤ 1048576) (hn : xs.length ≤ 4611686018427387904) (hx : smallS 1048576 xs) : ∀ (d j k : Nat), j + d = xs.length → d + 2097190 < k →
    spec_IsValidArg.l0 k (j : Int) b xs s = some (((xs.drop j).all fun x => validSum x.f0 x.f1) && argTail b xs.length s) := by
  intro d
  induction d with
  | zero =>
    intro j k hj hk
    obtain ⟨k, rfl⟩ := succ_of hk
    simp only [spec_IsValidArg.l0]
    rw [if_neg (by omega), List.drop_eq_nil_of_le (by omega), spec_IsListName_eq s (by omega) k (by omega)]
    unfold argTail
    cases b
    · by_cases h : xs.length = 1
      · rw [if_neg (by simp), if_pos (by omega)]; simp [h]
      · rw [if_neg (by simp), if_neg (by omega)]; simp [h]
    · by_cases h : xs.length ≤ 3
      · rw [if_pos rfl, if_pos (by omega)]
        by_cases h2 : s.toList = ([] : List UInt8)
        · simp [h, h2]
        · simp [h, h2]
      · rw [if_pos rfl, if_neg (by omega)]; simp [h]
  | succ d ih =>
    intro j k hj hk
    obtain ⟨k, rfl⟩ := succ_of hk
    have hlt : j < xs.length := by omega
    have hxj := hx.2 _ (List.getElem_mem hlt)
    simp only [spec_IsValidArg.l0]
    rw [if_pos (by omega), if_pos (by omega), rd_sum _ _ hlt, spec_IsValidSum_eq _ _ (by omega) (fun t h => by have := hxj.2 t h; omega) k (by omega), Option.bind_some, wrap_succ hlt hn, ih (j + 1) k (by omega) (by omega), List.drop_eq_getElem_cons hlt, List.all_cons]
    cases validSum xs[j].f0 xs[j].f1 <;> simp
theorem spec_IsValidArg_eq (b : Bool) (xs : List S40) (s : ByteArray) (hs : s.size ≤ 1048576) (hx : smallS 1048576 xs) (k : Nat) (hk : 3145800 < k) : spec_IsValidArg.f k b xs s = some (validArg b xs s) := by
  unfold spec_IsValidArg.f validArg
  have h1 := hx.1
  have := spec_IsValidArg_l0 b xs s hs (by omega) hx xs.length 0 k (by omega) (by omega)
  rw [show ((0 : Nat) : Int) = 0 from rfl, List.drop_zero] at this
  exact this

theorem impl_IsReserved_eq (s : ByteArray) : impl_IsReserved.f s = some (reserved s) := by
  unfold impl_IsReserved.f reserved reservedWords
  have h1 := bytes_lit s #[102, 117, 110]
  have h2 := bytes_lit s #[112, 114, 101]
  have h3 := bytes_lit s #[114, 117, 108, 101]
  have h4 := bytes_lit s #[114, 101, 116, 117, 114, 110]
  have h5 := bytes_lit s #[110, 105, 108]
  simp only [] at h1 h2 h3 h4 h5
  simp only [h1, h2, h3, h4, h5, bmem, @eq_comm _ _ s]
  by_cases e1 : s = ⟨#[102, 117, 110]⟩
  · rw [if_pos e1]; simp [e1]
  by_cases e2 : s = ⟨#[112, 114, 101]⟩
  · rw [if_neg e1, if_pos e2]; simp [e2]
  by_cases e3 : s = ⟨#[114, 117, 108, 101]⟩
  · rw [if_neg e1, if_neg e2, if_pos e3]; simp [e3]
  by_cases e4 : s = ⟨#[114, 101, 116, 117, 114, 110]⟩
  · rw [if_neg e1, if_neg e2, if_neg e3, if_pos e4]; simp [e4]
  by_cases e5 : s = ⟨#[110, 105, 108]⟩
  · rw [if_neg e1, if_neg e2, if_neg e3, if_neg e4, if_pos e5]; simp [e5]
  · rw [if_neg e1, if_neg e2, if_neg e3, if_neg e4, if_neg e5]; simp [e1, e2, e3, e4, e5]

theorem impl_within_eq (a b c : Int) : impl_within.f a b c = some (decide (b ≤ a ∧ a ≤ c)) := by
  unfold impl_within.f
  by_cases h : a ≥ b
  · rw [if_pos h]; congr 1; rw [decide_eq_decide]; omega
  · rw [if_neg h]; congr 1; symm; rw [decide_eq_false_iff_not]; omega

theorem impl_IsValidName_l0 (s : ByteArray) (hn : s.size ≤ 4611686018427387904) : ∀ (d j k : Nat), j + d = s.size → d < k →
    impl_IsValidName.l0 k s (j : Int) = some (allFrom (fun i => okByte (bt s i) i) j d) := by
  intro d
  induction d with
  | zero =>
    intro j k hj hk
    obtain ⟨k, rfl⟩ := succ_of hk
    simp only [impl_IsValidName.l0, allFrom]
    rw [if_neg (by omega)]
  | succ d ih =>
    intro j k hj hk
    obtain ⟨k, rfl⟩ := succ_of hk
    have hlt : j < s.size := by omega
    simp only [impl_IsValidName.l0, allFrom]
    rw [if_pos (by omega), if_pos (by omega), wrap_succ hlt hn, ih (j + 1) k (by omega) (by omega)]
    generalize bt s (j : Int) = c
    cases h : okByte c j with
    | true =>
      have := okByte_yes h
      rw [Bool.true_and]
      repeat' split
      all_goals first | rfl | (exfalso; omega)
    | false =>
      have := okByte_no h
      rw [Bool.false_and]
      repeat' split
      all_goals first | rfl | (exfalso; omega)
theorem impl_IsValidName_eq (s : ByteArray) (hn : s.size ≤ 4611686018427387904) (k : Nat) (hk : s.size + 5 < k) : impl_IsValidName.f k s = some (validName s) := by
  unfold impl_IsValidName.f validName
  obtain ⟨k, rfl⟩ := succ_of hk
  rw [impl_within_eq, Option.bind_some, impl_IsReserved_eq, Option.bind_some]
  simp only [impl_IsValidName.j0]
  have hl := impl_IsValidName_l0 s hn s.size 0 k (by omega) (by omega)
  rw [show ((0 : Nat) : Int) = 0 from rfl] at hl
  rw [hl]
  unfold nameShape
  cases h0 : reserved s <;> cases h1 : allFrom (fun i => okByte (bt s i) i) 0 s.size <;> by_cases h2 : 1 ≤ s.size <;> by_cases h3 : s.size ≤ 8 <;> simp [h2, h3] <;> (intros; omega)

theorem impl_IsListName_eq (s : ByteArray) (hn : s.size ≤ 4611686018427387904) (k : Nat) (hk : s.size + 5 < k) : impl_IsListName.f k s = some (listName s) := by
  unfold impl_IsListName.f listName
  rw [impl_IsValidName_eq s hn k hk, Option.bind_some]
  cases h : validName s with
  | false => simp
  | true =>
    have := validName_size h
    rw [if_pos rfl, wrap_id (by omega) (by omega), if_pos (by omega), if_pos (by omega)]; simp

theorem impl_Fits_eq (n : Int) : impl_Fits.f n = some (fitsB n) := by unfold impl_Fits.f; rw [impl_within_eq]; rfl

theorem impl_isIntName_eq (s : ByteArray) (hn : s.size ≤ 4611686018427387904) (k : Nat) (hk : s.size + 5 < k) : impl_isIntName.f k s = some (validName s && !listName s) := by
  unfold impl_isIntName.f
  rw [impl_IsValidName_eq s hn k hk, Option.bind_some, impl_IsListName_eq s hn k hk]
  cases validName s <;> simp
theorem impl_IsValidSum_l0 (c : Int) (ts : List S94) (hn : ts.length ≤ 4611686018427387904) (hx : ∀ t ∈ ts, t.f1.size ≤ 1048576) : ∀ (d j k : Nat), j + d = ts.length → d + 1048600 < k →
    impl_IsValidSum.l0 k ts (ts.length : Int) (j : Int) c ts = some (termsOk (before ts j) (ts.drop j)) := by
  intro d
  induction d with
  | zero =>
    intro j k hj hk
    obtain ⟨k, rfl⟩ := succ_of hk
    simp only [impl_IsValidSum.l0]
    rw [if_neg (by omega), List.drop_eq_nil_of_le (by omega)]
    rfl
  | succ d ih =>
    intro j k hj hk
    obtain ⟨k, rfl⟩ := succ_of hk
    have hlt : j < ts.length := by omega
    have hxj := hx _ (List.getElem_mem hlt)
    simp only [impl_IsValidSum.l0]
    rw [if_pos (by omega), if_pos (by omega), if_pos (by omega), rd_term _ _ hlt, impl_Fits_eq, Option.bind_some, impl_isIntName_eq _ (by omega) k (by omega), Option.bind_some, wrap_succ hlt hn, ih (j + 1) k (by omega) (by omega), List.drop_eq_getElem_cons hlt, before_succ _ _ hlt]
    simp only [termsOk, termOk]
    by_cases h0 : ts[j].f0 = 0
    · simp [h0]
    rw [if_neg h0]
    cases h1 : fitsB ts[j].f0
    · simp
    cases h2 : (validName ts[j].f1 && !listName ts[j].f1)
    · simp
    · simp only [if_true]
      by_cases hj0 : j = 0
      · subst hj0
        simp [before, aheadOf, h0]
      · have hb : before ts j = some ts[j - 1].f1 := by
          have := before_succ ts (j - 1) (by omega)
          rwa [show j - 1 + 1 = j by omega] at this
        have hr : rd_T94 ts ((j : Int) - 1) = ts[j - 1] := by
          have := rd_term ts (j - 1) (by omega)
          rwa [show ((j - 1 : Nat) : Int) = (j : Int) - 1 by omega] at this
        rw [if_pos (by omega), wrap_id (by omega) (by omega), if_pos (by omega), if_pos (by omega), hr, hb]
        cases h4 : Op.bytesLess ts[j - 1].f1.toList ts[j].f1.toList <;> simp [aheadOf, h4, h0]
theorem impl_IsValidSum_eq (c : Int) (ts : List S94) (hn : ts.length ≤ 1048576) (hx : ∀ t ∈ ts, t.f1.size ≤ 1048576) (k : Nat) (hk : 2097180 < k) : impl_IsValidSum.f k c ts = some (validSum c ts) := by
  unfold impl_IsValidSum.f validSum
  rw [impl_Fits_eq, Option.bind_some]
  obtain ⟨k, rfl⟩ := succ_of hk
  simp only [impl_IsValidSum.j0]
  have := impl_IsValidSum_l0 c ts (by omega) hx ts.length 0 k (by omega) (by omega)
  rw [show ((0 : Nat) : Int) = 0 from rfl, List.drop_zero] at this
  rw [this]
  simp only [before, if_true]
  by_cases h : ts.length ≤ 4
  · have h2 : ¬ ((ts.length : Int) > 4) := by omega
    cases fitsB c <;> simp [h, h2]
  · have h2 : (ts.length : Int) > 4 := by omega
    cases fitsB c <;> simp [h, h2]

theorem impl_IsValidArg_l0 (xs : List S40) (hn : xs.length ≤ 4611686018427387904) (hx : smallS 1048576 xs) : ∀ (d j k : Nat), j + d = xs.length → d + 2097190 < k →
    ∃ i, slices_IndexFunc_impl_Sum_impl_Sum__IsValidArg_1.l0 k xs (xs.length : Int) (j : Int) = some i ∧ (if ((xs.drop j).all fun x => validSum x.f0 x.f1) = true then i = -1 else 0 ≤ i) := by
  intro d
  induction d with
  | zero =>
    intro j k hj hk
    obtain ⟨k, rfl⟩ := succ_of hk
    simp only [slices_IndexFunc_impl_Sum_impl_Sum__IsValidArg_1.l0]
    rw [if_neg (by omega), List.drop_eq_nil_of_le (by omega)]
    exact ⟨_, rfl, by simp⟩
  | succ d ih =>
    intro j k hj hk
    obtain ⟨k, rfl⟩ := succ_of hk
    have hlt : j < xs.length := by omega
    have hxj := hx.2 _ (List.getElem_mem hlt)
    obtain ⟨i, e, hi⟩ := ih (j + 1) k (by omega) (by omega)
    simp only [slices_IndexFunc_impl_Sum_impl_Sum__IsValidArg_1.l0, impl_IsValidArg_1.f]
    rw [if_pos (by omega), if_pos (by omega), if_pos (by omega), rd_sum _ _ hlt, impl_IsValidSum_eq _ _ (by omega) (fun t h => by have := hxj.2 t h; omega) k (by omega), Option.bind_some, Option.bind_some, wrap_succ hlt hn, e, List.drop_eq_getElem_cons hlt, List.all_cons]
    cases h : validSum xs[j].f0 xs[j].f1
    · refine ⟨(j : Int), by simp, ?_⟩
      rw [if_neg (by simp)]; omega
    · refine ⟨i, by simp, ?_⟩
      simpa using hi
theorem impl_IsValidArg_eq (b : Bool) (xs : List S40) (s : ByteArray) (hs : s.size ≤ 1048576) (hx : smallS 1048576 xs) (k : Nat) (hk : 3145800 < k) : impl_IsValidArg.f k b xs s = some (validArg b xs s) := by
  unfold impl_IsValidArg.f validArg slices_ContainsFunc_impl_Sum_impl_Sum__IsValidArg_1.f slices_IndexFunc_impl_Sum_impl_Sum__IsValidArg_1.f
  have h1 := hx.1
  obtain ⟨i, e, hi⟩ := impl_IsValidArg_l0 xs (by omega) hx xs.length 0 k (by omega) (by omega)
  rw [show ((0 : Nat) : Int) = 0 from rfl] at e
  rw [List.drop_zero] at hi
  rw [e, impl_IsListName_eq s (by omega) k (by omega)]
  simp only [Option.bind_some, decide_eq_true_eq]
  cases ha : (xs.all fun x => validSum x.f0 x.f1)
  · rw [ha, if_neg (by simp)] at hi
    rw [if_pos (by omega)]; simp
  · rw [ha, if_pos rfl] at hi
    rw [if_neg (by omega), Bool.true_and]
    unfold argTail
    cases b
    · by_cases h : xs.length = 1
      · rw [if_neg (by simp), if_pos (by omega)]; simp [h]
      · rw [if_neg (by simp), if_neg (by omega)]; simp [h]
    · by_cases h : xs.length ≤ 3
      · rw [if_pos rfl, if_pos (by omega)]
        by_cases h2 : s.toList = ([] : List UInt8)
        · simp [h, h2]
        · simp [h, h2]
      · rw [if_pos rfl, if_neg (by omega)]; simp [h]

theorem FnExactIsValidArg : laws_FnExactIsValidArg.Pure := by
  intro b xs s hx hs
  have px : ∀ x ∈ xs, x.f1.length ≤ 9223372036854775807 ∧ ∀ y ∈ x.f1, y.f1.size ≤ 9223372036854775807 := fun x h => ⟨(hx.2 x h).2.1, fun y hy => ((hx.2 x h).2.2 y hy).2⟩
  refine ⟨4000000, ?_⟩
  unfold laws_FnExactIsValidArg.f
  rw [laws_szArg_eq b xs s _ hx.1 px hs (by omega) (by omega) _ (by omega), Option.bind_some]
  split
  · rfl
  obtain ⟨a1, a2, a3⟩ := szArgV_len (xs := xs) (s := s) (l := 1048576) (by omega)
  have a4 : ∀ x ∈ xs, x.f1.length ≤ 1048576 := fun x h => by have := (a1.2 x h).1; omega
  have a5 := a1.1
  have c1 := conv_small a1
  have c4 : ∀ x ∈ xs.map convS, x.f1.length ≤ 1048576 := fun x h => by have := (c1.2 x h).1; omega
  have c5 := c1.1
  rw [laws_toArg_eq b xs s (by omega) a4 _ (by omega)]; simp only [Option.bind_some]
  rw [spec_IsValidArg_eq b _ s (by omega) c1 _ (by omega), impl_IsValidArg_eq b _ s (by omega) c1 _ (by omega)]; simp only [Option.bind_some, bne_self_eq_false, Bool.false_eq_true, if_false]
  rw [laws_eqArg_eq b _ s b _ s (by omega) c4 _ (by omega)]
  all_goals simp

end Go.Proofs.Ytkfllkmhbkmepaa.Pure
