/- The program's FormatSum returns what the reference's returns, for all sums, and leaves them as they were. -/
import Derived.Test.YtmdjhmggogfbdaaDoorQFnExactFormatSumx11
namespace Go.Proofs.YtmdjhmggogfbdaaDoor.Pure
open Go.RowKit Go.Proofs.YtmdjhmggogfbdaaDoorV.PrintWords Go.Proofs.YtmdjhmggogfbdaaDoorV.PrintLast Go.Proofs.YtmdjhmggogfbdaaDoorV.PrintMore Go.Proofs.YtmdjhmggogfbdaaDoor.QFnExactFormatSum
set_option linter.unusedVariables false
set_option linter.unusedSimpArgs false

theorem rd_lterm (xs : List S103) (j : Nat) (h : j < xs.length) : rd_T103 xs (j : Int) = xs[j] := by
  unfold rd_T103; rw [Int.toNat_natCast, List.getD_eq_getElem?_getD, List.getElem?_eq_getElem h]; rfl

theorem wrap_id {n : Int} (h0 : -9223372036854775808 ≤ n) (h1 : n ≤ 9223372036854775807) : wrap64 n = n := by
  unfold wrap64; omega
theorem wrap_succ {j n : Nat} (h : j < n) (hn : n ≤ 4611686018427387904) : wrap64 ((j : Int) + 1) = ((j + 1 : Nat) : Int) := by
  unfold wrap64; omega
theorem succ_of {d k : Nat} (h : d < k) : ∃ m, k = m + 1 := ⟨k - 1, by omega⟩
theorem lit_int {n : Int} (h : (Lit.int .i64 n).wf = true) : -9223372036854775808 ≤ n ∧ n ≤ 9223372036854775807 := by
  simpa [Lit.wf, IntKind.min, IntKind.max, IntKind.signed, IntKind.bits] using h

def szTs : List S103 → Int → Int
  | [], l => l
  | x :: xs, l => if l - (x.f1.size : Int) < 0 then -1 else szTs xs (l - (x.f1.size : Int))
def szTerms (xs : List S103) (l : Int) : Int := if l - (xs.length : Int) < 0 then -1 else szTs xs (l - (xs.length : Int))
theorem szTs_le : ∀ (xs : List S103) (l : Int), 0 ≤ l → szTs xs l ≤ l ∧ -1 ≤ szTs xs l := by
  intro xs
  induction xs with
  | nil => intro l h; simp only [szTs]; omega
  | cons x xs ih =>
    intro l h
    simp only [szTs]
    split
    · omega
    · have := ih (l - (x.f1.size : Int)) (by omega); omega
theorem szTs_mem : ∀ (xs : List S103) (l : Int), 0 ≤ szTs xs l → ∀ x ∈ xs, (x.f1.size : Int) ≤ l := by
  intro xs
  induction xs with
  | nil => intro l _ x hx; simp at hx
  | cons y xs ih =>
    intro l h x hx
    simp only [szTs] at h
    split at h
    · omega
    · rcases List.mem_cons.1 hx with rfl | hx
      · omega
      · have := ih _ h x hx; omega
theorem szTerms_le (xs : List S103) (l : Int) (h : 0 ≤ l) : szTerms xs l ≤ l ∧ -1 ≤ szTerms xs l := by
  unfold szTerms
  split
  · omega
  · have := szTs_le xs (l - (xs.length : Int)) (by omega); omega
theorem szTerms_len {xs : List S103} {l : Int} (h : 0 ≤ szTerms xs l) : (xs.length : Int) ≤ l ∧ (∀ x ∈ xs, (x.f1.size : Int) ≤ l) ∧ szTerms xs l ≤ l := by
  unfold szTerms at h ⊢
  split at h
  · omega
  · rename_i h0
    have h1 := (szTs_le xs (l - (xs.length : Int)) (by omega)).1
    refine ⟨by omega, fun x hx => ?_, ?_⟩
    · have := szTs_mem xs _ h x hx; omega
    · rw [if_neg h0]; omega
theorem laws_szTermS_l0 (xs : List S103) (hn : xs.length ≤ 4611686018427387904) (hx : ∀ x ∈ xs, x.f1.size ≤ 9223372036854775807) : ∀ (d j k : Nat) (l : Int), j + d = xs.length → d < k → 0 ≤ l → l ≤ 1048576 →
    laws_szTermS.l0 k xs l (j : Int) = some (szTs (xs.drop j) l) := by
  intro d
  induction d with
  | zero =>
    intro j k l hj hk h0 h1
    obtain ⟨k, rfl⟩ := succ_of hk
    simp only [laws_szTermS.l0]
    rw [if_neg (by omega), List.drop_eq_nil_of_le (by omega)]; rfl
  | succ d ih =>
    intro j k l hj hk h0 h1
    obtain ⟨k, rfl⟩ := succ_of hk
    have hlt : j < xs.length := by omega
    have hxj := hx _ (List.getElem_mem hlt)
    simp only [laws_szTermS.l0, laws_szTerm.f]
    rw [if_pos (by omega), if_pos (by omega), rd_lterm _ _ hlt, wrap_id (n := l - (xs[j].f1.size : Int)) (by omega) (by omega), wrap_succ hlt hn, List.drop_eq_getElem_cons hlt]
    simp only [szTs]
    by_cases h : l - (xs[j].f1.size : Int) < 0
    · rw [if_pos h, if_pos h, Option.bind_some, if_pos (by omega)]
    · rw [if_neg h, if_neg h, Option.bind_some, if_neg h, ih (j + 1) k _ (by omega) (by omega) (by omega) (by omega)]
theorem laws_szTermS_eq (xs : List S103) (l : Int) (hn : xs.length ≤ 9223372036854775807) (hx : ∀ x ∈ xs, x.f1.size ≤ 9223372036854775807) (h0 : 0 ≤ l) (h1 : l ≤ 1048576) (k : Nat) (hk : 1048577 < k) :
    laws_szTermS.f k xs l = some (szTerms xs l) := by
  unfold laws_szTermS.f szTerms
  rw [wrap_id (by omega) (by omega)]
  split
  · rfl
  · have := laws_szTermS_l0 xs (by omega) hx xs.length 0 k (l - (xs.length : Int)) (by omega) (by omega) (by omega) (by omega)
    simpa using this

theorem laws_szSum_eq (c : Int) (xs : List S103) (l : Int) (hn : xs.length ≤ 9223372036854775807) (hx : ∀ x ∈ xs, x.f1.size ≤ 9223372036854775807) (h0 : 0 ≤ l) (h1 : l ≤ 1048576) (k : Nat) (hk : 1048577 < k) :
    laws_szSum.f k c xs l = some (szTerms xs l) := by
  unfold laws_szSum.f; rw [laws_szTermS_eq xs l hn hx h0 h1 k hk, Option.bind_some]
  have := szTerms_le xs l h0
  split
  · congr 1; omega
  · rfl

instance bytesDec : DecidableEq ByteArray := fun a b => decidable_of_iff (a.data = b.data) ⟨fun h => by cases a; cases b; exact congrArg ByteArray.mk h, fun h => by rw [h]⟩
theorem bytes_eq (a b : ByteArray) : a.toList = b.toList ↔ a = b := by
  rw [ByteArray.toList_eq, ByteArray.toList_eq]
  constructor
  · intro h; cases a; cases b; simp only [ByteArray.mk.injEq] at *; exact Array.toList_inj.mp h
  · intro h; rw [h]
theorem bytes_lit (s : ByteArray) (a : Array UInt8) : s.toList = a.toList ↔ s = ⟨a⟩ := by
  rw [ByteArray.toList_eq]
  constructor
  · intro h; cases s; simp only [ByteArray.mk.injEq] at *; exact Array.toList_inj.mp h
  · intro h; rw [h]

instance termDec : DecidableEq S79 := fun a b => decidable_of_iff (a.f0 = b.f0 ∧ a.f1 = b.f1) ⟨fun h => by cases a; cases b; simp only at h; rw [h.1, h.2], fun h => by rw [h]; exact ⟨rfl, rfl⟩⟩
theorem term_eq_iff (a b : S79) : a = b ↔ a.f0 = b.f0 ∧ a.f1 = b.f1 := ⟨fun h => by rw [h]; exact ⟨rfl, rfl⟩, fun h => by cases a; cases b; simp only at h; rw [h.1, h.2]⟩
theorem rd_term (xs : List S79) (j : Nat) (h : j < xs.length) : rd_T79 xs (j : Int) = xs[j] := by
  unfold rd_T79; rw [Int.toNat_natCast, List.getD_eq_getElem?_getD, List.getElem?_eq_getElem h]; rfl

def convT (x : S103) : S79 := ⟨x.f0, x.f1⟩
theorem laws_toTermS_l0 (xs : List S103) (hn : xs.length ≤ 4611686018427387904) : ∀ (d j k : Nat) (r : List S79), j + d = xs.length → d < k → r.length = d →
    laws_toTermS.l0 k xs ((xs.map convT).take j ++ r) (j : Int) = some (xs.map convT) := by
  intro d
  induction d with
  | zero =>
    intro j k r hj hk hr
    obtain ⟨k, rfl⟩ := succ_of hk
    have : r = [] := List.length_eq_zero_iff.1 hr
    subst this
    simp only [laws_toTermS.l0]
    rw [if_neg (by omega), List.append_nil, List.take_of_length_le (by rw [List.length_map]; omega)]
  | succ d ih =>
    intro j k r hj hk hr
    obtain ⟨k, rfl⟩ := succ_of hk
    have hlt : j < xs.length := by omega
    cases r with
    | nil => simp at hr
    | cons y r =>
      simp only [laws_toTermS.l0, laws_toTerm.f]
      have hl : ((xs.map convT).take j).length = j := by rw [List.length_take, List.length_map]; omega
      rw [if_pos (by omega), if_pos (by omega), rd_lterm _ _ hlt, Option.bind_some, if_pos (by simp only [List.length_append, List.length_cons, hl] at *; omega), wrap_succ hlt hn, Int.toNat_natCast]
      have e : ((xs.map convT).take j ++ y :: r).set j (⟨xs[j].f0, xs[j].f1⟩ : S79) = (xs.map convT).take (j + 1) ++ r := by
        have h1 : ((xs.map convT).take j ++ y :: r).set ((xs.map convT).take j).length (convT xs[j]) = ((xs.map convT).take j ++ [convT xs[j]]) ++ r := by simp
        rw [hl] at h1
        rw [show (⟨xs[j].f0, xs[j].f1⟩ : S79) = convT xs[j] from rfl, h1, List.take_succ_eq_append_getElem (by rw [List.length_map]; omega), List.getElem_map]
      rw [e]
      exact ih (j + 1) k r (by omega) (by omega) (by simpa using hr)
theorem laws_toTermS_eq (xs : List S103) (hn : xs.length ≤ 1048576) (k : Nat) (hk : xs.length < k) : laws_toTermS.f k xs = some (xs.map convT) := by
  unfold laws_toTermS.f
  rw [if_pos (by omega), if_pos (by omega)]
  have := laws_toTermS_l0 xs (by omega) xs.length 0 k (List.replicate xs.length z79) (by omega) (by omega) (by simp)
  simpa using this
theorem laws_toSum_eq (c : Int) (xs : List S103) (hn : xs.length ≤ 1048576) (k : Nat) (hk : xs.length < k) : laws_toSum.f k c xs = some (c, xs.map convT) := by
  unfold laws_toSum.f; rw [laws_toTermS_eq xs hn k hk]; rfl

theorem convT_size {B : Int} {xs : List S103} (h : ∀ y ∈ xs, (y.f1.size : Int) ≤ B) : ∀ y ∈ xs.map convT, (y.f1.size : Int) ≤ B := by
  intro y hy
  obtain ⟨z, hz, rfl⟩ := List.mem_map.1 hy
  exact h z hz

theorem laws_eqTerm_eq (a : Int) (s : ByteArray) (b : Int) (t : ByteArray) : laws_eqTerm.f a s b t = some (decide (a = b ∧ s = t)) := by
  unfold laws_eqTerm.f
  by_cases h1 : a = b
  · by_cases h2 : s = t
    · rw [if_pos h1, if_pos ((bytes_eq s t).2 h2)]; simp [h1, h2]
    · rw [if_pos h1, if_neg (fun e => h2 ((bytes_eq s t).1 e))]; simp [h2]
  · rw [if_neg h1]; simp [h1]
theorem laws_eqTermS_l0 (a b : List S79) (hab : a.length = b.length) (hn : a.length ≤ 4611686018427387904) : ∀ (d j k : Nat), j + d = a.length → d < k →
    laws_eqTermS.l0 k a b (j : Int) = some (decide (a.drop j = b.drop j)) := by
  intro d
  induction d with
  | zero =>
    intro j k hj hk
    obtain ⟨k, rfl⟩ := succ_of hk
    simp only [laws_eqTermS.l0]
    rw [if_neg (by omega), List.drop_eq_nil_of_le (by omega), List.drop_eq_nil_of_le (by omega)]; simp
  | succ d ih =>
    intro j k hj hk
    obtain ⟨k, rfl⟩ := succ_of hk
    have hlt : j < a.length := by omega
    simp only [laws_eqTermS.l0]
    rw [if_pos (by omega), if_pos (by omega), if_pos (by omega), rd_term _ _ hlt, rd_term _ _ (by omega), laws_eqTerm_eq, Option.bind_some, wrap_succ hlt hn, ih (j + 1) k (by omega) (by omega), List.drop_eq_getElem_cons hlt, List.drop_eq_getElem_cons (hab ▸ hlt : j < b.length)]
    simp only [List.cons.injEq, term_eq_iff, decide_eq_true_eq]
    by_cases h : a[j].f0 = b[j].f0 ∧ a[j].f1 = b[j].f1
    · rw [if_pos h]; simp only [h, true_and, and_self]
    · rw [if_neg h]; simp only [h, false_and, decide_false]
theorem laws_eqTermS_eq (a b : List S79) (hn : a.length ≤ 1048576) (k : Nat) (hk : 1048577 < k) : laws_eqTermS.f k a b = some (decide (a = b)) := by
  unfold laws_eqTermS.f
  by_cases h : a.length = b.length
  · rw [if_pos (by omega)]
    have := laws_eqTermS_l0 a b h (by omega) a.length 0 k (by omega) (by omega)
    simpa using this
  · rw [if_neg (by omega)]; congr 1; symm; rw [decide_eq_false_iff_not]; intro e; exact h (by rw [e])
theorem laws_eqSum_eq (c : Int) (a : List S79) (d : Int) (b : List S79) (hn : a.length ≤ 1048576) (k : Nat) (hk : 1048577 < k) : laws_eqSum.f k c a d b = some (decide (c = d ∧ a = b)) := by
  unfold laws_eqSum.f
  rw [laws_eqTermS_eq a b hn k hk]
  by_cases h : c = d <;> by_cases h2 : a = b <;> simp [h, h2]

/-- p holds from j on, d times. -/
def allFrom (p : Nat → Bool) (j : Nat) : Nat → Bool
  | 0 => true
  | d + 1 => p j && allFrom p (j + 1) d
theorem allFrom_iff (p : Nat → Bool) : ∀ (d j : Nat), allFrom p j d = true ↔ ∀ i, j ≤ i → i < j + d → p i = true := by
  intro d
  induction d with
  | zero => intro j; simp only [allFrom, true_iff]; intro i h1 h2; omega
  | succ d ih =>
    intro j
    simp only [allFrom, Bool.and_eq_true, ih]
    constructor
    · rintro ⟨h1, h2⟩ i hi1 hi2
      by_cases e : i = j
      · rw [e]; exact h1
      · exact h2 i (by omega) (by omega)
    · intro h
      exact ⟨h j (by omega) (by omega), fun i h1 h2 => h i (by omega) (by omega)⟩

/-- Is s among xs? -/
def bmem (s : ByteArray) : List ByteArray → Bool
  | [] => false
  | x :: xs => decide (x = s) || bmem s xs
theorem bmem_iff (s : ByteArray) : ∀ xs : List ByteArray, bmem s xs = true ↔ s ∈ xs := by
  intro xs
  induction xs with
  | nil => simp [bmem]
  | cons x xs ih => simp only [bmem, Bool.or_eq_true, decide_eq_true_eq, ih, List.mem_cons]; exact or_congr eq_comm Iff.rfl

/-- The five reserved words. -/
def reservedWords : List ByteArray := [⟨#[102, 117, 110]⟩, ⟨#[112, 114, 101]⟩, ⟨#[114, 117, 108, 101]⟩, ⟨#[114, 101, 116, 117, 114, 110]⟩, ⟨#[110, 105, 108]⟩]
def reserved (s : ByteArray) : Bool := bmem s reservedWords

/-- Byte c may stand at place i of a name. -/
def okByte (c : Int) (i : Nat) : Bool := decide ((97 ≤ c ∧ c ≤ 122) ∨ ((48 ≤ c ∧ c ≤ 57) ∧ 0 < i))
def nameShape (s : ByteArray) : Bool := allFrom (fun i => okByte (bt s i) i) 0 s.size
def validName (s : ByteArray) : Bool := nameShape s && decide (1 ≤ s.size) && decide (s.size ≤ 8) && !reserved s
theorem okByte_yes {c : Int} {i : Nat} (h : okByte c i = true) : (97 ≤ c ∧ c ≤ 122) ∨ ((48 ≤ c ∧ c ≤ 57) ∧ 0 < i) := by unfold okByte at h; exact of_decide_eq_true h
theorem okByte_no {c : Int} {i : Nat} (h : okByte c i = false) : ¬ ((97 ≤ c ∧ c ≤ 122) ∨ ((48 ≤ c ∧ c ≤ 57) ∧ 0 < i)) := by unfold okByte at h; exact of_decide_eq_false h

def listName (s : ByteArray) : Bool := validName s && (bt s ((s.size : Int) - 1) == 115)
theorem validName_size {s : ByteArray} (h : validName s = true) : 1 ≤ s.size ∧ s.size ≤ 8 := by
  unfold validName at h
  simp only [Bool.and_eq_true, decide_eq_true_eq] at h
  exact ⟨h.1.1.2, h.1.2⟩

/-- Fits. -/
def fitsB (n : Int) : Bool := decide (-1000000 ≤ n ∧ n ≤ 1000000)
theorem fitsB_iff (n : Int) : fitsB n = true ↔ -1000000 ≤ n ∧ n ≤ 1000000 := by unfold fitsB; exact decide_eq_true_iff
theorem mul_bound {a b A B : Int} (ha : -A ≤ a ∧ a ≤ A) (hb : -B ≤ b ∧ b ≤ B) : -(A * B) ≤ a * b ∧ a * b ≤ A * B := by
  have h : (a * b).natAbs ≤ A.natAbs * B.natAbs := by rw [Int.natAbs_mul]; exact Nat.mul_le_mul (by omega) (by omega)
  have e : (A.natAbs * B.natAbs : Nat) = (A * B).natAbs := by rw [Int.natAbs_mul]
  have hA : 0 ≤ A := by omega
  have hB : 0 ≤ B := by omega
  have : 0 ≤ A * B := Int.mul_nonneg hA hB
  omega
theorem mul_okc_fits {a b : Int} (ha : -1000000000 ≤ a ∧ a ≤ 1000000000) (hb : -1000000 ≤ b ∧ b ≤ 1000000) : -1000000000000000 ≤ a * b ∧ a * b ≤ 1000000000000000 := by
  have := mul_bound (A := 1000000000) (B := 1000000) ha hb; omega
theorem mul_okc {a b : Int} (ha : -1000000000 ≤ a ∧ a ≤ 1000000000) (hb : -1000000000 ≤ b ∧ b ≤ 1000000000) : -1000000000000000000 ≤ a * b ∧ a * b ≤ 1000000000000000000 := by
  have := mul_bound (A := 1000000000) (B := 1000000000) ha hb; omega

/-- A term is valid. -/
def termOk (t : S79) : Bool := decide (t.f0 ≠ 0) && (fitsB t.f0 && (validName t.f1 && !listName t.f1))
/-- Is the earlier name, if there is one, ahead of this one? -/
def aheadOf (p : Option ByteArray) (s : ByteArray) : Bool := match p with
  | none => true
  | some q => Op.bytesLess q.toList s.toList
def termsOk : Option ByteArray → List S79 → Bool
  | _, [] => true
  | p, t :: ts => termOk t && (aheadOf p t.f1 && termsOk (some t.f1) ts)
/-- IsValidSum. -/
def validSum (c : Int) (ts : List S79) : Bool := fitsB c && (decide (ts.length ≤ 4) && termsOk none ts)
def before (ts : List S79) (j : Nat) : Option ByteArray := if j = 0 then none else some (rd_T79 ts ((j : Int) - 1)).f1
theorem before_succ (ts : List S79) (j : Nat) (h : j < ts.length) : before ts (j + 1) = some ts[j].f1 := by
  unfold before
  rw [if_neg (by omega), show (((j + 1 : Nat) : Int) - 1) = (j : Int) by omega, rd_term _ _ h]

theorem spec_l2Shape_l0 (s : ByteArray) (hn : s.size ≤ 4611686018427387904) : ∀ (d j k : Nat), j + d = s.size → d < k →
    spec_l2Shape.l0 k s (j : Int) = some (allFrom (fun i => okByte (bt s i) i) j d && decide (0 < s.size)) := by
  intro d
  induction d with
  | zero =>
    intro j k hj hk
    obtain ⟨k, rfl⟩ := succ_of hk
    simp only [spec_l2Shape.l0, allFrom]
    rw [if_neg (by omega), Bool.true_and]; congr 1; rw [decide_eq_decide]; omega
  | succ d ih =>
    intro j k hj hk
    obtain ⟨k, rfl⟩ := succ_of hk
    have hlt : j < s.size := by omega
    simp only [spec_l2Shape.l0, allFrom]
    rw [if_pos (by omega), if_pos (by omega), wrap_succ hlt hn, ih (j + 1) k (by omega) (by omega)]
    generalize bt s (j : Int) = c
    cases h : okByte c j with
    | true =>
      have := okByte_yes h
      rw [Bool.true_and]
      repeat' split
      all_goals first | rfl | (exfalso; omega)
    | false =>
      have := okByte_no h
      rw [Bool.false_and, Bool.false_and]
      repeat' split
      all_goals first | rfl | (exfalso; omega)
theorem spec_l2Shape_eq (s : ByteArray) (hn : s.size ≤ 4611686018427387904) (k : Nat) (hk : s.size < k) : spec_l2Shape.f k s = some (nameShape s && decide (1 ≤ s.size)) := by
  unfold spec_l2Shape.f nameShape
  exact spec_l2Shape_l0 s hn s.size 0 k (by omega) hk

theorem rdOf_nat {α : Type} (d : α) (xs : List α) (j : Nat) (h : j < xs.length) : rdOf d xs (j : Int) = xs[j] := by
  unfold rdOf; rw [Int.toNat_natCast, List.getD_eq_getElem?_getD, List.getElem?_eq_getElem h]; rfl
theorem rd_nat (xs : List Int) (j : Nat) (h : j < xs.length) : rd xs (j : Int) = xs[j] := by
  unfold rd; rw [Int.toNat_natCast, List.getD_eq_getElem?_getD, List.getElem?_eq_getElem h]; rfl

theorem spec_l1Has_l0 (xs : List ByteArray) (s : ByteArray) (hn : xs.length ≤ 4611686018427387904) : ∀ (d j k : Nat), j + d = xs.length → d < k →
    spec_l1Has.l0 k xs s (j : Int) = some (bmem s (xs.drop j)) := by
  intro d
  induction d with
  | zero =>
    intro j k hj hk
    obtain ⟨k, rfl⟩ := succ_of hk
    simp only [spec_l1Has.l0]
    rw [if_neg (by omega), List.drop_eq_nil_of_le (by omega)]
    rfl
  | succ d ih =>
    intro j k hj hk
    obtain ⟨k, rfl⟩ := succ_of hk
    have hlt : j < xs.length := by omega
    simp only [spec_l1Has.l0]
    rw [if_pos (by omega), if_pos (by omega), rdOf_nat _ _ _ hlt, wrap_succ hlt hn, ih (j + 1) k (by omega) (by omega), List.drop_eq_getElem_cons hlt]
    by_cases h : xs[j] = s
    · rw [if_pos (by rw [h])]; simp [bmem, h]
    · rw [if_neg (by rw [bytes_eq]; exact h)]; simp [bmem, h]
theorem spec_l1Has_eq (xs : List ByteArray) (s : ByteArray) (hn : xs.length ≤ 4611686018427387904) (k : Nat) (hk : xs.length < k) :
    spec_l1Has.f k xs s = some (bmem s xs) := by
  unfold spec_l1Has.f
  have := spec_l1Has_l0 xs s hn xs.length 0 k (by omega) hk
  simpa using this

theorem spec_IsReserved_eq (s : ByteArray) (k : Nat) (hk : 5 < k) : spec_IsReserved.f k s = some (reserved s) := by
  unfold spec_IsReserved.f spec_l2Reserved.f
  rw [Option.bind_some, spec_l1Has_eq _ _ (by simp) k (by simpa using hk)]
  rfl

theorem spec_IsValidName_eq (s : ByteArray) (hn : s.size ≤ 4611686018427387904) (k : Nat) (hk : s.size + 5 < k) : spec_IsValidName.f k s = some (validName s) := by
  unfold spec_IsValidName.f validName
  rw [spec_l2Shape_eq s hn k (by omega), Option.bind_some, spec_IsReserved_eq s k (by omega), Option.bind_some]
  cases h1 : nameShape s <;> by_cases h2 : 1 ≤ s.size <;> by_cases h3 : s.size ≤ 8 <;> simp [h2, h3] <;> (intros; omega)

theorem spec_IsListName_eq (s : ByteArray) (hn : s.size ≤ 4611686018427387904) (k : Nat) (hk : s.size + 5 < k) : spec_IsListName.f k s = some (listName s) := by
  unfold spec_IsListName.f listName
  rw [spec_IsValidName_eq s hn k hk, Option.bind_some]
  cases h : validName s with
  | false => simp
  | true =>
    have := validName_size h
    rw [if_pos rfl, wrap_id (by omega) (by omega), if_pos (by omega), if_pos (by omega)]; simp

theorem spec_l1In_eq (a b c : Int) : spec_l1In.f a b c = some (decide (b ≤ a ∧ a ≤ c)) := by
  unfold spec_l1In.f
  by_cases h : a ≥ b
  · rw [if_pos h]; congr 1; rw [decide_eq_decide]; omega
  · rw [if_neg h]; congr 1; symm; rw [decide_eq_false_iff_not]; omega

theorem spec_Fits_eq (n : Int) : spec_Fits.f n = some (fitsB n) := by unfold spec_Fits.f; rw [spec_l1In_eq]; rfl

theorem spec_IsValidSum_l0 (c : Int) (ts : List S79) (hn : ts.length ≤ 4611686018427387904) (hx : ∀ t ∈ ts, t.f1.size ≤ 1048576) : ∀ (d j k : Nat), j + d = ts.length → d + 1048600 < k →
    spec_IsValidSum.l0 k (j : Int) c ts = some (termsOk (before ts j) (ts.drop j) && (fitsB c && decide (ts.length ≤ 4))) := by
  intro d
  induction d with
  | zero =>
    intro j k hj hk
    obtain ⟨k, rfl⟩ := succ_of hk
    simp only [spec_IsValidSum.l0]
    rw [if_neg (by omega), List.drop_eq_nil_of_le (by omega), spec_Fits_eq, Option.bind_some]
    have e : decide ((ts.length : Int) ≤ 4) = decide (ts.length ≤ 4) := by rw [decide_eq_decide]; omega
    rw [e]
    cases fitsB c <;> simp [termsOk]
  | succ d ih =>
    intro j k hj hk
    obtain ⟨k, rfl⟩ := succ_of hk
    have hlt : j < ts.length := by omega
    have hxj := hx _ (List.getElem_mem hlt)
    simp only [spec_IsValidSum.l0]
    rw [if_pos (by omega), if_pos (by omega), rd_term _ _ hlt, spec_Fits_eq, Option.bind_some, spec_IsValidName_eq _ (by omega) k (by omega), Option.bind_some, spec_IsListName_eq _ (by omega) k (by omega), Option.bind_some, wrap_succ hlt hn, ih (j + 1) k (by omega) (by omega), List.drop_eq_getElem_cons hlt, before_succ _ _ hlt]
    simp only [termsOk, termOk]
    by_cases h0 : ts[j].f0 = 0
    · simp [h0]
    rw [if_neg h0]
    cases h1 : fitsB ts[j].f0
    · simp
    cases h2 : validName ts[j].f1
    · simp
    cases h3 : listName ts[j].f1
    · simp only [if_true, Bool.false_eq_true, if_false]
      by_cases hj0 : j = 0
      · subst hj0
        simp [before, aheadOf, h0]
      · have hb : before ts j = some ts[j - 1].f1 := by
          have := before_succ ts (j - 1) (by omega)
          rwa [show j - 1 + 1 = j by omega] at this
        have hr : rd_T79 ts ((j : Int) - 1) = ts[j - 1] := by
          have := rd_term ts (j - 1) (by omega)
          rwa [show ((j - 1 : Nat) : Int) = (j : Int) - 1 by omega] at this
        rw [if_pos (by omega), wrap_id (by omega) (by omega), if_pos (by omega), if_pos (by omega), hr, hb]
        cases h4 : Op.bytesLess ts[j - 1].f1.toList ts[j].f1.toList <;> simp [aheadOf, h4, h0]
    · simp
theorem spec_IsValidSum_eq (c : Int) (ts : List S79) (hn : ts.length ≤ 1048576) (hx : ∀ t ∈ ts, t.f1.size ≤ 1048576) (k : Nat) (hk : 2097180 < k) : spec_IsValidSum.f k c ts = some (validSum c ts) := by
  unfold spec_IsValidSum.f validSum
  have := spec_IsValidSum_l0 c ts (by omega) hx ts.length 0 k (by omega) (by omega)
  rw [show ((0 : Nat) : Int) = 0 from rfl, List.drop_zero] at this
  rw [this]
  simp only [before, if_true]
  cases termsOk none ts <;> simp

theorem impl_IsReserved_eq (s : ByteArray) : impl_IsReserved.f s = some (reserved s) := by
  unfold impl_IsReserved.f reserved reservedWords
  have h1 := bytes_lit s #[102, 117, 110]
  have h2 := bytes_lit s #[112, 114, 101]
  have h3 := bytes_lit s #[114, 117, 108, 101]
  have h4 := bytes_lit s #[114, 101, 116, 117, 114, 110]
  have h5 := bytes_lit s #[110, 105, 108]
  simp only [] at h1 h2 h3 h4 h5
  simp only [h1, h2, h3, h4, h5, bmem, @eq_comm _ _ s]
  by_cases e1 : s = ⟨#[102, 117, 110]⟩
  · rw [if_pos e1]; simp [e1]
  by_cases e2 : s = ⟨#[112, 114, 101]⟩
  · rw [if_neg e1, if_pos e2]; simp [e2]
  by_cases e3 : s = ⟨#[114, 117, 108, 101]⟩
  · rw [if_neg e1, if_neg e2, if_pos e3]; simp [e3]
  by_cases e4 : s = ⟨#[114, 101, 116, 117, 114, 110]⟩
  · rw [if_neg e1, if_neg e2, if_neg e3, if_pos e4]; simp [e4]
  by_cases e5 : s = ⟨#[110, 105, 108]⟩
  · rw [if_neg e1, if_neg e2, if_neg e3, if_neg e4, if_pos e5]; simp [e5]
  · rw [if_neg e1, if_neg e2, if_neg e3, if_neg e4, if_neg e5]; simp [e1, e2, e3, e4, e5]

theorem impl_within_eq (a b c : Int) : impl_within.f a b c = some (decide (b ≤ a ∧ a ≤ c)) := by
  unfold impl_within.f
  by_cases h : a ≥ b
  · rw [if_pos h]; congr 1; rw [decide_eq_decide]; omega
  · rw [if_neg h]; congr 1; symm; rw [decide_eq_false_iff_not]; omega

theorem impl_IsValidName_l0 (s : ByteArray) (hn : s.size ≤ 4611686018427387904) : ∀ (d j k : Nat), j + d = s.size → d < k →
    impl_IsValidName.l0 k s (j : Int) = some (allFrom (fun i => okByte (bt s i) i) j d) := by
  intro d
  induction d with
  | zero =>
    intro j k hj hk
    obtain ⟨k, rfl⟩ := succ_of hk
    simp only [impl_IsValidName.l0, allFrom]
    rw [if_neg (by omega)]
  | succ d ih =>
    intro j k hj hk
    obtain ⟨k, rfl⟩ := succ_of hk
    have hlt : j < s.size := by omega
    simp only [impl_IsValidName.l0, allFrom]
    rw [if_pos (by omega), if_pos (by omega), wrap_succ hlt hn, ih (j + 1) k (by omega) (by omega)]
    generalize bt s (j : Int) = c
    cases h : okByte c j with
    | true =>
      have := okByte_yes h
      rw [Bool.true_and]
      repeat' split
      all_goals first | rfl | (exfalso; omega)
    | false =>
      have := okByte_no h
      rw [Bool.false_and]
      repeat' split
      all_goals first | rfl | (exfalso; omega)
theorem impl_IsValidName_eq (s : ByteArray) (hn : s.size ≤ 4611686018427387904) (k : Nat) (hk : s.size + 5 < k) : impl_IsValidName.f k s = some (validName s) := by
  unfold impl_IsValidName.f validName
  obtain ⟨k, rfl⟩ := succ_of hk
  rw [impl_within_eq, Option.bind_some, impl_IsReserved_eq, Option.bind_some]
  simp only [impl_IsValidName.j0]
  have hl := impl_IsValidName_l0 s hn s.size 0 k (by omega) (by omega)
  rw [show ((0 : Nat) : Int) = 0 from rfl] at hl
  rw [hl]
  unfold nameShape
  cases h0 : reserved s <;> cases h1 : allFrom (fun i => okByte (bt s i) i) 0 s.size <;> by_cases h2 : 1 ≤ s.size <;> by_cases h3 : s.size ≤ 8 <;> simp [h2, h3] <;> (intros; omega)

theorem impl_IsListName_eq (s : ByteArray) (hn : s.size ≤ 4611686018427387904) (k : Nat) (hk : s.size + 5 < k) : impl_IsListName.f k s = some (listName s) := by
  unfold impl_IsListName.f listName
  rw [impl_IsValidName_eq s hn k hk, Option.bind_some]
  cases h : validName s with
  | false => simp
  | true =>
    have := validName_size h
    rw [if_pos rfl, wrap_id (by omega) (by omega), if_pos (by omega), if_pos (by omega)]; simp

theorem impl_Fits_eq (n : Int) : impl_Fits.f n = some (fitsB n) := by unfold impl_Fits.f; rw [impl_within_eq]; rfl

theorem impl_isIntName_eq (s : ByteArray) (hn : s.size ≤ 4611686018427387904) (k : Nat) (hk : s.size + 5 < k) : impl_isIntName.f k s = some (validName s && !listName s) := by
  unfold impl_isIntName.f
  rw [impl_IsValidName_eq s hn k hk, Option.bind_some, impl_IsListName_eq s hn k hk]
  cases validName s <;> simp
theorem impl_IsValidSum_l0 (c : Int) (ts : List S79) (hn : ts.length ≤ 4611686018427387904) (hx : ∀ t ∈ ts, t.f1.size ≤ 1048576) : ∀ (d j k : Nat), j + d = ts.length → d + 1048600 < k →
    impl_IsValidSum.l0 k ts (ts.length : Int) (j : Int) c ts = some (termsOk (before ts j) (ts.drop j)) := by
  intro d
  induction d with
  | zero =>
    intro j k hj hk
    obtain ⟨k, rfl⟩ := succ_of hk
    simp only [impl_IsValidSum.l0]
    rw [if_neg (by omega), List.drop_eq_nil_of_le (by omega)]
    rfl
  | succ d ih =>
    intro j k hj hk
    obtain ⟨k, rfl⟩ := succ_of hk
    have hlt : j < ts.length := by omega
    have hxj := hx _ (List.getElem_mem hlt)
    simp only [impl_IsValidSum.l0]
    rw [if_pos (by omega), if_pos (by omega), if_pos (by omega), rd_term _ _ hlt, impl_Fits_eq, Option.bind_some, impl_isIntName_eq _ (by omega) k (by omega), Option.bind_some, wrap_succ hlt hn, ih (j + 1) k (by omega) (by omega), List.drop_eq_getElem_cons hlt, before_succ _ _ hlt]
    simp only [termsOk, termOk]
    by_cases h0 : ts[j].f0 = 0
    · simp [h0]
    rw [if_neg h0]
    cases h1 : fitsB ts[j].f0
    · simp
    cases h2 : (validName ts[j].f1 && !listName ts[j].f1)
    · simp
    · simp only [if_true]
      by_cases hj0 : j = 0
      · subst hj0
        simp [before, aheadOf, h0]
      · have hb : before ts j = some ts[j - 1].f1 := by
          have := before_succ ts (j - 1) (by omega)
          rwa [show j - 1 + 1 = j by omega] at this
        have hr : rd_T79 ts ((j : Int) - 1) = ts[j - 1] := by
          have := rd_term ts (j - 1) (by omega)
          rwa [show ((j - 1 : Nat) : Int) = (j : Int) - 1 by omega] at this
        rw [if_pos (by omega), wrap_id (by omega) (by omega), if_pos (by omega), if_pos (by omega), hr, hb]
        cases h4 : Op.bytesLess ts[j - 1].f1.toList ts[j].f1.toList <;> simp [aheadOf, h4, h0]
theorem impl_IsValidSum_eq (c : Int) (ts : List S79) (hn : ts.length ≤ 1048576) (hx : ∀ t ∈ ts, t.f1.size ≤ 1048576) (k : Nat) (hk : 2097180 < k) : impl_IsValidSum.f k c ts = some (validSum c ts) := by
  unfold impl_IsValidSum.f validSum
  rw [impl_Fits_eq, Option.bind_some]
  obtain ⟨k, rfl⟩ := succ_of hk
  simp only [impl_IsValidSum.j0]
  have := impl_IsValidSum_l0 c ts (by omega) hx ts.length 0 k (by omega) (by omega)
  rw [show ((0 : Nat) : Int) = 0 from rfl, List.drop_zero] at this
  rw [this]
  simp only [before, if_true]
  by_cases h : ts.length ≤ 4
  · have h2 : ¬ ((ts.length : Int) > 4) := by omega
    cases fitsB c <;> simp [h, h2]
  · have h2 : (ts.length : Int) > 4 := by omega
    cases fitsB c <;> simp [h, h2]

/-- Bytes as numbers; what stands behind the first of the joined. -/
def toI (L : List UInt8) : List Int := L.map fun b => (b.toNat : Int)
def glue (sep : List UInt8) : List (List UInt8) → List UInt8
  | [] => []
  | x :: xs => sep ++ (x ++ glue sep xs)
theorem toI_append (a b : List UInt8) : toI (a ++ b) = toI a ++ toI b := by simp [toI]
theorem toI_length (a : List UInt8) : (toI a).length = a.length := by simp [toI]
theorem strOf_toI (L : List UInt8) : strOfNums (toI L) = ⟨L.toArray⟩ := by
  unfold strOfNums toI
  rw [List.map_map]
  congr 2
  have : ((fun n : Int => UInt8.ofNat n.toNat) ∘ fun b : UInt8 => (b.toNat : Int)) = id := by
    funext b; simp
  rw [this, List.map_id]
theorem size_len (s : ByteArray) : s.size = s.data.toList.length := by rw [Array.length_toList]; rfl
theorem bytesOf_toI (s : ByteArray) : bytesOf s = toI s.data.toList := rfl
theorem glue_len (sep : List UInt8) (B C : Nat) (hs : sep.length ≤ B) : ∀ xs : List (List UInt8), (∀ x ∈ xs, x.length ≤ C) → (glue sep xs).length ≤ xs.length * (B + C) := by
  intro xs
  induction xs with
  | nil => intro _; simp [glue]
  | cons x xs ih =>
    intro h
    have h1 := h x (by simp)
    have h2 := ih (fun y hy => h y (by simp [hy]))
    simp only [glue, List.length_append, List.length_cons, Nat.succ_mul]; omega
theorem inter_glue (sep : List UInt8) : ∀ xs : List (List UInt8), ∀ x, sep.intercalate (x :: xs) = x ++ glue sep xs := by
  intro xs
  induction xs with
  | nil => intro x; simp [glue, List.intercalate]
  | cons y xs ih =>
    intro x
    have h := ih y
    simp only [List.intercalate, List.intersperse_cons_cons, List.flatten_cons, glue] at h ⊢
    rw [h]

/-- A number's decimal digits; none for 0. -/
def digs (u : Nat) : List UInt8 := if h : u = 0 then [] else digs (u / 10) ++ [UInt8.ofNat (48 + u % 10)]
termination_by u
decreasing_by omega
theorem digs_zero : digs 0 = [] := by rw [digs, dif_pos rfl]
theorem digs_pos {u : Nat} (h : u ≠ 0) : digs u = digs (u / 10) ++ [UInt8.ofNat (48 + u % 10)] := by rw [digs, dif_neg h]
theorem decDigits_digs : ∀ (m u : Nat), u < m → u ≠ 0 → Lib.decDigits u = digs u := by
  intro m
  induction m with
  | zero => intro u h; omega
  | succ m ih =>
    intro u hu h0
    rw [Lib.decDigits, digs_pos h0]
    by_cases h : u < 10
    · rw [dif_pos h, show u / 10 = 0 by omega, digs_zero, show u % 10 = u by omega]; rfl
    · rw [dif_neg h, ih (u / 10) (by omega) (by omega)]
theorem itoa_digs (n : Int) (h : n ≠ 0) : Lib.itoa n = if n < 0 then 45 :: digs n.natAbs else digs n.natAbs := by
  unfold Lib.itoa
  by_cases h0 : n < 0
  · rw [if_pos h0, if_pos h0, decDigits_digs _ _ (Nat.lt_succ_self _) (by omega)]
  · rw [if_neg h0, if_neg h0, decDigits_digs _ _ (Nat.lt_succ_self _) (by omega), show n.toNat = n.natAbs by omega]
theorem itoa_zero : Lib.itoa 0 = [48] := by
  unfold Lib.itoa; rw [if_neg (by omega)]
  show Lib.decDigits 0 = [48]
  rw [Lib.decDigits, dif_pos (by omega)]; rfl
theorem ba_append (a b : List UInt8) : (⟨a.toArray⟩ : ByteArray) ++ ⟨b.toArray⟩ = ⟨(a ++ b).toArray⟩ := by
  apply ByteArray.ext
  simp
theorem ba_size (a : List UInt8) : (⟨a.toArray⟩ : ByteArray).size = a.length := by rw [size_len]
theorem strOne (d : Nat) (hd : d < 10) : strOfNums [((48 + d : Nat) : Int)] = ⟨[UInt8.ofNat (48 + d)].toArray⟩ := by
  unfold strOfNums
  simp only [List.map_cons, List.map_nil, Int.toNat_natCast]
theorem digs_len : ∀ (m u : Nat), u < 10 ^ m → (digs u).length ≤ m := by
  intro m
  induction m with
  | zero => intro u h; rw [show u = 0 by simpa using h, digs_zero]; simp
  | succ m ih =>
    intro u h
    by_cases h0 : u = 0
    · subst h0; rw [digs_zero]; simp
    · rw [digs_pos h0, List.length_append]
      have := ih (u / 10) (by rw [Nat.pow_succ] at h; omega)
      simp only [List.length_singleton]; omega

theorem bt_cell (s : ByteArray) (i : Nat) (h : i < s.data.toList.length) : bt s (i : Int) = ((s.data.toList[i]'h).toNat : Int) := by
  have h' : i < s.size := by rw [size_len]; exact h
  unfold bt
  rw [dif_pos (show ((i : Int).toNat) < s.size by simpa using h')]
  simp only [Int.toNat_natCast]
  congr 1

theorem digitVal_of (d : Nat) (h : d < 10) : Lib.digitVal (UInt8.ofNat (48 + d)) = some d := by
  have e : (UInt8.ofNat (48 + d)).toNat = 48 + d := by rw [UInt8.toNat_ofNat']; omega
  unfold Lib.digitVal
  rw [e, if_pos (by omega)]; congr 1; omega
theorem decFrom_append : ∀ (a : List UInt8) (acc : Nat) (b : List UInt8), Lib.decFrom acc (a ++ b) = (Lib.decFrom acc a).bind fun x => Lib.decFrom x b
  | [], _, _ => rfl
  | c :: a, acc, b => by
    simp only [List.cons_append, Lib.decFrom]
    cases Lib.digitVal c with
    | none => rfl
    | some d => exact decFrom_append a _ b
theorem decFrom_digs : ∀ (m u : Nat), u < m → Lib.decFrom 0 (digs u) = some u := by
  intro m
  induction m with
  | zero => intro u h; omega
  | succ m ih =>
    intro u hu
    by_cases h0 : u = 0
    · subst h0; rw [digs_zero]; rfl
    · rw [digs_pos h0, decFrom_append, ih (u / 10) (by omega), Option.bind_some]
      simp only [Lib.decFrom]
      rw [digitVal_of _ (by omega)]
      show some _ = some _
      congr 1; omega
theorem digs_head {u : Nat} (h : u ≠ 0) : ∃ b r, digs u = b :: r ∧ 48 ≤ b.toNat ∧ b.toNat ≤ 57 := by
  cases e : digs u with
  | nil => rw [digs_pos h] at e; simp at e
  | cons b r =>
    obtain ⟨d, hd⟩ := Lib.digit_of_decFrom (digs u) 0 u (decFrom_digs _ u (Nat.lt_succ_self _)) 0 b (by rw [e]; rfl)
    have := Lib.digitVal_eq hd
    exact ⟨b, r, rfl, this.1, this.2.1⟩
theorem decNat_cons (b : UInt8) (r : List UInt8) : Lib.decNat (b :: r) = Lib.decFrom 0 (b :: r) := rfl
theorem ne_of_toNat {b : UInt8} {n : Nat} (hn : n < 256) (h : b.toNat ≠ n) : (b == UInt8.ofNat n) = false := by
  rw [beq_eq_false_iff_ne]
  intro e; apply h; rw [e, UInt8.toNat_ofNat']; omega
theorem atoi_itoa (n : Int) : Lib.atoi (Lib.itoa n) = some n := by
  by_cases h0 : n = 0
  · subst h0; rw [itoa_zero]; rfl
  · rw [itoa_digs n h0]
    obtain ⟨b, r, e, b0, b1⟩ := digs_head (u := n.natAbs) (by omega)
    have hd := decFrom_digs _ n.natAbs (Nat.lt_succ_self _)
    by_cases hn : n < 0
    · rw [if_pos hn, e]
      rw [e] at hd
      simp only [Lib.atoi]
      rw [if_pos (by rfl), decNat_cons, hd]
      show some (-(n.natAbs : Int)) = some n
      congr 1; omega
    · rw [if_neg hn, e]
      rw [e] at hd
      simp only [Lib.atoi]
      rw [if_neg (by rw [show (45 : UInt8) = UInt8.ofNat 45 from rfl, ne_of_toNat (by omega) (by omega)]; simp), if_neg (by rw [show (43 : UInt8) = UInt8.ofNat 43 from rfl, ne_of_toNat (by omega) (by omega)]; simp), decNat_cons, hd]
      show some (n.natAbs : Int) = some n
      congr 1; omega
theorem digs_len_iff : ∀ (m u : Nat), (digs u).length ≤ m ↔ u < 10 ^ m := by
  intro m
  induction m with
  | zero =>
    intro u
    constructor
    · intro h
      by_cases h0 : u = 0
      · subst h0; simp
      · rw [digs_pos h0] at h; simp at h
    · intro h; rw [show u = 0 by simpa using h, digs_zero]; simp
  | succ m ih =>
    intro u
    by_cases h0 : u = 0
    · subst h0; rw [digs_zero]; simp [Nat.pow_pos]
    · rw [digs_pos h0, List.length_append, List.length_singleton, Nat.pow_succ]
      have := ih (u / 10)
      constructor
      · intro h; have := this.1 (by omega); omega
      · intro h; have := this.2 (by omega); omega
theorem itoa_len_neg {n : Int} (h : n < 0) (m : Nat) : (Lib.itoa n).length ≤ m + 1 ↔ n.natAbs < 10 ^ m := by
  rw [itoa_digs n (by omega), if_pos h, List.length_cons, ← digs_len_iff]; omega
theorem itoa_len_pos {n : Int} (h : 0 ≤ n) (m : Nat) (hm : 1 ≤ m) : (Lib.itoa n).length ≤ m ↔ n.natAbs < 10 ^ m := by
  by_cases h0 : n = 0
  · subst h0; rw [itoa_zero]; simp [Nat.pow_pos]; omega
  · rw [itoa_digs n h0, if_neg (by omega), ← digs_len_iff]
/-- What is read: the number that is written so, if it has at most L digits. -/
def readL (L : Nat) (s : ByteArray) : Int × Bool := match Lib.atoi s.data.toList with
  | none => (0, false)
  | some n => if n.natAbs < 10 ^ L ∧ (⟨(Lib.itoa n).toArray⟩ : ByteArray) = s then (n, true) else (0, false)
theorem readL_none {L : Nat} {s : ByteArray} (h : ∀ n : Int, n.natAbs < 10 ^ L → (⟨(Lib.itoa n).toArray⟩ : ByteArray) = s → False) : readL L s = (0, false) := by
  unfold readL
  cases Lib.atoi s.data.toList with
  | none => rfl
  | some n => exact if_neg (fun x => h n x.1 x.2)
theorem readL_at {L : Nat} {s : ByteArray} {n : Int} (ha : Lib.atoi s.data.toList = some n) (hn : n.natAbs < 10 ^ L) : readL L s = if (⟨(Lib.itoa n).toArray⟩ : ByteArray) = s then (n, true) else (0, false) := by
  unfold readL
  rw [ha]
  by_cases h : (⟨(Lib.itoa n).toArray⟩ : ByteArray) = s
  · rw [if_pos h]; exact if_pos ⟨hn, h⟩
  · rw [if_neg h]; exact if_neg (fun x => h x.2)
theorem data_of {l : List UInt8} {s : ByteArray} (h : (⟨l.toArray⟩ : ByteArray) = s) : s.data.toList = l := by subst h; rfl
theorem text_eq (a b : ByteArray) : a.toList = b.toList ↔ a = b := by
  rw [Lib.toList_data, Lib.toList_data]
  exact ⟨fun h => ByteArray.ext (Array.toList_inj.1 h), fun h => by rw [h]⟩

/-- From -MaxCoeff to MaxCoeff. -/
def okc (n : Int) : Bool := decide (-1000000000 ≤ n ∧ n ≤ 1000000000)
theorem okc_iff (n : Int) : okc n = true ↔ -1000000000 ≤ n ∧ n ≤ 1000000000 := by unfold okc; exact decide_eq_true_iff
theorem okc_false (n : Int) : okc n = false ↔ ¬ (-1000000000 ≤ n ∧ n ≤ 1000000000) := by unfold okc; exact decide_eq_false_iff_not

theorem text_lit (s : ByteArray) (L : List UInt8) : s.toList = L ↔ s = ⟨L.toArray⟩ := by
  have := text_eq s ⟨L.toArray⟩
  rwa [show (⟨L.toArray⟩ : ByteArray).toList = L from by rw [Lib.toList_data]] at this
theorem amt_size {c : Int} (h : -1000000000 ≤ c ∧ c ≤ 1000000000) : (fl_amt c).size ≤ 10 := by
  unfold fl_amt
  rw [ba_size]
  by_cases h0 : c < 0
  · rw [if_pos h0]; exact (itoa_len_pos (by omega) 10 (by omega)).2 (by omega)
  · rw [if_neg h0]; exact (itoa_len_pos (by omega) 10 (by omega)).2 (by omega)
/-- The text behind a term more. -/
def stepV (c : Int) (nm out : ByteArray) : ByteArray := fl_term (decide (c < 0)) (decide (out = ⟨#[]⟩)) (decide (fl_amt c = ⟨#[49]⟩)) (decide (nm ≠ ⟨#[]⟩)) out (fl_amt c) nm
theorem fl_step_eq {c : Int} {nm out : ByteArray} (h : -1000000000 ≤ c ∧ c ≤ 1000000000) (ho : out.size ≤ 100000) (hn : nm.size ≤ 100000) : fl_step c nm out = some (stepV c nm out) := by
  unfold fl_step
  have := amt_size h
  rw [if_pos ⟨by omega, by omega, by omega, by omega⟩]; rfl
theorem stepV_size {c : Int} {nm out : ByteArray} (h : -1000000000 ≤ c ∧ c ≤ 1000000000) : (stepV c nm out).size ≤ out.size + nm.size + 14 := by
  unfold stepV fl_term
  have := amt_size h
  have e0 : (⟨#[]⟩ : ByteArray).size = 0 := rfl
  have e1 : (⟨#[45]⟩ : ByteArray).size = 1 := rfl
  have e2 : (⟨#[32, 45, 32]⟩ : ByteArray).size = 3 := rfl
  have e3 : (⟨#[32, 43, 32]⟩ : ByteArray).size = 3 := rfl
  cases decide (c < 0) <;> cases decide (out = ⟨#[]⟩) <;> cases decide (fl_amt c = ⟨#[49]⟩) <;> cases decide (nm ≠ ⟨#[]⟩) <;> simp only [cond_true, cond_false, Bool.and_true, Bool.and_false, Bool.true_and, Bool.false_and, ByteArray.size_append, e0, e1, e2, e3] <;> omega
def fmtGo (a : Int) : List Int → List ByteArray → ByteArray → ByteArray
  | c :: cs, n :: ns, out => fmtGo a cs ns (if c = 0 then out else stepV c n out)
  | _, _, out => if a = 0 then (if out = ⟨#[]⟩ then stepV a ⟨#[]⟩ out else out) else stepV a ⟨#[]⟩ out
theorem fmtGo_nil (a : Int) (ns : List ByteArray) (out : ByteArray) : fmtGo a [] ns out = if a = 0 then (if out = ⟨#[]⟩ then stepV a ⟨#[]⟩ out else out) else stepV a ⟨#[]⟩ out := by cases ns <;> rfl

/-- Does none of the strings from place j on stand ahead of itself? -/
def distinctFrom (xs : List ByteArray) (j : Nat) : Nat → Bool
  | 0 => true
  | d + 1 => match xs[j]? with
    | some x => !(bmem x (xs.take j)) && distinctFrom xs (j + 1) d
    | none => true

/-- The place of the first s, counted from i on; -1 where there is none. -/
def idxFrom (s : ByteArray) : List ByteArray → Int → Int
  | [], _ => -1
  | x :: xs, i => if x = s then i else idxFrom s xs (i + 1)

theorem slices_Index_l0 (xs : List ByteArray) (s : ByteArray) (hn : xs.length ≤ 4611686018427387904) : ∀ (d j k : Nat), j + d = xs.length → d < k →
    slices_Index_string_string.l0 k xs s (xs.length : Int) (j : Int) = some (idxFrom s (xs.drop j) (j : Int)) := by
  intro d
  induction d with
  | zero =>
    intro j k hj hk
    obtain ⟨k, rfl⟩ := succ_of hk
    simp only [slices_Index_string_string.l0]
    rw [if_neg (by omega), List.drop_eq_nil_of_le (by omega)]; rfl
  | succ d ih =>
    intro j k hj hk
    obtain ⟨k, rfl⟩ := succ_of hk
    have hlt : j < xs.length := by omega
    simp only [slices_Index_string_string.l0]
    rw [if_pos (by omega), if_pos (by omega), if_pos (by omega), rdOf_nat _ _ _ hlt, wrap_succ hlt hn, ih (j + 1) k (by omega) (by omega), List.drop_eq_getElem_cons hlt]
    simp only [idxFrom, bytes_eq]
    by_cases h : s = xs[j]
    · rw [if_pos h, if_pos h.symm]
    · rw [if_neg h, if_neg (fun e => h e.symm)]; rfl
theorem slices_Index_eq (xs : List ByteArray) (s : ByteArray) (hn : xs.length ≤ 4611686018427387904) (k : Nat) (hk : xs.length < k) : slices_Index_string_string.f k xs s = some (idxFrom s xs 0) := by
  unfold slices_Index_string_string.f
  have := slices_Index_l0 xs s hn xs.length 0 k (by omega) hk
  simpa using this

theorem idxFrom_iff (s : ByteArray) : ∀ (xs : List ByteArray) (i : Int), 0 ≤ i → (idxFrom s xs i ≥ 0 ↔ bmem s xs = true) := by
  intro xs
  induction xs with
  | nil => intro i _; simp [idxFrom, bmem]
  | cons x xs ih =>
    intro i hi
    show (if x = s then i else idxFrom s xs (i + 1)) ≥ 0 ↔ (decide (x = s) || bmem s xs) = true
    by_cases h : x = s
    · rw [if_pos h]; simp [h]; omega
    · rw [if_neg h, ih (i + 1) (by omega)]; simp [h]
theorem idxFrom_nonneg (s : ByteArray) (xs : List ByteArray) (i : Int) (hi : 0 ≤ i) : decide (idxFrom s xs i ≥ 0) = bmem s xs := by
  rw [Bool.eq_iff_iff, decide_eq_true_iff]; exact idxFrom_iff s xs i hi
theorem slices_Contains_eq (xs : List ByteArray) (s : ByteArray) (hn : xs.length ≤ 4611686018427387904) (k : Nat) (hk : xs.length < k) : slices_Contains_string_string.f k xs s = some (bmem s xs) := by
  unfold slices_Contains_string_string.f
  rw [slices_Index_eq xs s hn k hk, Option.bind_some, idxFrom_nonneg s xs 0 (by omega)]

theorem impl_AllDistinct_l0 (xs : List ByteArray) (hn : xs.length ≤ 4611686018427387904) : ∀ (d j k : Nat), j + d = xs.length → xs.length + d < k →
    impl_AllDistinct.l0 k xs xs (xs.length : Int) (j : Int) = some (distinctFrom xs j d) := by
  intro d
  induction d with
  | zero =>
    intro j k hj hk
    obtain ⟨k, rfl⟩ := succ_of hk
    simp only [impl_AllDistinct.l0, distinctFrom]
    rw [if_neg (by omega)]
  | succ d ih =>
    intro j k hj hk
    obtain ⟨k, rfl⟩ := succ_of hk
    have hlt : j < xs.length := by omega
    simp only [impl_AllDistinct.l0, distinctFrom, List.getElem?_eq_getElem hlt]
    rw [if_pos (by omega), if_pos (by omega), if_pos (by omega), if_pos (by omega), rdOf_nat _ _ _ hlt, Int.toNat_natCast, slices_Contains_eq _ _ (by rw [List.length_take]; omega) k (by rw [List.length_take]; omega), Option.bind_some, wrap_succ hlt hn, ih (j + 1) k (by omega) (by omega)]
    cases bmem xs[j] (xs.take j) <;> simp
theorem impl_AllDistinct_eq (xs : List ByteArray) (hn : xs.length ≤ 4611686018427387904) (k : Nat) (hk : xs.length + xs.length < k) : impl_AllDistinct.f k xs = some (distinctFrom xs 0 xs.length) := by
  unfold impl_AllDistinct.f
  exact impl_AllDistinct_l0 xs hn xs.length 0 k (by omega) (by omega)

theorem impl_FormatLin_idx (B : Nat) (xs : List ByteArray) (hn : xs.length ≤ 4611686018427387904) (hx : ∀ x ∈ xs, x.size ≤ B) (hB : B ≤ 1048576) : ∀ (d j k : Nat), j + d = xs.length → d + B + 10 < k →
    ∃ i : Int, slices_IndexFunc_string_string__FormatLin_1.l0 k xs (xs.length : Int) (j : Int) = some i ∧ ((0 ≤ i) ↔ ∃ x ∈ xs.drop j, validName x = false) := by
  intro d
  induction d with
  | zero =>
    intro j k hj hk
    obtain ⟨k, rfl⟩ := succ_of hk
    rw [slices_IndexFunc_string_string__FormatLin_1.l0, if_neg (by omega), List.drop_eq_nil_of_le (by omega)]
    exact ⟨-1, rfl, by simp⟩
  | succ d ih =>
    intro j k hj hk
    obtain ⟨k, rfl⟩ := succ_of hk
    have hlt : j < xs.length := by omega
    have hs := hx _ (List.getElem_mem hlt)
    rw [slices_IndexFunc_string_string__FormatLin_1.l0, if_pos (by omega), if_pos (by omega), if_pos (by omega), rdOf_nat _ _ _ hlt, impl_FormatLin_1.f, impl_IsValidName_eq _ (by omega) k (by omega), Option.bind_some, Option.bind_some, List.drop_eq_getElem_cons hlt]
    cases hv : validName xs[j] with
    | false =>
      rw [if_pos (by simp)]
      exact ⟨_, rfl, fun _ => ⟨xs[j], List.mem_cons_self, hv⟩, fun _ => by omega⟩
    | true =>
      rw [if_neg (by simp), wrap_succ hlt hn]
      obtain ⟨i, e, hi⟩ := ih (j + 1) k (by omega) (by omega)
      refine ⟨i, e, hi.trans ⟨fun ⟨x, hx, h⟩ => ⟨x, List.mem_cons_of_mem _ hx, h⟩, fun ⟨x, hx, h⟩ => ?_⟩⟩
      rcases List.mem_cons.1 hx with rfl | hx
      · rw [hv] at h; cases h
      · exact ⟨x, hx, h⟩
def namesOk (ns : List ByteArray) : Bool := ns.all validName && distinctFrom ns 0 ns.length
theorem impl_names (B : Nat) (xs : List ByteArray) (hn : xs.length ≤ 1048576) (hx : ∀ x ∈ xs, x.size ≤ B) (hB : B ≤ 1048576) (k : Nat) (hk : 3000000 < k) :
    slices_ContainsFunc_string_string__FormatLin_1.f k xs () = some (!(xs.all validName)) := by
  unfold slices_ContainsFunc_string_string__FormatLin_1.f slices_IndexFunc_string_string__FormatLin_1.f
  obtain ⟨i, e, hi⟩ := impl_FormatLin_idx B xs (by omega) hx hB xs.length 0 k (by omega) (by omega)
  rw [show ((0 : Nat) : Int) = 0 from rfl] at e
  rw [e, Option.bind_some, List.drop_zero] at *
  congr 1
  rw [Bool.eq_iff_iff, decide_eq_true_iff, Bool.not_eq_true', ← Bool.not_eq_true, List.all_eq_true]
  constructor
  · intro h hall
    obtain ⟨x, hx, hf⟩ := hi.1 h
    rw [hall x hx] at hf; cases hf
  · intro h
    apply hi.2
    apply Classical.byContradiction
    intro hne
    exact h (fun x hx => by
      cases hv : validName x with
      | true => rfl
      | false => exact absurd ⟨x, hx, hv⟩ hne)

/-- IsValidLin. -/
def validLin (c : Int) (cs : List Int) (n : Int) : Bool := decide (0 ≤ n ∧ n ≤ 8) && (decide ((cs.length : Int) = n) && (okc c && cs.all okc))
theorem validLin_iff (c : Int) (cs : List Int) (n : Int) : validLin c cs n = true ↔ (0 ≤ n ∧ n ≤ 8) ∧ (cs.length : Int) = n ∧ okc c = true ∧ ∀ x ∈ cs, okc x = true := by
  unfold validLin; simp only [Bool.and_eq_true, decide_eq_true_eq, List.all_eq_true]
theorem any_not_all {α : Type} (p : α → Bool) (xs : List α) : (!(xs.any fun c => !(p c))) = xs.all p := by
  induction xs with
  | nil => rfl
  | cons x xs ih => simp only [List.any_cons, List.all_cons, Bool.not_or, Bool.not_not, ih]

/-- The place of the first that p takes, counted from i on; -1 where there is none. -/
def firstBy {α : Type} (p : α → Bool) : List α → Int → Int
  | [], _ => -1
  | x :: xs, i => if p x = true then i else firstBy p xs (i + 1)
theorem firstBy_any {α : Type} (p : α → Bool) : ∀ (xs : List α) (i : Int), 0 ≤ i → decide (firstBy p xs i ≥ 0) = xs.any p := by
  intro xs
  induction xs with
  | nil => intro i _; simp [firstBy]
  | cons x xs ih =>
    intro i hi
    simp only [firstBy, List.any_cons]
    by_cases h : p x = true
    · simp [h]; omega
    · have := ih (i + 1) (by omega)
      simp only [Bool.eq_false_iff.mpr h, Bool.false_eq_true, if_false, Bool.false_or]; exact this

theorem impl_coeffOk_eq (n : Int) : impl_coeffOk.f n = some (okc n) := by unfold impl_coeffOk.f; rw [impl_within_eq]; rfl

theorem slices_IndexFunc_int_int__IsValidLin_1_l0 (p : Int → Bool) (hp : ∀ c, impl_IsValidLin_1.f c = some (p c)) (xs : List Int) (hn : xs.length ≤ 4611686018427387904) : ∀ (d j k : Nat), j + d = xs.length → d < k →
    slices_IndexFunc_int_int__IsValidLin_1.l0 k xs (xs.length : Int) (j : Int) = some (firstBy p (xs.drop j) (j : Int)) := by
  intro d
  induction d with
  | zero =>
    intro j k hj hk
    obtain ⟨k, rfl⟩ := succ_of hk
    simp only [slices_IndexFunc_int_int__IsValidLin_1.l0]
    rw [if_neg (by omega), List.drop_eq_nil_of_le (by omega)]; rfl
  | succ d ih =>
    intro j k hj hk
    obtain ⟨k, rfl⟩ := succ_of hk
    have hlt : j < xs.length := by omega
    simp only [slices_IndexFunc_int_int__IsValidLin_1.l0]
    rw [if_pos (by omega), if_pos (by omega), if_pos (by omega), rd_nat _ _ hlt, hp, Option.bind_some, wrap_succ hlt hn, ih (j + 1) k (by omega) (by omega), List.drop_eq_getElem_cons hlt]
    simp only [firstBy]
    split <;> rfl
theorem slices_ContainsFunc_int_int__IsValidLin_1_eq (p : Int → Bool) (hp : ∀ c, impl_IsValidLin_1.f c = some (p c)) (xs : List Int) (hn : xs.length ≤ 4611686018427387904) (k : Nat) (hk : xs.length < k) :
    slices_ContainsFunc_int_int__IsValidLin_1.f k xs () = some (xs.any p) := by
  unfold slices_ContainsFunc_int_int__IsValidLin_1.f slices_IndexFunc_int_int__IsValidLin_1.f
  have := slices_IndexFunc_int_int__IsValidLin_1_l0 p hp xs hn xs.length 0 k (by omega) hk
  rw [show ((0 : Nat) : Int) = 0 from rfl, List.drop_zero] at this
  rw [this, Option.bind_some, firstBy_any p xs 0 (by omega)]
theorem impl_IsValidLin_eq (c : Int) (cs : List Int) (n : Int) (hn : cs.length ≤ 4611686018427387904) (k : Nat) (hk : cs.length < k) : impl_IsValidLin.f k c cs n = some (validLin c cs n) := by
  unfold impl_IsValidLin.f validLin
  rw [impl_within_eq, impl_coeffOk_eq, slices_ContainsFunc_int_int__IsValidLin_1_eq (fun c => !(okc c)) (fun c => by unfold impl_IsValidLin_1.f; rw [impl_coeffOk_eq]; rfl) cs hn k hk]
  simp only [Option.bind_some, any_not_all]
  by_cases h1 : 0 ≤ n ∧ n ≤ 8 <;> by_cases h2 : (cs.length : Int) = n <;> cases h3 : okc c <;> simp [h1, h2]

def fmtLin (a : Int) (cs : List Int) (ns : List ByteArray) : ByteArray := if validLin a cs (ns.length : Int) = true ∧ namesOk ns = true then fmtGo a cs ns ⟨#[]⟩ else ⟨#[]⟩
theorem okc_bounds {c : Int} (h : okc c = true) : -1000000000 ≤ c ∧ c ≤ 1000000000 := by
  unfold okc at h; exact of_decide_eq_true h
theorem valid_parts {a : Int} {cs : List Int} {ns : List ByteArray} (h : validLin a cs (ns.length : Int) = true) : cs.length = ns.length ∧ cs.length ≤ 8 ∧ (-1000000000 ≤ a ∧ a ≤ 1000000000) ∧ ∀ c ∈ cs, -1000000000 ≤ c ∧ c ≤ 1000000000 := by
  obtain ⟨h1, h2, h3, h4⟩ := (validLin_iff _ _ _).1 h
  exact ⟨by omega, by omega, okc_bounds h3, fun c hc => okc_bounds (h4 c hc)⟩
theorem namesOk_size {ns : List ByteArray} (h : namesOk ns = true) : ∀ n ∈ ns, n.size ≤ 8 := by
  unfold namesOk at h
  rw [Bool.and_eq_true, List.all_eq_true] at h
  exact fun n hn => (validName_size (h.1 n hn)).2

theorem spec_FormatInt_end (k : Nat) (b : Bool) (acc : List UInt8) (h : acc.length ≤ 1000) : spec_FormatInt.l0 (k + 1) 0 b ⟨acc.toArray⟩ = some (if b = true then ⟨(45 :: (digs 0 ++ acc)).toArray⟩ else ⟨(digs 0 ++ acc).toArray⟩) := by
  rw [spec_FormatInt.l0, if_pos rfl, digs_zero]
  cases b
  · rw [if_neg (by simp), if_neg (by simp)]; rfl
  · rw [if_pos rfl, if_pos rfl, ba_size, if_pos (by omega), show (⟨#[45]⟩ : ByteArray) = ⟨[45].toArray⟩ from rfl, ba_append]; rfl
theorem spec_FormatInt_l0 (b : Bool) : ∀ (m u k : Nat) (n : Int) (acc : List UInt8), (n = (u : Int) ∨ n = -(u : Int)) → u < 10 ^ m → m < k → acc.length + m ≤ 1000 → u ≤ 9223372036854775808 → -9223372036854775808 ≤ n → n ≤ 9223372036854775807 →
    spec_FormatInt.l0 k n b ⟨acc.toArray⟩ = some (if b = true then ⟨(45 :: (digs u ++ acc)).toArray⟩ else ⟨(digs u ++ acc).toArray⟩) := by
  intro m
  induction m with
  | zero =>
    intro u k n acc hn hu hk ha _ _ _
    obtain ⟨k, rfl⟩ := succ_of hk
    have h0 : u = 0 := by simpa using hu
    subst h0
    have hn0 : n = 0 := by omega
    subst hn0
    exact spec_FormatInt_end k b acc (by omega)
  | succ m ih =>
    intro u k n acc hn hu hk ha hb n0 n1
    obtain ⟨k, rfl⟩ := succ_of hk
    by_cases h0 : u = 0
    · subst h0
      have hn0 : n = 0 := by omega
      subst hn0
      exact spec_FormatInt_end k b acc (by omega)
    · rw [spec_FormatInt.l0, if_neg (by omega)]
      have hd : (Int.tdiv n 10 = ((u / 10 : Nat) : Int) ∨ Int.tdiv n 10 = -((u / 10 : Nat) : Int)) ∧ (Int.tmod n 10 = ((u % 10 : Nat) : Int) ∨ Int.tmod n 10 = -((u % 10 : Nat) : Int)) := by
        rcases hn with rfl | rfl
        · exact ⟨.inl (by rw [Int.ofNat_tdiv]; rfl), .inl (by rw [Int.ofNat_tmod]; rfl)⟩
        · exact ⟨.inr (by rw [Int.neg_tdiv, Int.ofNat_tdiv]; rfl), .inr (by rw [Int.neg_tmod, Int.ofNat_tmod]; rfl)⟩
      obtain ⟨hd, hm⟩ := hd
      have hw : wrap64 (Int.tdiv n 10) = Int.tdiv n 10 := wrap_id (by omega) (by omega)
      have hr : ∀ d : Int, d = ((u % 10 : Nat) : Int) → strOfNums [(wrap64 (48 + d)) % 256] = ⟨[UInt8.ofNat (48 + u % 10)].toArray⟩ := fun d hd => by
        subst hd
        rw [wrap_id (by omega) (by omega), show ((48 : Int) + ((u % 10 : Nat) : Int)) % 256 = ((48 + u % 10 : Nat) : Int) by omega, strOne _ (by omega)]
      have step := ih (u / 10) k (Int.tdiv n 10) (UInt8.ofNat (48 + u % 10) :: acc) hd (by rw [Nat.pow_succ] at hu; omega) (by omega) (by simp only [List.length_cons]; omega) (by omega) (by omega) (by omega)
      have e : digs u ++ acc = digs (u / 10) ++ (UInt8.ofNat (48 + u % 10) :: acc) := by rw [digs_pos h0, List.append_assoc]; rfl
      rw [e]
      by_cases hneg : Int.tmod n 10 < 0
      · rw [if_pos hneg, Option.bind_some, hr _ (by rw [wrap_id (by omega) (by omega)]; omega), ba_size, ba_size, if_pos (by simp only [List.length_singleton]; omega), hw, ba_append]
        exact step
      · rw [if_neg hneg, Option.bind_some, hr _ (by omega), ba_size, ba_size, if_pos (by simp only [List.length_singleton]; omega), hw, ba_append]
        exact step
theorem spec_FormatInt_eq (n : Int) (n0 : -9223372036854775808 ≤ n) (n1 : n ≤ 9223372036854775807) (k : Nat) (hk : 19 < k) : spec_FormatInt.f k n = some ⟨(Lib.itoa n).toArray⟩ := by
  unfold spec_FormatInt.f
  by_cases h : n = 0
  · subst h; rw [if_pos rfl, itoa_zero]
  · rw [if_neg h]
    have := spec_FormatInt_l0 (decide (n < 0)) 19 n.natAbs k n [] (by omega) (by omega) hk (by simp) (by omega) n0 n1
    rw [show (⟨#[]⟩ : ByteArray) = ⟨([] : List UInt8).toArray⟩ from rfl, this, itoa_digs n h, List.append_nil]
    by_cases h0 : n < 0
    · rw [if_pos (decide_eq_true h0), if_pos h0]
    · rw [if_neg (by simpa using h0), if_neg h0]

theorem spec_l5Term_j1 (c : Int) (nm out X : ByteArray) (hX : X.size ≤ 100) (ho : out.size ≤ 100000) (hn : nm.size ≤ 100000) (k : Nat) (hk : 2 < k) :
    spec_l5Term.j1 k out c nm X = some ((bif decide (out = ⟨#[]⟩) then (bif decide (c < 0) then (⟨#[45]⟩ : ByteArray) else out) else bif decide (c < 0) then out ++ (⟨#[32, 45, 32]⟩ : ByteArray) else out ++ (⟨#[32, 43, 32]⟩ : ByteArray)) ++ (X ++ nm)) := by
  obtain ⟨k, rfl⟩ := succ_of hk
  obtain ⟨k, rfl⟩ := succ_of (show 1 < k by omega)
  have e1 : (⟨#[45]⟩ : ByteArray).size = 1 := rfl
  have e2 : (⟨#[32, 45, 32]⟩ : ByteArray).size = 3 := rfl
  have e3 : (⟨#[32, 43, 32]⟩ : ByteArray).size = 3 := rfl
  have eo : out.toList = ([] : List UInt8) ↔ out = ⟨#[]⟩ := text_lit out []
  rw [spec_l5Term.j1]
  by_cases h1 : out = ⟨#[]⟩
  · rw [if_pos (eo.2 h1), spec_l5Term.j2, decide_eq_true h1, cond_true]
    by_cases h2 : c < 0
    · rw [decide_eq_true h2, if_pos rfl, cond_true, if_pos (by omega), if_pos (by rw [ByteArray.size_append, e1]; omega), ByteArray.append_assoc]
    · rw [decide_eq_false h2, if_neg (by simp), cond_false, if_pos (eo.2 h1), if_pos (by omega), h1]
      congr 1
  · rw [if_neg (fun x => h1 (eo.1 x)), spec_l5Term.j2, decide_eq_false h1, cond_false, if_neg (by simp), if_neg (fun x => h1 (eo.1 x))]
    by_cases h2 : c < 0
    · rw [decide_eq_true h2, if_pos h2, cond_true, if_pos (by omega), if_pos (by rw [ByteArray.size_append, e2]; omega), if_pos (by rw [ByteArray.size_append, ByteArray.size_append, e2]; omega), ByteArray.append_assoc]
    · rw [decide_eq_false h2, if_neg h2, cond_false, if_pos (by omega), if_pos (by rw [ByteArray.size_append, e3]; omega), if_pos (by rw [ByteArray.size_append, ByteArray.size_append, e3]; omega), ByteArray.append_assoc]
theorem spec_l5Term_eq (c : Int) (nm out : ByteArray) (hc : -1000000000 ≤ c ∧ c ≤ 1000000000) (ho : out.size ≤ 100000) (hn : nm.size ≤ 100000) (k : Nat) (hk : 30 < k) : spec_l5Term.f k out c nm = some (stepV c nm out) := by
  obtain ⟨k, rfl⟩ := succ_of hk
  have hs : spec_l3Size.f c = some (if c < 0 then -c else c) := by
    unfold spec_l3Size.f
    by_cases h : c < 0
    · rw [if_pos h, if_pos h, wrap_id (by omega) (by omega)]
    · rw [if_neg h, if_neg h]
  have hA := amt_size hc
  unfold spec_l5Term.f
  rw [hs, Option.bind_some, spec_FormatInt_eq _ (by split <;> omega) (by split <;> omega) _ (by omega), Option.bind_some, show (⟨(Lib.itoa (if c < 0 then -c else c)).toArray⟩ : ByteArray) = fl_amt c from rfl]
  unfold stepV fl_term
  generalize fl_amt c = A at hA ⊢
  have ea : A.toList = ([49] : List UInt8) ↔ A = ⟨#[49]⟩ := text_lit A [49]
  have en : nm.toList = ([] : List UInt8) ↔ nm = ⟨#[]⟩ := text_lit nm []
  by_cases h3 : A = ⟨#[49]⟩
  · rw [if_pos (ea.2 h3), decide_eq_true h3, spec_l5Term.j0, Bool.true_and]
    by_cases h4 : nm = ⟨#[]⟩
    · rw [if_neg (by simp [en.2 h4]), spec_l5Term_j1 c nm out A (by omega) ho hn k (by omega), show decide (nm ≠ (⟨#[]⟩ : ByteArray)) = false from decide_eq_false (fun x => x h4), cond_false]
    · rw [if_pos (by simpa using fun x => h4 (en.1 x)), spec_l5Term_j1 c nm out ⟨#[]⟩ (by decide) ho hn k (by omega), show decide (nm ≠ (⟨#[]⟩ : ByteArray)) = true from decide_eq_true h4, cond_true]
  · rw [if_neg (fun x => h3 (ea.1 x)), decide_eq_false h3, spec_l5Term.j0, Bool.false_and, if_neg (by simp), spec_l5Term_j1 c nm out A (by omega) ho hn k (by omega), cond_false]

theorem spec_FormatLin_l0 (a : Int) (ha : -1000000000 ≤ a ∧ a ≤ 1000000000) (cs : List Int) (ns : List ByteArray) (hl : cs.length = ns.length) (h8 : cs.length ≤ 8) (hc : ∀ c ∈ cs, -1000000000 ≤ c ∧ c ≤ 1000000000) (hn : ∀ n ∈ ns, n.size ≤ 8) : ∀ (d j k : Nat) (out : ByteArray), j + d = cs.length → d + 40 < k → out.size ≤ 30 * j →
    spec_FormatLin.l0 k ns out (j : Int) a cs = some (fmtGo a (cs.drop j) (ns.drop j) out) := by
  have eo : ∀ out : ByteArray, out.toList = ([] : List UInt8) ↔ out = ⟨#[]⟩ := fun out => text_lit out []
  intro d
  induction d with
  | zero =>
    intro j k out hj hk ho
    obtain ⟨k, rfl⟩ := succ_of hk
    rw [spec_FormatLin.l0, if_neg (by omega), List.drop_eq_nil_of_le (by omega : cs.length ≤ j), fmtGo_nil, spec_l5Term_eq a ⟨#[]⟩ out ha (by omega) (by decide) k (by omega)]
    simp only [Option.bind_some]
    by_cases h : a = 0
    · rw [if_pos h, if_pos h]
      by_cases h2 : out = ⟨#[]⟩
      · rw [if_pos ((eo out).2 h2), if_pos h2]
      · rw [if_neg (fun x => h2 ((eo out).1 x)), if_neg h2]
    · rw [if_neg h, if_neg h]
  | succ d ih =>
    intro j k out hj hk ho
    obtain ⟨k, rfl⟩ := succ_of hk
    have hlt : j < cs.length := by omega
    have hlt2 : j < ns.length := by omega
    have hcj := hc _ (List.getElem_mem hlt)
    have hnj := hn _ (List.getElem_mem hlt2)
    rw [spec_FormatLin.l0, if_pos (by omega), if_pos (by omega), if_pos (by omega), rd_nat _ _ hlt, List.drop_eq_getElem_cons hlt, List.drop_eq_getElem_cons hlt2]
    by_cases h0 : cs[j] = 0
    · rw [if_pos h0, wrap_succ hlt (by omega), ih (j + 1) k out (by omega) (by omega) (by omega), fmtGo, if_pos h0]
    · rw [if_neg h0, rdOf_nat _ _ _ hlt2, spec_l5Term_eq _ _ _ hcj (by omega) (by omega) k (by omega), Option.bind_some, wrap_succ hlt (by omega), ih (j + 1) k _ (by omega) (by omega) (by have := stepV_size (nm := ns[j]) (out := out) hcj; omega), fmtGo, if_neg h0]

theorem spec_AllDistinct_l0 (xs : List ByteArray) (hn : xs.length ≤ 4611686018427387904) : ∀ (d j k : Nat), j + d = xs.length → xs.length + d < k →
    spec_AllDistinct.l0 k xs (j : Int) = some (distinctFrom xs j d) := by
  intro d
  induction d with
  | zero =>
    intro j k hj hk
    obtain ⟨k, rfl⟩ := succ_of hk
    simp only [spec_AllDistinct.l0, distinctFrom]
    rw [if_neg (by omega)]
  | succ d ih =>
    intro j k hj hk
    obtain ⟨k, rfl⟩ := succ_of hk
    have hlt : j < xs.length := by omega
    simp only [spec_AllDistinct.l0, distinctFrom, List.getElem?_eq_getElem hlt]
    rw [if_pos (by omega), if_pos (by omega), if_pos (by omega), rdOf_nat _ _ _ hlt, Int.toNat_natCast, spec_l1Has_eq _ _ (by rw [List.length_take]; omega) k (by rw [List.length_take]; omega), Option.bind_some, wrap_succ hlt hn, ih (j + 1) k (by omega) (by omega)]
    cases bmem xs[j] (xs.take j) <;> simp
theorem spec_AllDistinct_eq (xs : List ByteArray) (hn : xs.length ≤ 4611686018427387904) (k : Nat) (hk : xs.length + xs.length < k) : spec_AllDistinct.f k xs = some (distinctFrom xs 0 xs.length) := by
  unfold spec_AllDistinct.f
  exact spec_AllDistinct_l0 xs hn xs.length 0 k (by omega) (by omega)

theorem spec_l5Names_l0 (B : Nat) (xs : List ByteArray) (hn : xs.length ≤ 1048576) (hx : ∀ x ∈ xs, x.size ≤ B) (hB : B ≤ 1048576) : ∀ (d j k : Nat), j + d = xs.length → d + 3000000 < k →
    spec_l5Names.l0 k xs (j : Int) = some ((xs.drop j).all validName && distinctFrom xs 0 xs.length) := by
  intro d
  induction d with
  | zero =>
    intro j k hj hk
    obtain ⟨k, rfl⟩ := succ_of hk
    rw [spec_l5Names.l0, if_neg (by omega), spec_AllDistinct_eq xs (by omega) k (by omega), List.drop_eq_nil_of_le (by omega)]; rfl
  | succ d ih =>
    intro j k hj hk
    obtain ⟨k, rfl⟩ := succ_of hk
    have hlt : j < xs.length := by omega
    have hs := hx _ (List.getElem_mem hlt)
    rw [spec_l5Names.l0, if_pos (by omega), if_pos (by omega), rdOf_nat _ _ _ hlt, spec_IsValidName_eq _ (by omega) k (by omega), Option.bind_some, List.drop_eq_getElem_cons hlt, List.all_cons]
    cases hv : validName xs[j] with
    | false => rw [if_neg (by simp)]; rfl
    | true => rw [if_pos rfl, wrap_succ hlt (by omega), ih (j + 1) k (by omega) (by omega), Bool.true_and]

theorem spec_l3In_eq (n : Int) : spec_l3In.f n = some (okc n) := by unfold spec_l3In.f; rw [spec_l1In_eq]; rfl

theorem spec_IsValidLin_l0 (c : Int) (cs : List Int) (n : Int) (hn : cs.length ≤ 4611686018427387904) : ∀ (d j k : Nat), j + d = cs.length → d < k →
    spec_IsValidLin.l0 k n (j : Int) c cs = some ((cs.drop j).all okc && (decide (0 ≤ n ∧ n ≤ 8) && (decide ((cs.length : Int) = n) && okc c))) := by
  intro d
  induction d with
  | zero =>
    intro j k hj hk
    obtain ⟨k, rfl⟩ := succ_of hk
    simp only [spec_IsValidLin.l0]
    rw [if_neg (by omega), List.drop_eq_nil_of_le (by omega), spec_l1In_eq, spec_l3In_eq]
    simp only [Option.bind_some, List.all_nil, Bool.true_and]
    by_cases h1 : 0 ≤ n ∧ n ≤ 8 <;> by_cases h2 : (cs.length : Int) = n <;> simp [h1, h2]
  | succ d ih =>
    intro j k hj hk
    obtain ⟨k, rfl⟩ := succ_of hk
    have hlt : j < cs.length := by omega
    simp only [spec_IsValidLin.l0]
    rw [if_pos (by omega), if_pos (by omega), rd_nat _ _ hlt, spec_l3In_eq, Option.bind_some, wrap_succ hlt hn, ih (j + 1) k (by omega) (by omega), List.drop_eq_getElem_cons hlt, List.all_cons]
    cases okc cs[j] <;> simp
theorem spec_IsValidLin_eq (c : Int) (cs : List Int) (n : Int) (hn : cs.length ≤ 4611686018427387904) (k : Nat) (hk : cs.length < k) : spec_IsValidLin.f k c cs n = some (validLin c cs n) := by
  unfold spec_IsValidLin.f validLin
  have := spec_IsValidLin_l0 c cs n hn cs.length 0 k (by omega) hk
  rw [show ((0 : Nat) : Int) = 0 from rfl, List.drop_zero] at this
  rw [this]
  cases cs.all okc <;> simp

theorem spec_FormatLin_eq (B : Nat) (a : Int) (cs : List Int) (ns : List ByteArray) (hc : cs.length ≤ 1048576) (hn : ns.length ≤ 1048576) (hx : ∀ x ∈ ns, x.size ≤ B) (hB : B ≤ 1048576) (k : Nat) (hk : 5000000 < k) : spec_FormatLin.f k a cs ns = some (fmtLin a cs ns) := by
  unfold spec_FormatLin.f fmtLin
  obtain ⟨k, rfl⟩ := succ_of hk
  rw [spec_IsValidLin_eq a cs _ (by omega) _ (by omega), Option.bind_some]
  by_cases hv : validLin a cs (ns.length : Int) = true
  · have hs : spec_l5Names.f (k + 1) ns = some (namesOk ns) := by
      have := spec_l5Names_l0 B ns hn hx hB ns.length 0 (k + 1) (by omega) (by omega)
      rw [List.drop_zero] at this
      exact this
    rw [if_pos hv, hs, Option.bind_some, spec_FormatLin.j0]
    cases hok : namesOk ns with
    | false => rw [if_pos (by simp), if_neg (fun x => by cases x.2)]
    | true =>
      obtain ⟨h1, h2, h3, h4⟩ := valid_parts hv
      rw [if_neg (by simp), if_pos ⟨hv, rfl⟩]
      have := spec_FormatLin_l0 a h3 cs ns h1 h2 h4 (namesOk_size hok) cs.length 0 k ⟨#[]⟩ (by omega) (by omega) (by decide)
      simpa using this
  · rw [if_neg hv, spec_FormatLin.j0, if_pos rfl, if_neg (fun x => hv x.1)]

theorem impl_FormatLin_l0 (a : Int) (ha : -1000000000 ≤ a ∧ a ≤ 1000000000) (cs : List Int) (ns : List ByteArray) (hl : cs.length = ns.length) (h8 : cs.length ≤ 8) (hc : ∀ c ∈ cs, -1000000000 ≤ c ∧ c ≤ 1000000000) (hn : ∀ n ∈ ns, n.size ≤ 8) : ∀ (d j k : Nat) (out : ByteArray), j + d = cs.length → d < k → out.size ≤ 30 * j →
    impl_FormatLin.l0 k a cs ns out (j : Int) = some (fmtGo a (cs.drop j) (ns.drop j) out) := by
  intro d
  induction d with
  | zero =>
    intro j k out hj hk ho
    obtain ⟨k, rfl⟩ := succ_of hk
    rw [impl_FormatLin.l0, if_neg (by omega), List.drop_eq_nil_of_le (by omega : cs.length ≤ j), fmtGo_nil, fl_step_eq ha (by omega) (by decide)]
    by_cases h : a = 0
    · rw [if_pos h, if_pos h]
      by_cases h2 : out = ⟨#[]⟩
      · rw [if_pos h2, if_pos h2]
      · rw [if_neg h2, if_neg h2]
    · rw [if_neg h, if_neg h]
  | succ d ih =>
    intro j k out hj hk ho
    obtain ⟨k, rfl⟩ := succ_of hk
    have hlt : j < cs.length := by omega
    have hlt2 : j < ns.length := by omega
    have hcj := hc _ (List.getElem_mem hlt)
    have hnj := hn _ (List.getElem_mem hlt2)
    rw [impl_FormatLin.l0, if_pos (by omega), if_pos (by omega), rd_nat _ _ hlt, List.drop_eq_getElem_cons hlt, List.drop_eq_getElem_cons hlt2]
    by_cases h0 : cs[j] = 0
    · rw [if_pos h0, wrap_succ hlt (by omega), ih (j + 1) k out (by omega) (by omega) (by omega), fmtGo, if_pos h0]
    · rw [if_neg h0, if_pos (by omega), rdOf_nat _ _ _ hlt2, fl_step_eq hcj (by omega) (by omega), Option.bind_some, wrap_succ hlt (by omega), ih (j + 1) k _ (by omega) (by omega) (by have := stepV_size (nm := ns[j]) (out := out) hcj; omega), fmtGo, if_neg h0]

theorem impl_FormatLin_eq (B : Nat) (a : Int) (cs : List Int) (ns : List ByteArray) (hc : cs.length ≤ 1048576) (hn : ns.length ≤ 1048576) (hx : ∀ x ∈ ns, x.size ≤ B) (hB : B ≤ 1048576) (k : Nat) (hk : 4000000 < k) : impl_FormatLin.f k a cs ns = some (fmtLin a cs ns) := by
  unfold impl_FormatLin.f fmtLin
  rw [impl_IsValidLin_eq a cs _ (by omega) k (by omega), Option.bind_some]
  by_cases hv : validLin a cs (ns.length : Int) = true
  · rw [if_pos hv, impl_AllDistinct_eq ns (by omega) k (by omega), Option.bind_some]
    by_cases hd : distinctFrom ns 0 ns.length = true
    · rw [if_pos hd, impl_names B ns hn hx hB k (by omega), Option.bind_some]
      by_cases hw : ns.all validName = true
      · have hok : namesOk ns = true := by unfold namesOk; rw [hw, hd]; rfl
        obtain ⟨h1, h2, h3, h4⟩ := valid_parts hv
        rw [hw, if_neg (by simp), if_pos ⟨hv, hok⟩]
        have := impl_FormatLin_l0 a h3 cs ns h1 h2 h4 (namesOk_size hok) cs.length 0 k ⟨#[]⟩ (by omega) (by omega) (by decide)
        simpa using this
      · have hok : ¬ namesOk ns = true := fun h => by unfold namesOk at h; rw [Bool.and_eq_true] at h; exact hw h.1
        rw [Bool.eq_false_iff.2 hw, if_pos (by simp), if_neg (fun x => hok x.2)]
    · have hok : ¬ namesOk ns = true := fun h => by unfold namesOk at h; rw [Bool.and_eq_true] at h; exact hd h.2
      rw [if_neg hd, if_neg (fun x => hok x.2)]
  · rw [if_neg hv, if_neg (fun x => hv x.1)]

theorem spec_l9Names_l0 (c a : Int) (ts : List S79) (hn : ts.length ≤ 1048576) : ∀ (d j k : Nat) (ns : List ByteArray) (cs : List Int), j + d = ts.length → d < k → ns.length ≤ j → cs.length ≤ j →
    spec_l9Names.l0 k ns (j : Int) a ts c cs = some (ns ++ (ts.drop j).map (·.f1), c, cs ++ (ts.drop j).map (·.f0)) := by
  intro d
  induction d with
  | zero =>
    intro j k ns cs hj hk h1 h2
    obtain ⟨k, rfl⟩ := succ_of hk
    rw [spec_l9Names.l0, if_neg (by omega), List.drop_eq_nil_of_le (by omega)]; simp
  | succ d ih =>
    intro j k ns cs hj hk h1 h2
    obtain ⟨k, rfl⟩ := succ_of hk
    have hlt : j < ts.length := by omega
    rw [spec_l9Names.l0, if_pos (by omega), if_pos (by omega), if_pos (by omega), if_pos (by omega), rd_term _ _ hlt, wrap_succ hlt (by omega), ih (j + 1) k _ _ (by omega) (by omega) (by simp; omega) (by simp; omega), List.drop_eq_getElem_cons hlt]
    simp only [List.map_cons, List.append_assoc, List.singleton_append]
theorem impl_FormatSum_l0 (c : Int) (ts : List S79) (hn : ts.length ≤ 1048576) (hx : ∀ t ∈ ts, t.f1.size ≤ 1048576) : ∀ (d j k : Nat) (ns : List ByteArray) (cs : List Int), j + d = ts.length → d + 4000001 < k → ns.length ≤ j → cs.length ≤ j → (∀ n ∈ ns, n.size ≤ 1048576) →
    impl_FormatSum.l0 k ns ts (ts.length : Int) (j : Int) c cs = some (fmtLin c (cs ++ (ts.drop j).map (·.f0)) (ns ++ (ts.drop j).map (·.f1))) := by
  intro d
  induction d with
  | zero =>
    intro j k ns cs hj hk h1 h2 hz
    obtain ⟨k, rfl⟩ := succ_of hk
    rw [impl_FormatSum.l0, if_neg (by omega), List.drop_eq_nil_of_le (by omega), impl_FormatLin_eq 1048576 c cs ns (by omega) (by omega) hz (by omega) k (by omega)]; simp
  | succ d ih =>
    intro j k ns cs hj hk h1 h2 hz
    obtain ⟨k, rfl⟩ := succ_of hk
    have hlt : j < ts.length := by omega
    have hj1 := hx _ (List.getElem_mem hlt)
    rw [impl_FormatSum.l0, if_pos (by omega), if_pos (by omega), if_pos (by omega), Option.bind_some, if_pos (by simp only [List.length_cons, List.length_nil]; omega), Option.bind_some, if_pos (by simp only [List.length_cons, List.length_nil]; omega), rd_term _ _ hlt, wrap_succ hlt (by omega), ih (j + 1) k _ _ (by omega) (by omega) (by simp; omega) (by simp; omega) (fun n hm => by
      rcases List.mem_append.1 hm with hm | hm
      · exact hz n hm
      · rw [List.mem_singleton.1 hm]; exact hj1), List.drop_eq_getElem_cons hlt]
    simp only [List.map_cons, List.append_assoc, List.singleton_append]
/-- FormatSum. -/
def fmtSum (c : Int) (ts : List S79) : ByteArray := if validSum c ts = true then fmtLin c (ts.map (·.f0)) (ts.map (·.f1)) else ⟨#[]⟩
theorem spec_FormatSum_eq (c : Int) (ts : List S79) (hn : ts.length ≤ 1048576) (hx : ∀ t ∈ ts, t.f1.size ≤ 1048576) (k : Nat) (hk : 5100000 < k) : spec_FormatSum.f k c ts = some (fmtSum c ts) := by
  unfold spec_FormatSum.f fmtSum spec_l9Names.f
  rw [spec_IsValidSum_eq c ts hn hx k (by omega), Option.bind_some]
  by_cases h : validSum c ts = true
  · have := spec_l9Names_l0 c c ts hn ts.length 0 k [] [] (by omega) (by omega) (by simp) (by simp)
    rw [show ((0 : Nat) : Int) = 0 from rfl] at this
    rw [if_pos h, if_pos h, this, Option.bind_some]
    simp only [List.drop_zero, List.nil_append]
    rw [spec_FormatLin_eq 1048576 c _ _ (by rw [List.length_map]; exact hn) (by rw [List.length_map]; exact hn) (fun x hm => by obtain ⟨t, ht, rfl⟩ := List.mem_map.1 hm; exact hx t ht) (by omega) k (by omega)]; rfl
  · rw [if_neg h, if_neg h]
theorem impl_FormatSum_eq (c : Int) (ts : List S79) (hn : ts.length ≤ 1048576) (hx : ∀ t ∈ ts, t.f1.size ≤ 1048576) (k : Nat) (hk : 5100000 < k) : impl_FormatSum.f k c ts = some (fmtSum c ts) := by
  unfold impl_FormatSum.f fmtSum
  rw [impl_IsValidSum_eq c ts hn hx k (by omega), Option.bind_some]
  by_cases h : validSum c ts = true
  · have := impl_FormatSum_l0 c ts hn hx ts.length 0 k [] [] (by omega) (by omega) (by simp) (by simp) (by simp)
    rw [show ((0 : Nat) : Int) = 0 from rfl] at this
    rw [if_pos h, if_pos h, this]; simp
  · rw [if_neg h, if_neg h]
theorem FnExactFormatSum : laws_FnExactFormatSum.Pure := by
  intro c xs _ hx
  have px : ∀ y ∈ xs, y.f1.size ≤ 9223372036854775807 := fun y hy => (hx.2 y hy).2
  refine ⟨6000000, ?_⟩
  unfold laws_FnExactFormatSum.f
  rw [laws_szSum_eq c xs _ hx.1 px (by omega) (by omega) _ (by omega), Option.bind_some]
  by_cases z1 : szTerms xs 1048576 < 0
  · rw [if_pos z1]
  obtain ⟨a1, a2, _⟩ := szTerms_len (xs := xs) (l := 1048576) (by omega)
  have c1 : (xs.map convT).length ≤ 1048576 := by rw [List.length_map]; omega
  have c2 : ∀ t ∈ xs.map convT, t.f1.size ≤ 1048576 := fun t h => by have := convT_size a2 t h; omega
  rw [if_neg z1, laws_toSum_eq c xs (by omega) _ (by omega)]; simp only [Option.bind_some]
  rw [spec_FormatSum_eq c _ c1 c2 _ (by omega), impl_FormatSum_eq c _ c1 c2 _ (by omega)]; simp only [Option.bind_some, if_true]
  rw [laws_eqSum_eq _ _ _ _ c1 _ (by omega)]; simp only [Option.bind_some, and_self, decide_true, if_true]

end Go.Proofs.YtmdjhmggogfbdaaDoor.Pure
