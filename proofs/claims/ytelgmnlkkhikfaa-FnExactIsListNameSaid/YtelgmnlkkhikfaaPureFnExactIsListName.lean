/- The program's IsListName returns what the reference's returns, for every string. -/
import Derived.Test.YtelgmnlkkhikfaaPFnExactIsListNamex2
namespace Go.Proofs.Ytelgmnlkkhikfaa.Pure
open Go.RowKit Go.Proofs.Ytelgmnlkkhikfaa.PFnExactIsListName Go.Proofs.YtelgmnlkkhikfaaW.PrintWords Go.Proofs.YtelgmnlkkhikfaaW.PrintLast Go.Proofs.YtelgmnlkkhikfaaW.PrintMore
set_option linter.unusedVariables false
set_option linter.unusedSimpArgs false

/-- p holds from j on, d times. -/
def allFrom (p : Nat → Bool) (j : Nat) : Nat → Bool
  | 0 => true
  | d + 1 => p j && allFrom p (j + 1) d
theorem allFrom_iff (p : Nat → Bool) : ∀ (d j : Nat), allFrom p j d = true ↔ ∀ i, j ≤ i → i < j + d → p i = true := by
  intro d
  induction d with
  | zero => intro j; simp only [allFrom, true_iff]; intro i h1 h2; omega
  | succ d ih =>
    intro j
    simp only [allFrom, Bool.and_eq_true, ih]
    constructor
    · rintro ⟨h1, h2⟩ i hi1 hi2
      by_cases e : i = j
      · rw [e]; exact h1
      · exact h2 i (by omega) (by omega)
    · intro h
      exact ⟨h j (by omega) (by omega), fun i h1 h2 => h i (by omega) (by omega)⟩

instance bytesDec : DecidableEq ByteArray := fun a b => decidable_of_iff (a.data = b.data) ⟨fun h => by cases a; cases b; exact congrArg ByteArray.mk h, fun h => by rw [h]⟩
theorem bytes_eq (a b : ByteArray) : a.toList = b.toList ↔ a = b := by
  rw [ByteArray.toList_eq, ByteArray.toList_eq]
  constructor
  · intro h; cases a; cases b; simp only [ByteArray.mk.injEq] at *; exact Array.toList_inj.mp h
  · intro h; rw [h]
theorem bytes_lit (s : ByteArray) (a : Array UInt8) : s.toList = a.toList ↔ s = ⟨a⟩ := by
  rw [ByteArray.toList_eq]
  constructor
  · intro h; cases s; simp only [ByteArray.mk.injEq] at *; exact Array.toList_inj.mp h
  · intro h; rw [h]

/-- Is s among xs? -/
def bmem (s : ByteArray) : List ByteArray → Bool
  | [] => false
  | x :: xs => decide (x = s) || bmem s xs
theorem bmem_iff (s : ByteArray) : ∀ xs : List ByteArray, bmem s xs = true ↔ s ∈ xs := by
  intro xs
  induction xs with
  | nil => simp [bmem]
  | cons x xs ih => simp only [bmem, Bool.or_eq_true, decide_eq_true_eq, ih, List.mem_cons]; exact or_congr eq_comm Iff.rfl

/-- The five reserved words. -/
def reservedWords : List ByteArray := [⟨#[102, 117, 110]⟩, ⟨#[112, 114, 101]⟩, ⟨#[114, 117, 108, 101]⟩, ⟨#[114, 101, 116, 117, 114, 110]⟩, ⟨#[110, 105, 108]⟩]
def reserved (s : ByteArray) : Bool := bmem s reservedWords

/-- Byte c may stand at place i of a name. -/
def okByte (c : Int) (i : Nat) : Bool := decide ((97 ≤ c ∧ c ≤ 122) ∨ ((48 ≤ c ∧ c ≤ 57) ∧ 0 < i))
def nameShape (s : ByteArray) : Bool := allFrom (fun i => okByte (bt s i) i) 0 s.size
def validName (s : ByteArray) : Bool := nameShape s && decide (1 ≤ s.size) && decide (s.size ≤ 8) && !reserved s
theorem okByte_yes {c : Int} {i : Nat} (h : okByte c i = true) : (97 ≤ c ∧ c ≤ 122) ∨ ((48 ≤ c ∧ c ≤ 57) ∧ 0 < i) := by unfold okByte at h; exact of_decide_eq_true h
theorem okByte_no {c : Int} {i : Nat} (h : okByte c i = false) : ¬ ((97 ≤ c ∧ c ≤ 122) ∨ ((48 ≤ c ∧ c ≤ 57) ∧ 0 < i)) := by unfold okByte at h; exact of_decide_eq_false h

def listName (s : ByteArray) : Bool := validName s && (bt s ((s.size : Int) - 1) == 115)
theorem validName_size {s : ByteArray} (h : validName s = true) : 1 ≤ s.size ∧ s.size ≤ 8 := by
  unfold validName at h
  simp only [Bool.and_eq_true, decide_eq_true_eq] at h
  exact ⟨h.1.1.2, h.1.2⟩

theorem wrap_id {n : Int} (h0 : -9223372036854775808 ≤ n) (h1 : n ≤ 9223372036854775807) : wrap64 n = n := by
  unfold wrap64; omega
theorem wrap_succ {j n : Nat} (h : j < n) (hn : n ≤ 4611686018427387904) : wrap64 ((j : Int) + 1) = ((j + 1 : Nat) : Int) := by
  unfold wrap64; omega
theorem succ_of {d k : Nat} (h : d < k) : ∃ m, k = m + 1 := ⟨k - 1, by omega⟩
theorem lit_int {n : Int} (h : (Lit.int .i64 n).wf = true) : -9223372036854775808 ≤ n ∧ n ≤ 9223372036854775807 := by
  simpa [Lit.wf, IntKind.min, IntKind.max, IntKind.signed, IntKind.bits] using h

theorem spec_l2Shape_l0 (s : ByteArray) (hn : s.size ≤ 4611686018427387904) : ∀ (d j k : Nat), j + d = s.size → d < k →
    spec_l2Shape.l0 k s (j : Int) = some (allFrom (fun i => okByte (bt s i) i) j d && decide (0 < s.size)) := by
  intro d
  induction d with
  | zero =>
    intro j k hj hk
    obtain ⟨k, rfl⟩ := succ_of hk
    simp only [spec_l2Shape.l0, allFrom]
    rw [if_neg (by omega), Bool.true_and]; congr 1; rw [decide_eq_decide]; omega
  | succ d ih =>
    intro j k hj hk
    obtain ⟨k, rfl⟩ := succ_of hk
    have hlt : j < s.size := by omega
    simp only [spec_l2Shape.l0, allFrom]
    rw [if_pos (by omega), if_pos (by omega), wrap_succ hlt hn, ih (j + 1) k (by omega) (by omega)]
    generalize bt s (j : Int) = c
    cases h : okByte c j with
    | true =>
      have := okByte_yes h
      rw [Bool.true_and]
      repeat' split
      all_goals first | rfl | (exfalso; omega)
    | false =>
      have := okByte_no h
      rw [Bool.false_and, Bool.false_and]
      repeat' split
      all_goals first | rfl | (exfalso; omega)
theorem spec_l2Shape_eq (s : ByteArray) (hn : s.size ≤ 4611686018427387904) (k : Nat) (hk : s.size < k) : spec_l2Shape.f k s = some (nameShape s && decide (1 ≤ s.size)) := by
  unfold spec_l2Shape.f nameShape
  exact spec_l2Shape_l0 s hn s.size 0 k (by omega) hk

theorem rdOf_nat {α : Type} (d : α) (xs : List α) (j : Nat) (h : j < xs.length) : rdOf d xs (j : Int) = xs[j] := by
  unfold rdOf; rw [Int.toNat_natCast, List.getD_eq_getElem?_getD, List.getElem?_eq_getElem h]; rfl
theorem rd_nat (xs : List Int) (j : Nat) (h : j < xs.length) : rd xs (j : Int) = xs[j] := by
  unfold rd; rw [Int.toNat_natCast, List.getD_eq_getElem?_getD, List.getElem?_eq_getElem h]; rfl

theorem spec_l1Has_l0 (xs : List ByteArray) (s : ByteArray) (hn : xs.length ≤ 4611686018427387904) : ∀ (d j k : Nat), j + d = xs.length → d < k →
    spec_l1Has.l0 k xs s (j : Int) = some (bmem s (xs.drop j)) := by
  intro d
  induction d with
  | zero =>
    intro j k hj hk
    obtain ⟨k, rfl⟩ := succ_of hk
    simp only [spec_l1Has.l0]
    rw [if_neg (by omega), List.drop_eq_nil_of_le (by omega)]
    rfl
  | succ d ih =>
    intro j k hj hk
    obtain ⟨k, rfl⟩ := succ_of hk
    have hlt : j < xs.length := by omega
    simp only [spec_l1Has.l0]
    rw [if_pos (by omega), if_pos (by omega), rdOf_nat _ _ _ hlt, wrap_succ hlt hn, ih (j + 1) k (by omega) (by omega), List.drop_eq_getElem_cons hlt]
    by_cases h : xs[j] = s
    · rw [if_pos (by rw [h])]; simp [bmem, h]
    · rw [if_neg (by rw [bytes_eq]; exact h)]; simp [bmem, h]
theorem spec_l1Has_eq (xs : List ByteArray) (s : ByteArray) (hn : xs.length ≤ 4611686018427387904) (k : Nat) (hk : xs.length < k) :
    spec_l1Has.f k xs s = some (bmem s xs) := by
  unfold spec_l1Has.f
  have := spec_l1Has_l0 xs s hn xs.length 0 k (by omega) hk
  simpa using this

theorem spec_IsReserved_eq (s : ByteArray) (k : Nat) (hk : 5 < k) : spec_IsReserved.f k s = some (reserved s) := by
  unfold spec_IsReserved.f spec_l2Reserved.f
  rw [Option.bind_some, spec_l1Has_eq _ _ (by simp) k (by simpa using hk)]
  rfl

theorem spec_IsValidName_eq (s : ByteArray) (hn : s.size ≤ 4611686018427387904) (k : Nat) (hk : s.size + 5 < k) : spec_IsValidName.f k s = some (validName s) := by
  unfold spec_IsValidName.f validName
  rw [spec_l2Shape_eq s hn k (by omega), Option.bind_some, spec_IsReserved_eq s k (by omega), Option.bind_some]
  cases h1 : nameShape s <;> by_cases h2 : 1 ≤ s.size <;> by_cases h3 : s.size ≤ 8 <;> simp [h2, h3] <;> (intros; omega)

theorem spec_IsListName_eq (s : ByteArray) (hn : s.size ≤ 4611686018427387904) (k : Nat) (hk : s.size + 5 < k) : spec_IsListName.f k s = some (listName s) := by
  unfold spec_IsListName.f listName
  rw [spec_IsValidName_eq s hn k hk, Option.bind_some]
  cases h : validName s with
  | false => simp
  | true =>
    have := validName_size h
    rw [if_pos rfl, wrap_id (by omega) (by omega), if_pos (by omega), if_pos (by omega)]; simp

theorem impl_IsReserved_eq (s : ByteArray) : impl_IsReserved.f s = some (reserved s) := by
  unfold impl_IsReserved.f reserved reservedWords
  have h1 := bytes_lit s #[102, 117, 110]
  have h2 := bytes_lit s #[112, 114, 101]
  have h3 := bytes_lit s #[114, 117, 108, 101]
  have h4 := bytes_lit s #[114, 101, 116, 117, 114, 110]
  have h5 := bytes_lit s #[110, 105, 108]
  simp only [] at h1 h2 h3 h4 h5
  simp only [h1, h2, h3, h4, h5, bmem, @eq_comm _ _ s]
  by_cases e1 : s = ⟨#[102, 117, 110]⟩
  · rw [if_pos e1]; simp [e1]
  by_cases e2 : s = ⟨#[112, 114, 101]⟩
  · rw [if_neg e1, if_pos e2]; simp [e2]
  by_cases e3 : s = ⟨#[114, 117, 108, 101]⟩
  · rw [if_neg e1, if_neg e2, if_pos e3]; simp [e3]
  by_cases e4 : s = ⟨#[114, 101, 116, 117, 114, 110]⟩
  · rw [if_neg e1, if_neg e2, if_neg e3, if_pos e4]; simp [e4]
  by_cases e5 : s = ⟨#[110, 105, 108]⟩
  · rw [if_neg e1, if_neg e2, if_neg e3, if_neg e4, if_pos e5]; simp [e5]
  · rw [if_neg e1, if_neg e2, if_neg e3, if_neg e4, if_neg e5]; simp [e1, e2, e3, e4, e5]

theorem impl_within_eq (a b c : Int) : impl_within.f a b c = some (decide (b ≤ a ∧ a ≤ c)) := by
  unfold impl_within.f
  by_cases h : a ≥ b
  · rw [if_pos h]; congr 1; rw [decide_eq_decide]; omega
  · rw [if_neg h]; congr 1; symm; rw [decide_eq_false_iff_not]; omega

theorem impl_IsValidName_l0 (s : ByteArray) (hn : s.size ≤ 4611686018427387904) : ∀ (d j k : Nat), j + d = s.size → d < k →
    impl_IsValidName.l0 k s (j : Int) = some (allFrom (fun i => okByte (bt s i) i) j d) := by
  intro d
  induction d with
  | zero =>
    intro j k hj hk
    obtain ⟨k, rfl⟩ := succ_of hk
    simp only [impl_IsValidName.l0, allFrom]
    rw [if_neg (by omega)]
  | succ d ih =>
    intro j k hj hk
    obtain ⟨k, rfl⟩ := succ_of hk
    have hlt : j < s.size := by omega
    simp only [impl_IsValidName.l0, allFrom]
    rw [if_pos (by omega), if_pos (by omega), wrap_succ hlt hn, ih (j + 1) k (by omega) (by omega)]
    generalize bt s (j : Int) = c
    cases h : okByte c j with
    | true =>
      have := okByte_yes h
      rw [Bool.true_and]
      repeat' split
      all_goals first | rfl | (exfalso; omega)
    | false =>
      have := okByte_no h
      rw [Bool.false_and]
      repeat' split
      all_goals first | rfl | (exfalso; omega)
theorem impl_IsValidName_eq (s : ByteArray) (hn : s.size ≤ 4611686018427387904) (k : Nat) (hk : s.size + 5 < k) : impl_IsValidName.f k s = some (validName s) := by
  unfold impl_IsValidName.f validName
  obtain ⟨k, rfl⟩ := succ_of hk
  rw [impl_within_eq, Option.bind_some, impl_IsReserved_eq, Option.bind_some]
  simp only [impl_IsValidName.j0]
  have hl := impl_IsValidName_l0 s hn s.size 0 k (by omega) (by omega)
  rw [show ((0 : Nat) : Int) = 0 from rfl] at hl
  rw [hl]
  unfold nameShape
  cases h0 : reserved s <;> cases h1 : allFrom (fun i => okByte (bt s i) i) 0 s.size <;> by_cases h2 : 1 ≤ s.size <;> by_cases h3 : s.size ≤ 8 <;> simp [h2, h3] <;> (intros; omega)

theorem impl_IsListName_eq (s : ByteArray) (hn : s.size ≤ 4611686018427387904) (k : Nat) (hk : s.size + 5 < k) : impl_IsListName.f k s = some (listName s) := by
  unfold impl_IsListName.f listName
  rw [impl_IsValidName_eq s hn k hk, Option.bind_some]
  cases h : validName s with
  | false => simp
  | true =>
    have := validName_size h
    rw [if_pos rfl, wrap_id (by omega) (by omega), if_pos (by omega), if_pos (by omega)]; simp

theorem FnExactIsListName : laws_FnExactIsListName.Pure := by
  intro s hs
  refine ⟨s.size + 6, ?_⟩
  unfold laws_FnExactIsListName.f
  rw [spec_IsListName_eq s (by omega) _ (by omega), impl_IsListName_eq s (by omega) _ (by omega)]
  split <;> simp

end Go.Proofs.Ytelgmnlkkhikfaa.Pure
