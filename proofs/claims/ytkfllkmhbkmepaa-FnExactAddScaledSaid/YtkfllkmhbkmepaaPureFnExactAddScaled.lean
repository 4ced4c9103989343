/- The program's AddScaled returns what the reference's returns, for all expressions and factors, leaves them as they were, and shares no memory with them. -/
import Derived.Test.YtkfllkmhbkmepaaQFnExactAddScaledx6
namespace Go.Proofs.Ytkfllkmhbkmepaa.Pure
open Go.RowKit Go.Proofs.YtkfllkmhbkmepaaV.PrintWords Go.Proofs.YtkfllkmhbkmepaaV.PrintLast Go.Proofs.YtkfllkmhbkmepaaV.PrintMore Go.Proofs.Ytkfllkmhbkmepaa.QFnExactAddScaled
set_option linter.unusedVariables false
set_option linter.unusedSimpArgs false

theorem wrap_id {n : Int} (h0 : -9223372036854775808 ≤ n) (h1 : n ≤ 9223372036854775807) : wrap64 n = n := by
  unfold wrap64; omega
theorem wrap_succ {j n : Nat} (h : j < n) (hn : n ≤ 4611686018427387904) : wrap64 ((j : Int) + 1) = ((j + 1 : Nat) : Int) := by
  unfold wrap64; omega
theorem succ_of {d k : Nat} (h : d < k) : ∃ m, k = m + 1 := ⟨k - 1, by omega⟩
theorem lit_int {n : Int} (h : (Lit.int .i64 n).wf = true) : -9223372036854775808 ≤ n ∧ n ≤ 9223372036854775807 := by
  simpa [Lit.wf, IntKind.min, IntKind.max, IntKind.signed, IntKind.bits] using h

/-- What is left behind a slice's length; -1 where it is not enough. -/
def szI (n : Nat) (left : Int) : Int := if left - (n : Int) < 0 then -1 else left - (n : Int)
theorem laws_szIntS_eq (xs : List Int) (l : Int) (hn : xs.length ≤ 9223372036854775807) (h0 : 0 ≤ l) (h1 : l ≤ 1048576) : laws_szIntS.f xs l = some (szI xs.length l) := by
  unfold laws_szIntS.f szI
  rw [wrap_id (by omega) (by omega)]
  split <;> rfl
theorem szI_len {n : Nat} {l : Int} (h : 0 ≤ szI n l) : (n : Int) ≤ l ∧ szI n l ≤ l := by
  unfold szI at h ⊢; split at h
  · omega
  · rename_i h0; rw [if_neg h0]; omega
theorem szI_range {n : Nat} {l : Int} (h0 : 0 ≤ l) (h1 : l ≤ 1048576) : szI n l < 0 ∨ (0 ≤ szI n l ∧ szI n l ≤ 1048576) := by
  unfold szI; split <;> omega

theorem laws_szLin_eq (c : Int) (xs : List Int) (l : Int) (hn : xs.length ≤ 9223372036854775807) (h0 : 0 ≤ l) (h1 : l ≤ 1048576) : laws_szLin.f c xs l = some (szI xs.length l) := by
  unfold laws_szLin.f; rw [laws_szIntS_eq xs l hn h0 h1, Option.bind_some]
  unfold szI; split <;> simp_all

theorem rdOf_nat {α : Type} (d : α) (xs : List α) (j : Nat) (h : j < xs.length) : rdOf d xs (j : Int) = xs[j] := by
  unfold rdOf; rw [Int.toNat_natCast, List.getD_eq_getElem?_getD, List.getElem?_eq_getElem h]; rfl
theorem rd_nat (xs : List Int) (j : Nat) (h : j < xs.length) : rd xs (j : Int) = xs[j] := by
  unfold rd; rw [Int.toNat_natCast, List.getD_eq_getElem?_getD, List.getElem?_eq_getElem h]; rfl

theorem set_at_end_int (p : List Int) (x y : Int) (r : List Int) : (p ++ x :: r).set p.length y = (p ++ [y]) ++ r := by simp
theorem laws_toIntS_l0 (xs : List Int) (hn : xs.length ≤ 4611686018427387904) : ∀ (d j k : Nat) (r : List Int), j + d = xs.length → d < k → r.length = d →
    laws_toIntS.l0 k xs (xs.take j ++ r) (j : Int) = some xs := by
  intro d
  induction d with
  | zero =>
    intro j k r hj hk hr
    obtain ⟨k, rfl⟩ := succ_of hk
    have : r = [] := List.length_eq_zero_iff.1 hr
    subst this
    simp only [laws_toIntS.l0]
    rw [if_neg (by omega), List.append_nil, List.take_of_length_le (by omega)]
  | succ d ih =>
    intro j k r hj hk hr
    obtain ⟨k, rfl⟩ := succ_of hk
    have hlt : j < xs.length := by omega
    cases r with
    | nil => simp at hr
    | cons y r =>
      simp only [laws_toIntS.l0]
      have hl : (xs.take j).length = j := by rw [List.length_take]; omega
      rw [if_pos (by omega), if_pos (by omega), if_pos (by simp only [List.length_append, List.length_cons, hl] at *; omega), rd_nat _ _ hlt, wrap_succ hlt hn, Int.toNat_natCast]
      have e : (xs.take j ++ y :: r).set j xs[j] = xs.take (j + 1) ++ r := by
        have := set_at_end_int (xs.take j) y xs[j] r
        rw [hl] at this
        rw [this, List.take_succ_eq_append_getElem hlt]
      rw [e]
      exact ih (j + 1) k r (by omega) (by omega) (by simpa using hr)
theorem laws_toIntS_eq (xs : List Int) (hn : xs.length ≤ 35184372088832) (k : Nat) (hk : xs.length < k) : laws_toIntS.f k xs = some xs := by
  unfold laws_toIntS.f
  rw [if_pos (by omega), if_pos (by omega)]
  have := laws_toIntS_l0 xs (by omega) xs.length 0 k (List.replicate xs.length 0) (by omega) hk (by simp)
  simpa using this

theorem laws_toLin_eq (c : Int) (xs : List Int) (hn : xs.length ≤ 35184372088832) (k : Nat) (hk : xs.length < k) : laws_toLin.f k c xs = some (c, xs) := by
  unfold laws_toLin.f; rw [laws_toIntS_eq xs hn k hk]; rfl

theorem laws_eqIntS_l0 (a b : List Int) (hab : a.length = b.length) (hn : a.length ≤ 4611686018427387904) : ∀ (d j k : Nat), j + d = a.length → d < k →
    laws_eqIntS.l0 k a b (j : Int) = some (decide (a.drop j = b.drop j)) := by
  intro d
  induction d with
  | zero =>
    intro j k hj hk
    obtain ⟨k, rfl⟩ := succ_of hk
    simp only [laws_eqIntS.l0]
    rw [if_neg (by omega), List.drop_eq_nil_of_le (by omega), List.drop_eq_nil_of_le (by omega)]; simp
  | succ d ih =>
    intro j k hj hk
    obtain ⟨k, rfl⟩ := succ_of hk
    have hlt : j < a.length := by omega
    simp only [laws_eqIntS.l0]
    rw [if_pos (by omega), if_pos (by omega), if_pos (by omega), rd_nat _ _ hlt, rd_nat _ _ (by omega), wrap_succ hlt hn, ih (j + 1) k (by omega) (by omega), List.drop_eq_getElem_cons hlt, List.drop_eq_getElem_cons (hab ▸ hlt : j < b.length)]
    simp only [List.cons.injEq]
    by_cases h : a[j] = b[j]
    · rw [if_pos h]; simp only [h, true_and]
    · rw [if_neg h]; simp only [h, false_and, decide_false]
theorem laws_eqIntS_eq (a b : List Int) (hn : a.length ≤ 4611686018427387904) (k : Nat) (hk : a.length < k) : laws_eqIntS.f k a b = some (decide (a = b)) := by
  unfold laws_eqIntS.f
  by_cases h : a.length = b.length
  · rw [if_pos (by omega)]
    have := laws_eqIntS_l0 a b h hn a.length 0 k (by omega) hk
    simpa using this
  · rw [if_neg (by omega)]; congr 1; symm; rw [decide_eq_false_iff_not]; intro e; exact h (by rw [e])

theorem laws_eqLin_eq (c : Int) (a : List Int) (c' : Int) (b : List Int) (hn : a.length ≤ 4611686018427387904) (k : Nat) (hk : a.length < k) : laws_eqLin.f k c a c' b = some (decide (c = c' ∧ a = b)) := by
  unfold laws_eqLin.f
  rw [laws_eqIntS_eq a b hn k hk]
  by_cases h : c = c' <;> by_cases h2 : a = b <;> simp [h, h2]

/-- d numbers from m on. -/
def iota (m : Int) : Nat → List Int
  | 0 => []
  | d + 1 => m :: iota (m + 1) d
theorem iota_length : ∀ (d : Nat) (m : Int), (iota m d).length = d := by
  intro d; induction d with
  | zero => intro m; rfl
  | succ d ih => intro m; simp [iota, ih]
theorem iota_get : ∀ (d j : Nat) (m : Int) (h : j < (iota m d).length), (iota m d)[j] = m + j := by
  intro d; induction d with
  | zero => intro j m h; simp [iota] at h
  | succ d ih =>
    intro j m h
    cases j with
    | zero => simp [iota]
    | succ j => simp only [iota, List.getElem_cons_succ]; rw [ih]; omega

theorem laws_markIntS_l0 : ∀ (d : Nat) (p xs : List Int) (m : Int) (k : Nat), xs.length = d → d < k → 0 ≤ m → m + d ≤ 4611686018427387904 → p.length + d ≤ 4611686018427387904 →
    laws_markIntS.l0 k (p ++ xs) m (p.length : Int) = some (m + d, p ++ iota m d) := by
  intro d
  induction d with
  | zero =>
    intro p xs m k hx hk h0 hm hp
    obtain ⟨k, rfl⟩ := succ_of hk
    have : xs = [] := List.length_eq_zero_iff.1 hx
    subst this
    simp only [laws_markIntS.l0]
    rw [if_neg (by simp)]; simp [iota]
  | succ d ih =>
    intro p xs m k hx hk h0 hm hp
    obtain ⟨k, rfl⟩ := succ_of hk
    cases xs with
    | nil => simp at hx
    | cons x xs =>
      simp only [laws_markIntS.l0]
      rw [if_pos (by simp only [List.length_append, List.length_cons]; omega), if_pos (by omega), wrap_id (by omega) (by omega), wrap_id (by omega) (by omega), Int.toNat_natCast]
      have e : (p ++ x :: xs).set p.length m = (p ++ [m]) ++ xs := by simp
      have := ih (p ++ [m]) xs (m + 1) k (by simpa using hx) (by omega) (by omega) (by omega) (by simp; omega)
      rw [e, show ((p.length : Int) + 1) = ((p ++ [m]).length : Int) by simp, this]
      simp [iota]; omega
theorem laws_markIntS_eq (xs : List Int) (m : Int) (k : Nat) (hk : xs.length < k) (h0 : 0 ≤ m) (hm : m + xs.length ≤ 4611686018427387904) :
    laws_markIntS.f k xs m = some (m + xs.length, iota m xs.length) := by
  unfold laws_markIntS.f
  have := laws_markIntS_l0 xs.length [] xs m k rfl hk h0 hm (by simp; omega)
  simpa using this

theorem laws_markLin_eq (c : Int) (xs : List Int) (m : Int) (k : Nat) (hk : xs.length < k) (h0 : 0 ≤ m) (hm : m + xs.length ≤ 4611686018427387904) :
    laws_markLin.f k c xs m = some (m + xs.length, iota m xs.length) := by
  unfold laws_markLin.f; rw [laws_markIntS_eq xs m k hk h0 hm]; rfl

theorem laws_heldIntS_l0 (m : Int) (n : Nat) (h0 : 0 ≤ m) (hm : m + n ≤ 4611686018427387904) : ∀ (d j k : Nat), j + d = n → d < k →
    laws_heldIntS.l0 k (iota m n) (m + j) (j : Int) = some (m + n) := by
  intro d
  induction d with
  | zero =>
    intro j k hj hk
    obtain ⟨k, rfl⟩ := succ_of hk
    simp only [laws_heldIntS.l0]
    rw [if_neg (by rw [iota_length]; omega)]; congr 1; omega
  | succ d ih =>
    intro j k hj hk
    obtain ⟨k, rfl⟩ := succ_of hk
    simp only [laws_heldIntS.l0]
    rw [if_pos (by rw [iota_length]; omega), if_pos (by omega), rd_nat _ _ (by rw [iota_length]; omega), iota_get, if_pos rfl, wrap_id (by omega) (by omega), wrap_id (by omega) (by omega)]
    have := ih (j + 1) k (by omega) (by omega)
    rw [← this]; congr 1 <;> omega
theorem laws_heldIntS_eq (m : Int) (n : Nat) (k : Nat) (hk : n < k) (h0 : 0 ≤ m) (hm : m + n ≤ 4611686018427387904) : laws_heldIntS.f k (iota m n) m = some (m + n) := by
  unfold laws_heldIntS.f
  have := laws_heldIntS_l0 m n h0 hm n 0 k (by omega) hk
  simpa using this

theorem laws_heldLin_eq (c : Int) (m : Int) (n : Nat) (k : Nat) (hk : n < k) (h0 : 0 ≤ m) (hm : m + n ≤ 4611686018427387904) : laws_heldLin.f k c (iota m n) m = some (m + n) := by
  unfold laws_heldLin.f; rw [laws_heldIntS_eq m n k hk h0 hm]; simp only [Option.bind_some]; rw [if_neg (by omega)]

/-- From -MaxCoeff to MaxCoeff. -/
def okc (n : Int) : Bool := decide (-1000000000 ≤ n ∧ n ≤ 1000000000)
theorem okc_iff (n : Int) : okc n = true ↔ -1000000000 ≤ n ∧ n ≤ 1000000000 := by unfold okc; exact decide_eq_true_iff
theorem okc_false (n : Int) : okc n = false ↔ ¬ (-1000000000 ≤ n ∧ n ≤ 1000000000) := by unfold okc; exact decide_eq_false_iff_not

/-- AddLimited. -/
def addLim (x y : Int) : Int × Bool := if okc x = true then (if okc y = true then (if okc (wrap64 (x + y)) = true then (wrap64 (x + y), true) else (0, false)) else (0, false)) else (0, false)

/-- MulLimited. -/
def mulLim (x y : Int) : Int × Bool := if okc x = true then (if okc y = true then (if okc (wrap64 (x * y)) = true then (wrap64 (x * y), true) else (0, false)) else (0, false)) else (0, false)

/-- Fits. -/
def fitsB (n : Int) : Bool := decide (-1000000 ≤ n ∧ n ≤ 1000000)
theorem fitsB_iff (n : Int) : fitsB n = true ↔ -1000000 ≤ n ∧ n ≤ 1000000 := by unfold fitsB; exact decide_eq_true_iff
theorem mul_bound {a b A B : Int} (ha : -A ≤ a ∧ a ≤ A) (hb : -B ≤ b ∧ b ≤ B) : -(A * B) ≤ a * b ∧ a * b ≤ A * B := by
  have h : (a * b).natAbs ≤ A.natAbs * B.natAbs := by rw [Int.natAbs_mul]; exact Nat.mul_le_mul (by omega) (by omega)
  have e : (A.natAbs * B.natAbs : Nat) = (A * B).natAbs := by rw [Int.natAbs_mul]
  have hA : 0 ≤ A := by omega
  have hB : 0 ≤ B := by omega
  have : 0 ≤ A * B := Int.mul_nonneg hA hB
  omega
theorem mul_okc_fits {a b : Int} (ha : -1000000000 ≤ a ∧ a ≤ 1000000000) (hb : -1000000 ≤ b ∧ b ≤ 1000000) : -1000000000000000 ≤ a * b ∧ a * b ≤ 1000000000000000 := by
  have := mul_bound (A := 1000000000) (B := 1000000) ha hb; omega
theorem mul_okc {a b : Int} (ha : -1000000000 ≤ a ∧ a ≤ 1000000000) (hb : -1000000000 ≤ b ∧ b ≤ 1000000000) : -1000000000000000000 ≤ a * b ∧ a * b ≤ 1000000000000000000 := by
  have := mul_bound (A := 1000000000) (B := 1000000000) ha hb; omega

/-- x + k * y: is it in limits, and its value. -/
def scOk (x k y : Int) : Bool := (mulLim k y).2 && (addLim x (mulLim k y).1).2
def scVal (x k y : Int) : Int := (addLim x (mulLim k y).1).1
def scVal' (x k y : Int) : Int := if (mulLim k y).2 = true then scVal x k y else 0
theorem mulLim_iff (x y : Int) : (mulLim x y).2 = true ↔ okc x = true ∧ okc y = true ∧ okc (x * y) = true := by
  unfold mulLim
  by_cases h1 : okc x = true
  · by_cases h2 : okc y = true
    · have b := mul_okc ((okc_iff _).1 h1) ((okc_iff _).1 h2)
      rw [wrap_id (by omega) (by omega)]
      by_cases h3 : okc (x * y) = true <;> simp [h1, h2, h3]
    · simp [h1, h2]
  · simp [h1]
theorem mulLim_val {x y : Int} (h : (mulLim x y).2 = true) : (mulLim x y).1 = x * y := by
  obtain ⟨h1, h2, h3⟩ := (mulLim_iff x y).1 h
  have b := mul_okc ((okc_iff _).1 h1) ((okc_iff _).1 h2)
  unfold mulLim
  rw [wrap_id (by omega) (by omega), if_pos h1, if_pos h2, if_pos h3]
theorem addLim_iff (x y : Int) : (addLim x y).2 = true ↔ okc x = true ∧ okc y = true ∧ okc (x + y) = true := by
  unfold addLim
  by_cases h1 : okc x = true
  · by_cases h2 : okc y = true
    · have b1 := (okc_iff _).1 h1
      have b2 := (okc_iff _).1 h2
      rw [wrap_id (by omega) (by omega)]
      by_cases h3 : okc (x + y) = true <;> simp [h1, h2, h3]
    · simp [h1, h2]
  · simp [h1]
theorem addLim_val {x y : Int} (h : (addLim x y).2 = true) : (addLim x y).1 = x + y := by
  obtain ⟨h1, h2, h3⟩ := (addLim_iff x y).1 h
  have b1 := (okc_iff _).1 h1
  have b2 := (okc_iff _).1 h2
  unfold addLim
  rw [wrap_id (by omega) (by omega), if_pos h1, if_pos h2, if_pos h3]
theorem scOk_iff (x k y : Int) : scOk x k y = true ↔ (okc k = true ∧ okc y = true ∧ okc (k * y) = true) ∧ (okc x = true ∧ okc (x + k * y) = true) := by
  unfold scOk
  rw [Bool.and_eq_true, mulLim_iff]
  constructor
  · rintro ⟨h1, h2⟩
    rw [mulLim_val ((mulLim_iff _ _).2 h1), addLim_iff] at h2
    exact ⟨h1, h2.1, h2.2.2⟩
  · rintro ⟨h1, h2, h3⟩
    refine ⟨h1, ?_⟩
    rw [mulLim_val ((mulLim_iff _ _).2 h1), addLim_iff]
    exact ⟨h2, h1.2.2, h3⟩
theorem scVal_val {x k y : Int} (h : scOk x k y = true) : scVal x k y = x + k * y := by
  unfold scOk at h
  rw [Bool.and_eq_true] at h
  unfold scVal
  rw [addLim_val h.2, mulLim_val h.1]
theorem scVal'_val {x k y : Int} (h : scOk x k y = true) : scVal' x k y = scVal x k y := by
  unfold scOk at h
  rw [Bool.and_eq_true] at h
  unfold scVal'; rw [if_pos h.1]

/-- IsValidLin. -/
def validLin (c : Int) (cs : List Int) (n : Int) : Bool := decide (0 ≤ n ∧ n ≤ 8) && (decide ((cs.length : Int) = n) && (okc c && cs.all okc))
theorem validLin_iff (c : Int) (cs : List Int) (n : Int) : validLin c cs n = true ↔ (0 ≤ n ∧ n ≤ 8) ∧ (cs.length : Int) = n ∧ okc c = true ∧ ∀ x ∈ cs, okc x = true := by
  unfold validLin; simp only [Bool.and_eq_true, decide_eq_true_eq, List.all_eq_true]
theorem any_not_all {α : Type} (p : α → Bool) (xs : List α) : (!(xs.any fun c => !(p c))) = xs.all p := by
  induction xs with
  | nil => rfl
  | cons x xs ih => simp only [List.any_cons, List.all_cons, Bool.not_or, Bool.not_not, ih]

/-- AddScaled. -/
def okAll (k : Int) : List Int → List Int → Bool
  | x :: xs, y :: ys => scOk x k y && okAll k xs ys
  | _, _ => true
def vals (k : Int) : List Int → List Int → List Int := List.zipWith fun x y => scVal x k y
def vals' (k : Int) : List Int → List Int → List Int := List.zipWith fun x y => scVal' x k y
theorem vals'_vals (k : Int) : ∀ xs ys : List Int, okAll k xs ys = true → vals' k xs ys = vals k xs ys := by
  intro xs
  induction xs with
  | nil => intro ys _; simp [vals, vals']
  | cons x xs ih =>
    intro ys h
    cases ys with
    | nil => simp [vals, vals']
    | cons y ys =>
      simp only [okAll, Bool.and_eq_true] at h
      have := ih ys h.2
      unfold vals vals' at this ⊢
      rw [List.zipWith_cons_cons, List.zipWith_cons_cons, scVal'_val h.1, this]
def addSc (c : Int) (cs : List Int) (k : Int) (d : Int) (ds : List Int) : Int × List Int × Bool :=
  if validLin c cs (cs.length : Int) = true ∧ validLin d ds (cs.length : Int) = true ∧ okc k = true ∧ okAll k cs ds = true ∧ scOk c k d = true then (scVal c k d, vals k cs ds, true) else (0, [], false)
theorem addSc_length (c : Int) (cs : List Int) (k : Int) (d : Int) (ds : List Int) : (addSc c cs k d ds).2.1.length ≤ 8 := by
  unfold addSc
  split
  · rename_i h
    have h1 := (validLin_iff _ _ _).1 h.1
    simp only [vals, List.length_zipWith]; omega
  · simp
theorem drop_zip (f : Int → Int → Int) (xs ys : List Int) (j : Nat) (h1 : j < xs.length) (h2 : j < ys.length) : List.zipWith f (xs.drop j) (ys.drop j) = f xs[j] ys[j] :: List.zipWith f (xs.drop (j + 1)) (ys.drop (j + 1)) := by
  rw [List.drop_eq_getElem_cons h1, List.drop_eq_getElem_cons h2, List.zipWith_cons_cons]
theorem drop_okAll (k : Int) (xs ys : List Int) (j : Nat) (h1 : j < xs.length) (h2 : j < ys.length) : okAll k (xs.drop j) (ys.drop j) = (scOk xs[j] k ys[j] && okAll k (xs.drop (j + 1)) (ys.drop (j + 1))) := by
  rw [List.drop_eq_getElem_cons h1, List.drop_eq_getElem_cons h2]; rfl

theorem spec_l1In_eq (a b c : Int) : spec_l1In.f a b c = some (decide (b ≤ a ∧ a ≤ c)) := by
  unfold spec_l1In.f
  by_cases h : a ≥ b
  · rw [if_pos h]; congr 1; rw [decide_eq_decide]; omega
  · rw [if_neg h]; congr 1; symm; rw [decide_eq_false_iff_not]; omega

theorem spec_l3In_eq (n : Int) : spec_l3In.f n = some (okc n) := by unfold spec_l3In.f; rw [spec_l1In_eq]; rfl

theorem spec_AddLimited_eq (x y : Int) : spec_AddLimited.f x y = some (addLim x y) := by
  unfold spec_AddLimited.f addLim; simp only [spec_l3In_eq, Option.bind_some]; repeat (split <;> try rfl)

theorem spec_MulLimited_eq (x y : Int) : spec_MulLimited.f x y = some (mulLim x y) := by
  unfold spec_MulLimited.f mulLim; simp only [spec_l3In_eq, Option.bind_some]; repeat (split <;> try rfl)

theorem spec_l4Sum_eq (x k y : Int) : spec_l4Sum.f x k y = some (scVal' x k y, scOk x k y) := by
  unfold spec_l4Sum.f scVal' scOk scVal
  rw [spec_MulLimited_eq, Option.bind_some]
  cases h : (mulLim k y).2 with
  | false => simp
  | true => rw [if_pos rfl, if_pos rfl, spec_AddLimited_eq]; simp

theorem spec_IsValidLin_l0 (c : Int) (cs : List Int) (n : Int) (hn : cs.length ≤ 4611686018427387904) : ∀ (d j k : Nat), j + d = cs.length → d < k →
    spec_IsValidLin.l0 k n (j : Int) c cs = some ((cs.drop j).all okc && (decide (0 ≤ n ∧ n ≤ 8) && (decide ((cs.length : Int) = n) && okc c))) := by
  intro d
  induction d with
  | zero =>
    intro j k hj hk
    obtain ⟨k, rfl⟩ := succ_of hk
    simp only [spec_IsValidLin.l0]
    rw [if_neg (by omega), List.drop_eq_nil_of_le (by omega), spec_l1In_eq, spec_l3In_eq]
    simp only [Option.bind_some, List.all_nil, Bool.true_and]
    by_cases h1 : 0 ≤ n ∧ n ≤ 8 <;> by_cases h2 : (cs.length : Int) = n <;> simp [h1, h2]
  | succ d ih =>
    intro j k hj hk
    obtain ⟨k, rfl⟩ := succ_of hk
    have hlt : j < cs.length := by omega
    simp only [spec_IsValidLin.l0]
    rw [if_pos (by omega), if_pos (by omega), rd_nat _ _ hlt, spec_l3In_eq, Option.bind_some, wrap_succ hlt hn, ih (j + 1) k (by omega) (by omega), List.drop_eq_getElem_cons hlt, List.all_cons]
    cases okc cs[j] <;> simp
theorem spec_IsValidLin_eq (c : Int) (cs : List Int) (n : Int) (hn : cs.length ≤ 4611686018427387904) (k : Nat) (hk : cs.length < k) : spec_IsValidLin.f k c cs n = some (validLin c cs n) := by
  unfold spec_IsValidLin.f validLin
  have := spec_IsValidLin_l0 c cs n hn cs.length 0 k (by omega) hk
  rw [show ((0 : Nat) : Int) = 0 from rfl, List.drop_zero] at this
  rw [this]
  cases cs.all okc <;> simp

theorem spec_AddScaled_l0 (kk : Int) (n : Nat) (c : Int) (cs : List Int) (d : Int) (ds : List Int) (oc : Int) (h1 : cs.length = n) (h2 : ds.length = n) (hn : n ≤ 4611686018427387904) : ∀ (e j k : Nat) (p r : List Int) (all : Bool), j + e = n → e < k → p.length = j → r.length = e →
    spec_AddScaled.l0 k kk (n : Int) all (j : Int) c cs d ds oc (p ++ r) = some (if (all && okAll kk (cs.drop j) (ds.drop j)) = true ∧ scOk c kk d = true then (scVal' c kk d, p ++ vals' kk (cs.drop j) (ds.drop j), true) else (0, [], false)) := by
  intro e
  induction e with
  | zero =>
    intro j k p r all hj hk hp hr
    obtain ⟨k, rfl⟩ := succ_of hk
    have : r = [] := List.length_eq_zero_iff.1 hr
    subst this
    simp only [spec_AddScaled.l0]
    rw [if_neg (by omega), spec_l4Sum_eq, Option.bind_some, List.drop_eq_nil_of_le (by omega), List.drop_eq_nil_of_le (by omega)]
    cases all <;> cases scOk c kk d <;> simp [okAll, vals']
  | succ e ih =>
    intro j k p r all hj hk hp hr
    obtain ⟨k, rfl⟩ := succ_of hk
    cases r with
    | nil => simp at hr
    | cons y r =>
      have hj1 : j < cs.length := by omega
      have hj2 : j < ds.length := by omega
      simp only [spec_AddScaled.l0]
      rw [if_pos (by omega), if_pos (by omega), if_pos (by omega), if_pos (by omega), rd_nat _ _ hj1, rd_nat _ _ hj2, spec_l4Sum_eq, Option.bind_some, if_pos (by simp only [List.length_append, List.length_cons]; omega), Option.bind_some, wrap_succ (n := n) (by omega) hn, Int.toNat_natCast]
      have es : (p ++ y :: r).set j (scVal' cs[j] kk ds[j]) = (p ++ [scVal' cs[j] kk ds[j]]) ++ r := by generalize scVal' cs[j] kk ds[j] = z; rw [← hp]; simp
      have hi := ih (j + 1) k (p ++ [scVal' cs[j] kk ds[j]]) r
      have hz : vals' kk (cs.drop j) (ds.drop j) = scVal' cs[j] kk ds[j] :: vals' kk (cs.drop (j + 1)) (ds.drop (j + 1)) := by unfold vals'; exact drop_zip _ _ _ _ hj1 hj2
      rw [es, hi (scOk cs[j] kk ds[j]) (by omega) (by omega) (by simp; omega) (by simpa using hr), hi false (by omega) (by omega) (by simp; omega) (by simpa using hr), drop_okAll _ _ _ _ hj1 hj2, hz]
      cases all <;> simp
theorem spec_AddScaled_eq (c : Int) (cs : List Int) (kk : Int) (d : Int) (ds : List Int) (hn : cs.length ≤ 1048577) (hm : ds.length ≤ 1048577) (k : Nat) (hk : 1048600 < k) : spec_AddScaled.f k c cs kk d ds = some (addSc c cs kk d ds) := by
  unfold spec_AddScaled.f addSc
  rw [spec_IsValidLin_eq c cs _ (by omega) k (by omega), spec_IsValidLin_eq d ds _ (by omega) k (by omega), spec_l3In_eq]
  simp only [Option.bind_some]
  obtain ⟨k, rfl⟩ := succ_of hk
  simp only [spec_AddScaled.j0]
  cases hv : validLin c cs (cs.length : Int) with
  | false => simp
  | true =>
    cases hw : validLin d ds (cs.length : Int) with
    | false => simp
    | true =>
      cases ho : okc kk with
      | false => simp
      | true =>
        have h1 := (validLin_iff _ _ _).1 hv
        have h2 := (validLin_iff _ _ _).1 hw
        have h3 : ((cs.length : Int)).toNat ≤ 35184372088832 := by omega
        have hl := spec_AddScaled_l0 kk cs.length c cs d ds 0 rfl (by omega) (by omega) cs.length 0 k [] (List.replicate cs.length 0) true (by omega) (by omega) rfl (by simp)
        rw [if_pos rfl, if_pos rfl, if_neg (by simp), if_pos (by omega), if_pos h3, Int.toNat_natCast]
        rw [show ((0 : Nat) : Int) = 0 from rfl, List.nil_append, List.drop_zero, List.drop_zero, List.nil_append] at hl
        rw [hl]
        simp only [Bool.true_and, true_and]
        by_cases ha : okAll kk cs ds = true ∧ scOk c kk d = true
        · rw [if_pos ha, if_pos ha, vals'_vals _ _ _ ha.1, scVal'_val ha.2]
        · rw [if_neg ha, if_neg ha]

theorem impl_within_eq (a b c : Int) : impl_within.f a b c = some (decide (b ≤ a ∧ a ≤ c)) := by
  unfold impl_within.f
  by_cases h : a ≥ b
  · rw [if_pos h]; congr 1; rw [decide_eq_decide]; omega
  · rw [if_neg h]; congr 1; symm; rw [decide_eq_false_iff_not]; omega

theorem impl_coeffOk_eq (n : Int) : impl_coeffOk.f n = some (okc n) := by unfold impl_coeffOk.f; rw [impl_within_eq]; rfl

theorem impl_AddLimited_eq (x y : Int) : impl_AddLimited.f x y = some (addLim x y) := by
  unfold impl_AddLimited.f addLim; simp only [impl_coeffOk_eq, Option.bind_some]; repeat (split <;> try rfl)

theorem impl_MulLimited_eq (x y : Int) : impl_MulLimited.f x y = some (mulLim x y) := by
  unfold impl_MulLimited.f mulLim; simp only [impl_coeffOk_eq, Option.bind_some]; repeat (split <;> try rfl)

theorem impl_scaled_eq (x k y : Int) : impl_scaled.f x k y = some (scVal x k y, scOk x k y) := by
  unfold impl_scaled.f scOk scVal
  rw [impl_MulLimited_eq, Option.bind_some, impl_AddLimited_eq, Option.bind_some]
  cases h : (mulLim k y).2 with
  | false => simp
  | true => simp

/-- The place of the first that p takes, counted from i on; -1 where there is none. -/
def firstBy {α : Type} (p : α → Bool) : List α → Int → Int
  | [], _ => -1
  | x :: xs, i => if p x = true then i else firstBy p xs (i + 1)
theorem firstBy_any {α : Type} (p : α → Bool) : ∀ (xs : List α) (i : Int), 0 ≤ i → decide (firstBy p xs i ≥ 0) = xs.any p := by
  intro xs
  induction xs with
  | nil => intro i _; simp [firstBy]
  | cons x xs ih =>
    intro i hi
    simp only [firstBy, List.any_cons]
    by_cases h : p x = true
    · simp [h]; omega
    · have := ih (i + 1) (by omega)
      simp only [Bool.eq_false_iff.mpr h, Bool.false_eq_true, if_false, Bool.false_or]; exact this

theorem slices_IndexFunc_int_int__IsValidLin_1_l0 (p : Int → Bool) (hp : ∀ c, impl_IsValidLin_1.f c = some (p c)) (xs : List Int) (hn : xs.length ≤ 4611686018427387904) : ∀ (d j k : Nat), j + d = xs.length → d < k →
    slices_IndexFunc_int_int__IsValidLin_1.l0 k xs (xs.length : Int) (j : Int) = some (firstBy p (xs.drop j) (j : Int)) := by
  intro d
  induction d with
  | zero =>
    intro j k hj hk
    obtain ⟨k, rfl⟩ := succ_of hk
    simp only [slices_IndexFunc_int_int__IsValidLin_1.l0]
    rw [if_neg (by omega), List.drop_eq_nil_of_le (by omega)]; rfl
  | succ d ih =>
    intro j k hj hk
    obtain ⟨k, rfl⟩ := succ_of hk
    have hlt : j < xs.length := by omega
    simp only [slices_IndexFunc_int_int__IsValidLin_1.l0]
    rw [if_pos (by omega), if_pos (by omega), if_pos (by omega), rd_nat _ _ hlt, hp, Option.bind_some, wrap_succ hlt hn, ih (j + 1) k (by omega) (by omega), List.drop_eq_getElem_cons hlt]
    simp only [firstBy]
    split <;> rfl
theorem slices_ContainsFunc_int_int__IsValidLin_1_eq (p : Int → Bool) (hp : ∀ c, impl_IsValidLin_1.f c = some (p c)) (xs : List Int) (hn : xs.length ≤ 4611686018427387904) (k : Nat) (hk : xs.length < k) :
    slices_ContainsFunc_int_int__IsValidLin_1.f k xs () = some (xs.any p) := by
  unfold slices_ContainsFunc_int_int__IsValidLin_1.f slices_IndexFunc_int_int__IsValidLin_1.f
  have := slices_IndexFunc_int_int__IsValidLin_1_l0 p hp xs hn xs.length 0 k (by omega) hk
  rw [show ((0 : Nat) : Int) = 0 from rfl, List.drop_zero] at this
  rw [this, Option.bind_some, firstBy_any p xs 0 (by omega)]
theorem impl_IsValidLin_eq (c : Int) (cs : List Int) (n : Int) (hn : cs.length ≤ 4611686018427387904) (k : Nat) (hk : cs.length < k) : impl_IsValidLin.f k c cs n = some (validLin c cs n) := by
  unfold impl_IsValidLin.f validLin
  rw [impl_within_eq, impl_coeffOk_eq, slices_ContainsFunc_int_int__IsValidLin_1_eq (fun c => !(okc c)) (fun c => by unfold impl_IsValidLin_1.f; rw [impl_coeffOk_eq]; rfl) cs hn k hk]
  simp only [Option.bind_some, any_not_all]
  by_cases h1 : 0 ≤ n ∧ n ≤ 8 <;> by_cases h2 : (cs.length : Int) = n <;> cases h3 : okc c <;> simp [h1, h2]

/-- ConstLin. -/
def constLin (k n : Int) : Int × List Int := if (0 ≤ n ∧ n ≤ 8) ∧ okc k = true then (k, List.replicate n.toNat 0) else (0, [])

theorem impl_ConstLin_eq (k n : Int) : impl_ConstLin.f k n = some (constLin k n) := by
  unfold impl_ConstLin.f constLin
  rw [impl_within_eq, impl_coeffOk_eq]; simp only [Option.bind_some, decide_eq_true_eq]
  by_cases h : 0 ≤ n ∧ n ≤ 8
  · have h3 : n.toNat ≤ 35184372088832 := by omega
    rw [if_pos h, if_pos h.1, if_pos h3]; cases h2 : okc k
    · rw [if_neg (by simp), if_neg (by simp)]
    · rw [if_pos rfl, if_pos ⟨h, rfl⟩]
  · rw [if_neg h, if_neg (fun e => h e.1)]

theorem impl_AddScaled_l0 (kk : Int) (n : Nat) (c : Int) (cs : List Int) (d : Int) (ds : List Int) (oc : Int) (h1 : cs.length = n) (h2 : ds.length = n) (hn : n ≤ 4611686018427387904) : ∀ (e j k : Nat) (p r : List Int) (all : Bool), j + e = n → e < k → p.length = j → r.length = e →
    impl_AddScaled.l0 k kk all (n : Int) (j : Int) c cs d ds oc (p ++ r) = some (if (all && okAll kk (cs.drop j) (ds.drop j)) = true then (oc, p ++ vals kk (cs.drop j) (ds.drop j), true) else (0, [], false)) := by
  intro e
  induction e with
  | zero =>
    intro j k p r all hj hk hp hr
    obtain ⟨k, rfl⟩ := succ_of hk
    have : r = [] := List.length_eq_zero_iff.1 hr
    subst this
    simp only [impl_AddScaled.l0]
    rw [if_neg (by omega), List.drop_eq_nil_of_le (by omega), List.drop_eq_nil_of_le (by omega)]
    cases all <;> simp [okAll, vals]
  | succ e ih =>
    intro j k p r all hj hk hp hr
    obtain ⟨k, rfl⟩ := succ_of hk
    cases r with
    | nil => simp at hr
    | cons y r =>
      have hj1 : j < cs.length := by omega
      have hj2 : j < ds.length := by omega
      simp only [impl_AddScaled.l0]
      rw [if_pos (by omega), if_pos (by omega), if_pos (by omega), if_pos (by omega), rd_nat _ _ hj1, rd_nat _ _ hj2, impl_scaled_eq, Option.bind_some, if_pos (by simp only [List.length_append, List.length_cons]; omega), Option.bind_some, wrap_succ (n := n) (by omega) hn, Int.toNat_natCast]
      have es : (p ++ y :: r).set j (scVal cs[j] kk ds[j]) = (p ++ [scVal cs[j] kk ds[j]]) ++ r := by generalize scVal cs[j] kk ds[j] = z; rw [← hp]; simp
      have hi := ih (j + 1) k (p ++ [scVal cs[j] kk ds[j]]) r
      have hz : vals kk (cs.drop j) (ds.drop j) = scVal cs[j] kk ds[j] :: vals kk (cs.drop (j + 1)) (ds.drop (j + 1)) := by unfold vals; exact drop_zip _ _ _ _ hj1 hj2
      rw [es, hi (scOk cs[j] kk ds[j]) (by omega) (by omega) (by simp; omega) (by simpa using hr), hi false (by omega) (by omega) (by simp; omega) (by simpa using hr), drop_okAll _ _ _ _ hj1 hj2, hz]
      cases all <;> simp
theorem impl_AddScaled_eq (c : Int) (cs : List Int) (kk : Int) (d : Int) (ds : List Int) (hn : cs.length ≤ 1048577) (hm : ds.length ≤ 1048577) (k : Nat) (hk : 1048600 < k) : impl_AddScaled.f k c cs kk d ds = some (addSc c cs kk d ds) := by
  unfold impl_AddScaled.f addSc
  rw [impl_IsValidLin_eq c cs _ (by omega) k (by omega), impl_IsValidLin_eq d ds _ (by omega) k (by omega), impl_coeffOk_eq]
  simp only [Option.bind_some]
  obtain ⟨k, rfl⟩ := succ_of hk
  simp only [impl_AddScaled.j0]
  cases hv : validLin c cs (cs.length : Int) with
  | false => simp
  | true =>
    cases hw : validLin d ds (cs.length : Int) with
    | false => simp
    | true =>
      cases ho : okc kk with
      | false => simp
      | true =>
        have h1 := (validLin_iff _ _ _).1 hv
        have h2 := (validLin_iff _ _ _).1 hw
        have hc : constLin 0 (cs.length : Int) = (0, List.replicate cs.length 0) := by unfold constLin; rw [if_pos ⟨h1.1, by rw [okc_iff]; omega⟩, Int.toNat_natCast]
        have hl := impl_AddScaled_l0 kk cs.length c cs d ds (scVal c kk d) rfl (by omega) (by omega) cs.length 0 k [] (List.replicate cs.length 0) (scOk c kk d) (by omega) (by omega) rfl (by simp)
        rw [show ((0 : Nat) : Int) = 0 from rfl, List.nil_append, List.drop_zero, List.drop_zero, List.nil_append] at hl
        rw [if_pos rfl, if_pos rfl, if_neg (by simp), impl_ConstLin_eq, Option.bind_some, hc, impl_scaled_eq, Option.bind_some, hl]
        simp only [true_and]
        cases scOk c kk d <;> cases okAll kk cs ds <;> simp

theorem FnExactAddScaled : laws_FnExactAddScaled.Pure := by
  intro c cs kk d ds _ hc _ _ hd
  refine ⟨3000000, ?_⟩
  unfold laws_FnExactAddScaled.f
  rw [laws_szLin_eq c cs _ hc.1 (by omega) (by omega), Option.bind_some]
  split
  · rfl
  have h1 := szI_len (n := cs.length) (l := 1048576) (by omega)
  rw [laws_szLin_eq d ds _ hd.1 (by omega) (by omega), Option.bind_some]
  split
  · rfl
  have h2 := szI_len (n := ds.length) (l := szI cs.length 1048576) (by omega)
  have hl := addSc_length c cs kk d ds
  rw [laws_toLin_eq c cs (by omega) _ (by omega), laws_toLin_eq d ds (by omega) _ (by omega)]; simp only [Option.bind_some]
  rw [spec_AddScaled_eq c cs kk d ds (by omega) (by omega) _ (by omega), impl_AddScaled_eq c cs kk d ds (by omega) (by omega) _ (by omega)]; simp only [Option.bind_some]
  rw [laws_eqLin_eq _ _ _ _ (by omega) _ (by omega)]; simp only [Option.bind_some, and_self, decide_true, if_true]
  simp only [bne_self_eq_false, laws_FnExactAddScaled.j0, Bool.false_eq_true, if_false]
  rw [laws_toLin_eq c cs (by omega) _ (by omega), laws_toLin_eq d ds (by omega) _ (by omega)]; simp only [Option.bind_some]
  rw [laws_eqLin_eq c cs c cs (by omega) _ (by omega), laws_eqLin_eq d ds d ds (by omega) _ (by omega)]; simp only [Option.bind_some, and_self, decide_true, if_true]
  rw [laws_markLin_eq c cs _ _ (by omega) (by omega) (by omega)]; simp only [Option.bind_some]
  rw [laws_markLin_eq d ds _ _ (by omega) (by omega) (by omega)]; simp only [Option.bind_some]
  rw [if_neg (by omega), laws_eqLin_eq _ _ _ _ (by omega) _ (by omega)]; simp only [Option.bind_some, and_self, decide_true, if_true]
  simp only [bne_self_eq_false, laws_FnExactAddScaled.j1, Bool.false_eq_true, if_false]
  rw [laws_markLin_eq _ _ _ _ (by omega) (by omega) (by omega)]; simp only [Option.bind_some]
  rw [laws_heldLin_eq _ _ _ _ (by omega) (by omega) (by omega)]; simp only [Option.bind_some]
  rw [if_neg (by omega)]; simp only [if_true]
  rw [laws_toLin_eq c cs (by omega) _ (by omega), laws_toLin_eq d ds (by omega) _ (by omega)]; simp only [Option.bind_some]
  rw [impl_AddScaled_eq c cs kk d ds (by omega) (by omega) _ (by omega)]; simp only [Option.bind_some]
  rw [laws_eqLin_eq _ _ _ _ (by omega) _ (by omega)]; simp only [Option.bind_some, and_self, decide_true, if_true]
  simp only [bne_self_eq_false, laws_FnExactAddScaled.j2, Bool.false_eq_true, if_false]
  rw [laws_heldLin_eq _ _ _ _ (by omega) (by omega) (by omega)]; simp only [Option.bind_some]
  rw [if_neg (by omega)]; simp only [if_true]

end Go.Proofs.Ytkfllkmhbkmepaa.Pure
