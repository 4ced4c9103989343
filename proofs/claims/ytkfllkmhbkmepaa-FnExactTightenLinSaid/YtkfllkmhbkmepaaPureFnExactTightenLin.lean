/- The program's TightenLin returns what the reference's returns, for every expression, leaves it as it was, and shares no memory with it. -/
import Derived.Test.YtkfllkmhbkmepaaQFnExactTightenLinx5
namespace Go.Proofs.Ytkfllkmhbkmepaa.Pure
open Go.RowKit Go.Proofs.YtkfllkmhbkmepaaV.PrintWords Go.Proofs.YtkfllkmhbkmepaaV.PrintLast Go.Proofs.YtkfllkmhbkmepaaV.PrintMore Go.Proofs.Ytkfllkmhbkmepaa.QFnExactTightenLin
set_option linter.unusedVariables false
set_option linter.unusedSimpArgs false

theorem wrap_id {n : Int} (h0 : -9223372036854775808 ≤ n) (h1 : n ≤ 9223372036854775807) : wrap64 n = n := by
  unfold wrap64; omega
theorem wrap_succ {j n : Nat} (h : j < n) (hn : n ≤ 4611686018427387904) : wrap64 ((j : Int) + 1) = ((j + 1 : Nat) : Int) := by
  unfold wrap64; omega
theorem succ_of {d k : Nat} (h : d < k) : ∃ m, k = m + 1 := ⟨k - 1, by omega⟩
theorem lit_int {n : Int} (h : (Lit.int .i64 n).wf = true) : -9223372036854775808 ≤ n ∧ n ≤ 9223372036854775807 := by
  simpa [Lit.wf, IntKind.min, IntKind.max, IntKind.signed, IntKind.bits] using h

/-- What is left behind a slice's length; -1 where it is not enough. -/
def szI (n : Nat) (left : Int) : Int := if left - (n : Int) < 0 then -1 else left - (n : Int)
theorem laws_szIntS_eq (xs : List Int) (l : Int) (hn : xs.length ≤ 9223372036854775807) (h0 : 0 ≤ l) (h1 : l ≤ 1048576) : laws_szIntS.f xs l = some (szI xs.length l) := by
  unfold laws_szIntS.f szI
  rw [wrap_id (by omega) (by omega)]
  split <;> rfl
theorem szI_len {n : Nat} {l : Int} (h : 0 ≤ szI n l) : (n : Int) ≤ l ∧ szI n l ≤ l := by
  unfold szI at h ⊢; split at h
  · omega
  · rename_i h0; rw [if_neg h0]; omega
theorem szI_range {n : Nat} {l : Int} (h0 : 0 ≤ l) (h1 : l ≤ 1048576) : szI n l < 0 ∨ (0 ≤ szI n l ∧ szI n l ≤ 1048576) := by
  unfold szI; split <;> omega

theorem laws_szLin_eq (c : Int) (xs : List Int) (l : Int) (hn : xs.length ≤ 9223372036854775807) (h0 : 0 ≤ l) (h1 : l ≤ 1048576) : laws_szLin.f c xs l = some (szI xs.length l) := by
  unfold laws_szLin.f; rw [laws_szIntS_eq xs l hn h0 h1, Option.bind_some]
  unfold szI; split <;> simp_all

theorem rdOf_nat {α : Type} (d : α) (xs : List α) (j : Nat) (h : j < xs.length) : rdOf d xs (j : Int) = xs[j] := by
  unfold rdOf; rw [Int.toNat_natCast, List.getD_eq_getElem?_getD, List.getElem?_eq_getElem h]; rfl
theorem rd_nat (xs : List Int) (j : Nat) (h : j < xs.length) : rd xs (j : Int) = xs[j] := by
  unfold rd; rw [Int.toNat_natCast, List.getD_eq_getElem?_getD, List.getElem?_eq_getElem h]; rfl

theorem set_at_end_int (p : List Int) (x y : Int) (r : List Int) : (p ++ x :: r).set p.length y = (p ++ [y]) ++ r := by simp
theorem laws_toIntS_l0 (xs : List Int) (hn : xs.length ≤ 4611686018427387904) : ∀ (d j k : Nat) (r : List Int), j + d = xs.length → d < k → r.length = d →
    laws_toIntS.l0 k xs (xs.take j ++ r) (j : Int) = some xs := by
  intro d
  induction d with
  | zero =>
    intro j k r hj hk hr
    obtain ⟨k, rfl⟩ := succ_of hk
    have : r = [] := List.length_eq_zero_iff.1 hr
    subst this
    simp only [laws_toIntS.l0]
    rw [if_neg (by omega), List.append_nil, List.take_of_length_le (by omega)]
  | succ d ih =>
    intro j k r hj hk hr
    obtain ⟨k, rfl⟩ := succ_of hk
    have hlt : j < xs.length := by omega
    cases r with
    | nil => simp at hr
    | cons y r =>
      simp only [laws_toIntS.l0]
      have hl : (xs.take j).length = j := by rw [List.length_take]; omega
      rw [if_pos (by omega), if_pos (by omega), if_pos (by simp only [List.length_append, List.length_cons, hl] at *; omega), rd_nat _ _ hlt, wrap_succ hlt hn, Int.toNat_natCast]
      have e : (xs.take j ++ y :: r).set j xs[j] = xs.take (j + 1) ++ r := by
        have := set_at_end_int (xs.take j) y xs[j] r
        rw [hl] at this
        rw [this, List.take_succ_eq_append_getElem hlt]
      rw [e]
      exact ih (j + 1) k r (by omega) (by omega) (by simpa using hr)
theorem laws_toIntS_eq (xs : List Int) (hn : xs.length ≤ 35184372088832) (k : Nat) (hk : xs.length < k) : laws_toIntS.f k xs = some xs := by
  unfold laws_toIntS.f
  rw [if_pos (by omega), if_pos (by omega)]
  have := laws_toIntS_l0 xs (by omega) xs.length 0 k (List.replicate xs.length 0) (by omega) hk (by simp)
  simpa using this

theorem laws_toLin_eq (c : Int) (xs : List Int) (hn : xs.length ≤ 35184372088832) (k : Nat) (hk : xs.length < k) : laws_toLin.f k c xs = some (c, xs) := by
  unfold laws_toLin.f; rw [laws_toIntS_eq xs hn k hk]; rfl

theorem laws_eqIntS_l0 (a b : List Int) (hab : a.length = b.length) (hn : a.length ≤ 4611686018427387904) : ∀ (d j k : Nat), j + d = a.length → d < k →
    laws_eqIntS.l0 k a b (j : Int) = some (decide (a.drop j = b.drop j)) := by
  intro d
  induction d with
  | zero =>
    intro j k hj hk
    obtain ⟨k, rfl⟩ := succ_of hk
    simp only [laws_eqIntS.l0]
    rw [if_neg (by omega), List.drop_eq_nil_of_le (by omega), List.drop_eq_nil_of_le (by omega)]; simp
  | succ d ih =>
    intro j k hj hk
    obtain ⟨k, rfl⟩ := succ_of hk
    have hlt : j < a.length := by omega
    simp only [laws_eqIntS.l0]
    rw [if_pos (by omega), if_pos (by omega), if_pos (by omega), rd_nat _ _ hlt, rd_nat _ _ (by omega), wrap_succ hlt hn, ih (j + 1) k (by omega) (by omega), List.drop_eq_getElem_cons hlt, List.drop_eq_getElem_cons (hab ▸ hlt : j < b.length)]
    simp only [List.cons.injEq]
    by_cases h : a[j] = b[j]
    · rw [if_pos h]; simp only [h, true_and]
    · rw [if_neg h]; simp only [h, false_and, decide_false]
theorem laws_eqIntS_eq (a b : List Int) (hn : a.length ≤ 4611686018427387904) (k : Nat) (hk : a.length < k) : laws_eqIntS.f k a b = some (decide (a = b)) := by
  unfold laws_eqIntS.f
  by_cases h : a.length = b.length
  · rw [if_pos (by omega)]
    have := laws_eqIntS_l0 a b h hn a.length 0 k (by omega) hk
    simpa using this
  · rw [if_neg (by omega)]; congr 1; symm; rw [decide_eq_false_iff_not]; intro e; exact h (by rw [e])

theorem laws_eqLin_eq (c : Int) (a : List Int) (c' : Int) (b : List Int) (hn : a.length ≤ 4611686018427387904) (k : Nat) (hk : a.length < k) : laws_eqLin.f k c a c' b = some (decide (c = c' ∧ a = b)) := by
  unfold laws_eqLin.f
  rw [laws_eqIntS_eq a b hn k hk]
  by_cases h : c = c' <;> by_cases h2 : a = b <;> simp [h, h2]

/-- d numbers from m on. -/
def iota (m : Int) : Nat → List Int
  | 0 => []
  | d + 1 => m :: iota (m + 1) d
theorem iota_length : ∀ (d : Nat) (m : Int), (iota m d).length = d := by
  intro d; induction d with
  | zero => intro m; rfl
  | succ d ih => intro m; simp [iota, ih]
theorem iota_get : ∀ (d j : Nat) (m : Int) (h : j < (iota m d).length), (iota m d)[j] = m + j := by
  intro d; induction d with
  | zero => intro j m h; simp [iota] at h
  | succ d ih =>
    intro j m h
    cases j with
    | zero => simp [iota]
    | succ j => simp only [iota, List.getElem_cons_succ]; rw [ih]; omega

theorem laws_markIntS_l0 : ∀ (d : Nat) (p xs : List Int) (m : Int) (k : Nat), xs.length = d → d < k → 0 ≤ m → m + d ≤ 4611686018427387904 → p.length + d ≤ 4611686018427387904 →
    laws_markIntS.l0 k (p ++ xs) m (p.length : Int) = some (m + d, p ++ iota m d) := by
  intro d
  induction d with
  | zero =>
    intro p xs m k hx hk h0 hm hp
    obtain ⟨k, rfl⟩ := succ_of hk
    have : xs = [] := List.length_eq_zero_iff.1 hx
    subst this
    simp only [laws_markIntS.l0]
    rw [if_neg (by simp)]; simp [iota]
  | succ d ih =>
    intro p xs m k hx hk h0 hm hp
    obtain ⟨k, rfl⟩ := succ_of hk
    cases xs with
    | nil => simp at hx
    | cons x xs =>
      simp only [laws_markIntS.l0]
      rw [if_pos (by simp only [List.length_append, List.length_cons]; omega), if_pos (by omega), wrap_id (by omega) (by omega), wrap_id (by omega) (by omega), Int.toNat_natCast]
      have e : (p ++ x :: xs).set p.length m = (p ++ [m]) ++ xs := by simp
      have := ih (p ++ [m]) xs (m + 1) k (by simpa using hx) (by omega) (by omega) (by omega) (by simp; omega)
      rw [e, show ((p.length : Int) + 1) = ((p ++ [m]).length : Int) by simp, this]
      simp [iota]; omega
theorem laws_markIntS_eq (xs : List Int) (m : Int) (k : Nat) (hk : xs.length < k) (h0 : 0 ≤ m) (hm : m + xs.length ≤ 4611686018427387904) :
    laws_markIntS.f k xs m = some (m + xs.length, iota m xs.length) := by
  unfold laws_markIntS.f
  have := laws_markIntS_l0 xs.length [] xs m k rfl hk h0 hm (by simp; omega)
  simpa using this

theorem laws_markLin_eq (c : Int) (xs : List Int) (m : Int) (k : Nat) (hk : xs.length < k) (h0 : 0 ≤ m) (hm : m + xs.length ≤ 4611686018427387904) :
    laws_markLin.f k c xs m = some (m + xs.length, iota m xs.length) := by
  unfold laws_markLin.f; rw [laws_markIntS_eq xs m k hk h0 hm]; rfl

theorem laws_heldIntS_l0 (m : Int) (n : Nat) (h0 : 0 ≤ m) (hm : m + n ≤ 4611686018427387904) : ∀ (d j k : Nat), j + d = n → d < k →
    laws_heldIntS.l0 k (iota m n) (m + j) (j : Int) = some (m + n) := by
  intro d
  induction d with
  | zero =>
    intro j k hj hk
    obtain ⟨k, rfl⟩ := succ_of hk
    simp only [laws_heldIntS.l0]
    rw [if_neg (by rw [iota_length]; omega)]; congr 1; omega
  | succ d ih =>
    intro j k hj hk
    obtain ⟨k, rfl⟩ := succ_of hk
    simp only [laws_heldIntS.l0]
    rw [if_pos (by rw [iota_length]; omega), if_pos (by omega), rd_nat _ _ (by rw [iota_length]; omega), iota_get, if_pos rfl, wrap_id (by omega) (by omega), wrap_id (by omega) (by omega)]
    have := ih (j + 1) k (by omega) (by omega)
    rw [← this]; congr 1 <;> omega
theorem laws_heldIntS_eq (m : Int) (n : Nat) (k : Nat) (hk : n < k) (h0 : 0 ≤ m) (hm : m + n ≤ 4611686018427387904) : laws_heldIntS.f k (iota m n) m = some (m + n) := by
  unfold laws_heldIntS.f
  have := laws_heldIntS_l0 m n h0 hm n 0 k (by omega) hk
  simpa using this

theorem laws_heldLin_eq (c : Int) (m : Int) (n : Nat) (k : Nat) (hk : n < k) (h0 : 0 ≤ m) (hm : m + n ≤ 4611686018427387904) : laws_heldLin.f k c (iota m n) m = some (m + n) := by
  unfold laws_heldLin.f; rw [laws_heldIntS_eq m n k hk h0 hm]; simp only [Option.bind_some]; rw [if_neg (by omega)]

/-- From -MaxCoeff to MaxCoeff. -/
def okc (n : Int) : Bool := decide (-1000000000 ≤ n ∧ n ≤ 1000000000)
theorem okc_iff (n : Int) : okc n = true ↔ -1000000000 ≤ n ∧ n ≤ 1000000000 := by unfold okc; exact decide_eq_true_iff
theorem okc_false (n : Int) : okc n = false ↔ ¬ (-1000000000 ≤ n ∧ n ≤ 1000000000) := by unfold okc; exact decide_eq_false_iff_not

/-- IsValidLin. -/
def validLin (c : Int) (cs : List Int) (n : Int) : Bool := decide (0 ≤ n ∧ n ≤ 8) && (decide ((cs.length : Int) = n) && (okc c && cs.all okc))
theorem validLin_iff (c : Int) (cs : List Int) (n : Int) : validLin c cs n = true ↔ (0 ≤ n ∧ n ≤ 8) ∧ (cs.length : Int) = n ∧ okc c = true ∧ ∀ x ∈ cs, okc x = true := by
  unfold validLin; simp only [Bool.and_eq_true, decide_eq_true_eq, List.all_eq_true]
theorem any_not_all {α : Type} (p : α → Bool) (xs : List α) : (!(xs.any fun c => !(p c))) = xs.all p := by
  induction xs with
  | nil => rfl
  | cons x xs ih => simp only [List.any_cons, List.all_cons, Bool.not_or, Bool.not_not, ih]

/-- Gcd. -/
def gcdOf (x y : Int) : Int := if okc x = true ∧ okc y = true then (Int.gcd x y : Int) else 0
theorem gcd_step (x y : Int) : Int.gcd y (Int.tmod x y) = Int.gcd x y := by
  unfold Int.gcd
  rw [Int.natAbs_tmod, Nat.gcd_comm x.natAbs, Nat.gcd_rec y.natAbs x.natAbs, Nat.gcd_comm]

/-- FloorDiv. -/
def floorDiv (x y : Int) : Int := if y ≤ 0 then 0 else if Int.tmod x y < 0 then wrap64 (wrap64 (Int.tdiv x y) - 1) else wrap64 (Int.tdiv x y)

/-- The divisor of all. -/
def gcds : Int → List Int → Int
  | g, [] => g
  | g, c :: cs => gcds (gcdOf g c) cs
def divAll (g : Int) (cs : List Int) : List Int := cs.map fun x => wrap64 (Int.tdiv x g)
/-- TightenLin. -/
def tightLin (c : Int) (cs : List Int) : Int × List Int := if validLin c cs (cs.length : Int) = true then (if gcds 0 cs < 2 then (c, cs) else (floorDiv c (gcds 0 cs), divAll (gcds 0 cs) cs)) else (c, cs)
theorem tightLin_length (c : Int) (cs : List Int) : (tightLin c cs).2.length = cs.length := by
  unfold tightLin; split
  · split
    · rfl
    · simp [divAll]
  · rfl

theorem spec_l1In_eq (a b c : Int) : spec_l1In.f a b c = some (decide (b ≤ a ∧ a ≤ c)) := by
  unfold spec_l1In.f
  by_cases h : a ≥ b
  · rw [if_pos h]; congr 1; rw [decide_eq_decide]; omega
  · rw [if_neg h]; congr 1; symm; rw [decide_eq_false_iff_not]; omega

theorem spec_l3In_eq (n : Int) : spec_l3In.f n = some (okc n) := by unfold spec_l3In.f; rw [spec_l1In_eq]; rfl

theorem spec_IsValidLin_l0 (c : Int) (cs : List Int) (n : Int) (hn : cs.length ≤ 4611686018427387904) : ∀ (d j k : Nat), j + d = cs.length → d < k →
    spec_IsValidLin.l0 k n (j : Int) c cs = some ((cs.drop j).all okc && (decide (0 ≤ n ∧ n ≤ 8) && (decide ((cs.length : Int) = n) && okc c))) := by
  intro d
  induction d with
  | zero =>
    intro j k hj hk
    obtain ⟨k, rfl⟩ := succ_of hk
    simp only [spec_IsValidLin.l0]
    rw [if_neg (by omega), List.drop_eq_nil_of_le (by omega), spec_l1In_eq, spec_l3In_eq]
    simp only [Option.bind_some, List.all_nil, Bool.true_and]
    by_cases h1 : 0 ≤ n ∧ n ≤ 8 <;> by_cases h2 : (cs.length : Int) = n <;> simp [h1, h2]
  | succ d ih =>
    intro j k hj hk
    obtain ⟨k, rfl⟩ := succ_of hk
    have hlt : j < cs.length := by omega
    simp only [spec_IsValidLin.l0]
    rw [if_pos (by omega), if_pos (by omega), rd_nat _ _ hlt, spec_l3In_eq, Option.bind_some, wrap_succ hlt hn, ih (j + 1) k (by omega) (by omega), List.drop_eq_getElem_cons hlt, List.all_cons]
    cases okc cs[j] <;> simp
theorem spec_IsValidLin_eq (c : Int) (cs : List Int) (n : Int) (hn : cs.length ≤ 4611686018427387904) (k : Nat) (hk : cs.length < k) : spec_IsValidLin.f k c cs n = some (validLin c cs n) := by
  unfold spec_IsValidLin.f validLin
  have := spec_IsValidLin_l0 c cs n hn cs.length 0 k (by omega) hk
  rw [show ((0 : Nat) : Int) = 0 from rfl, List.drop_zero] at this
  rw [this]
  cases cs.all okc <;> simp

theorem spec_l3Size_eq (n : Int) (h : okc n = true) : spec_l3Size.f n = some (n.natAbs : Int) := by
  rw [okc_iff] at h
  unfold spec_l3Size.f
  split
  · rw [wrap_id (by omega) (by omega)]; congr 1; omega
  · congr 1; omega
theorem spec_Gcd_l0 : ∀ (n k : Nat) (a b : Int), 0 ≤ a → 0 ≤ b → b.toNat ≤ n → n < k → spec_Gcd.l0 k a b = some (Int.gcd a b : Int) := by
  intro n
  induction n with
  | zero =>
    intro k a b ha hb hn hk
    obtain ⟨k, rfl⟩ := succ_of hk
    have : b = 0 := by omega
    subst this
    simp only [spec_Gcd.l0]
    rw [if_neg (by omega)]; congr 1; simp [Int.gcd]; omega
  | succ n ih =>
    intro k a b ha hb hn hk
    obtain ⟨k, rfl⟩ := succ_of hk
    simp only [spec_Gcd.l0]
    by_cases h : b > 0
    · have h1 : 0 ≤ Int.tmod a b := Int.tmod_nonneg _ ha
      have h2 : Int.tmod a b < b := Int.tmod_lt_of_pos _ h
      rw [if_pos h, if_neg (by omega), ih k b (Int.tmod a b) hb h1 (by omega) (by omega), gcd_step]
    · have : b = 0 := by omega
      subst this
      rw [if_neg (by omega)]; congr 1; simp [Int.gcd]; omega
theorem spec_Gcd_eq (x y : Int) (k : Nat) (hk : 1000000001 < k) : spec_Gcd.f k x y = some (gcdOf x y) := by
  obtain ⟨k, rfl⟩ := succ_of hk
  unfold spec_Gcd.f gcdOf
  rw [spec_l3In_eq, spec_l3In_eq]; simp only [Option.bind_some, spec_Gcd.j0]
  cases hx : okc x with
  | false => simp
  | true =>
    cases hy : okc y with
    | false => simp
    | true =>
      have hx' := (okc_iff x).1 hx
      have hy' := (okc_iff y).1 hy
      simp only [Bool.not_true, if_true, and_self, Bool.false_eq_true, if_false]
      rw [spec_l3Size_eq x hx, spec_l3Size_eq y hy]; simp only [Option.bind_some]
      rw [spec_Gcd_l0 1000000000 k _ _ (by omega) (by omega) (by omega) (by omega)]
      simp [Int.gcd]

theorem spec_FloorDiv_eq (x y : Int) : spec_FloorDiv.f x y = some (floorDiv x y) := by
  unfold spec_FloorDiv.f floorDiv
  by_cases h : y ≤ 0
  · rw [if_pos h, if_pos h]
  · rw [if_neg h, if_neg h, if_neg (by omega)]; split <;> rfl

theorem rd_mid (p : List Int) (x : Int) (xs : List Int) : rd (p ++ x :: xs) (p.length : Int) = x := by
  rw [rd_nat _ _ (by simp)]; simp

theorem spec_TightenLin_l1 (g c : Int) (hg : g ≠ 0) : ∀ (d : Nat) (p xs : List Int) (k : Nat), xs.length = d → d < k → p.length + d ≤ 4611686018427387904 →
    spec_TightenLin.l1 k g (p.length : Int) c (p ++ xs) = some (floorDiv c g, p ++ divAll g xs) := by
  intro d
  induction d with
  | zero =>
    intro p xs k hx hk hp
    obtain ⟨k, rfl⟩ := succ_of hk
    have : xs = [] := List.length_eq_zero_iff.1 hx
    subst this
    simp only [spec_TightenLin.l1]
    rw [if_neg (by simp), spec_FloorDiv_eq]; simp [divAll]
  | succ d ih =>
    intro p xs k hx hk hp
    obtain ⟨k, rfl⟩ := succ_of hk
    cases xs with
    | nil => simp at hx
    | cons x xs =>
      simp only [spec_TightenLin.l1]
      rw [if_pos (by simp only [List.length_append, List.length_cons]; omega), if_pos (by omega), if_neg hg, rd_mid, wrap_id (n := (p.length : Int) + 1) (by omega) (by omega), Int.toNat_natCast]
      have e : (p ++ x :: xs).set p.length (wrap64 (Int.tdiv x g)) = (p ++ [wrap64 (Int.tdiv x g)]) ++ xs := by simp
      have := ih (p ++ [wrap64 (Int.tdiv x g)]) xs k (by simpa using hx) (by omega) (by simp; omega)
      rw [e, show ((p.length : Int) + 1) = ((p ++ [wrap64 (Int.tdiv x g)]).length : Int) by simp, this]
      simp [divAll]
theorem spec_TightenLin_l0 (c : Int) (cs : List Int) (hn : cs.length ≤ 4611686018427387904) : ∀ (d j k : Nat) (g : Int), j + d = cs.length → d + cs.length + 1000000003 < k →
    spec_TightenLin.l0 k g (j : Int) c cs = some (if gcds g (cs.drop j) < 2 then (c, cs) else (floorDiv c (gcds g (cs.drop j)), divAll (gcds g (cs.drop j)) cs)) := by
  intro d
  induction d with
  | zero =>
    intro j k g hj hk
    obtain ⟨k, rfl⟩ := succ_of hk
    simp only [spec_TightenLin.l0]
    rw [if_neg (by omega), List.drop_eq_nil_of_le (by omega)]
    rw [show gcds g [] = g from rfl]
    by_cases h : g < 2
    · rw [if_pos h, if_pos h]
    · rw [if_neg h, if_neg h]
      have := spec_TightenLin_l1 g c (by omega) cs.length [] cs k rfl (by omega) (by simp; omega)
      simpa using this
  | succ d ih =>
    intro j k g hj hk
    obtain ⟨k, rfl⟩ := succ_of hk
    have hlt : j < cs.length := by omega
    simp only [spec_TightenLin.l0]
    rw [if_pos (by omega), if_pos (by omega), rd_nat _ _ hlt, spec_Gcd_eq _ _ _ (by omega), Option.bind_some, wrap_succ hlt hn, ih (j + 1) k _ (by omega) (by omega), List.drop_eq_getElem_cons hlt]
    rfl
theorem spec_TightenLin_eq (c : Int) (cs : List Int) (hn : cs.length ≤ 1048576) (k : Nat) (hk : 1010000000 < k) : spec_TightenLin.f k c cs = some (tightLin c cs) := by
  unfold spec_TightenLin.f spec_l4Copy.f tightLin
  simp only [Option.bind_some, List.length_nil, List.nil_append]
  rw [if_pos (by omega)]; simp only [Option.bind_some]
  rw [spec_IsValidLin_eq c cs _ (by omega) k (by omega), Option.bind_some]
  cases h : validLin c cs (cs.length : Int) with
  | false => simp
  | true =>
    have := spec_TightenLin_l0 c cs (by omega) cs.length 0 k 0 (by omega) (by omega)
    rw [show ((0 : Nat) : Int) = 0 from rfl, List.drop_zero] at this
    rw [if_pos rfl, if_pos rfl, this]

/-- The place of the first that p takes, counted from i on; -1 where there is none. -/
def firstBy {α : Type} (p : α → Bool) : List α → Int → Int
  | [], _ => -1
  | x :: xs, i => if p x = true then i else firstBy p xs (i + 1)
theorem firstBy_any {α : Type} (p : α → Bool) : ∀ (xs : List α) (i : Int), 0 ≤ i → decide (firstBy p xs i ≥ 0) = xs.any p := by
  intro xs
  induction xs with
  | nil => intro i _; simp [firstBy]
  | cons x xs ih =>
    intro i hi
    simp only [firstBy, List.any_cons]
    by_cases h : p x = true
    · simp [h]; omega
    · have := ih (i + 1) (by omega)
      simp only [Bool.eq_false_iff.mpr h, Bool.false_eq_true, if_false, Bool.false_or]; exact this

theorem impl_within_eq (a b c : Int) : impl_within.f a b c = some (decide (b ≤ a ∧ a ≤ c)) := by
  unfold impl_within.f
  by_cases h : a ≥ b
  · rw [if_pos h]; congr 1; rw [decide_eq_decide]; omega
  · rw [if_neg h]; congr 1; symm; rw [decide_eq_false_iff_not]; omega

theorem impl_coeffOk_eq (n : Int) : impl_coeffOk.f n = some (okc n) := by unfold impl_coeffOk.f; rw [impl_within_eq]; rfl

theorem slices_IndexFunc_int_int__IsValidLin_1_l0 (p : Int → Bool) (hp : ∀ c, impl_IsValidLin_1.f c = some (p c)) (xs : List Int) (hn : xs.length ≤ 4611686018427387904) : ∀ (d j k : Nat), j + d = xs.length → d < k →
    slices_IndexFunc_int_int__IsValidLin_1.l0 k xs (xs.length : Int) (j : Int) = some (firstBy p (xs.drop j) (j : Int)) := by
  intro d
  induction d with
  | zero =>
    intro j k hj hk
    obtain ⟨k, rfl⟩ := succ_of hk
    simp only [slices_IndexFunc_int_int__IsValidLin_1.l0]
    rw [if_neg (by omega), List.drop_eq_nil_of_le (by omega)]; rfl
  | succ d ih =>
    intro j k hj hk
    obtain ⟨k, rfl⟩ := succ_of hk
    have hlt : j < xs.length := by omega
    simp only [slices_IndexFunc_int_int__IsValidLin_1.l0]
    rw [if_pos (by omega), if_pos (by omega), if_pos (by omega), rd_nat _ _ hlt, hp, Option.bind_some, wrap_succ hlt hn, ih (j + 1) k (by omega) (by omega), List.drop_eq_getElem_cons hlt]
    simp only [firstBy]
    split <;> rfl
theorem slices_ContainsFunc_int_int__IsValidLin_1_eq (p : Int → Bool) (hp : ∀ c, impl_IsValidLin_1.f c = some (p c)) (xs : List Int) (hn : xs.length ≤ 4611686018427387904) (k : Nat) (hk : xs.length < k) :
    slices_ContainsFunc_int_int__IsValidLin_1.f k xs () = some (xs.any p) := by
  unfold slices_ContainsFunc_int_int__IsValidLin_1.f slices_IndexFunc_int_int__IsValidLin_1.f
  have := slices_IndexFunc_int_int__IsValidLin_1_l0 p hp xs hn xs.length 0 k (by omega) hk
  rw [show ((0 : Nat) : Int) = 0 from rfl, List.drop_zero] at this
  rw [this, Option.bind_some, firstBy_any p xs 0 (by omega)]
theorem impl_IsValidLin_eq (c : Int) (cs : List Int) (n : Int) (hn : cs.length ≤ 4611686018427387904) (k : Nat) (hk : cs.length < k) : impl_IsValidLin.f k c cs n = some (validLin c cs n) := by
  unfold impl_IsValidLin.f validLin
  rw [impl_within_eq, impl_coeffOk_eq, slices_ContainsFunc_int_int__IsValidLin_1_eq (fun c => !(okc c)) (fun c => by unfold impl_IsValidLin_1.f; rw [impl_coeffOk_eq]; rfl) cs hn k hk]
  simp only [Option.bind_some, any_not_all]
  by_cases h1 : 0 ≤ n ∧ n ≤ 8 <;> by_cases h2 : (cs.length : Int) = n <;> cases h3 : okc c <;> simp [h1, h2]

theorem impl_Gcd_l0 : ∀ (n k : Nat) (a b : Int), okc a = true → okc b = true → b.natAbs ≤ n → n < k → impl_Gcd.l0 k a b = some (Int.gcd a b : Int) := by
  intro n
  induction n with
  | zero =>
    intro k a b ha hb hn hk
    obtain ⟨k, rfl⟩ := succ_of hk
    have : b = 0 := by omega
    subst this
    have := (okc_iff a).1 ha
    unfold impl_Gcd.l0
    rw [if_pos rfl, wrap_id (by omega) (by omega)]; congr 1; unfold mx; simp only [Int.gcd, Int.natAbs_zero, Nat.gcd_zero_right]; split <;> omega
  | succ n ih =>
    intro k a b ha hb hn hk
    obtain ⟨k, rfl⟩ := succ_of hk
    have ha' := (okc_iff a).1 ha
    have hb' := (okc_iff b).1 hb
    unfold impl_Gcd.l0
    by_cases h : b = 0
    · subst h
      rw [if_pos rfl, wrap_id (by omega) (by omega)]; congr 1; unfold mx; simp only [Int.gcd, Int.natAbs_zero, Nat.gcd_zero_right]; split <;> omega
    · have h1 : (Int.tmod a b).natAbs = a.natAbs % b.natAbs := Int.natAbs_tmod a b
      have h2 : a.natAbs % b.natAbs < b.natAbs := Nat.mod_lt _ (by omega)
      rw [if_neg h, ih k b (Int.tmod a b) hb ((okc_iff _).2 (by omega)) (by omega) (by omega), gcd_step]
theorem impl_Gcd_eq (x y : Int) (k : Nat) (hk : 1000000001 < k) : impl_Gcd.f k x y = some (gcdOf x y) := by
  obtain ⟨k, rfl⟩ := succ_of hk
  unfold impl_Gcd.f gcdOf
  rw [impl_coeffOk_eq, impl_coeffOk_eq]; simp only [Option.bind_some, impl_Gcd.j0]
  cases hx : okc x with
  | false => simp
  | true =>
    cases hy : okc y with
    | false => simp
    | true =>
      have hx' := (okc_iff x).1 hx
      have hy' := (okc_iff y).1 hy
      simp only [Bool.not_true, if_true, and_self, Bool.false_eq_true, if_false]
      rw [impl_Gcd_l0 1000000000 k _ _ hx hy (by omega) (by omega)]

theorem impl_FloorDiv_eq (x y : Int) : impl_FloorDiv.f x y = some (floorDiv x y) := by
  unfold impl_FloorDiv.f floorDiv
  by_cases h : y ≤ 0
  · rw [if_pos h, if_pos h]
  · rw [if_neg h, if_neg h, if_neg (by omega)]; split <;> rfl

theorem slices_Clone_eq (xs : List Int) (hn : xs.length ≤ 10000000000000) : slices_Clone_int_int.f xs = some xs := by
  unfold slices_Clone_int_int.f
  simp only [Option.bind_some, List.length_nil, List.nil_append]
  rw [if_pos (by omega)]
theorem impl_copyLin_eq (c : Int) (xs : List Int) (hn : xs.length ≤ 10000000000000) : impl_copyLin.f c xs = some (c, xs) := by
  unfold impl_copyLin.f; rw [slices_Clone_eq xs hn]; rfl

theorem impl_TightenLin_l1 (g c c1 : Int) (cs : List Int) (hg : g ≠ 0) (n : Nat) : ∀ (d : Nat) (p xs : List Int) (k : Nat), xs.length = d → d < k → p.length + d = n → n ≤ 4611686018427387904 →
    impl_TightenLin.l1 k g (n : Int) (p.length : Int) c cs c1 (p ++ xs) = some (floorDiv c g, p ++ divAll g xs) := by
  intro d
  induction d with
  | zero =>
    intro p xs k hx hk hp hn
    obtain ⟨k, rfl⟩ := succ_of hk
    have : xs = [] := List.length_eq_zero_iff.1 hx
    subst this
    simp only [impl_TightenLin.l1]
    rw [if_neg (by omega), impl_FloorDiv_eq]; simp [divAll]
  | succ d ih =>
    intro p xs k hx hk hp hn
    obtain ⟨k, rfl⟩ := succ_of hk
    cases xs with
    | nil => simp at hx
    | cons x xs =>
      simp only [impl_TightenLin.l1]
      rw [if_pos (by omega), if_pos (by omega), if_pos (by simp only [List.length_append, List.length_cons]; omega), if_neg hg, rd_mid, wrap_id (n := (p.length : Int) + 1) (by omega) (by omega), Int.toNat_natCast]
      have e : (p ++ x :: xs).set p.length (wrap64 (Int.tdiv x g)) = (p ++ [wrap64 (Int.tdiv x g)]) ++ xs := by simp
      have := ih (p ++ [wrap64 (Int.tdiv x g)]) xs k (by simpa using hx) (by omega) (by simp; omega) hn
      rw [e, show ((p.length : Int) + 1) = ((p ++ [wrap64 (Int.tdiv x g)]).length : Int) by simp, this]
      simp [divAll]
theorem impl_TightenLin_l0 (c : Int) (cs : List Int) (hn : cs.length ≤ 4611686018427387904) : ∀ (d j k : Nat) (g : Int), j + d = cs.length → d + cs.length + 1000000003 < k →
    impl_TightenLin.l0 k g cs (cs.length : Int) (j : Int) c cs c cs = some (if gcds g (cs.drop j) < 2 then (c, cs) else (floorDiv c (gcds g (cs.drop j)), divAll (gcds g (cs.drop j)) cs)) := by
  intro d
  induction d with
  | zero =>
    intro j k g hj hk
    obtain ⟨k, rfl⟩ := succ_of hk
    simp only [impl_TightenLin.l0]
    rw [if_neg (by omega), List.drop_eq_nil_of_le (by omega)]
    rw [show gcds g [] = g from rfl]
    by_cases h : g < 2
    · rw [if_neg (by omega), if_pos h]
    · rw [if_pos (by omega), if_neg h]
      have := impl_TightenLin_l1 g c c cs (by omega) cs.length cs.length [] cs k rfl (by omega) (by simp) hn
      simpa using this
  | succ d ih =>
    intro j k g hj hk
    obtain ⟨k, rfl⟩ := succ_of hk
    have hlt : j < cs.length := by omega
    simp only [impl_TightenLin.l0]
    rw [if_pos (by omega), if_pos (by omega), if_pos (by omega), rd_nat _ _ hlt, impl_Gcd_eq _ _ _ (by omega), Option.bind_some, wrap_succ hlt hn, ih (j + 1) k _ (by omega) (by omega), List.drop_eq_getElem_cons hlt]
    rfl
theorem impl_TightenLin_eq (c : Int) (cs : List Int) (hn : cs.length ≤ 1048576) (k : Nat) (hk : 1010000000 < k) : impl_TightenLin.f k c cs = some (tightLin c cs) := by
  unfold impl_TightenLin.f tightLin
  rw [impl_copyLin_eq c cs (by omega), impl_IsValidLin_eq c cs _ (by omega) k (by omega)]; simp only [Option.bind_some]
  cases h : validLin c cs (cs.length : Int) with
  | false => simp
  | true =>
    have := impl_TightenLin_l0 c cs (by omega) cs.length 0 k 0 (by omega) (by omega)
    rw [show ((0 : Nat) : Int) = 0 from rfl, List.drop_zero] at this
    rw [if_pos rfl, if_pos rfl, this]

theorem FnExactTightenLin : laws_FnExactTightenLin.Pure := by
  intro c a _ ha
  refine ⟨1010000002, ?_⟩
  unfold laws_FnExactTightenLin.f
  rw [laws_szLin_eq c a _ ha.1 (by omega) (by omega), Option.bind_some]
  split
  · rfl
  have h1 := szI_len (n := a.length) (l := 1048576) (by omega)
  have hl := tightLin_length c a
  rw [laws_toLin_eq c a (by omega) _ (by omega)]; simp only [Option.bind_some]
  rw [spec_TightenLin_eq c a (by omega) _ (by omega), impl_TightenLin_eq c a (by omega) _ (by omega)]; simp only [Option.bind_some]
  rw [laws_eqLin_eq _ _ _ _ (by omega) _ (by omega)]; simp only [Option.bind_some, and_self, decide_true, if_true]
  rw [laws_eqLin_eq c a c a (by omega) _ (by omega)]; simp only [Option.bind_some, and_self, decide_true, if_true]
  rw [laws_markLin_eq c a _ _ (by omega) (by omega) (by omega)]; simp only [Option.bind_some]
  rw [if_neg (by omega)]
  simp only [Bool.not_true, laws_FnExactTightenLin.j0]
  rw [if_neg (by simp), laws_markLin_eq _ _ _ _ (by omega) (by omega) (by omega)]; simp only [Option.bind_some]
  rw [laws_heldLin_eq _ _ _ _ (by omega) (by omega) (by omega)]; simp only [Option.bind_some]
  rw [if_neg (by omega)]; simp only [if_true]
  rw [laws_toLin_eq c a (by omega) _ (by omega)]; simp only [Option.bind_some]
  rw [impl_TightenLin_eq c a (by omega) _ (by omega)]; simp only [Option.bind_some]
  rw [laws_eqLin_eq _ _ _ _ (by omega) _ (by omega)]; simp only [Option.bind_some, and_self, decide_true, if_true]
  rw [if_neg (by omega)]

end Go.Proofs.Ytkfllkmhbkmepaa.Pure
