/- The program's FormatInt returns what the reference's returns, for all ints. -/
import Derived.Test.YtmdjhmggogfbdaaDoorQFnExactFormatIntx1
namespace Go.Proofs.YtmdjhmggogfbdaaDoor.Pure
open Go.RowKit Go.Proofs.YtmdjhmggogfbdaaDoorV.PrintWords Go.Proofs.YtmdjhmggogfbdaaDoorV.PrintLast Go.Proofs.YtmdjhmggogfbdaaDoorV.PrintMore Go.Proofs.YtmdjhmggogfbdaaDoor.QFnExactFormatInt
set_option linter.unusedVariables false
set_option linter.unusedSimpArgs false

/-- Bytes as numbers; what stands behind the first of the joined. -/
def toI (L : List UInt8) : List Int := L.map fun b => (b.toNat : Int)
def glue (sep : List UInt8) : List (List UInt8) → List UInt8
  | [] => []
  | x :: xs => sep ++ (x ++ glue sep xs)
theorem toI_append (a b : List UInt8) : toI (a ++ b) = toI a ++ toI b := by simp [toI]
theorem toI_length (a : List UInt8) : (toI a).length = a.length := by simp [toI]
theorem strOf_toI (L : List UInt8) : strOfNums (toI L) = ⟨L.toArray⟩ := by
  unfold strOfNums toI
  rw [List.map_map]
  congr 2
  have : ((fun n : Int => UInt8.ofNat n.toNat) ∘ fun b : UInt8 => (b.toNat : Int)) = id := by
    funext b; simp
  rw [this, List.map_id]
theorem size_len (s : ByteArray) : s.size = s.data.toList.length := by rw [Array.length_toList]; rfl
theorem bytesOf_toI (s : ByteArray) : bytesOf s = toI s.data.toList := rfl
theorem glue_len (sep : List UInt8) (B C : Nat) (hs : sep.length ≤ B) : ∀ xs : List (List UInt8), (∀ x ∈ xs, x.length ≤ C) → (glue sep xs).length ≤ xs.length * (B + C) := by
  intro xs
  induction xs with
  | nil => intro _; simp [glue]
  | cons x xs ih =>
    intro h
    have h1 := h x (by simp)
    have h2 := ih (fun y hy => h y (by simp [hy]))
    simp only [glue, List.length_append, List.length_cons, Nat.succ_mul]; omega
theorem inter_glue (sep : List UInt8) : ∀ xs : List (List UInt8), ∀ x, sep.intercalate (x :: xs) = x ++ glue sep xs := by
  intro xs
  induction xs with
  | nil => intro x; simp [glue, List.intercalate]
  | cons y xs ih =>
    intro x
    have h := ih y
    simp only [List.intercalate, List.intersperse_cons_cons, List.flatten_cons, glue] at h ⊢
    rw [h]

theorem wrap_id {n : Int} (h0 : -9223372036854775808 ≤ n) (h1 : n ≤ 9223372036854775807) : wrap64 n = n := by
  unfold wrap64; omega
theorem wrap_succ {j n : Nat} (h : j < n) (hn : n ≤ 4611686018427387904) : wrap64 ((j : Int) + 1) = ((j + 1 : Nat) : Int) := by
  unfold wrap64; omega
theorem succ_of {d k : Nat} (h : d < k) : ∃ m, k = m + 1 := ⟨k - 1, by omega⟩
theorem lit_int {n : Int} (h : (Lit.int .i64 n).wf = true) : -9223372036854775808 ≤ n ∧ n ≤ 9223372036854775807 := by
  simpa [Lit.wf, IntKind.min, IntKind.max, IntKind.signed, IntKind.bits] using h

/-- A number's decimal digits; none for 0. -/
def digs (u : Nat) : List UInt8 := if h : u = 0 then [] else digs (u / 10) ++ [UInt8.ofNat (48 + u % 10)]
termination_by u
decreasing_by omega
theorem digs_zero : digs 0 = [] := by rw [digs, dif_pos rfl]
theorem digs_pos {u : Nat} (h : u ≠ 0) : digs u = digs (u / 10) ++ [UInt8.ofNat (48 + u % 10)] := by rw [digs, dif_neg h]
theorem decDigits_digs : ∀ (m u : Nat), u < m → u ≠ 0 → Lib.decDigits u = digs u := by
  intro m
  induction m with
  | zero => intro u h; omega
  | succ m ih =>
    intro u hu h0
    rw [Lib.decDigits, digs_pos h0]
    by_cases h : u < 10
    · rw [dif_pos h, show u / 10 = 0 by omega, digs_zero, show u % 10 = u by omega]; rfl
    · rw [dif_neg h, ih (u / 10) (by omega) (by omega)]
theorem itoa_digs (n : Int) (h : n ≠ 0) : Lib.itoa n = if n < 0 then 45 :: digs n.natAbs else digs n.natAbs := by
  unfold Lib.itoa
  by_cases h0 : n < 0
  · rw [if_pos h0, if_pos h0, decDigits_digs _ _ (Nat.lt_succ_self _) (by omega)]
  · rw [if_neg h0, if_neg h0, decDigits_digs _ _ (Nat.lt_succ_self _) (by omega), show n.toNat = n.natAbs by omega]
theorem itoa_zero : Lib.itoa 0 = [48] := by
  unfold Lib.itoa; rw [if_neg (by omega)]
  show Lib.decDigits 0 = [48]
  rw [Lib.decDigits, dif_pos (by omega)]; rfl
theorem ba_append (a b : List UInt8) : (⟨a.toArray⟩ : ByteArray) ++ ⟨b.toArray⟩ = ⟨(a ++ b).toArray⟩ := by
  apply ByteArray.ext
  simp
theorem ba_size (a : List UInt8) : (⟨a.toArray⟩ : ByteArray).size = a.length := by rw [size_len]
theorem strOne (d : Nat) (hd : d < 10) : strOfNums [((48 + d : Nat) : Int)] = ⟨[UInt8.ofNat (48 + d)].toArray⟩ := by
  unfold strOfNums
  simp only [List.map_cons, List.map_nil, Int.toNat_natCast]
theorem digs_len : ∀ (m u : Nat), u < 10 ^ m → (digs u).length ≤ m := by
  intro m
  induction m with
  | zero => intro u h; rw [show u = 0 by simpa using h, digs_zero]; simp
  | succ m ih =>
    intro u h
    by_cases h0 : u = 0
    · subst h0; rw [digs_zero]; simp
    · rw [digs_pos h0, List.length_append]
      have := ih (u / 10) (by rw [Nat.pow_succ] at h; omega)
      simp only [List.length_singleton]; omega

theorem spec_FormatInt_end (k : Nat) (b : Bool) (acc : List UInt8) (h : acc.length ≤ 1000) : spec_FormatInt.l0 (k + 1) 0 b ⟨acc.toArray⟩ = some (if b = true then ⟨(45 :: (digs 0 ++ acc)).toArray⟩ else ⟨(digs 0 ++ acc).toArray⟩) := by
  rw [spec_FormatInt.l0, if_pos rfl, digs_zero]
  cases b
  · rw [if_neg (by simp), if_neg (by simp)]; rfl
  · rw [if_pos rfl, if_pos rfl, ba_size, if_pos (by omega), show (⟨#[45]⟩ : ByteArray) = ⟨[45].toArray⟩ from rfl, ba_append]; rfl
theorem spec_FormatInt_l0 (b : Bool) : ∀ (m u k : Nat) (n : Int) (acc : List UInt8), (n = (u : Int) ∨ n = -(u : Int)) → u < 10 ^ m → m < k → acc.length + m ≤ 1000 → u ≤ 9223372036854775808 → -9223372036854775808 ≤ n → n ≤ 9223372036854775807 →
    spec_FormatInt.l0 k n b ⟨acc.toArray⟩ = some (if b = true then ⟨(45 :: (digs u ++ acc)).toArray⟩ else ⟨(digs u ++ acc).toArray⟩) := by
  intro m
  induction m with
  | zero =>
    intro u k n acc hn hu hk ha _ _ _
    obtain ⟨k, rfl⟩ := succ_of hk
    have h0 : u = 0 := by simpa using hu
    subst h0
    have hn0 : n = 0 := by omega
    subst hn0
    exact spec_FormatInt_end k b acc (by omega)
  | succ m ih =>
    intro u k n acc hn hu hk ha hb n0 n1
    obtain ⟨k, rfl⟩ := succ_of hk
    by_cases h0 : u = 0
    · subst h0
      have hn0 : n = 0 := by omega
      subst hn0
      exact spec_FormatInt_end k b acc (by omega)
    · rw [spec_FormatInt.l0, if_neg (by omega)]
      have hd : (Int.tdiv n 10 = ((u / 10 : Nat) : Int) ∨ Int.tdiv n 10 = -((u / 10 : Nat) : Int)) ∧ (Int.tmod n 10 = ((u % 10 : Nat) : Int) ∨ Int.tmod n 10 = -((u % 10 : Nat) : Int)) := by
        rcases hn with rfl | rfl
        · exact ⟨.inl (by rw [Int.ofNat_tdiv]; rfl), .inl (by rw [Int.ofNat_tmod]; rfl)⟩
        · exact ⟨.inr (by rw [Int.neg_tdiv, Int.ofNat_tdiv]; rfl), .inr (by rw [Int.neg_tmod, Int.ofNat_tmod]; rfl)⟩
      obtain ⟨hd, hm⟩ := hd
      have hw : wrap64 (Int.tdiv n 10) = Int.tdiv n 10 := wrap_id (by omega) (by omega)
      have hr : ∀ d : Int, d = ((u % 10 : Nat) : Int) → strOfNums [(wrap64 (48 + d)) % 256] = ⟨[UInt8.ofNat (48 + u % 10)].toArray⟩ := fun d hd => by
        subst hd
        rw [wrap_id (by omega) (by omega), show ((48 : Int) + ((u % 10 : Nat) : Int)) % 256 = ((48 + u % 10 : Nat) : Int) by omega, strOne _ (by omega)]
      have step := ih (u / 10) k (Int.tdiv n 10) (UInt8.ofNat (48 + u % 10) :: acc) hd (by rw [Nat.pow_succ] at hu; omega) (by omega) (by simp only [List.length_cons]; omega) (by omega) (by omega) (by omega)
      have e : digs u ++ acc = digs (u / 10) ++ (UInt8.ofNat (48 + u % 10) :: acc) := by rw [digs_pos h0, List.append_assoc]; rfl
      rw [e]
      by_cases hneg : Int.tmod n 10 < 0
      · rw [if_pos hneg, Option.bind_some, hr _ (by rw [wrap_id (by omega) (by omega)]; omega), ba_size, ba_size, if_pos (by simp only [List.length_singleton]; omega), hw, ba_append]
        exact step
      · rw [if_neg hneg, Option.bind_some, hr _ (by omega), ba_size, ba_size, if_pos (by simp only [List.length_singleton]; omega), hw, ba_append]
        exact step
theorem spec_FormatInt_eq (n : Int) (n0 : -9223372036854775808 ≤ n) (n1 : n ≤ 9223372036854775807) (k : Nat) (hk : 19 < k) : spec_FormatInt.f k n = some ⟨(Lib.itoa n).toArray⟩ := by
  unfold spec_FormatInt.f
  by_cases h : n = 0
  · subst h; rw [if_pos rfl, itoa_zero]
  · rw [if_neg h]
    have := spec_FormatInt_l0 (decide (n < 0)) 19 n.natAbs k n [] (by omega) (by omega) hk (by simp) (by omega) n0 n1
    rw [show (⟨#[]⟩ : ByteArray) = ⟨([] : List UInt8).toArray⟩ from rfl, this, itoa_digs n h, List.append_nil]
    by_cases h0 : n < 0
    · rw [if_pos (decide_eq_true h0), if_pos h0]
    · rw [if_neg (by simpa using h0), if_neg h0]

theorem impl_FormatInt_eq (n : Int) (n0 : -9223372036854775808 ≤ n) (n1 : n ≤ 9223372036854775807) : impl_FormatInt.f n = some ⟨(Lib.itoa n).toArray⟩ := by
  unfold impl_FormatInt.f strconv_Itoa_42.f
  rw [if_pos ⟨n0, n1⟩]; rfl

theorem i64_bounds {n : Int} (h : (Lit.int .i64 n).wf = true) : -9223372036854775808 ≤ n ∧ n ≤ 9223372036854775807 := by
  simpa [Lit.wf, IntKind.min, IntKind.max, IntKind.signed, IntKind.bits] using h

theorem FnExactFormatInt : laws_FnExactFormatInt.Pure := by
  intro n hn
  obtain ⟨n0, n1⟩ := i64_bounds hn
  refine ⟨20, ?_⟩
  unfold laws_FnExactFormatInt.f
  rw [spec_FormatInt_eq n n0 n1 20 (by omega), impl_FormatInt_eq n n0 n1]
  simp

end Go.Proofs.YtmdjhmggogfbdaaDoor.Pure
