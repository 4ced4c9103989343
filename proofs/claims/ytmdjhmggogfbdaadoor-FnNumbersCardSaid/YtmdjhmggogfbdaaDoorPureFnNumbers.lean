/- Formatting and parsing are inverse: what is formatted is parsed to the same number if it has at most twelve digits, and what is parsed as a number was formatted so. -/
import Derived.Test.YtmdjhmggogfbdaaDoorQFnNumbersx3
namespace Go.Proofs.YtmdjhmggogfbdaaDoor.Pure
open Go.RowKit Go.Proofs.YtmdjhmggogfbdaaDoorV.PrintWords Go.Proofs.YtmdjhmggogfbdaaDoorV.PrintLast Go.Proofs.YtmdjhmggogfbdaaDoorV.PrintMore Go.Proofs.YtmdjhmggogfbdaaDoor.QFnNumbers
set_option linter.unusedVariables false
set_option linter.unusedSimpArgs false

theorem wrap_id {n : Int} (h0 : -9223372036854775808 ≤ n) (h1 : n ≤ 9223372036854775807) : wrap64 n = n := by
  unfold wrap64; omega
theorem wrap_succ {j n : Nat} (h : j < n) (hn : n ≤ 4611686018427387904) : wrap64 ((j : Int) + 1) = ((j + 1 : Nat) : Int) := by
  unfold wrap64; omega
theorem succ_of {d k : Nat} (h : d < k) : ∃ m, k = m + 1 := ⟨k - 1, by omega⟩
theorem lit_int {n : Int} (h : (Lit.int .i64 n).wf = true) : -9223372036854775808 ≤ n ∧ n ≤ 9223372036854775807 := by
  simpa [Lit.wf, IntKind.min, IntKind.max, IntKind.signed, IntKind.bits] using h

theorem rdOf_nat {α : Type} (d : α) (xs : List α) (j : Nat) (h : j < xs.length) : rdOf d xs (j : Int) = xs[j] := by
  unfold rdOf; rw [Int.toNat_natCast, List.getD_eq_getElem?_getD, List.getElem?_eq_getElem h]; rfl
theorem rd_nat (xs : List Int) (j : Nat) (h : j < xs.length) : rd xs (j : Int) = xs[j] := by
  unfold rd; rw [Int.toNat_natCast, List.getD_eq_getElem?_getD, List.getElem?_eq_getElem h]; rfl

/-- A cursor: the place lies in the bytes. -/
def Cur (b : List Int) (i : Int) : Prop := 0 ≤ i ∧ i ≤ (b.length : Int) ∧ b.length ≤ 140737488351232
theorem and255 (x : Int) : 0 ≤ Go.bits .and .i64 x 255 ∧ Go.bits .and .i64 x 255 ≤ 255 := by
  have h : (BitVec.ofInt 64 x &&& BitVec.ofInt 64 255).toNat ≤ 255 := by rw [BitVec.toNat_and]; exact Nat.le_trans Nat.and_le_right (by decide)
  have e : Go.bits .and .i64 x 255 = IntKind.i64.wrap (((BitVec.ofInt 64 x &&& BitVec.ofInt 64 255).toNat : Nat) : Int) := rfl
  rw [e, IntKind.wrap_i64]
  omega

theorem spec_l1New_l0 (b : List Int) (hb : b.length ≤ 140737488351232) : ∀ (d j k : Nat) (h : Int), j + d = b.length → d < k → ∃ h', spec_l1New.l0 k b h (j : Int) = some (b, 0, h') := by
  intro d
  induction d with
  | zero =>
    intro j k h hj hk
    obtain ⟨k, rfl⟩ := succ_of hk
    simp only [spec_l1New.l0]
    rw [if_neg (by omega)]
    exact ⟨_, rfl⟩
  | succ d ih =>
    intro j k h hj hk
    obtain ⟨k, rfl⟩ := succ_of hk
    have hlt : j < b.length := by omega
    simp only [spec_l1New.l0]
    rw [if_pos (by omega)]
    by_cases h4 : (j : Int) < 4000
    · rw [if_pos h4, if_pos (by omega), wrap_succ hlt (by omega)]
      exact ih (j + 1) k _ (by omega) (by omega)
    · rw [if_neg h4]; exact ⟨_, rfl⟩
theorem spec_l1New_ex (b : List Int) (hb : b.length ≤ 140737488351232) (k : Nat) (hk : b.length < k) : ∃ h', spec_l1New.f k b = some (b, 0, h') := by
  unfold spec_l1New.f
  exact spec_l1New_l0 b hb b.length 0 k _ (by omega) hk
theorem cur_zero (b : List Int) (hb : b.length ≤ 140737488351232) : Cur b 0 := ⟨Int.le_refl _, by omega, hb⟩

theorem spec_l1Byte_ex (b : List Int) (i h : Int) (hc : Cur b i) : ∃ r i' h', spec_l1Byte.f b i h = some (r, i', h') ∧ 0 ≤ r ∧ r ≤ 255 ∧ Cur b i' := by
  obtain ⟨h0, h1, h2⟩ := hc
  unfold spec_l1Byte.f
  by_cases hlt : i < (b.length : Int)
  · rw [if_pos hlt, if_pos h0]
    refine ⟨_, _, _, rfl, (and255 _).1, (and255 _).2, ?_⟩
    rw [wrap_id (by omega) (by omega)]
    exact ⟨by omega, by omega, h2⟩
  · rw [if_neg hlt]
    exact ⟨_, _, _, rfl, (and255 _).1, (and255 _).2, h0, h1, h2⟩

theorem spec_l1Below_ex (b : List Int) (i h n : Int) (hc : Cur b i) : ∃ r i' h', spec_l1Below.f b i h n = some (r, i', h') ∧ 0 ≤ r ∧ (0 < n → r < n) ∧ (n ≤ 0 → r = 0) ∧ Cur b i' := by
  unfold spec_l1Below.f
  by_cases h0 : n ≤ 0
  · rw [if_pos h0]; exact ⟨0, _, _, rfl, by omega, by omega, fun _ => rfl, hc⟩
  rw [if_neg h0]
  by_cases h1 : n ≤ 256
  · rw [if_pos h1]
    obtain ⟨r, i', h', e, r0, r1, c1⟩ := spec_l1Byte_ex b i h hc
    rw [e]; simp only [Option.bind_some]
    rw [if_neg (by omega)]
    exact ⟨_, _, _, rfl, Int.tmod_nonneg _ r0, fun _ => Int.tmod_lt_of_pos _ (by omega), by omega, c1⟩
  · rw [if_neg h1]
    obtain ⟨x, i1, g1, e1, x0, x1, c1⟩ := spec_l1Byte_ex b i h hc
    rw [e1]; simp only [Option.bind_some]
    obtain ⟨y, i2, g2, e2, y0, y1, c2⟩ := spec_l1Byte_ex b i1 g1 c1
    rw [e2]; simp only [Option.bind_some]
    obtain ⟨z, i3, g3, e3, z0, z1, c3⟩ := spec_l1Byte_ex b i2 g2 c2
    rw [e3]; simp only [Option.bind_some]
    obtain ⟨u, i4, g4, e4, u0, u1, c4⟩ := spec_l1Byte_ex b i3 g3 c3
    rw [e4]; simp only [Option.bind_some]
    rw [if_neg (by omega)]
    refine ⟨_, _, _, rfl, Int.tmod_nonneg _ ?_, fun _ => Int.tmod_lt_of_pos _ (by omega), by omega, c4⟩
    unfold wrap64; omega

theorem spec_l1PickInt_ex (b : List Int) (i h : Int) (l : List Int) (hl : 0 < l.length) (hc : Cur b i) : ∃ r i' h', spec_l1PickInt.f b i h l = some (r, i', h') ∧ r ∈ l ∧ Cur b i' := by
  unfold spec_l1PickInt.f
  obtain ⟨r, i', h', e, r0, r1, _, c1⟩ := spec_l1Below_ex b i h (l.length : Int) hc
  have r1 := r1 (by omega)
  rw [e]; simp only [Option.bind_some]
  rw [if_pos r0, if_pos r1]
  refine ⟨_, _, _, rfl, ?_, c1⟩
  have hlt : r.toNat < l.length := by omega
  have := rd_nat l r.toNat hlt
  rw [Int.toNat_of_nonneg r0] at this
  rw [this]; exact List.getElem_mem hlt

theorem spec_l1Whole_ex (b : List Int) (i h : Int) (hc : Cur b i) : ∃ r i' h', spec_l1Whole.f b i h = some (r, i', h') ∧ (-9223372036854775808 ≤ r ∧ r ≤ 9223372036854775807) ∧ Cur b i' := by
  unfold spec_l1Whole.f
  obtain ⟨r, i1, h1, e, r0, r1, _, c1⟩ := spec_l1Below_ex b i h 3 hc
  rw [e]; simp only [Option.bind_some]
  by_cases e0 : r = 0
  · rw [if_pos e0]
    obtain ⟨x, i2, h2, e, hm, c2⟩ := spec_l1PickInt_ex b i1 h1 [0, 1, (-1), 9, 10, 999999, 1000000, 999999999999, 1000000000000, (-999999999999), 9223372036854775807, (-9223372036854775808)] (by simp) c1
    rw [e]; simp only [Option.bind_some]
    refine ⟨_, _, _, rfl, ?_, c2⟩
    simp only [List.mem_cons, List.not_mem_nil, or_false] at hm
    omega
  · rw [if_neg e0]
    by_cases e1 : r = 1
    · rw [if_pos e1]
      obtain ⟨x, i2, h2, e, x0, x1, _, c2⟩ := spec_l1Below_ex b i1 h1 1000000 c1
      have x1 := x1 (by omega)
      rw [e]; simp only [Option.bind_some]
      refine ⟨_, _, _, rfl, ?_, c2⟩
      rw [wrap_id (by omega) (by omega)]; omega
    · rw [if_neg e1]
      obtain ⟨x, i2, h2, e, x0, x1, _, c2⟩ := spec_l1Below_ex b i1 h1 20 c1
      have x1 := x1 (by omega)
      rw [e]; simp only [Option.bind_some]
      exact ⟨_, _, _, rfl, by omega, c2⟩

theorem spec_DrawFormatInt_ex (b : List Int) (hb : b.length ≤ 140737488351232) (k : Nat) (hk : b.length < k) : ∃ r, spec_DrawFormatInt.f k b = some r ∧ (-9223372036854775808 ≤ r ∧ r ≤ 9223372036854775807) := by
  unfold spec_DrawFormatInt.f
  obtain ⟨h0, e0⟩ := spec_l1New_ex b hb k hk
  rw [e0]; simp only [Option.bind_some]
  obtain ⟨r, i1, h1, e1, hr, _⟩ := spec_l1Whole_ex b 0 h0 (cur_zero b hb)
  rw [e1]; simp only [Option.bind_some]
  exact ⟨r, rfl, hr⟩

theorem spec_l1Once_ex (b : List Int) (i h n : Int) (hc : Cur b i) : ∃ r i' h', spec_l1Once.f b i h n = some (r, i', h') ∧ Cur b i' := by
  unfold spec_l1Once.f
  obtain ⟨r, i', h', e, _, _, _, c1⟩ := spec_l1Below_ex b i h n hc
  rw [e]; simp only [Option.bind_some]
  exact ⟨_, _, _, rfl, c1⟩

theorem spec_l1Pick_ex (b : List Int) (i h : Int) (l : List ByteArray) (hl : 0 < l.length) (hc : Cur b i) : ∃ r i' h', spec_l1Pick.f b i h l = some (r, i', h') ∧ r ∈ l ∧ Cur b i' := by
  unfold spec_l1Pick.f
  obtain ⟨r, i', h', e, r0, r1, _, c1⟩ := spec_l1Below_ex b i h (l.length : Int) hc
  have r1 := r1 (by omega)
  rw [e]; simp only [Option.bind_some]
  rw [if_pos r0, if_pos r1]
  refine ⟨_, _, _, rfl, ?_, c1⟩
  have hlt : r.toNat < l.length := by omega
  have := rdOf_nat ByteArray.empty l r.toNat hlt
  rw [Int.toNat_of_nonneg r0] at this
  rw [this]; exact List.getElem_mem hlt

/-- Bytes as numbers; what stands behind the first of the joined. -/
def toI (L : List UInt8) : List Int := L.map fun b => (b.toNat : Int)
def glue (sep : List UInt8) : List (List UInt8) → List UInt8
  | [] => []
  | x :: xs => sep ++ (x ++ glue sep xs)
theorem toI_append (a b : List UInt8) : toI (a ++ b) = toI a ++ toI b := by simp [toI]
theorem toI_length (a : List UInt8) : (toI a).length = a.length := by simp [toI]
theorem strOf_toI (L : List UInt8) : strOfNums (toI L) = ⟨L.toArray⟩ := by
  unfold strOfNums toI
  rw [List.map_map]
  congr 2
  have : ((fun n : Int => UInt8.ofNat n.toNat) ∘ fun b : UInt8 => (b.toNat : Int)) = id := by
    funext b; simp
  rw [this, List.map_id]
theorem size_len (s : ByteArray) : s.size = s.data.toList.length := by rw [Array.length_toList]; rfl
theorem bytesOf_toI (s : ByteArray) : bytesOf s = toI s.data.toList := rfl
theorem glue_len (sep : List UInt8) (B C : Nat) (hs : sep.length ≤ B) : ∀ xs : List (List UInt8), (∀ x ∈ xs, x.length ≤ C) → (glue sep xs).length ≤ xs.length * (B + C) := by
  intro xs
  induction xs with
  | nil => intro _; simp [glue]
  | cons x xs ih =>
    intro h
    have h1 := h x (by simp)
    have h2 := ih (fun y hy => h y (by simp [hy]))
    simp only [glue, List.length_append, List.length_cons, Nat.succ_mul]; omega
theorem inter_glue (sep : List UInt8) : ∀ xs : List (List UInt8), ∀ x, sep.intercalate (x :: xs) = x ++ glue sep xs := by
  intro xs
  induction xs with
  | nil => intro x; simp [glue, List.intercalate]
  | cons y xs ih =>
    intro x
    have h := ih y
    simp only [List.intercalate, List.intersperse_cons_cons, List.flatten_cons, glue] at h ⊢
    rw [h]

/-- A number's decimal digits; none for 0. -/
def digs (u : Nat) : List UInt8 := if h : u = 0 then [] else digs (u / 10) ++ [UInt8.ofNat (48 + u % 10)]
termination_by u
decreasing_by omega
theorem digs_zero : digs 0 = [] := by rw [digs, dif_pos rfl]
theorem digs_pos {u : Nat} (h : u ≠ 0) : digs u = digs (u / 10) ++ [UInt8.ofNat (48 + u % 10)] := by rw [digs, dif_neg h]
theorem decDigits_digs : ∀ (m u : Nat), u < m → u ≠ 0 → Lib.decDigits u = digs u := by
  intro m
  induction m with
  | zero => intro u h; omega
  | succ m ih =>
    intro u hu h0
    rw [Lib.decDigits, digs_pos h0]
    by_cases h : u < 10
    · rw [dif_pos h, show u / 10 = 0 by omega, digs_zero, show u % 10 = u by omega]; rfl
    · rw [dif_neg h, ih (u / 10) (by omega) (by omega)]
theorem itoa_digs (n : Int) (h : n ≠ 0) : Lib.itoa n = if n < 0 then 45 :: digs n.natAbs else digs n.natAbs := by
  unfold Lib.itoa
  by_cases h0 : n < 0
  · rw [if_pos h0, if_pos h0, decDigits_digs _ _ (Nat.lt_succ_self _) (by omega)]
  · rw [if_neg h0, if_neg h0, decDigits_digs _ _ (Nat.lt_succ_self _) (by omega), show n.toNat = n.natAbs by omega]
theorem itoa_zero : Lib.itoa 0 = [48] := by
  unfold Lib.itoa; rw [if_neg (by omega)]
  show Lib.decDigits 0 = [48]
  rw [Lib.decDigits, dif_pos (by omega)]; rfl
theorem ba_append (a b : List UInt8) : (⟨a.toArray⟩ : ByteArray) ++ ⟨b.toArray⟩ = ⟨(a ++ b).toArray⟩ := by
  apply ByteArray.ext
  simp
theorem ba_size (a : List UInt8) : (⟨a.toArray⟩ : ByteArray).size = a.length := by rw [size_len]
theorem strOne (d : Nat) (hd : d < 10) : strOfNums [((48 + d : Nat) : Int)] = ⟨[UInt8.ofNat (48 + d)].toArray⟩ := by
  unfold strOfNums
  simp only [List.map_cons, List.map_nil, Int.toNat_natCast]
theorem digs_len : ∀ (m u : Nat), u < 10 ^ m → (digs u).length ≤ m := by
  intro m
  induction m with
  | zero => intro u h; rw [show u = 0 by simpa using h, digs_zero]; simp
  | succ m ih =>
    intro u h
    by_cases h0 : u = 0
    · subst h0; rw [digs_zero]; simp
    · rw [digs_pos h0, List.length_append]
      have := ih (u / 10) (by rw [Nat.pow_succ] at h; omega)
      simp only [List.length_singleton]; omega

theorem spec_FormatInt_end (k : Nat) (b : Bool) (acc : List UInt8) (h : acc.length ≤ 1000) : spec_FormatInt.l0 (k + 1) 0 b ⟨acc.toArray⟩ = some (if b = true then ⟨(45 :: (digs 0 ++ acc)).toArray⟩ else ⟨(digs 0 ++ acc).toArray⟩) := by
  rw [spec_FormatInt.l0, if_pos rfl, digs_zero]
  cases b
  · rw [if_neg (by simp), if_neg (by simp)]; rfl
  · rw [if_pos rfl, if_pos rfl, ba_size, if_pos (by omega), show (⟨#[45]⟩ : ByteArray) = ⟨[45].toArray⟩ from rfl, ba_append]; rfl
theorem spec_FormatInt_l0 (b : Bool) : ∀ (m u k : Nat) (n : Int) (acc : List UInt8), (n = (u : Int) ∨ n = -(u : Int)) → u < 10 ^ m → m < k → acc.length + m ≤ 1000 → u ≤ 9223372036854775808 → -9223372036854775808 ≤ n → n ≤ 9223372036854775807 →
    spec_FormatInt.l0 k n b ⟨acc.toArray⟩ = some (if b = true then ⟨(45 :: (digs u ++ acc)).toArray⟩ else ⟨(digs u ++ acc).toArray⟩) := by
  intro m
  induction m with
  | zero =>
    intro u k n acc hn hu hk ha _ _ _
    obtain ⟨k, rfl⟩ := succ_of hk
    have h0 : u = 0 := by simpa using hu
    subst h0
    have hn0 : n = 0 := by omega
    subst hn0
    exact spec_FormatInt_end k b acc (by omega)
  | succ m ih =>
    intro u k n acc hn hu hk ha hb n0 n1
    obtain ⟨k, rfl⟩ := succ_of hk
    by_cases h0 : u = 0
    · subst h0
      have hn0 : n = 0 := by omega
      subst hn0
      exact spec_FormatInt_end k b acc (by omega)
    · rw [spec_FormatInt.l0, if_neg (by omega)]
      have hd : (Int.tdiv n 10 = ((u / 10 : Nat) : Int) ∨ Int.tdiv n 10 = -((u / 10 : Nat) : Int)) ∧ (Int.tmod n 10 = ((u % 10 : Nat) : Int) ∨ Int.tmod n 10 = -((u % 10 : Nat) : Int)) := by
        rcases hn with rfl | rfl
        · exact ⟨.inl (by rw [Int.ofNat_tdiv]; rfl), .inl (by rw [Int.ofNat_tmod]; rfl)⟩
        · exact ⟨.inr (by rw [Int.neg_tdiv, Int.ofNat_tdiv]; rfl), .inr (by rw [Int.neg_tmod, Int.ofNat_tmod]; rfl)⟩
      obtain ⟨hd, hm⟩ := hd
      have hw : wrap64 (Int.tdiv n 10) = Int.tdiv n 10 := wrap_id (by omega) (by omega)
      have hr : ∀ d : Int, d = ((u % 10 : Nat) : Int) → strOfNums [(wrap64 (48 + d)) % 256] = ⟨[UInt8.ofNat (48 + u % 10)].toArray⟩ := fun d hd => by
        subst hd
        rw [wrap_id (by omega) (by omega), show ((48 : Int) + ((u % 10 : Nat) : Int)) % 256 = ((48 + u % 10 : Nat) : Int) by omega, strOne _ (by omega)]
      have step := ih (u / 10) k (Int.tdiv n 10) (UInt8.ofNat (48 + u % 10) :: acc) hd (by rw [Nat.pow_succ] at hu; omega) (by omega) (by simp only [List.length_cons]; omega) (by omega) (by omega) (by omega)
      have e : digs u ++ acc = digs (u / 10) ++ (UInt8.ofNat (48 + u % 10) :: acc) := by rw [digs_pos h0, List.append_assoc]; rfl
      rw [e]
      by_cases hneg : Int.tmod n 10 < 0
      · rw [if_pos hneg, Option.bind_some, hr _ (by rw [wrap_id (by omega) (by omega)]; omega), ba_size, ba_size, if_pos (by simp only [List.length_singleton]; omega), hw, ba_append]
        exact step
      · rw [if_neg hneg, Option.bind_some, hr _ (by omega), ba_size, ba_size, if_pos (by simp only [List.length_singleton]; omega), hw, ba_append]
        exact step
theorem spec_FormatInt_eq (n : Int) (n0 : -9223372036854775808 ≤ n) (n1 : n ≤ 9223372036854775807) (k : Nat) (hk : 19 < k) : spec_FormatInt.f k n = some ⟨(Lib.itoa n).toArray⟩ := by
  unfold spec_FormatInt.f
  by_cases h : n = 0
  · subst h; rw [if_pos rfl, itoa_zero]
  · rw [if_neg h]
    have := spec_FormatInt_l0 (decide (n < 0)) 19 n.natAbs k n [] (by omega) (by omega) hk (by simp) (by omega) n0 n1
    rw [show (⟨#[]⟩ : ByteArray) = ⟨([] : List UInt8).toArray⟩ from rfl, this, itoa_digs n h, List.append_nil]
    by_cases h0 : n < 0
    · rw [if_pos (decide_eq_true h0), if_pos h0]
    · rw [if_neg (by simpa using h0), if_neg h0]

theorem spec_DrawParseNumber_ex (b : List Int) (hb : b.length ≤ 140737488351232) (k : Nat) (hk : b.length + 20 < k) : ∃ r, spec_DrawParseNumber.f k b = some r := by
  unfold spec_DrawParseNumber.f
  obtain ⟨h0, e0⟩ := spec_l1New_ex b hb k (by omega)
  rw [e0]; simp only [Option.bind_some]
  obtain ⟨r, i1, h1, e1, c1⟩ := spec_l1Once_ex b 0 h0 2 (cur_zero b hb)
  rw [e1]; simp only [Option.bind_some]
  by_cases hr : r = true
  · rw [if_pos hr]
    obtain ⟨x, i2, h2, e, hx, c2⟩ := spec_l1Whole_ex b i1 h1 c1
    rw [e]; simp only [Option.bind_some]
    rw [spec_FormatInt_eq x hx.1 hx.2 k (by omega)]
    exact ⟨_, rfl⟩
  · rw [if_neg hr]
    obtain ⟨s, i2, h2, e, hm, c2⟩ := spec_l1Pick_ex b i1 h1 ([(⟨#[]⟩ : ByteArray), (⟨#[48, 48]⟩ : ByteArray), (⟨#[48, 49]⟩ : ByteArray), (⟨#[45, 49]⟩ : ByteArray), (⟨#[43, 49]⟩ : ByteArray), (⟨#[120]⟩ : ByteArray), (⟨#[57, 57, 57, 57, 57, 57]⟩ : ByteArray), (⟨#[49, 48, 48, 48, 48, 48, 48]⟩ : ByteArray), (⟨#[45, 48]⟩ : ByteArray), (⟨#[45]⟩ : ByteArray), (⟨#[32, 49]⟩ : ByteArray), (⟨#[49, 32]⟩ : ByteArray)] : List ByteArray) (by simp) c1
    rw [e]
    exact ⟨_, rfl⟩

theorem impl_FormatInt_eq (n : Int) (n0 : -9223372036854775808 ≤ n) (n1 : n ≤ 9223372036854775807) : impl_FormatInt.f n = some ⟨(Lib.itoa n).toArray⟩ := by
  unfold impl_FormatInt.f strconv_Itoa_42.f
  rw [if_pos ⟨n0, n1⟩]; rfl

instance bytesDec : DecidableEq ByteArray := fun a b => decidable_of_iff (a.data = b.data) ⟨fun h => by cases a; cases b; exact congrArg ByteArray.mk h, fun h => by rw [h]⟩
theorem bytes_eq (a b : ByteArray) : a.toList = b.toList ↔ a = b := by
  rw [ByteArray.toList_eq, ByteArray.toList_eq]
  constructor
  · intro h; cases a; cases b; simp only [ByteArray.mk.injEq] at *; exact Array.toList_inj.mp h
  · intro h; rw [h]
theorem bytes_lit (s : ByteArray) (a : Array UInt8) : s.toList = a.toList ↔ s = ⟨a⟩ := by
  rw [ByteArray.toList_eq]
  constructor
  · intro h; cases s; simp only [ByteArray.mk.injEq] at *; exact Array.toList_inj.mp h
  · intro h; rw [h]

theorem bt_cell (s : ByteArray) (i : Nat) (h : i < s.data.toList.length) : bt s (i : Int) = ((s.data.toList[i]'h).toNat : Int) := by
  have h' : i < s.size := by rw [size_len]; exact h
  unfold bt
  rw [dif_pos (show ((i : Int).toNat) < s.size by simpa using h')]
  simp only [Int.toNat_natCast]
  congr 1

theorem digitVal_of (d : Nat) (h : d < 10) : Lib.digitVal (UInt8.ofNat (48 + d)) = some d := by
  have e : (UInt8.ofNat (48 + d)).toNat = 48 + d := by rw [UInt8.toNat_ofNat']; omega
  unfold Lib.digitVal
  rw [e, if_pos (by omega)]; congr 1; omega
theorem decFrom_append : ∀ (a : List UInt8) (acc : Nat) (b : List UInt8), Lib.decFrom acc (a ++ b) = (Lib.decFrom acc a).bind fun x => Lib.decFrom x b
  | [], _, _ => rfl
  | c :: a, acc, b => by
    simp only [List.cons_append, Lib.decFrom]
    cases Lib.digitVal c with
    | none => rfl
    | some d => exact decFrom_append a _ b
theorem decFrom_digs : ∀ (m u : Nat), u < m → Lib.decFrom 0 (digs u) = some u := by
  intro m
  induction m with
  | zero => intro u h; omega
  | succ m ih =>
    intro u hu
    by_cases h0 : u = 0
    · subst h0; rw [digs_zero]; rfl
    · rw [digs_pos h0, decFrom_append, ih (u / 10) (by omega), Option.bind_some]
      simp only [Lib.decFrom]
      rw [digitVal_of _ (by omega)]
      show some _ = some _
      congr 1; omega
theorem digs_head {u : Nat} (h : u ≠ 0) : ∃ b r, digs u = b :: r ∧ 48 ≤ b.toNat ∧ b.toNat ≤ 57 := by
  cases e : digs u with
  | nil => rw [digs_pos h] at e; simp at e
  | cons b r =>
    obtain ⟨d, hd⟩ := Lib.digit_of_decFrom (digs u) 0 u (decFrom_digs _ u (Nat.lt_succ_self _)) 0 b (by rw [e]; rfl)
    have := Lib.digitVal_eq hd
    exact ⟨b, r, rfl, this.1, this.2.1⟩
theorem decNat_cons (b : UInt8) (r : List UInt8) : Lib.decNat (b :: r) = Lib.decFrom 0 (b :: r) := rfl
theorem ne_of_toNat {b : UInt8} {n : Nat} (hn : n < 256) (h : b.toNat ≠ n) : (b == UInt8.ofNat n) = false := by
  rw [beq_eq_false_iff_ne]
  intro e; apply h; rw [e, UInt8.toNat_ofNat']; omega
theorem atoi_itoa (n : Int) : Lib.atoi (Lib.itoa n) = some n := by
  by_cases h0 : n = 0
  · subst h0; rw [itoa_zero]; rfl
  · rw [itoa_digs n h0]
    obtain ⟨b, r, e, b0, b1⟩ := digs_head (u := n.natAbs) (by omega)
    have hd := decFrom_digs _ n.natAbs (Nat.lt_succ_self _)
    by_cases hn : n < 0
    · rw [if_pos hn, e]
      rw [e] at hd
      simp only [Lib.atoi]
      rw [if_pos (by rfl), decNat_cons, hd]
      show some (-(n.natAbs : Int)) = some n
      congr 1; omega
    · rw [if_neg hn, e]
      rw [e] at hd
      simp only [Lib.atoi]
      rw [if_neg (by rw [show (45 : UInt8) = UInt8.ofNat 45 from rfl, ne_of_toNat (by omega) (by omega)]; simp), if_neg (by rw [show (43 : UInt8) = UInt8.ofNat 43 from rfl, ne_of_toNat (by omega) (by omega)]; simp), decNat_cons, hd]
      show some (n.natAbs : Int) = some n
      congr 1; omega
theorem digs_len_iff : ∀ (m u : Nat), (digs u).length ≤ m ↔ u < 10 ^ m := by
  intro m
  induction m with
  | zero =>
    intro u
    constructor
    · intro h
      by_cases h0 : u = 0
      · subst h0; simp
      · rw [digs_pos h0] at h; simp at h
    · intro h; rw [show u = 0 by simpa using h, digs_zero]; simp
  | succ m ih =>
    intro u
    by_cases h0 : u = 0
    · subst h0; rw [digs_zero]; simp [Nat.pow_pos]
    · rw [digs_pos h0, List.length_append, List.length_singleton, Nat.pow_succ]
      have := ih (u / 10)
      constructor
      · intro h; have := this.1 (by omega); omega
      · intro h; have := this.2 (by omega); omega
theorem itoa_len_neg {n : Int} (h : n < 0) (m : Nat) : (Lib.itoa n).length ≤ m + 1 ↔ n.natAbs < 10 ^ m := by
  rw [itoa_digs n (by omega), if_pos h, List.length_cons, ← digs_len_iff]; omega
theorem itoa_len_pos {n : Int} (h : 0 ≤ n) (m : Nat) (hm : 1 ≤ m) : (Lib.itoa n).length ≤ m ↔ n.natAbs < 10 ^ m := by
  by_cases h0 : n = 0
  · subst h0; rw [itoa_zero]; simp [Nat.pow_pos]; omega
  · rw [itoa_digs n h0, if_neg (by omega), ← digs_len_iff]
/-- What is read: the number that is written so, if it has at most L digits. -/
def readL (L : Nat) (s : ByteArray) : Int × Bool := match Lib.atoi s.data.toList with
  | none => (0, false)
  | some n => if n.natAbs < 10 ^ L ∧ (⟨(Lib.itoa n).toArray⟩ : ByteArray) = s then (n, true) else (0, false)
theorem readL_none {L : Nat} {s : ByteArray} (h : ∀ n : Int, n.natAbs < 10 ^ L → (⟨(Lib.itoa n).toArray⟩ : ByteArray) = s → False) : readL L s = (0, false) := by
  unfold readL
  cases Lib.atoi s.data.toList with
  | none => rfl
  | some n => exact if_neg (fun x => h n x.1 x.2)
theorem readL_at {L : Nat} {s : ByteArray} {n : Int} (ha : Lib.atoi s.data.toList = some n) (hn : n.natAbs < 10 ^ L) : readL L s = if (⟨(Lib.itoa n).toArray⟩ : ByteArray) = s then (n, true) else (0, false) := by
  unfold readL
  rw [ha]
  by_cases h : (⟨(Lib.itoa n).toArray⟩ : ByteArray) = s
  · rw [if_pos h]; exact if_pos ⟨hn, h⟩
  · rw [if_neg h]; exact if_neg (fun x => h x.2)
theorem data_of {l : List UInt8} {s : ByteArray} (h : (⟨l.toArray⟩ : ByteArray) = s) : s.data.toList = l := by subst h; rfl
theorem text_eq (a b : ByteArray) : a.toList = b.toList ↔ a = b := by
  rw [Lib.toList_data, Lib.toList_data]
  exact ⟨fun h => ByteArray.ext (Array.toList_inj.1 h), fun h => by rw [h]⟩

theorem impl_ParseInt_eq (s : ByteArray) : impl_ParseInt.f s = some (readL 12 s) := by
  unfold impl_ParseInt.f
  by_cases h : s.size > 13
  · rw [if_pos h, readL_none]
    intro n hn e
    have hl := data_of e
    rw [size_len, hl] at h
    by_cases h0 : n < 0
    · have := (itoa_len_neg h0 12).2 hn; omega
    · have := (itoa_len_pos (by omega : 0 ≤ n) 12 (by omega)).2 hn; omega
  · rw [if_neg h]
    unfold readL
    cases Lib.atoi s.data.toList with
    | none => rfl
    | some n =>
      by_cases hn : n.natAbs < 10 ^ 12
      · by_cases he : (⟨(Lib.itoa n).toArray⟩ : ByteArray) = s
        · exact (if_pos ⟨by omega, by omega, he⟩).trans (congrArg some (if_pos ⟨hn, he⟩)).symm
        · exact (if_neg (fun x => he x.2.2)).trans (congrArg some (if_neg (fun x => he x.2))).symm
      · exact (if_neg (fun x => hn (by omega))).trans (congrArg some (if_neg (fun x => hn x.1))).symm

def readN (s : ByteArray) : Int × Bool := if (readL 12 s).2 = true ∧ 0 ≤ (readL 12 s).1 ∧ (readL 12 s).1 ≤ 999999 then ((readL 12 s).1, true) else (0, false)
theorem readL_yes {L : Nat} {s : ByteArray} (h : (readL L s).2 = true) : (readL L s).1.natAbs < 10 ^ L ∧ (⟨(Lib.itoa (readL L s).1).toArray⟩ : ByteArray) = s := by
  unfold readL at h ⊢
  cases ha : Lib.atoi s.data.toList with
  | none => rw [ha] at h; cases h
  | some n =>
    rw [ha] at h
    by_cases hc : n.natAbs < 10 ^ L ∧ (⟨(Lib.itoa n).toArray⟩ : ByteArray) = s
    · show (if n.natAbs < 10 ^ L ∧ (⟨(Lib.itoa n).toArray⟩ : ByteArray) = s then (n, true) else (0, false)).1.natAbs < _ ∧ _
      simp only [if_pos hc]; exact hc
    · exfalso
      have : (if n.natAbs < 10 ^ L ∧ (⟨(Lib.itoa n).toArray⟩ : ByteArray) = s then (n, true) else (0, false)).2 = true := h
      rw [if_neg hc] at this; cases this
theorem readL_itoa (L : Nat) (n : Int) (h : n.natAbs < 10 ^ L) : readL L ⟨(Lib.itoa n).toArray⟩ = (n, true) := by
  rw [readL_at (n := n) (atoi_itoa n) h, if_pos rfl]
theorem readL_no {L : Nat} {s : ByteArray} (h : ¬ (readL L s).2 = true) : readL L s = (0, false) := by
  unfold readL at h ⊢
  cases ha : Lib.atoi s.data.toList with
  | none => rfl
  | some n =>
    rw [ha] at h
    by_cases hc : n.natAbs < 10 ^ L ∧ (⟨(Lib.itoa n).toArray⟩ : ByteArray) = s
    · exfalso; apply h
      show (if n.natAbs < 10 ^ L ∧ (⟨(Lib.itoa n).toArray⟩ : ByteArray) = s then (n, true) else (0, false)).2 = true
      rw [if_pos hc]
    · exact if_neg hc
theorem readN_six (s : ByteArray) : readN s = if (readL 6 s).2 = true ∧ ¬ (readL 6 s).1 < 0 then ((readL 6 s).1, true) else (0, false) := by
  unfold readN
  by_cases h6 : (readL 6 s).2 = true
  · obtain ⟨hb, he⟩ := readL_yes h6
    have e12 : readL 12 s = ((readL 6 s).1, true) := by
      generalize (readL 6 s).1 = n at hb he
      subst he
      exact readL_itoa 12 n (by omega)
    rw [e12]
    by_cases hn : (readL 6 s).1 < 0
    · rw [if_neg (by simp only; omega), if_neg (fun x => x.2 hn)]
    · rw [if_pos ⟨rfl, by simp only; omega, by simp only; omega⟩, if_pos ⟨h6, hn⟩]
  · have e6 : ¬ ((readL 6 s).2 = true ∧ ¬ (readL 6 s).1 < 0) := fun x => h6 x.1
    rw [if_neg e6]
    by_cases h12 : (readL 12 s).2 = true
    · obtain ⟨hb, he⟩ := readL_yes h12
      rw [if_neg]
      rintro ⟨_, h1, h2⟩
      apply h6
      generalize (readL 12 s).1 = n at hb he h1 h2
      subst he
      rw [readL_itoa 6 n (by omega)]
    · rw [if_neg (fun x => h12 x.1)]

theorem impl_ParseNumber_eq (s : ByteArray) : impl_ParseNumber.f s = some (readN s) := by
  unfold impl_ParseNumber.f readN
  rw [impl_ParseInt_eq, Option.bind_some]
  generalize readL 12 s = x
  obtain ⟨n, b⟩ := x
  cases b
  · rw [if_neg (by simp), if_neg (by simp)]
  · simp only [if_true, impl_within.f]
    by_cases h0 : n ≥ 0
    · rw [if_pos h0, Option.bind_some]
      by_cases h1 : n ≤ 999999
      · rw [if_pos (decide_eq_true h1), if_pos ⟨trivial, h0, h1⟩]
      · rw [if_neg (by simpa using h1), if_neg (fun x => h1 x.2.2)]
    · rw [if_neg h0, Option.bind_some, if_neg (by simp), if_neg (fun x => h0 x.2.1)]

theorem spec_l1Read_l0 (s t : ByteArray) (neg : Bool) (hl : t.size ≤ 12) : ∀ (d j k acc : Nat), j + d = t.size → d + 21 < k → acc < 10 ^ j →
    spec_l1Read.l0 k s neg t (acc : Int) (j : Int) = some (match Lib.decFrom acc (t.data.toList.drop j) with
      | none => ((0 : Int), false)
      | some m => if (⟨(Lib.itoa (if neg = true then -(m : Int) else (m : Int))).toArray⟩ : ByteArray) = s then (if neg = true then -(m : Int) else (m : Int), true) else (0, false)) := by
  intro d
  induction d with
  | zero =>
    intro j k acc hj hk ha
    obtain ⟨k, rfl⟩ := succ_of hk
    have hb : acc < 10 ^ 12 := Nat.lt_of_lt_of_le ha (Nat.pow_le_pow_right (by omega) (by omega))
    rw [spec_l1Read.l0, if_neg (by omega), List.drop_eq_nil_of_le (by rw [size_len] at hj; omega)]
    simp only [Lib.decFrom]
    cases neg
    · rw [if_neg (by simp), spec_FormatInt_eq _ (by omega) (by omega) k (by omega), Option.bind_some]
      simp only [Bool.false_eq_true, if_false]
      by_cases he : (⟨(Lib.itoa (acc : Int)).toArray⟩ : ByteArray) = s
      · rw [if_pos ((text_eq _ _).2 he), if_pos he]
      · rw [if_neg (fun x => he ((text_eq _ _).1 x)), if_neg he]
    · rw [if_pos rfl, wrap_id (by omega) (by omega), spec_FormatInt_eq _ (by omega) (by omega) k (by omega), Option.bind_some]
      simp only [if_true]
      by_cases he : (⟨(Lib.itoa (-(acc : Int))).toArray⟩ : ByteArray) = s
      · rw [if_pos ((text_eq _ _).2 he), if_pos he]
      · rw [if_neg (fun x => he ((text_eq _ _).1 x)), if_neg he]
  | succ d ih =>
    intro j k acc hj hk ha
    obtain ⟨k, rfl⟩ := succ_of hk
    have hlt : j < t.data.toList.length := by rw [← size_len]; omega
    have hb : acc < 10 ^ 11 := Nat.lt_of_lt_of_le ha (Nat.pow_le_pow_right (by omega) (by omega))
    have hc := bt_cell t j hlt
    rw [spec_l1Read.l0, if_pos (by omega), if_pos (by omega), hc, List.drop_eq_getElem_cons hlt]
    simp only [Lib.decFrom, Lib.digitVal]
    have hu := (t.data.toList[j]).toNat_lt
    by_cases h1 : 48 ≤ (t.data.toList[j]).toNat ∧ (t.data.toList[j]).toNat ≤ 57
    · rw [if_pos h1, if_neg (by omega), if_neg (by omega)]
      have e : wrap64 ((wrap64 (10 * (acc : Int))) + ((((t.data.toList[j]).toNat : Int) - 48) % 256)) = ((acc * 10 + ((t.data.toList[j]).toNat - 48) : Nat) : Int) := by
        rw [wrap_id (n := 10 * (acc : Int)) (by omega) (by omega), wrap_id (by omega) (by omega)]; omega
      rw [e, wrap_succ (n := 12) (by omega) (by omega)]
      exact ih (j + 1) k _ (by omega) (by omega) (by rw [Nat.pow_succ]; omega)
    · rw [if_neg h1]
      by_cases h2 : (t.data.toList[j]).toNat < 48
      · rw [if_pos (by omega)]
      · rw [if_neg (by omega), if_pos (by omega)]
theorem spec_l1Read_j1 (L : Nat) (hL : 1 ≤ L ∧ L ≤ 12) (s t : ByteArray) (neg : Bool) (k : Nat) (hk : 50 < k) :
    spec_l1Read.j1 k s (L : Int) neg t = some (if 1 ≤ t.size ∧ t.size ≤ L then (match Lib.decFrom 0 t.data.toList with
      | none => ((0 : Int), false)
      | some m => if (⟨(Lib.itoa (if neg = true then -(m : Int) else (m : Int))).toArray⟩ : ByteArray) = s then (if neg = true then -(m : Int) else (m : Int), true) else (0, false)) else (0, false)) := by
  obtain ⟨k, rfl⟩ := succ_of hk
  obtain ⟨k, rfl⟩ := succ_of (show 48 < k by omega)
  rw [spec_l1Read.j1]
  by_cases h1 : (t.size : Int) < 1
  · rw [if_pos h1, spec_l1Read.j2, if_pos rfl, if_neg (by omega)]
  · rw [if_neg h1, spec_l1Read.j2]
    by_cases h2 : (t.size : Int) > (L : Int)
    · rw [if_pos (decide_eq_true h2), if_neg (by omega)]
    · rw [if_neg (by simpa using h2), if_pos (by omega)]
      have := spec_l1Read_l0 s t neg (by omega) t.size 0 k 0 (by omega) (by omega) (by simp)
      rw [List.drop_zero] at this
      exact this
theorem readL_sign (L : Nat) (hL : 1 ≤ L) (s t : ByteArray) (neg : Bool) (hd : s.data.toList = if neg = true then 45 :: t.data.toList else t.data.toList) (hs : neg = false → ∀ b r, t.data.toList = b :: r → b.toNat ≠ 45) :
    (if 1 ≤ t.size ∧ t.size ≤ L then (match Lib.decFrom 0 t.data.toList with
      | none => ((0 : Int), false)
      | some m => if (⟨(Lib.itoa (if neg = true then -(m : Int) else (m : Int))).toArray⟩ : ByteArray) = s then (if neg = true then -(m : Int) else (m : Int), true) else (0, false)) else (0, false)) = readL L s := by
  -- a number that is written as s
  have key : ∀ n : Int, (⟨(Lib.itoa n).toArray⟩ : ByteArray) = s → n.natAbs < 10 ^ L → (1 ≤ t.size ∧ t.size ≤ L) ∧ Lib.decFrom 0 t.data.toList = some n.natAbs ∧ n = (if neg = true then -(n.natAbs : Int) else (n.natAbs : Int)) := by
    intro n hn hb
    have hl := data_of hn
    rw [hd] at hl
    rw [size_len]
    cases neg with
    | true =>
      simp only [if_true] at hl ⊢
      by_cases h0 : n < 0
      · have hi := itoa_digs n (by omega)
        rw [if_pos h0] at hi
        rw [hi] at hl
        have ht : t.data.toList = digs n.natAbs := by injection hl
        have hlen := (digs_len_iff L n.natAbs).2 hb
        obtain ⟨b, r, e, _⟩ := digs_head (u := n.natAbs) (by omega)
        refine ⟨⟨by rw [ht, e]; simp, by rw [ht]; exact hlen⟩, by rw [ht]; exact decFrom_digs _ _ (Nat.lt_succ_self _), by omega⟩
      · exfalso
        by_cases hz : n = 0
        · subst hz; rw [itoa_zero] at hl; injection hl with h1 _; exact absurd h1 (by decide)
        · rw [itoa_digs n hz, if_neg h0] at hl
          obtain ⟨b, r, e, b0, _⟩ := digs_head (u := n.natAbs) (by omega)
          rw [e] at hl
          injection hl with h1 _
          rw [← h1] at b0
          exact absurd b0 (by decide)
    | false =>
      simp only [Bool.false_eq_true, if_false] at hl ⊢
      by_cases h0 : n < 0
      · exfalso
        have hi := itoa_digs n (by omega)
        rw [if_pos h0] at hi
        rw [hi] at hl
        exact hs rfl 45 (digs n.natAbs) hl rfl
      · have hlen := (itoa_len_pos (by omega : 0 ≤ n) L hL).2 hb
        have hpos : 1 ≤ (Lib.itoa n).length := by
          by_cases hz : n = 0
          · subst hz; rw [itoa_zero]; simp
          · rw [itoa_digs n hz, if_neg h0]
            obtain ⟨b, r, e, _⟩ := digs_head (u := n.natAbs) (by omega)
            rw [e]; simp
        refine ⟨⟨by rw [hl]; exact hpos, by rw [hl]; exact hlen⟩, ?_, by omega⟩
        rw [hl]
        by_cases hz : n = 0
        · subst hz; rw [itoa_zero]; rfl
        · rw [itoa_digs n hz, if_neg h0]; exact decFrom_digs _ _ (Nat.lt_succ_self _)
  by_cases ht : 1 ≤ t.size ∧ t.size ≤ L
  · rw [if_pos ht]
    cases hdec : Lib.decFrom 0 t.data.toList with
    | none =>
      rw [readL_none]
      intro n hn he
      have := (key n he hn).2.1
      rw [hdec] at this; cases this
    | some m =>
      have hm : m < 10 ^ L := by
        have h1 := Lib.decFrom_lt _ _ _ hdec
        rw [← size_len] at h1
        have h2 : 10 ^ t.size ≤ 10 ^ L := Nat.pow_le_pow_right (by omega) ht.2
        omega
      show (if (⟨(Lib.itoa (if neg = true then -(m : Int) else (m : Int))).toArray⟩ : ByteArray) = s then (if neg = true then -(m : Int) else (m : Int), true) else (0, false)) = readL L s
      by_cases he : (⟨(Lib.itoa (if neg = true then -(m : Int) else (m : Int))).toArray⟩ : ByteArray) = s
      · rw [if_pos he]
        have ha : Lib.atoi s.data.toList = some (if neg = true then -(m : Int) else (m : Int)) := by rw [data_of he]; exact atoi_itoa _
        rw [readL_at ha (by cases neg <;> simp <;> omega), if_pos he]
      · rw [if_neg he, readL_none]
        intro n hn h'
        obtain ⟨_, h2, h3⟩ := key n h' hn
        rw [hdec] at h2
        obtain rfl := Option.some.inj h2
        rw [← h3] at he
        exact he h'
  · rw [if_neg ht, readL_none]
    intro n hn he
    exact ht (key n he hn).1
theorem spec_l1Read_eq (L : Nat) (hL : 1 ≤ L ∧ L ≤ 12) (s : ByteArray) (k : Nat) (hk : 60 < k) : spec_l1Read.f k s (L : Int) = some (readL L s) := by
  unfold spec_l1Read.f
  obtain ⟨k, rfl⟩ := succ_of hk
  by_cases h0 : (s.size : Int) > 0
  · rw [if_pos h0, if_pos (by omega)]
    have hlt : 0 < s.data.toList.length := by rw [← size_len]; omega
    have hb := bt_cell s 0 hlt
    rw [show ((0 : Nat) : Int) = 0 from rfl] at hb
    rw [spec_l1Read.j0]
    by_cases h45 : (bt s 0 == 45) = true
    · rw [if_pos h45, if_pos (by omega), spec_l1Read_j1 L hL _ _ _ k (by omega), h45]
      have e45 : s.data.toList[0] = 45 := by
        have := beq_iff_eq.1 h45
        rw [hb] at this
        apply UInt8.toNat_inj.1
        show (s.data.toList[0]).toNat = 45
        omega
      have hex : (s.extract 1 s.size).data.toList = s.data.toList.drop 1 := by
        rw [ByteArray.data_extract, Array.toList_extract, size_len]
        simp only [List.extract_eq_take_drop]
        exact List.take_of_length_le (by rw [List.length_drop]; exact Nat.le_refl _)
      rw [readL_sign L hL.1 s (s.extract 1 s.size) true (by
        rw [if_pos rfl, hex, ← e45, List.getElem_cons_drop, List.drop_zero]) (fun h => by cases h)]
    · rw [if_neg h45, spec_l1Read_j1 L hL _ _ _ k (by omega), Bool.eq_false_iff.2 h45]
      rw [readL_sign L hL.1 s s false (by rw [if_neg (by simp)]) (fun _ b r e hb' => ?_)]
      apply h45
      rw [beq_iff_eq, hb]
      have : s.data.toList[0] = b := by simp [e]
      rw [this]; omega
  · rw [if_neg h0, spec_l1Read.j0, if_neg (by simp), spec_l1Read_j1 L hL _ _ _ k (by omega)]
    rw [readL_sign L hL.1 s s false (by rw [if_neg (by simp)]) (fun _ b r e => ?_)]
    rw [size_len, e] at h0; simp at h0

theorem spec_ParseNumber_eq (s : ByteArray) (k : Nat) (hk : 60 < k) : spec_ParseNumber.f k s = some (readN s) := by
  unfold spec_ParseNumber.f
  rw [show (6 : Int) = ((6 : Nat) : Int) from rfl, spec_l1Read_eq 6 (by omega) s k hk, Option.bind_some, readN_six]
  generalize readL 6 s = x
  obtain ⟨n, b⟩ := x
  cases b
  · rw [if_neg (by simp), if_neg (by simp)]
  · simp only [if_true]
    by_cases h0 : n < 0
    · rw [if_pos h0, if_neg (fun x => x.2 h0)]
    · rw [if_neg h0, if_pos ⟨trivial, h0⟩]

theorem readL_of_itoa (L : Nat) (n : Int) : readL L ⟨(Lib.itoa n).toArray⟩ = if n.natAbs < 10 ^ L then (n, true) else (0, false) := by
  by_cases h : n.natAbs < 10 ^ L
  · rw [if_pos h, readL_itoa L n h]
  · rw [if_neg h, readL_none]
    intro m hm e
    have h1 := data_of e
    have h2 : Lib.itoa n = Lib.itoa m := h1
    have h3 := atoi_itoa n
    rw [h2, atoi_itoa m] at h3
    obtain rfl := Option.some.inj h3
    exact h hm
theorem readN_yes {s : ByteArray} (h : (readN s).2 = true) : (⟨(Lib.itoa (readN s).1).toArray⟩ : ByteArray) = s ∧ 0 ≤ (readN s).1 ∧ (readN s).1 ≤ 999999 := by
  unfold readN at h ⊢
  by_cases hc : (readL 12 s).2 = true ∧ 0 ≤ (readL 12 s).1 ∧ (readL 12 s).1 ≤ 999999
  · rw [if_pos hc]; exact ⟨(readL_yes hc.1).2, hc.2⟩
  · rw [if_neg hc] at h; cases h

theorem numbers_tail (c : List Int) (hb : c.length ≤ 1048576) (k : Nat) (hk : 1048700 < k) :
    ((spec_DrawParseNumber.f k c).bind fun t => ((impl_ParseNumber.f t).bind fun x => ((spec_ParseNumber.f k t).bind fun y => (if (x.2 == y.2) = true then (if x.2 = true then ((impl_FormatInt.f x.1).bind fun u => (if u.toList = t.toList then (some (decide (x.1 ≥ 0))) else (some false))) else (some true)) else (some false))))) = some true := by
  obtain ⟨t, e⟩ := spec_DrawParseNumber_ex c (by omega) k (by omega)
  rw [e, Option.bind_some, impl_ParseNumber_eq, Option.bind_some, spec_ParseNumber_eq t k (by omega), Option.bind_some, if_pos (by simp)]
  by_cases h : (readN t).2 = true
  · obtain ⟨h1, h2, h3⟩ := readN_yes h
    rw [if_pos h, impl_FormatInt_eq _ (by omega) (by omega), Option.bind_some, if_pos (by rw [h1]), decide_eq_true h2]
  · rw [if_neg h]
theorem FnNumbers : laws_FnNumbers.Pure := by
  intro c hw
  refine ⟨1050000, ?_⟩
  unfold laws_FnNumbers.f laws_big.f
  rw [Option.bind_some]
  by_cases hb : (c.length : Int) > 1048576
  · rw [if_pos (by simpa using hb)]
  rw [if_neg (by simpa using hb)]
  obtain ⟨n, e, n0, n1⟩ := spec_DrawFormatInt_ex c (by omega) 1050000 (by omega)
  have tail := numbers_tail c (by omega) 1050000 (by omega)
  rw [e, Option.bind_some, impl_FormatInt_eq n n0 n1, Option.bind_some, impl_ParseInt_eq, Option.bind_some, spec_FormatInt_eq n n0 n1 _ (by omega), Option.bind_some, if_pos rfl, readL_of_itoa, ba_size]
  by_cases h12 : ((Lib.itoa n).length : Int) ≤ 12
  · have hn : n.natAbs < 10 ^ 12 := by
      by_cases h0 : n < 0
      · have := (itoa_len_neg h0 11).1 (by omega); omega
      · exact (itoa_len_pos (by omega) 12 (by omega)).1 (by omega)
    rw [if_pos h12, if_pos hn, if_neg (by simp), if_pos rfl, if_pos rfl]
    exact tail
  · rw [if_neg h12]
    by_cases h0 : n < 0
    · rw [if_pos h0]
      by_cases h13 : ((Lib.itoa n).length : Int) ≤ 13
      · have hn := (itoa_len_neg h0 12).1 (by omega)
        rw [if_pos hn, if_neg (by rw [decide_eq_true h13]; simp), if_pos rfl, if_pos rfl]
        exact tail
      · have hn : ¬ n.natAbs < 10 ^ 12 := fun h => by have := (itoa_len_neg h0 12).2 h; omega
        rw [if_neg hn, if_neg (by rw [decide_eq_false h13]; simp), if_neg (by simp)]
        exact tail
    · rw [if_neg h0]
      have hn : ¬ n.natAbs < 10 ^ 12 := fun h => by have := (itoa_len_pos (by omega) 12 (by omega)).2 h; omega
      rw [if_neg hn, if_neg (by simp), if_neg (by simp)]
      exact tail

end Go.Proofs.YtmdjhmggogfbdaaDoor.Pure
