/- The parts of a drawn text, joined again, are the text; they are as many as the reference's; no part is parted again. -/
import Derived.Test.YtmdjhmggogfbdaaDoorQFnSplitx2
namespace Go.Proofs.YtmdjhmggogfbdaaDoor.Pure
open Go.RowKit Go.Proofs.YtmdjhmggogfbdaaDoorV.PrintWords Go.Proofs.YtmdjhmggogfbdaaDoorV.PrintLast Go.Proofs.YtmdjhmggogfbdaaDoorV.PrintMore Go.Proofs.YtmdjhmggogfbdaaDoor.QFnSplit
set_option linter.unusedVariables false
set_option linter.unusedSimpArgs false

/-- Bytes as numbers; what stands behind the first of the joined. -/
def toI (L : List UInt8) : List Int := L.map fun b => (b.toNat : Int)
def glue (sep : List UInt8) : List (List UInt8) → List UInt8
  | [] => []
  | x :: xs => sep ++ (x ++ glue sep xs)
theorem toI_append (a b : List UInt8) : toI (a ++ b) = toI a ++ toI b := by simp [toI]
theorem toI_length (a : List UInt8) : (toI a).length = a.length := by simp [toI]
theorem strOf_toI (L : List UInt8) : strOfNums (toI L) = ⟨L.toArray⟩ := by
  unfold strOfNums toI
  rw [List.map_map]
  congr 2
  have : ((fun n : Int => UInt8.ofNat n.toNat) ∘ fun b : UInt8 => (b.toNat : Int)) = id := by
    funext b; simp
  rw [this, List.map_id]
theorem size_len (s : ByteArray) : s.size = s.data.toList.length := by rw [Array.length_toList]; rfl
theorem bytesOf_toI (s : ByteArray) : bytesOf s = toI s.data.toList := rfl
theorem glue_len (sep : List UInt8) (B C : Nat) (hs : sep.length ≤ B) : ∀ xs : List (List UInt8), (∀ x ∈ xs, x.length ≤ C) → (glue sep xs).length ≤ xs.length * (B + C) := by
  intro xs
  induction xs with
  | nil => intro _; simp [glue]
  | cons x xs ih =>
    intro h
    have h1 := h x (by simp)
    have h2 := ih (fun y hy => h y (by simp [hy]))
    simp only [glue, List.length_append, List.length_cons, Nat.succ_mul]; omega
theorem inter_glue (sep : List UInt8) : ∀ xs : List (List UInt8), ∀ x, sep.intercalate (x :: xs) = x ++ glue sep xs := by
  intro xs
  induction xs with
  | nil => intro x; simp [glue, List.intercalate]
  | cons y xs ih =>
    intro x
    have h := ih y
    simp only [List.intercalate, List.intersperse_cons_cons, List.flatten_cons, glue] at h ⊢
    rw [h]

instance bytesDec : DecidableEq ByteArray := fun a b => decidable_of_iff (a.data = b.data) ⟨fun h => by cases a; cases b; exact congrArg ByteArray.mk h, fun h => by rw [h]⟩
theorem bytes_eq (a b : ByteArray) : a.toList = b.toList ↔ a = b := by
  rw [ByteArray.toList_eq, ByteArray.toList_eq]
  constructor
  · intro h; cases a; cases b; simp only [ByteArray.mk.injEq] at *; exact Array.toList_inj.mp h
  · intro h; rw [h]
theorem bytes_lit (s : ByteArray) (a : Array UInt8) : s.toList = a.toList ↔ s = ⟨a⟩ := by
  rw [ByteArray.toList_eq]
  constructor
  · intro h; cases s; simp only [ByteArray.mk.injEq] at *; exact Array.toList_inj.mp h
  · intro h; rw [h]

theorem bt_cell (s : ByteArray) (i : Nat) (h : i < s.data.toList.length) : bt s (i : Int) = ((s.data.toList[i]'h).toNat : Int) := by
  have h' : i < s.size := by rw [size_len]; exact h
  unfold bt
  rw [dif_pos (show ((i : Int).toNat) < s.size by simpa using h')]
  simp only [Int.toNat_natCast]
  congr 1

/-- A text's parts between the bytes c. -/
def splitL (c : UInt8) : List UInt8 → List (List UInt8)
  | [] => [[]]
  | b :: r => if b = c then [] :: splitL c r else match splitL c r with
    | [] => [[b]]
    | h :: t => (b :: h) :: t
theorem splitL_ne (c : UInt8) : ∀ l, splitL c l ≠ []
  | [] => by simp [splitL]
  | b :: r => by
    unfold splitL
    split
    · simp
    · split <;> simp
theorem splitL_notin (c : UInt8) : ∀ l : List UInt8, c ∉ l → splitL c l = [l]
  | [], _ => rfl
  | b :: r, h => by
    have hb : b ≠ c := fun e => h (by simp [e])
    rw [splitL, if_neg hb, splitL_notin c r (fun e => h (by simp [e]))]
theorem splitL_app (c : UInt8) : ∀ (a r : List UInt8), c ∉ a → splitL c (a ++ c :: r) = a :: splitL c r
  | [], r, _ => by simp [splitL]
  | b :: a, r, h => by
    have hb : b ≠ c := fun e => h (by simp [e])
    rw [List.cons_append, splitL, if_neg hb, splitL_app c a r (fun e => h (by simp [e]))]
theorem splitL_len (c : UInt8) : ∀ l : List UInt8, (splitL c l).length ≤ l.length + 1
  | [] => by simp [splitL]
  | b :: r => by
    have := splitL_len c r
    unfold splitL
    split
    · simp only [List.length_cons]; omega
    · split
      · simp
      · rename_i h t e; rw [e] at this; simp only [List.length_cons] at *; omega
theorem splitL_mem (c : UInt8) : ∀ (l : List UInt8), ∀ p ∈ splitL c l, c ∉ p ∧ p.length ≤ l.length
  | [], p, hp => by
    rw [splitL, List.mem_singleton] at hp; subst hp; simp
  | b :: r, p, hp => by
    have ih := splitL_mem c r
    rw [splitL] at hp
    split at hp
    · rcases List.mem_cons.1 hp with rfl | hp
      · simp
      · have := ih p hp; exact ⟨this.1, by simp only [List.length_cons]; omega⟩
    · rename_i hb
      split at hp
      · rename_i e; exact absurd e (splitL_ne c r)
      · rename_i h t e
        rw [e] at ih
        rcases List.mem_cons.1 hp with rfl | hp
        · have := ih h (by simp)
          refine ⟨fun hc => ?_, by simp only [List.length_cons]; omega⟩
          rcases List.mem_cons.1 hc with e | e
          · exact hb e.symm
          · exact this.1 e
        · have := ih p (by simp [hp]); exact ⟨this.1, by simp only [List.length_cons]; omega⟩
theorem splitL_join (c : UInt8) : ∀ l : List UInt8, [c].intercalate (splitL c l) = l
  | [] => by simp [splitL, List.intercalate]
  | b :: r => by
    have ih := splitL_join c r
    rw [splitL]
    split
    · rename_i e; subst e
      cases e : splitL b r with
      | nil => exact absurd e (splitL_ne b r)
      | cons h t => rw [e] at ih; rw [← ih]; simp [List.intercalate]
    · split
      · rename_i e; exact absurd e (splitL_ne c r)
      · rename_i h t e
        rw [e] at ih
        rw [← ih]
        cases t with
        | nil => simp [List.intercalate]
        | cons h2 t2 => simp [List.intercalate]
theorem index_notin (c : UInt8) : ∀ l : List UInt8, c ∉ l → Lib.index l [c] = -1
  | [], _ => by simp [Lib.index]
  | b :: r, h => by
    have hb : b ≠ c := fun e => h (by simp [e])
    rw [Lib.index, index_notin c r (fun e => h (by simp [e]))]
    simp [List.isPrefixOf, Ne.symm hb]
theorem index_app (c : UInt8) : ∀ (a r : List UInt8), c ∉ a → Lib.index (a ++ c :: r) [c] = (a.length : Int)
  | [], r, _ => by simp [Lib.index, List.isPrefixOf]
  | b :: a, r, h => by
    have hb : b ≠ c := fun e => h (by simp [e])
    rw [List.cons_append, Lib.index, index_app c a r (fun e => h (by simp [e]))]
    rw [if_neg (by simp [List.isPrefixOf, Ne.symm hb]), if_neg (by rw [beq_iff_eq]; omega)]
    simp
theorem first_at (c : UInt8) : ∀ l : List UInt8, c ∈ l → ∃ a r, l = a ++ c :: r ∧ c ∉ a
  | [], h => by simp at h
  | b :: l, h => by
    by_cases e : b = c
    · exact ⟨[], l, by simp [e], by simp⟩
    · rcases List.mem_cons.1 h with h | h
      · exact absurd h.symm e
      · obtain ⟨a, r, rfl, ha⟩ := first_at c l h
        refine ⟨b :: a, r, rfl, fun hc => ?_⟩
        rcases List.mem_cons.1 hc with h | h
        · exact e h.symm
        · exact ha h
theorem splitK_one (c : UInt8) : ∀ (k : Nat) (l : List UInt8), l.count c ≤ k → Lib.splitK [c] 0 k l = splitL c l
  | 0, l, h => by
    rw [splitL_notin c l (fun hc => by have := List.count_pos_iff.2 hc; omega)]; rfl
  | k + 1, l, h => by
    rw [Lib.splitK]
    by_cases hc : c ∈ l
    · obtain ⟨a, r, rfl, ha⟩ := first_at c l hc
      rw [index_app c a r ha, splitL_app c a r ha, if_neg (by rw [beq_iff_eq]; omega)]
      have h1 : (a ++ c :: r).count c = a.count c + (r.count c + 1) := by rw [List.count_append, List.count_cons_self]
      rw [show ((a.length : Int)).toNat = a.length from rfl]
      rw [Nat.add_zero, List.take_left', show (a ++ c :: r).drop (a.length + [c].length) = r from by
        rw [List.drop_append, List.drop_eq_nil_of_le (by simp)]; simp, splitK_one c k r (by omega)]
      rfl
    · rw [index_notin c l hc, splitL_notin c l hc, if_pos (by simp)]
def splitS (c : UInt8) (s : ByteArray) : List ByteArray := (splitL c s.data.toList).map fun p => (⟨p.toArray⟩ : ByteArray)
theorem map_data (L : List ByteArray) (M : List (List UInt8)) (h : L.map (·.data.toList) = M) : L = M.map fun p => (⟨p.toArray⟩ : ByteArray) := by
  subst h
  rw [List.map_map]
  conv => lhs; rw [← List.map_id L]
  apply List.map_congr_left
  intro x _
  rfl
theorem splitB_one (c : UInt8) (s : ByteArray) : Lib.splitB ⟨#[c]⟩ 0 (Lib.countB s ⟨#[c]⟩) s = splitS c s := by
  refine map_data _ _ ?_
  rw [Lib.splitB_data]
  refine splitK_one c _ _ ?_
  rw [← Lib.count_one]
  exact Nat.le_refl _
theorem strOf_byte (n : Int) (h0 : 0 ≤ n) (h1 : n < 256) : strOfNums [n] = ⟨#[UInt8.ofNat n.toNat]⟩ := by
  unfold strOfNums; rfl

theorem wrap_id {n : Int} (h0 : -9223372036854775808 ≤ n) (h1 : n ≤ 9223372036854775807) : wrap64 n = n := by
  unfold wrap64; omega
theorem wrap_succ {j n : Nat} (h : j < n) (hn : n ≤ 4611686018427387904) : wrap64 ((j : Int) + 1) = ((j + 1 : Nat) : Int) := by
  unfold wrap64; omega
theorem succ_of {d k : Nat} (h : d < k) : ∃ m, k = m + 1 := ⟨k - 1, by omega⟩
theorem lit_int {n : Int} (h : (Lit.int .i64 n).wf = true) : -9223372036854775808 ≤ n ∧ n ≤ 9223372036854775807 := by
  simpa [Lit.wf, IntKind.min, IntKind.max, IntKind.signed, IntKind.bits] using h

theorem spec_SplitByte_l0 (s : ByteArray) (n : Int) (h0 : 0 ≤ n) (h1 : n < 256) (hs : s.size ≤ 4294967280) : ∀ (d i k fr : Nat) (out : List ByteArray), i + d = s.size → d + 1 < k → fr ≤ i → out.length ≤ i →
    spec_SplitByte.l0 k s n out (fr : Int) (i : Int) = some (out ++ (match splitL (UInt8.ofNat n.toNat) (s.data.toList.drop i) with
      | [] => []
      | h :: t => ((s.extract fr i) ++ (⟨h.toArray⟩ : ByteArray)) :: t.map fun p => (⟨p.toArray⟩ : ByteArray))) := by
  intro d
  induction d with
  | zero =>
    intro i k fr out hi hk hf ho
    obtain ⟨k, rfl⟩ := succ_of hk
    obtain ⟨k, rfl⟩ := succ_of (show 0 < k by omega)
    rw [spec_SplitByte.l0, if_pos (by omega), if_pos (by omega), if_pos (by omega), if_pos (by omega), if_pos (by omega), wrap_id (by omega) (by omega), spec_SplitByte.l0, if_neg (by omega), List.drop_eq_nil_of_le (by rw [← size_len]; omega)]
    simp only [splitL, List.map_nil, Int.toNat_natCast]
    congr 3
    exact (ByteArray.append_empty).symm
  | succ d ih =>
    intro i k fr out hi hk hf ho
    obtain ⟨k, rfl⟩ := succ_of hk
    have hlt : i < s.data.toList.length := by rw [← size_len]; omega
    have hc : bt s (i : Int) = n ↔ s.data.toList[i] = UInt8.ofNat n.toNat := by
      have hu := (s.data.toList[i]).toNat_lt
      rw [bt_cell s i hlt, ← UInt8.toNat_inj, UInt8.toNat_ofNat']; omega
    have hw : wrap64 ((i : Int) + 1) = ((i + 1 : Nat) : Int) := by clear hc; rw [wrap_id (by omega) (by omega)]; rfl
    rw [spec_SplitByte.l0, hw, List.drop_eq_getElem_cons hlt]
    clear hw
    generalize bt s (i : Int) = B at hc ⊢
    rw [if_pos (show (i : Int) ≤ (s.size : Int) by omega), if_neg (show ¬ (i : Int) = (s.size : Int) by omega), if_pos (show 0 ≤ (i : Int) by omega), if_pos (show (i : Int) < (s.size : Int) by omega)]
    by_cases he : B = n
    · rw [if_pos he, if_pos (show 0 ≤ (fr : Int) by omega), if_pos (show (fr : Int) ≤ (i : Int) by omega), if_pos (show out.length < 8796093022208 by omega), ih (i + 1) k (i + 1) _ (by omega) (by omega) (Nat.le_refl _) (by simp only [List.length_append, List.length_singleton]; omega)]
      rw [splitL, if_pos (hc.1 he)]
      cases e : splitL (UInt8.ofNat n.toNat) (s.data.toList.drop (i + 1)) with
      | nil => exact absurd e (splitL_ne _ _)
      | cons h t =>
        simp only [Int.toNat_natCast, List.map_cons, List.append_assoc, List.singleton_append]
        rw [show s.extract (i + 1) (i + 1) = ByteArray.empty from by apply ByteArray.ext; simp, ByteArray.empty_append, show (⟨([] : List UInt8).toArray⟩ : ByteArray) = ByteArray.empty from rfl, ByteArray.append_empty]
    · rw [if_neg he, ih (i + 1) k fr out (by omega) (by omega) (by omega) (by omega), splitL, if_neg (fun x => he (hc.2 x))]
      cases e : splitL (UInt8.ofNat n.toNat) (s.data.toList.drop (i + 1)) with
      | nil => exact absurd e (splitL_ne _ _)
      | cons h t =>
        simp only
        congr 3
        apply ByteArray.ext
        apply Array.toList_inj.1
        simp only [ByteArray.data_append, ByteArray.data_extract, Array.toList_append, Array.toList_extract, List.extract_eq_take_drop]
        rw [show i + 1 - fr = (i - fr) + 1 by omega, List.take_succ_eq_append_getElem (by rw [List.length_drop]; omega), List.getElem_drop, List.append_assoc]
        simp only [show fr + (i - fr) = i by omega]
        rfl
theorem spec_SplitByte_eq (s : ByteArray) (n : Int) (h0 : 0 ≤ n) (h1 : n < 256) (hs : s.size ≤ 4294967280) (k : Nat) (hk : s.size + 1 < k) : spec_SplitByte.f k s n = some (splitS (UInt8.ofNat n.toNat) s) := by
  unfold spec_SplitByte.f
  have := spec_SplitByte_l0 s n h0 h1 hs s.size 0 k 0 [] (by omega) hk (Nat.le_refl _) (by simp)
  rw [show ((0 : Nat) : Int) = 0 from rfl, List.drop_zero] at this
  rw [this]
  unfold splitS
  cases e : splitL (UInt8.ofNat n.toNat) s.data.toList with
  | nil => exact absurd e (splitL_ne _ _)
  | cons h t =>
    simp only [List.nil_append, List.map_cons]
    rw [show s.extract 0 0 = ByteArray.empty from by apply ByteArray.ext; simp, ByteArray.empty_append]

theorem impl_SplitByte_eq (s : ByteArray) (n : Int) (h0 : 0 ≤ n) (h1 : n < 256) (hs : s.size ≤ 4294967280) : impl_SplitByte.f s n = some (splitS (UInt8.ofNat n.toNat) s) := by
  unfold impl_SplitByte.f strings_Split.f
  rw [strOf_byte n h0 h1]
  have := Lib.countB_le ⟨#[UInt8.ofNat n.toNat]⟩ (Nat.le_refl 1) s.size s (Nat.le_refl _)
  rw [if_pos ⟨by omega, Nat.le_refl 1, by omega⟩, splitB_one]; rfl

theorem rdOf_nat {α : Type} (d : α) (xs : List α) (j : Nat) (h : j < xs.length) : rdOf d xs (j : Int) = xs[j] := by
  unfold rdOf; rw [Int.toNat_natCast, List.getD_eq_getElem?_getD, List.getElem?_eq_getElem h]; rfl
theorem rd_nat (xs : List Int) (j : Nat) (h : j < xs.length) : rd xs (j : Int) = xs[j] := by
  unfold rd; rw [Int.toNat_natCast, List.getD_eq_getElem?_getD, List.getElem?_eq_getElem h]; rfl

/-- A cursor: the place lies in the bytes. -/
def Cur (b : List Int) (i : Int) : Prop := 0 ≤ i ∧ i ≤ (b.length : Int) ∧ b.length ≤ 140737488351232
theorem and255 (x : Int) : 0 ≤ Go.bits .and .i64 x 255 ∧ Go.bits .and .i64 x 255 ≤ 255 := by
  have h : (BitVec.ofInt 64 x &&& BitVec.ofInt 64 255).toNat ≤ 255 := by rw [BitVec.toNat_and]; exact Nat.le_trans Nat.and_le_right (by decide)
  have e : Go.bits .and .i64 x 255 = IntKind.i64.wrap (((BitVec.ofInt 64 x &&& BitVec.ofInt 64 255).toNat : Nat) : Int) := rfl
  rw [e, IntKind.wrap_i64]
  omega

theorem spec_l1New_l0 (b : List Int) (hb : b.length ≤ 140737488351232) : ∀ (d j k : Nat) (h : Int), j + d = b.length → d < k → ∃ h', spec_l1New.l0 k b h (j : Int) = some (b, 0, h') := by
  intro d
  induction d with
  | zero =>
    intro j k h hj hk
    obtain ⟨k, rfl⟩ := succ_of hk
    simp only [spec_l1New.l0]
    rw [if_neg (by omega)]
    exact ⟨_, rfl⟩
  | succ d ih =>
    intro j k h hj hk
    obtain ⟨k, rfl⟩ := succ_of hk
    have hlt : j < b.length := by omega
    simp only [spec_l1New.l0]
    rw [if_pos (by omega)]
    by_cases h4 : (j : Int) < 4000
    · rw [if_pos h4, if_pos (by omega), wrap_succ hlt (by omega)]
      exact ih (j + 1) k _ (by omega) (by omega)
    · rw [if_neg h4]; exact ⟨_, rfl⟩
theorem spec_l1New_ex (b : List Int) (hb : b.length ≤ 140737488351232) (k : Nat) (hk : b.length < k) : ∃ h', spec_l1New.f k b = some (b, 0, h') := by
  unfold spec_l1New.f
  exact spec_l1New_l0 b hb b.length 0 k _ (by omega) hk
theorem cur_zero (b : List Int) (hb : b.length ≤ 140737488351232) : Cur b 0 := ⟨Int.le_refl _, by omega, hb⟩

theorem spec_l1Byte_ex (b : List Int) (i h : Int) (hc : Cur b i) : ∃ r i' h', spec_l1Byte.f b i h = some (r, i', h') ∧ 0 ≤ r ∧ r ≤ 255 ∧ Cur b i' := by
  obtain ⟨h0, h1, h2⟩ := hc
  unfold spec_l1Byte.f
  by_cases hlt : i < (b.length : Int)
  · rw [if_pos hlt, if_pos h0]
    refine ⟨_, _, _, rfl, (and255 _).1, (and255 _).2, ?_⟩
    rw [wrap_id (by omega) (by omega)]
    exact ⟨by omega, by omega, h2⟩
  · rw [if_neg hlt]
    exact ⟨_, _, _, rfl, (and255 _).1, (and255 _).2, h0, h1, h2⟩

theorem spec_l1Below_ex (b : List Int) (i h n : Int) (hc : Cur b i) : ∃ r i' h', spec_l1Below.f b i h n = some (r, i', h') ∧ 0 ≤ r ∧ (0 < n → r < n) ∧ (n ≤ 0 → r = 0) ∧ Cur b i' := by
  unfold spec_l1Below.f
  by_cases h0 : n ≤ 0
  · rw [if_pos h0]; exact ⟨0, _, _, rfl, by omega, by omega, fun _ => rfl, hc⟩
  rw [if_neg h0]
  by_cases h1 : n ≤ 256
  · rw [if_pos h1]
    obtain ⟨r, i', h', e, r0, r1, c1⟩ := spec_l1Byte_ex b i h hc
    rw [e]; simp only [Option.bind_some]
    rw [if_neg (by omega)]
    exact ⟨_, _, _, rfl, Int.tmod_nonneg _ r0, fun _ => Int.tmod_lt_of_pos _ (by omega), by omega, c1⟩
  · rw [if_neg h1]
    obtain ⟨x, i1, g1, e1, x0, x1, c1⟩ := spec_l1Byte_ex b i h hc
    rw [e1]; simp only [Option.bind_some]
    obtain ⟨y, i2, g2, e2, y0, y1, c2⟩ := spec_l1Byte_ex b i1 g1 c1
    rw [e2]; simp only [Option.bind_some]
    obtain ⟨z, i3, g3, e3, z0, z1, c3⟩ := spec_l1Byte_ex b i2 g2 c2
    rw [e3]; simp only [Option.bind_some]
    obtain ⟨u, i4, g4, e4, u0, u1, c4⟩ := spec_l1Byte_ex b i3 g3 c3
    rw [e4]; simp only [Option.bind_some]
    rw [if_neg (by omega)]
    refine ⟨_, _, _, rfl, Int.tmod_nonneg _ ?_, fun _ => Int.tmod_lt_of_pos _ (by omega), by omega, c4⟩
    unfold wrap64; omega

theorem spec_l1Pick_ex (b : List Int) (i h : Int) (l : List ByteArray) (hl : 0 < l.length) (hc : Cur b i) : ∃ r i' h', spec_l1Pick.f b i h l = some (r, i', h') ∧ r ∈ l ∧ Cur b i' := by
  unfold spec_l1Pick.f
  obtain ⟨r, i', h', e, r0, r1, _, c1⟩ := spec_l1Below_ex b i h (l.length : Int) hc
  have r1 := r1 (by omega)
  rw [e]; simp only [Option.bind_some]
  rw [if_pos r0, if_pos r1]
  refine ⟨_, _, _, rfl, ?_, c1⟩
  have hlt : r.toNat < l.length := by omega
  have := rdOf_nat ByteArray.empty l r.toNat hlt
  rw [Int.toNat_of_nonneg r0] at this
  rw [this]; exact List.getElem_mem hlt

theorem spec_l1PickInt_ex (b : List Int) (i h : Int) (l : List Int) (hl : 0 < l.length) (hc : Cur b i) : ∃ r i' h', spec_l1PickInt.f b i h l = some (r, i', h') ∧ r ∈ l ∧ Cur b i' := by
  unfold spec_l1PickInt.f
  obtain ⟨r, i', h', e, r0, r1, _, c1⟩ := spec_l1Below_ex b i h (l.length : Int) hc
  have r1 := r1 (by omega)
  rw [e]; simp only [Option.bind_some]
  rw [if_pos r0, if_pos r1]
  refine ⟨_, _, _, rfl, ?_, c1⟩
  have hlt : r.toNat < l.length := by omega
  have := rd_nat l r.toNat hlt
  rw [Int.toNat_of_nonneg r0] at this
  rw [this]; exact List.getElem_mem hlt

theorem splitS_one (c : UInt8) (p : ByteArray) (h : c ∉ p.data.toList) : (splitS c p).length = 1 := by
  unfold splitS; rw [splitL_notin c _ h]; rfl
theorem spec_DrawSplitByte_ex (b : List Int) (hb : b.length ≤ 140737488351232) (k : Nat) (hk : b.length < k) : ∃ s n, spec_DrawSplitByte.f k b = some (s, n) ∧ s.size ≤ 6 ∧ 0 ≤ n ∧ n < 256 := by
  unfold spec_DrawSplitByte.f
  obtain ⟨h0, e0⟩ := spec_l1New_ex b hb k hk
  rw [e0]; simp only [Option.bind_some]
  obtain ⟨s, i1, h1, e1, hm, c1⟩ := spec_l1Pick_ex b 0 h0 ([(⟨#[]⟩ : ByteArray), (⟨#[97]⟩ : ByteArray), (⟨#[97, 44, 98]⟩ : ByteArray), (⟨#[44]⟩ : ByteArray), (⟨#[97, 44, 44, 98, 44]⟩ : ByteArray), (⟨#[97, 10, 98, 10]⟩ : ByteArray)] : List ByteArray) (by simp) (cur_zero b hb)
  rw [e1]; simp only [Option.bind_some]
  obtain ⟨n, i2, h2, e2, hn, c2⟩ := spec_l1PickInt_ex b i1 h1 [44, 10] (by simp) c1
  rw [e2]
  have low : ∀ (l : List ByteArray), l.all (fun s => decide (s.size ≤ 6)) = true → ∀ s ∈ l, s.size ≤ 6 := fun l hl s hs => by
    simpa using List.all_eq_true.1 hl s hs
  exact ⟨s, n % 256, rfl, low _ (by decide) s hm, by omega, by omega⟩
theorem laws_FnSplit_l0 (n : Int) (h0 : 0 ≤ n) (h1 : n < 256) (xs : List ByteArray) (hx : ∀ x ∈ xs, UInt8.ofNat n.toNat ∉ x.data.toList ∧ x.size ≤ 6) (hl : xs.length ≤ 100) : ∀ (d j k : Nat), j + d = xs.length → d < k → laws_FnSplit.l0 k n xs (j : Int) = some true := by
  intro d
  induction d with
  | zero =>
    intro j k hj hk
    obtain ⟨k, rfl⟩ := succ_of hk
    rw [laws_FnSplit.l0, if_neg (by omega)]
  | succ d ih =>
    intro j k hj hk
    obtain ⟨k, rfl⟩ := succ_of hk
    have hlt : j < xs.length := by omega
    have hm := hx _ (List.getElem_mem hlt)
    rw [laws_FnSplit.l0, if_pos (by omega), if_pos (by omega), rdOf_nat _ _ _ hlt, impl_SplitByte_eq _ n h0 h1 (by omega), Option.bind_some, if_pos (by rw [splitS_one _ _ hm.1]; rfl), wrap_succ hlt (by omega)]
    exact ih (j + 1) k (by omega) (by omega)
theorem FnSplit : laws_FnSplit.Pure := by
  intro c hw
  refine ⟨1050000, ?_⟩
  unfold laws_FnSplit.f laws_big.f
  rw [Option.bind_some]
  by_cases hb : (c.length : Int) > 1048576
  · rw [if_pos (by simpa using hb)]
  rw [if_neg (by simpa using hb)]
  obtain ⟨s, n, e, hs, h0, h1⟩ := spec_DrawSplitByte_ex c (by omega) 1050000 (by omega)
  rw [e]; simp only [Option.bind_some]
  rw [impl_SplitByte_eq s n h0 h1 (by omega)]; simp only [Option.bind_some]
  have hl : (splitS (UInt8.ofNat n.toNat) s).length ≤ 7 := by
    unfold splitS; rw [List.length_map]
    have := splitL_len (UInt8.ofNat n.toNat) s.data.toList
    rw [← size_len] at this; omega
  have hj : Lib.join ((splitS (UInt8.ofNat n.toNat) s).map (·.data.toList)) (strOfNums [n]).data.toList = s.data.toList := by
    rw [strOf_byte n h0 h1]
    unfold splitS
    rw [List.map_map]
    have := splitL_join (UInt8.ofNat n.toNat) s.data.toList
    simp only [Function.comp_def, List.map_id']
    unfold Lib.join
    exact this
  unfold impl_Join.f strings_Join.f
  rw [hj, if_pos ⟨by omega, by rw [← size_len]; omega⟩]; simp only [Option.bind_some]
  simp only [if_true]
  rw [spec_SplitByte_eq s n h0 h1 (by omega) _ (by omega)]; simp only [Option.bind_some, if_true]
  refine laws_FnSplit_l0 n h0 h1 _ (fun x hx => ?_) (by omega) _ 0 _ (Nat.zero_add _) (by omega)
  unfold splitS at hx
  obtain ⟨p, hp, rfl⟩ := List.mem_map.1 hx
  have := splitL_mem _ _ p hp
  exact ⟨this.1, by rw [size_len]; have h2 := this.2; rw [← size_len] at h2; show p.length ≤ 6; omega⟩

end Go.Proofs.YtmdjhmggogfbdaaDoor.Pure
