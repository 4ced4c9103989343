/- The program's SplitByte returns what the reference's returns, for all strings and bytes, and shares no memory with another call's result. -/
import Derived.Test.YtmdjhmggogfbdaaDoorQFnExactSplitBytex2
namespace Go.Proofs.YtmdjhmggogfbdaaDoor.Pure
open Go.RowKit Go.Proofs.YtmdjhmggogfbdaaDoorV.PrintWords Go.Proofs.YtmdjhmggogfbdaaDoorV.PrintLast Go.Proofs.YtmdjhmggogfbdaaDoorV.PrintMore Go.Proofs.YtmdjhmggogfbdaaDoor.QFnExactSplitByte
set_option linter.unusedVariables false
set_option linter.unusedSimpArgs false

/-- Bytes as numbers; what stands behind the first of the joined. -/
def toI (L : List UInt8) : List Int := L.map fun b => (b.toNat : Int)
def glue (sep : List UInt8) : List (List UInt8) → List UInt8
  | [] => []
  | x :: xs => sep ++ (x ++ glue sep xs)
theorem toI_append (a b : List UInt8) : toI (a ++ b) = toI a ++ toI b := by simp [toI]
theorem toI_length (a : List UInt8) : (toI a).length = a.length := by simp [toI]
theorem strOf_toI (L : List UInt8) : strOfNums (toI L) = ⟨L.toArray⟩ := by
  unfold strOfNums toI
  rw [List.map_map]
  congr 2
  have : ((fun n : Int => UInt8.ofNat n.toNat) ∘ fun b : UInt8 => (b.toNat : Int)) = id := by
    funext b; simp
  rw [this, List.map_id]
theorem size_len (s : ByteArray) : s.size = s.data.toList.length := by rw [Array.length_toList]; rfl
theorem bytesOf_toI (s : ByteArray) : bytesOf s = toI s.data.toList := rfl
theorem glue_len (sep : List UInt8) (B C : Nat) (hs : sep.length ≤ B) : ∀ xs : List (List UInt8), (∀ x ∈ xs, x.length ≤ C) → (glue sep xs).length ≤ xs.length * (B + C) := by
  intro xs
  induction xs with
  | nil => intro _; simp [glue]
  | cons x xs ih =>
    intro h
    have h1 := h x (by simp)
    have h2 := ih (fun y hy => h y (by simp [hy]))
    simp only [glue, List.length_append, List.length_cons, Nat.succ_mul]; omega
theorem inter_glue (sep : List UInt8) : ∀ xs : List (List UInt8), ∀ x, sep.intercalate (x :: xs) = x ++ glue sep xs := by
  intro xs
  induction xs with
  | nil => intro x; simp [glue, List.intercalate]
  | cons y xs ih =>
    intro x
    have h := ih y
    simp only [List.intercalate, List.intersperse_cons_cons, List.flatten_cons, glue] at h ⊢
    rw [h]

instance bytesDec : DecidableEq ByteArray := fun a b => decidable_of_iff (a.data = b.data) ⟨fun h => by cases a; cases b; exact congrArg ByteArray.mk h, fun h => by rw [h]⟩
theorem bytes_eq (a b : ByteArray) : a.toList = b.toList ↔ a = b := by
  rw [ByteArray.toList_eq, ByteArray.toList_eq]
  constructor
  · intro h; cases a; cases b; simp only [ByteArray.mk.injEq] at *; exact Array.toList_inj.mp h
  · intro h; rw [h]
theorem bytes_lit (s : ByteArray) (a : Array UInt8) : s.toList = a.toList ↔ s = ⟨a⟩ := by
  rw [ByteArray.toList_eq]
  constructor
  · intro h; cases s; simp only [ByteArray.mk.injEq] at *; exact Array.toList_inj.mp h
  · intro h; rw [h]

theorem bt_cell (s : ByteArray) (i : Nat) (h : i < s.data.toList.length) : bt s (i : Int) = ((s.data.toList[i]'h).toNat : Int) := by
  have h' : i < s.size := by rw [size_len]; exact h
  unfold bt
  rw [dif_pos (show ((i : Int).toNat) < s.size by simpa using h')]
  simp only [Int.toNat_natCast]
  congr 1

/-- A text's parts between the bytes c. -/
def splitL (c : UInt8) : List UInt8 → List (List UInt8)
  | [] => [[]]
  | b :: r => if b = c then [] :: splitL c r else match splitL c r with
    | [] => [[b]]
    | h :: t => (b :: h) :: t
theorem splitL_ne (c : UInt8) : ∀ l, splitL c l ≠ []
  | [] => by simp [splitL]
  | b :: r => by
    unfold splitL
    split
    · simp
    · split <;> simp
theorem splitL_notin (c : UInt8) : ∀ l : List UInt8, c ∉ l → splitL c l = [l]
  | [], _ => rfl
  | b :: r, h => by
    have hb : b ≠ c := fun e => h (by simp [e])
    rw [splitL, if_neg hb, splitL_notin c r (fun e => h (by simp [e]))]
theorem splitL_app (c : UInt8) : ∀ (a r : List UInt8), c ∉ a → splitL c (a ++ c :: r) = a :: splitL c r
  | [], r, _ => by simp [splitL]
  | b :: a, r, h => by
    have hb : b ≠ c := fun e => h (by simp [e])
    rw [List.cons_append, splitL, if_neg hb, splitL_app c a r (fun e => h (by simp [e]))]
theorem splitL_len (c : UInt8) : ∀ l : List UInt8, (splitL c l).length ≤ l.length + 1
  | [] => by simp [splitL]
  | b :: r => by
    have := splitL_len c r
    unfold splitL
    split
    · simp only [List.length_cons]; omega
    · split
      · simp
      · rename_i h t e; rw [e] at this; simp only [List.length_cons] at *; omega
theorem splitL_mem (c : UInt8) : ∀ (l : List UInt8), ∀ p ∈ splitL c l, c ∉ p ∧ p.length ≤ l.length
  | [], p, hp => by
    rw [splitL, List.mem_singleton] at hp; subst hp; simp
  | b :: r, p, hp => by
    have ih := splitL_mem c r
    rw [splitL] at hp
    split at hp
    · rcases List.mem_cons.1 hp with rfl | hp
      · simp
      · have := ih p hp; exact ⟨this.1, by simp only [List.length_cons]; omega⟩
    · rename_i hb
      split at hp
      · rename_i e; exact absurd e (splitL_ne c r)
      · rename_i h t e
        rw [e] at ih
        rcases List.mem_cons.1 hp with rfl | hp
        · have := ih h (by simp)
          refine ⟨fun hc => ?_, by simp only [List.length_cons]; omega⟩
          rcases List.mem_cons.1 hc with e | e
          · exact hb e.symm
          · exact this.1 e
        · have := ih p (by simp [hp]); exact ⟨this.1, by simp only [List.length_cons]; omega⟩
theorem splitL_join (c : UInt8) : ∀ l : List UInt8, [c].intercalate (splitL c l) = l
  | [] => by simp [splitL, List.intercalate]
  | b :: r => by
    have ih := splitL_join c r
    rw [splitL]
    split
    · rename_i e; subst e
      cases e : splitL b r with
      | nil => exact absurd e (splitL_ne b r)
      | cons h t => rw [e] at ih; rw [← ih]; simp [List.intercalate]
    · split
      · rename_i e; exact absurd e (splitL_ne c r)
      · rename_i h t e
        rw [e] at ih
        rw [← ih]
        cases t with
        | nil => simp [List.intercalate]
        | cons h2 t2 => simp [List.intercalate]
theorem index_notin (c : UInt8) : ∀ l : List UInt8, c ∉ l → Lib.index l [c] = -1
  | [], _ => by simp [Lib.index]
  | b :: r, h => by
    have hb : b ≠ c := fun e => h (by simp [e])
    rw [Lib.index, index_notin c r (fun e => h (by simp [e]))]
    simp [List.isPrefixOf, Ne.symm hb]
theorem index_app (c : UInt8) : ∀ (a r : List UInt8), c ∉ a → Lib.index (a ++ c :: r) [c] = (a.length : Int)
  | [], r, _ => by simp [Lib.index, List.isPrefixOf]
  | b :: a, r, h => by
    have hb : b ≠ c := fun e => h (by simp [e])
    rw [List.cons_append, Lib.index, index_app c a r (fun e => h (by simp [e]))]
    rw [if_neg (by simp [List.isPrefixOf, Ne.symm hb]), if_neg (by rw [beq_iff_eq]; omega)]
    simp
theorem first_at (c : UInt8) : ∀ l : List UInt8, c ∈ l → ∃ a r, l = a ++ c :: r ∧ c ∉ a
  | [], h => by simp at h
  | b :: l, h => by
    by_cases e : b = c
    · exact ⟨[], l, by simp [e], by simp⟩
    · rcases List.mem_cons.1 h with h | h
      · exact absurd h.symm e
      · obtain ⟨a, r, rfl, ha⟩ := first_at c l h
        refine ⟨b :: a, r, rfl, fun hc => ?_⟩
        rcases List.mem_cons.1 hc with h | h
        · exact e h.symm
        · exact ha h
theorem splitK_one (c : UInt8) : ∀ (k : Nat) (l : List UInt8), l.count c ≤ k → Lib.splitK [c] 0 k l = splitL c l
  | 0, l, h => by
    rw [splitL_notin c l (fun hc => by have := List.count_pos_iff.2 hc; omega)]; rfl
  | k + 1, l, h => by
    rw [Lib.splitK]
    by_cases hc : c ∈ l
    · obtain ⟨a, r, rfl, ha⟩ := first_at c l hc
      rw [index_app c a r ha, splitL_app c a r ha, if_neg (by rw [beq_iff_eq]; omega)]
      have h1 : (a ++ c :: r).count c = a.count c + (r.count c + 1) := by rw [List.count_append, List.count_cons_self]
      rw [show ((a.length : Int)).toNat = a.length from rfl]
      rw [Nat.add_zero, List.take_left', show (a ++ c :: r).drop (a.length + [c].length) = r from by
        rw [List.drop_append, List.drop_eq_nil_of_le (by simp)]; simp, splitK_one c k r (by omega)]
      rfl
    · rw [index_notin c l hc, splitL_notin c l hc, if_pos (by simp)]
def splitS (c : UInt8) (s : ByteArray) : List ByteArray := (splitL c s.data.toList).map fun p => (⟨p.toArray⟩ : ByteArray)
theorem map_data (L : List ByteArray) (M : List (List UInt8)) (h : L.map (·.data.toList) = M) : L = M.map fun p => (⟨p.toArray⟩ : ByteArray) := by
  subst h
  rw [List.map_map]
  conv => lhs; rw [← List.map_id L]
  apply List.map_congr_left
  intro x _
  rfl
theorem splitB_one (c : UInt8) (s : ByteArray) : Lib.splitB ⟨#[c]⟩ 0 (Lib.countB s ⟨#[c]⟩) s = splitS c s := by
  refine map_data _ _ ?_
  rw [Lib.splitB_data]
  refine splitK_one c _ _ ?_
  rw [← Lib.count_one]
  exact Nat.le_refl _
theorem strOf_byte (n : Int) (h0 : 0 ≤ n) (h1 : n < 256) : strOfNums [n] = ⟨#[UInt8.ofNat n.toNat]⟩ := by
  unfold strOfNums; rfl

theorem wrap_id {n : Int} (h0 : -9223372036854775808 ≤ n) (h1 : n ≤ 9223372036854775807) : wrap64 n = n := by
  unfold wrap64; omega
theorem wrap_succ {j n : Nat} (h : j < n) (hn : n ≤ 4611686018427387904) : wrap64 ((j : Int) + 1) = ((j + 1 : Nat) : Int) := by
  unfold wrap64; omega
theorem succ_of {d k : Nat} (h : d < k) : ∃ m, k = m + 1 := ⟨k - 1, by omega⟩
theorem lit_int {n : Int} (h : (Lit.int .i64 n).wf = true) : -9223372036854775808 ≤ n ∧ n ≤ 9223372036854775807 := by
  simpa [Lit.wf, IntKind.min, IntKind.max, IntKind.signed, IntKind.bits] using h

theorem spec_SplitByte_l0 (s : ByteArray) (n : Int) (h0 : 0 ≤ n) (h1 : n < 256) (hs : s.size ≤ 4294967280) : ∀ (d i k fr : Nat) (out : List ByteArray), i + d = s.size → d + 1 < k → fr ≤ i → out.length ≤ i →
    spec_SplitByte.l0 k s n out (fr : Int) (i : Int) = some (out ++ (match splitL (UInt8.ofNat n.toNat) (s.data.toList.drop i) with
      | [] => []
      | h :: t => ((s.extract fr i) ++ (⟨h.toArray⟩ : ByteArray)) :: t.map fun p => (⟨p.toArray⟩ : ByteArray))) := by
  intro d
  induction d with
  | zero =>
    intro i k fr out hi hk hf ho
    obtain ⟨k, rfl⟩ := succ_of hk
    obtain ⟨k, rfl⟩ := succ_of (show 0 < k by omega)
    rw [spec_SplitByte.l0, if_pos (by omega), if_pos (by omega), if_pos (by omega), if_pos (by omega), if_pos (by omega), wrap_id (by omega) (by omega), spec_SplitByte.l0, if_neg (by omega), List.drop_eq_nil_of_le (by rw [← size_len]; omega)]
    simp only [splitL, List.map_nil, Int.toNat_natCast]
    congr 3
    exact (ByteArray.append_empty).symm
  | succ d ih =>
    intro i k fr out hi hk hf ho
    obtain ⟨k, rfl⟩ := succ_of hk
    have hlt : i < s.data.toList.length := by rw [← size_len]; omega
    have hc : bt s (i : Int) = n ↔ s.data.toList[i] = UInt8.ofNat n.toNat := by
      have hu := (s.data.toList[i]).toNat_lt
      rw [bt_cell s i hlt, ← UInt8.toNat_inj, UInt8.toNat_ofNat']; omega
    have hw : wrap64 ((i : Int) + 1) = ((i + 1 : Nat) : Int) := by clear hc; rw [wrap_id (by omega) (by omega)]; rfl
    rw [spec_SplitByte.l0, hw, List.drop_eq_getElem_cons hlt]
    clear hw
    generalize bt s (i : Int) = B at hc ⊢
    rw [if_pos (show (i : Int) ≤ (s.size : Int) by omega), if_neg (show ¬ (i : Int) = (s.size : Int) by omega), if_pos (show 0 ≤ (i : Int) by omega), if_pos (show (i : Int) < (s.size : Int) by omega)]
    by_cases he : B = n
    · rw [if_pos he, if_pos (show 0 ≤ (fr : Int) by omega), if_pos (show (fr : Int) ≤ (i : Int) by omega), if_pos (show out.length < 8796093022208 by omega), ih (i + 1) k (i + 1) _ (by omega) (by omega) (Nat.le_refl _) (by simp only [List.length_append, List.length_singleton]; omega)]
      rw [splitL, if_pos (hc.1 he)]
      cases e : splitL (UInt8.ofNat n.toNat) (s.data.toList.drop (i + 1)) with
      | nil => exact absurd e (splitL_ne _ _)
      | cons h t =>
        simp only [Int.toNat_natCast, List.map_cons, List.append_assoc, List.singleton_append]
        rw [show s.extract (i + 1) (i + 1) = ByteArray.empty from by apply ByteArray.ext; simp, ByteArray.empty_append, show (⟨([] : List UInt8).toArray⟩ : ByteArray) = ByteArray.empty from rfl, ByteArray.append_empty]
    · rw [if_neg he, ih (i + 1) k fr out (by omega) (by omega) (by omega) (by omega), splitL, if_neg (fun x => he (hc.2 x))]
      cases e : splitL (UInt8.ofNat n.toNat) (s.data.toList.drop (i + 1)) with
      | nil => exact absurd e (splitL_ne _ _)
      | cons h t =>
        simp only
        congr 3
        apply ByteArray.ext
        apply Array.toList_inj.1
        simp only [ByteArray.data_append, ByteArray.data_extract, Array.toList_append, Array.toList_extract, List.extract_eq_take_drop]
        rw [show i + 1 - fr = (i - fr) + 1 by omega, List.take_succ_eq_append_getElem (by rw [List.length_drop]; omega), List.getElem_drop, List.append_assoc]
        simp only [show fr + (i - fr) = i by omega]
        rfl
theorem spec_SplitByte_eq (s : ByteArray) (n : Int) (h0 : 0 ≤ n) (h1 : n < 256) (hs : s.size ≤ 4294967280) (k : Nat) (hk : s.size + 1 < k) : spec_SplitByte.f k s n = some (splitS (UInt8.ofNat n.toNat) s) := by
  unfold spec_SplitByte.f
  have := spec_SplitByte_l0 s n h0 h1 hs s.size 0 k 0 [] (by omega) hk (Nat.le_refl _) (by simp)
  rw [show ((0 : Nat) : Int) = 0 from rfl, List.drop_zero] at this
  rw [this]
  unfold splitS
  cases e : splitL (UInt8.ofNat n.toNat) s.data.toList with
  | nil => exact absurd e (splitL_ne _ _)
  | cons h t =>
    simp only [List.nil_append, List.map_cons]
    rw [show s.extract 0 0 = ByteArray.empty from by apply ByteArray.ext; simp, ByteArray.empty_append]

theorem impl_SplitByte_eq (s : ByteArray) (n : Int) (h0 : 0 ≤ n) (h1 : n < 256) (hs : s.size ≤ 4294967280) : impl_SplitByte.f s n = some (splitS (UInt8.ofNat n.toNat) s) := by
  unfold impl_SplitByte.f strings_Split.f
  rw [strOf_byte n h0 h1]
  have := Lib.countB_le ⟨#[UInt8.ofNat n.toNat]⟩ (Nat.le_refl 1) s.size s (Nat.le_refl _)
  rw [if_pos ⟨by omega, Nat.le_refl 1, by omega⟩, splitB_one]; rfl

theorem rdOf_nat {α : Type} (d : α) (xs : List α) (j : Nat) (h : j < xs.length) : rdOf d xs (j : Int) = xs[j] := by
  unfold rdOf; rw [Int.toNat_natCast, List.getD_eq_getElem?_getD, List.getElem?_eq_getElem h]; rfl
theorem rd_nat (xs : List Int) (j : Nat) (h : j < xs.length) : rd xs (j : Int) = xs[j] := by
  unfold rd; rw [Int.toNat_natCast, List.getD_eq_getElem?_getD, List.getElem?_eq_getElem h]; rfl

theorem laws_eqStringS_l0 (a b : List ByteArray) (hab : a.length = b.length) (hn : a.length ≤ 4611686018427387904) : ∀ (d j k : Nat), j + d = a.length → d < k →
    laws_eqStringS.l0 k a b (j : Int) = some (decide (a.drop j = b.drop j)) := by
  intro d
  induction d with
  | zero =>
    intro j k hj hk
    obtain ⟨k, rfl⟩ := succ_of hk
    simp only [laws_eqStringS.l0]
    rw [if_neg (by omega), List.drop_eq_nil_of_le (by omega), List.drop_eq_nil_of_le (by omega)]; simp
  | succ d ih =>
    intro j k hj hk
    obtain ⟨k, rfl⟩ := succ_of hk
    have hlt : j < a.length := by omega
    simp only [laws_eqStringS.l0]
    rw [if_pos (by omega), if_pos (by omega), if_pos (by omega), rdOf_nat _ _ _ hlt, rdOf_nat _ _ _ (by omega), wrap_succ hlt hn, ih (j + 1) k (by omega) (by omega), List.drop_eq_getElem_cons hlt, List.drop_eq_getElem_cons (hab ▸ hlt : j < b.length)]
    simp only [List.cons.injEq, bytes_eq]
    by_cases h : a[j] = b[j]
    · rw [if_pos h]; simp only [h, true_and]
    · rw [if_neg h]; simp only [h, false_and, decide_false]
theorem laws_eqStringS_eq (a b : List ByteArray) (hn : a.length ≤ 4611686018427387904) (k : Nat) (hk : a.length < k) : laws_eqStringS.f k a b = some (decide (a = b)) := by
  unfold laws_eqStringS.f
  by_cases h : a.length = b.length
  · rw [if_pos (by omega)]
    have := laws_eqStringS_l0 a b h hn a.length 0 k (by omega) hk
    simpa using this
  · rw [if_neg (by omega)]; congr 1; symm; rw [decide_eq_false_iff_not]; intro e; exact h (by rw [e])

theorem strOf_one (a : Int) : (strOfNums [a]).size = 1 := by unfold strOfNums; rfl
theorem laws_markText_l0 : ∀ (d k : Nat) (x : Int) (t : ByteArray), 0 ≤ x → x < 10 ^ d → x ≤ 9223372036854775807 → t.size + d ≤ 1000000 → d < k → ∃ r, laws_markText.l0 k x t = some r := by
  intro d
  induction d with
  | zero =>
    intro k x t h0 h1 _ ht hk
    obtain ⟨k, rfl⟩ := succ_of hk
    have : x = 0 := by simp at h1; omega
    subst this
    simp only [laws_markText.l0]
    rw [if_neg (by omega), if_pos (by omega)]
    exact ⟨_, rfl⟩
  | succ d ih =>
    intro k x t h0 h1 h2 ht hk
    obtain ⟨k, rfl⟩ := succ_of hk
    simp only [laws_markText.l0]
    by_cases h : x > 0
    · rw [if_pos h]; simp only [Option.bind_some]
      rw [strOf_one, if_pos (by omega)]
      have e : Int.tdiv x 10 = x / 10 := Int.tdiv_eq_ediv_of_nonneg h0
      rw [e, wrap_id (by omega) (by omega)]
      have hp : (10 : Int) ^ (d + 1) = 10 ^ d * 10 := Int.pow_succ 10 d
      exact ih k (x / 10) _ (by omega) (by omega) (by omega) (by rw [ByteArray.size_append, strOf_one]; omega) (by omega)
    · rw [if_neg h, if_pos (by omega)]
      exact ⟨_, rfl⟩
/-- The text of a number. -/
def txt (m : Int) : ByteArray := (laws_markText.f 100 m).getD ⟨#[]⟩
theorem laws_markText_eq (m : Int) (h0 : 0 ≤ m) (h1 : m ≤ 4611686018427387904) (k : Nat) (hk : 100 ≤ k) : laws_markText.f k m = some (txt m) := by
  have h : ∃ t, laws_markText.f 100 m = some t := by
    unfold laws_markText.f
    split
    · exact ⟨_, rfl⟩
    · have hb : m < 10 ^ 19 := by have : (10 : Int) ^ 19 = 10000000000000000000 := by decide
                                  omega
      exact laws_markText_l0 19 100 m _ h0 hb (by omega) (by show 0 + 19 ≤ 1000000; omega) (by omega)
  obtain ⟨t, ht⟩ := h
  have : txt m = t := by unfold txt; rw [ht]; rfl
  rw [this]
  exact at_rounds (laws_markText.mono m) hk ht
/-- d texts from m on. -/
def txts (m : Int) : Nat → List ByteArray
  | 0 => []
  | d + 1 => txt m :: txts (m + 1) d
theorem txts_length : ∀ (d : Nat) (m : Int), (txts m d).length = d := by
  intro d; induction d with
  | zero => intro m; rfl
  | succ d ih => intro m; simp [txts, ih]
theorem txts_get : ∀ (d j : Nat) (m : Int) (h : j < (txts m d).length), (txts m d)[j] = txt (m + j) := by
  intro d; induction d with
  | zero => intro j m h; simp [txts] at h
  | succ d ih =>
    intro j m h
    cases j with
    | zero => simp [txts]
    | succ j => simp only [txts, List.getElem_cons_succ]; rw [ih]; congr 1; omega

theorem laws_markStringS_l0 : ∀ (d : Nat) (p xs : List ByteArray) (m : Int) (k : Nat), xs.length = d → d + 100 < k → 0 ≤ m → m + d ≤ 4611686018427387904 → p.length + d ≤ 4611686018427387904 →
    laws_markStringS.l0 k (p ++ xs) m (p.length : Int) = some (m + d, p ++ txts m d) := by
  intro d
  induction d with
  | zero =>
    intro p xs m k hx hk h0 hm hp
    obtain ⟨k, rfl⟩ := succ_of hk
    have : xs = [] := List.length_eq_zero_iff.1 hx
    subst this
    simp only [laws_markStringS.l0]
    rw [if_neg (by simp)]; simp [txts]
  | succ d ih =>
    intro p xs m k hx hk h0 hm hp
    obtain ⟨k, rfl⟩ := succ_of hk
    cases xs with
    | nil => simp at hx
    | cons x xs =>
      simp only [laws_markStringS.l0]
      rw [if_pos (by simp only [List.length_append, List.length_cons]; omega), laws_markText_eq m h0 (by omega) k (by omega), Option.bind_some, if_pos (by omega), wrap_id (by omega) (by omega), wrap_id (by omega) (by omega), Int.toNat_natCast]
      have e : (p ++ x :: xs).set p.length (txt m) = (p ++ [txt m]) ++ xs := by simp
      have := ih (p ++ [txt m]) xs (m + 1) k (by simpa using hx) (by omega) (by omega) (by omega) (by simp; omega)
      rw [e, show ((p.length : Int) + 1) = ((p ++ [txt m]).length : Int) by simp, this]
      simp [txts]; omega
theorem laws_markStringS_eq (xs : List ByteArray) (m : Int) (k : Nat) (hk : xs.length + 100 < k) (h0 : 0 ≤ m) (hm : m + xs.length ≤ 4611686018427387904) :
    laws_markStringS.f k xs m = some (m + xs.length, txts m xs.length) := by
  unfold laws_markStringS.f
  have := laws_markStringS_l0 xs.length [] xs m k rfl hk h0 hm (by simp; omega)
  simpa using this

theorem laws_heldStringS_l0 (m : Int) (n : Nat) (h0 : 0 ≤ m) (hm : m + n ≤ 4611686018427387904) : ∀ (d j k : Nat), j + d = n → d + 100 < k →
    laws_heldStringS.l0 k (txts m n) (m + j) (j : Int) = some (m + n) := by
  intro d
  induction d with
  | zero =>
    intro j k hj hk
    obtain ⟨k, rfl⟩ := succ_of hk
    simp only [laws_heldStringS.l0]
    rw [if_neg (by rw [txts_length]; omega)]; congr 1; omega
  | succ d ih =>
    intro j k hj hk
    obtain ⟨k, rfl⟩ := succ_of hk
    simp only [laws_heldStringS.l0]
    rw [if_pos (by rw [txts_length]; omega), if_pos (by omega), rdOf_nat _ _ _ (by rw [txts_length]; omega), txts_get, laws_markText_eq (m + j) (by omega) (by omega) k (by omega), Option.bind_some, if_pos rfl, wrap_id (by omega) (by omega), wrap_id (by omega) (by omega)]
    have := ih (j + 1) k (by omega) (by omega)
    rw [← this]; congr 1 <;> omega
theorem laws_heldStringS_eq (m : Int) (n : Nat) (k : Nat) (hk : n + 100 < k) (h0 : 0 ≤ m) (hm : m + n ≤ 4611686018427387904) : laws_heldStringS.f k (txts m n) m = some (m + n) := by
  unfold laws_heldStringS.f
  have := laws_heldStringS_l0 m n h0 hm n 0 k (by omega) hk
  simpa using this

theorem FnExactSplitByte : laws_FnExactSplitByte.Pure := by
  intro s n hs hn
  have hn' : 0 ≤ n ∧ n ≤ 255 := by simpa [Lit.wf, IntKind.min, IntKind.max, IntKind.signed, IntKind.bits] using hn
  refine ⟨3000001, ?_⟩
  unfold laws_FnExactSplitByte.f
  by_cases hz : (s.size : Int) > 1048576
  · rw [if_pos hz]
  rw [if_neg hz]
  rw [spec_SplitByte_eq s n hn'.1 (by omega) (by omega) _ (by omega), impl_SplitByte_eq s n hn'.1 (by omega) (by omega)]; simp only [Option.bind_some]
  have hl : (splitS (UInt8.ofNat n.toNat) s).length ≤ 1048577 := by
    unfold splitS; rw [List.length_map]
    have := splitL_len (UInt8.ofNat n.toNat) s.data.toList
    rw [← size_len] at this; omega
  generalize splitS (UInt8.ofNat n.toNat) s = R at hl ⊢
  rw [laws_eqStringS_eq _ _ (by omega) _ (by omega)]; simp only [Option.bind_some, decide_true, if_true]
  rw [laws_markStringS_eq _ _ _ (by omega) (by omega) (by omega)]; simp only [Option.bind_some]
  rw [laws_heldStringS_eq _ _ _ (by omega) (by omega) (by omega)]; simp only [Option.bind_some]
  rw [if_neg (by omega)]; simp only [if_true]
  rw [if_neg (by omega)]

end Go.Proofs.YtmdjhmggogfbdaaDoor.Pure
