/- The program's Join returns what the reference's returns, for every list and separator, and leaves the list as it was. -/
import Derived.Test.YtlencemmlgkflaaQFnExactJoinx1
namespace Go.Proofs.Ytlencemmlgkflaa.Pure
open Go.RowKit Go.Proofs.YtlencemmlgkflaaV.PrintWords Go.Proofs.YtlencemmlgkflaaV.PrintLast Go.Proofs.YtlencemmlgkflaaV.PrintMore Go.Proofs.Ytlencemmlgkflaa.QFnExactJoin
set_option linter.unusedVariables false
set_option linter.unusedSimpArgs false

theorem wrap_id {n : Int} (h0 : -9223372036854775808 ≤ n) (h1 : n ≤ 9223372036854775807) : wrap64 n = n := by
  unfold wrap64; omega
theorem wrap_succ {j n : Nat} (h : j < n) (hn : n ≤ 4611686018427387904) : wrap64 ((j : Int) + 1) = ((j + 1 : Nat) : Int) := by
  unfold wrap64; omega
theorem succ_of {d k : Nat} (h : d < k) : ∃ m, k = m + 1 := ⟨k - 1, by omega⟩
theorem lit_int {n : Int} (h : (Lit.int .i64 n).wf = true) : -9223372036854775808 ≤ n ∧ n ≤ 9223372036854775807 := by
  simpa [Lit.wf, IntKind.min, IntKind.max, IntKind.signed, IntKind.bits] using h

theorem rdOf_nat {α : Type} (d : α) (xs : List α) (j : Nat) (h : j < xs.length) : rdOf d xs (j : Int) = xs[j] := by
  unfold rdOf; rw [Int.toNat_natCast, List.getD_eq_getElem?_getD, List.getElem?_eq_getElem h]; rfl
theorem rd_nat (xs : List Int) (j : Nat) (h : j < xs.length) : rd xs (j : Int) = xs[j] := by
  unfold rd; rw [Int.toNat_natCast, List.getD_eq_getElem?_getD, List.getElem?_eq_getElem h]; rfl

/-- What is left behind the strings' bytes; -1 where it is not enough. -/
def szFrom : List ByteArray → Int → Int
  | [], l => l
  | x :: xs, l => if l - (x.size : Int) < 0 then -1 else szFrom xs (l - (x.size : Int))
def szS (xs : List ByteArray) (left : Int) : Int := if left - (xs.length : Int) < 0 then -1 else szFrom xs (left - (xs.length : Int))
theorem szFrom_le : ∀ (xs : List ByteArray) (l : Int), 0 ≤ l → szFrom xs l ≤ l ∧ -1 ≤ szFrom xs l := by
  intro xs
  induction xs with
  | nil => intro l h; simp only [szFrom]; omega
  | cons x xs ih =>
    intro l h
    simp only [szFrom]
    split
    · omega
    · have := ih (l - (x.size : Int)) (by omega); omega
theorem szFrom_mem : ∀ (xs : List ByteArray) (l : Int), 0 ≤ szFrom xs l → ∀ x ∈ xs, (x.size : Int) ≤ l := by
  intro xs
  induction xs with
  | nil => intro l _ x hx; simp at hx
  | cons y xs ih =>
    intro l h x hx
    simp only [szFrom] at h
    split at h
    · omega
    · rcases List.mem_cons.1 hx with rfl | hx
      · omega
      · have := ih _ h x hx; omega
theorem szS_len {xs : List ByteArray} {l : Int} (h : 0 ≤ szS xs l) : (xs.length : Int) ≤ l ∧ (∀ x ∈ xs, (x.size : Int) ≤ l) ∧ (szS xs l ≤ l) := by
  unfold szS at h ⊢
  split at h
  · omega
  · rename_i h0
    have h1 := (szFrom_le xs (l - (xs.length : Int)) (by omega)).1
    refine ⟨by omega, fun x hx => ?_, ?_⟩
    · have := szFrom_mem xs _ h x hx; omega
    · rw [if_neg h0]; omega
theorem laws_szStringS_l0 (xs : List ByteArray) (hn : xs.length ≤ 4611686018427387904) (hx : ∀ x ∈ xs, x.size ≤ 9223372036854775807) : ∀ (d j k : Nat) (l : Int), j + d = xs.length → d < k → 0 ≤ l → l ≤ 1048576 →
    laws_szStringS.l0 k xs l (j : Int) = some (szFrom (xs.drop j) l) := by
  intro d
  induction d with
  | zero =>
    intro j k l hj hk h0 h1
    obtain ⟨k, rfl⟩ := succ_of hk
    simp only [laws_szStringS.l0]
    rw [if_neg (by omega), List.drop_eq_nil_of_le (by omega)]; rfl
  | succ d ih =>
    intro j k l hj hk h0 h1
    obtain ⟨k, rfl⟩ := succ_of hk
    have hlt : j < xs.length := by omega
    have := hx _ (List.getElem_mem hlt)
    simp only [laws_szStringS.l0]
    rw [if_pos (by omega), if_pos (by omega), rdOf_nat _ _ _ hlt, wrap_id (by omega) (by omega), wrap_succ hlt hn, List.drop_eq_getElem_cons hlt]
    simp only [szFrom]
    by_cases h : l - (xs[j].size : Int) < 0
    · rw [if_pos h, if_pos h]
    · rw [if_neg h, if_neg h, ih (j + 1) k _ (by omega) (by omega) (by omega) (by omega)]
theorem laws_szStringS_eq (xs : List ByteArray) (l : Int) (hn : xs.length ≤ 9223372036854775807) (hx : ∀ x ∈ xs, x.size ≤ 9223372036854775807) (h0 : 0 ≤ l) (h1 : l ≤ 1048576) (k : Nat) (hk : 1048577 < k) :
    laws_szStringS.f k xs l = some (szS xs l) := by
  unfold laws_szStringS.f szS
  rw [wrap_id (by omega) (by omega)]
  split
  · rfl
  · have := laws_szStringS_l0 xs (by omega) hx xs.length 0 k (l - (xs.length : Int)) (by omega) (by omega) (by omega) (by omega)
    simpa using this

theorem set_at_end {α : Type} (p : List α) (x y : α) (r : List α) : (p ++ x :: r).set p.length y = (p ++ [y]) ++ r := by simp
theorem laws_toStringS_l0 (xs : List ByteArray) (hn : xs.length ≤ 4611686018427387904) : ∀ (d j k : Nat) (r : List ByteArray), j + d = xs.length → d < k → r.length = d →
    laws_toStringS.l0 k xs (xs.take j ++ r) (j : Int) = some xs := by
  intro d
  induction d with
  | zero =>
    intro j k r hj hk hr
    obtain ⟨k, rfl⟩ := succ_of hk
    have : r = [] := List.length_eq_zero_iff.1 hr
    subst this
    simp only [laws_toStringS.l0]
    rw [if_neg (by omega), List.append_nil, List.take_of_length_le (by omega)]
  | succ d ih =>
    intro j k r hj hk hr
    obtain ⟨k, rfl⟩ := succ_of hk
    have hlt : j < xs.length := by omega
    cases r with
    | nil => simp at hr
    | cons y r =>
      simp only [laws_toStringS.l0]
      have hl : (xs.take j).length = j := by rw [List.length_take]; omega
      rw [if_pos (by omega), if_pos (by omega), if_pos (by simp only [List.length_append, List.length_cons, hl] at *; omega), rdOf_nat _ _ _ hlt, wrap_succ hlt hn, Int.toNat_natCast]
      have e : (xs.take j ++ y :: r).set j xs[j] = xs.take (j + 1) ++ r := by
        have := set_at_end (xs.take j) y xs[j] r
        rw [hl] at this
        rw [this, List.take_succ_eq_append_getElem hlt]
      rw [e]
      exact ih (j + 1) k r (by omega) (by omega) (by simpa using hr)
theorem laws_toStringS_eq (xs : List ByteArray) (hn : xs.length ≤ 17592186044416) (k : Nat) (hk : xs.length < k) : laws_toStringS.f k xs = some xs := by
  unfold laws_toStringS.f
  rw [if_pos (by omega), if_pos (by omega)]
  have := laws_toStringS_l0 xs (by omega) xs.length 0 k (List.replicate xs.length (⟨#[]⟩ : ByteArray)) (by omega) hk (by simp)
  simpa using this

instance bytesDec : DecidableEq ByteArray := fun a b => decidable_of_iff (a.data = b.data) ⟨fun h => by cases a; cases b; exact congrArg ByteArray.mk h, fun h => by rw [h]⟩
theorem bytes_eq (a b : ByteArray) : a.toList = b.toList ↔ a = b := by
  rw [ByteArray.toList_eq, ByteArray.toList_eq]
  constructor
  · intro h; cases a; cases b; simp only [ByteArray.mk.injEq] at *; exact Array.toList_inj.mp h
  · intro h; rw [h]
theorem bytes_lit (s : ByteArray) (a : Array UInt8) : s.toList = a.toList ↔ s = ⟨a⟩ := by
  rw [ByteArray.toList_eq]
  constructor
  · intro h; cases s; simp only [ByteArray.mk.injEq] at *; exact Array.toList_inj.mp h
  · intro h; rw [h]

theorem laws_eqStringS_l0 (a b : List ByteArray) (hab : a.length = b.length) (hn : a.length ≤ 4611686018427387904) : ∀ (d j k : Nat), j + d = a.length → d < k →
    laws_eqStringS.l0 k a b (j : Int) = some (decide (a.drop j = b.drop j)) := by
  intro d
  induction d with
  | zero =>
    intro j k hj hk
    obtain ⟨k, rfl⟩ := succ_of hk
    simp only [laws_eqStringS.l0]
    rw [if_neg (by omega), List.drop_eq_nil_of_le (by omega), List.drop_eq_nil_of_le (by omega)]; simp
  | succ d ih =>
    intro j k hj hk
    obtain ⟨k, rfl⟩ := succ_of hk
    have hlt : j < a.length := by omega
    simp only [laws_eqStringS.l0]
    rw [if_pos (by omega), if_pos (by omega), if_pos (by omega), rdOf_nat _ _ _ hlt, rdOf_nat _ _ _ (by omega), wrap_succ hlt hn, ih (j + 1) k (by omega) (by omega), List.drop_eq_getElem_cons hlt, List.drop_eq_getElem_cons (hab ▸ hlt : j < b.length)]
    simp only [List.cons.injEq, bytes_eq]
    by_cases h : a[j] = b[j]
    · rw [if_pos h]; simp only [h, true_and]
    · rw [if_neg h]; simp only [h, false_and, decide_false]
theorem laws_eqStringS_eq (a b : List ByteArray) (hn : a.length ≤ 4611686018427387904) (k : Nat) (hk : a.length < k) : laws_eqStringS.f k a b = some (decide (a = b)) := by
  unfold laws_eqStringS.f
  by_cases h : a.length = b.length
  · rw [if_pos (by omega)]
    have := laws_eqStringS_l0 a b h hn a.length 0 k (by omega) hk
    simpa using this
  · rw [if_neg (by omega)]; congr 1; symm; rw [decide_eq_false_iff_not]; intro e; exact h (by rw [e])

/-- Bytes as numbers; what stands behind the first of the joined. -/
def toI (L : List UInt8) : List Int := L.map fun b => (b.toNat : Int)
def glue (sep : List UInt8) : List (List UInt8) → List UInt8
  | [] => []
  | x :: xs => sep ++ (x ++ glue sep xs)
theorem toI_append (a b : List UInt8) : toI (a ++ b) = toI a ++ toI b := by simp [toI]
theorem toI_length (a : List UInt8) : (toI a).length = a.length := by simp [toI]
theorem strOf_toI (L : List UInt8) : strOfNums (toI L) = ⟨L.toArray⟩ := by
  unfold strOfNums toI
  rw [List.map_map]
  congr 2
  have : ((fun n : Int => UInt8.ofNat n.toNat) ∘ fun b : UInt8 => (b.toNat : Int)) = id := by
    funext b; simp
  rw [this, List.map_id]
theorem size_len (s : ByteArray) : s.size = s.data.toList.length := by rw [Array.length_toList]; rfl
theorem bytesOf_toI (s : ByteArray) : bytesOf s = toI s.data.toList := rfl
theorem glue_len (sep : List UInt8) (B C : Nat) (hs : sep.length ≤ B) : ∀ xs : List (List UInt8), (∀ x ∈ xs, x.length ≤ C) → (glue sep xs).length ≤ xs.length * (B + C) := by
  intro xs
  induction xs with
  | nil => intro _; simp [glue]
  | cons x xs ih =>
    intro h
    have h1 := h x (by simp)
    have h2 := ih (fun y hy => h y (by simp [hy]))
    simp only [glue, List.length_append, List.length_cons, Nat.succ_mul]; omega
theorem inter_glue (sep : List UInt8) : ∀ xs : List (List UInt8), ∀ x, sep.intercalate (x :: xs) = x ++ glue sep xs := by
  intro xs
  induction xs with
  | nil => intro x; simp [glue, List.intercalate]
  | cons y xs ih =>
    intro x
    have h := ih y
    simp only [List.intercalate, List.intersperse_cons_cons, List.flatten_cons, glue] at h ⊢
    rw [h]

theorem spec_Join_l0 (xs : List ByteArray) (sep : ByteArray) (hn : xs.length ≤ 4611686018427387904) : ∀ (d j k : Nat) (P : List UInt8), j + d = xs.length → d < k → 1 ≤ j →
    P.length + (glue sep.data.toList ((xs.drop j).map (·.data.toList))).length < 140737488355328 →
    spec_Join.l0 k xs sep (toI P) (j : Int) = some ⟨(P ++ glue sep.data.toList ((xs.drop j).map (·.data.toList))).toArray⟩ := by
  intro d
  induction d with
  | zero =>
    intro j k P hj hk h1 hB
    obtain ⟨k, rfl⟩ := succ_of hk
    rw [spec_Join.l0, if_neg (by omega), List.drop_eq_nil_of_le (by omega)]
    simp [glue, strOf_toI]
  | succ d ih =>
    intro j k P hj hk h1 hB
    obtain ⟨k, rfl⟩ := succ_of hk
    have hlt : j < xs.length := by omega
    rw [List.drop_eq_getElem_cons hlt] at hB ⊢
    simp only [List.map_cons, glue, List.length_append] at hB ⊢
    have e1 : sep.size = sep.data.toList.length := size_len _
    have e2 : xs[j].size = xs[j].data.toList.length := size_len _
    rw [spec_Join.l0, if_pos (by omega), if_pos (by omega), if_pos (by rw [toI_length, e1]; omega), Option.bind_some, if_pos (by omega), rdOf_nat _ _ _ hlt,
      if_pos (by rw [bytesOf_toI, ← toI_append, toI_length, List.length_append, e2]; omega), wrap_succ hlt hn, bytesOf_toI, bytesOf_toI, ← toI_append, ← toI_append]
    rw [ih (j + 1) k _ (by omega) (by omega) (by omega) (by simp only [List.length_append]; omega)]
    simp only [List.append_assoc]
theorem spec_Join_eq (xs : List ByteArray) (sep : ByteArray) (hn : xs.length ≤ 1048576) (hx : ∀ x ∈ xs, x.size ≤ 1048576) (hs : sep.size ≤ 1048576) (k : Nat) (hk : 1048578 < k) :
    spec_Join.f k xs sep = some ⟨(sep.data.toList.intercalate (xs.map (·.data.toList))).toArray⟩ ∧ (sep.data.toList.intercalate (xs.map (·.data.toList))).length ≤ 2199024304128 := by
  unfold spec_Join.f
  obtain ⟨k, rfl⟩ := succ_of hk
  cases xs with
  | nil => rw [spec_Join.l0, if_neg (by simp)]; exact ⟨by simp [strOfNums, List.intercalate], by simp [List.intercalate]⟩
  | cons x xs =>
    have e1 : sep.data.toList.length ≤ 1048576 := by rw [← size_len]; exact hs
    have e2 : x.data.toList.length ≤ 1048576 := by rw [← size_len]; exact hx x (by simp)
    have hg := glue_len sep.data.toList 1048576 1048576 e1 (xs.map (·.data.toList)) (by
      intro y hy
      obtain ⟨z, hz, rfl⟩ := List.mem_map.1 hy
      rw [← size_len]; exact hx z (by simp [hz]))
    rw [List.length_map] at hg
    simp only [List.length_cons] at hn
    simp only [List.map_cons]
    rw [inter_glue]
    refine ⟨?_, by rw [List.length_append]; omega⟩
    have e3 : x.size = x.data.toList.length := size_len _
    rw [spec_Join.l0, if_pos (by simp), if_neg (by omega), if_pos (by omega), show (0 : Int) = ((0 : Nat) : Int) from rfl, rdOf_nat _ _ 0 (by simp), if_pos (by show 0 + x.size < _; rw [e3]; omega)]
    rw [wrap_succ (n := (x :: xs).length) (by simp) (by simp; omega), List.nil_append, bytesOf_toI]
    rw [spec_Join_l0 (x :: xs) sep (by simp; omega) xs.length 1 k _ (by simp; omega) (by omega) (Nat.le_refl _) (by show x.data.toList.length + (glue sep.data.toList (xs.map (·.data.toList))).length < _; omega)]
    rfl

theorem impl_Join_eq (xs : List ByteArray) (sep : ByteArray) (hn : xs.length ≤ 1048576) (hl : (sep.data.toList.intercalate (xs.map (·.data.toList))).length ≤ 2199024304128) : impl_Join.f xs sep = some ⟨(sep.data.toList.intercalate (xs.map (·.data.toList))).toArray⟩ := by
  unfold impl_Join.f strings_Join.f Lib.join
  rw [if_pos ⟨by omega, by omega⟩]; rfl

theorem FnExactJoin : laws_FnExactJoin.Pure := by
  intro xs sep hxs hs
  refine ⟨2097170, ?_⟩
  unfold laws_FnExactJoin.f
  by_cases hml : (sep.size : Int) > 1048576
  · rw [if_pos hml]
  rw [if_neg hml, laws_szStringS_eq xs _ hxs.1 hxs.2 (by omega) (by omega) _ (by omega), Option.bind_some]
  by_cases z1 : szS xs 1048576 < 0
  · rw [if_pos z1]
  rw [if_neg z1]
  obtain ⟨b1, b2, b3⟩ := szS_len (xs := xs) (l := 1048576) (by omega)
  obtain ⟨e1, e2⟩ := spec_Join_eq xs sep (by omega) (fun x hx => by have := b2 x hx; omega) (by omega) 2097170 (by omega)
  have e3 := impl_Join_eq xs sep (by omega) e2
  rw [laws_toStringS_eq xs (by omega) _ (by omega)]; simp only [Option.bind_some]
  rw [e1, e3]; simp only [Option.bind_some, if_true]
  rw [laws_eqStringS_eq xs xs (by omega) _ (by omega)]; simp only [Option.bind_some, decide_true, if_true]

end Go.Proofs.Ytlencemmlgkflaa.Pure
