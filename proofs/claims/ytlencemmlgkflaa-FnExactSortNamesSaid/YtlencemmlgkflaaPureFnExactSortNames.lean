/- The program's SortNames returns what the reference's returns, for all slices of strings, leaves its input as it was, and shares no memory with it. -/
import Derived.Test.YtlencemmlgkflaaQFnExactSortNamesx3
namespace Go.Proofs.Ytlencemmlgkflaa.Pure
open Go.RowKit Go.Proofs.YtlencemmlgkflaaV.PrintWords Go.Proofs.YtlencemmlgkflaaV.PrintLast Go.Proofs.YtlencemmlgkflaaV.PrintMore Go.Proofs.Ytlencemmlgkflaa.QFnExactSortNames
set_option linter.unusedVariables false
set_option linter.unusedSimpArgs false

theorem wrap_id {n : Int} (h0 : -9223372036854775808 ≤ n) (h1 : n ≤ 9223372036854775807) : wrap64 n = n := by
  unfold wrap64; omega
theorem wrap_succ {j n : Nat} (h : j < n) (hn : n ≤ 4611686018427387904) : wrap64 ((j : Int) + 1) = ((j + 1 : Nat) : Int) := by
  unfold wrap64; omega
theorem succ_of {d k : Nat} (h : d < k) : ∃ m, k = m + 1 := ⟨k - 1, by omega⟩
theorem lit_int {n : Int} (h : (Lit.int .i64 n).wf = true) : -9223372036854775808 ≤ n ∧ n ≤ 9223372036854775807 := by
  simpa [Lit.wf, IntKind.min, IntKind.max, IntKind.signed, IntKind.bits] using h

theorem rdOf_nat {α : Type} (d : α) (xs : List α) (j : Nat) (h : j < xs.length) : rdOf d xs (j : Int) = xs[j] := by
  unfold rdOf; rw [Int.toNat_natCast, List.getD_eq_getElem?_getD, List.getElem?_eq_getElem h]; rfl
theorem rd_nat (xs : List Int) (j : Nat) (h : j < xs.length) : rd xs (j : Int) = xs[j] := by
  unfold rd; rw [Int.toNat_natCast, List.getD_eq_getElem?_getD, List.getElem?_eq_getElem h]; rfl

/-- What is left behind the strings' bytes; -1 where it is not enough. -/
def szFrom : List ByteArray → Int → Int
  | [], l => l
  | x :: xs, l => if l - (x.size : Int) < 0 then -1 else szFrom xs (l - (x.size : Int))
def szS (xs : List ByteArray) (left : Int) : Int := if left - (xs.length : Int) < 0 then -1 else szFrom xs (left - (xs.length : Int))
theorem szFrom_le : ∀ (xs : List ByteArray) (l : Int), 0 ≤ l → szFrom xs l ≤ l ∧ -1 ≤ szFrom xs l := by
  intro xs
  induction xs with
  | nil => intro l h; simp only [szFrom]; omega
  | cons x xs ih =>
    intro l h
    simp only [szFrom]
    split
    · omega
    · have := ih (l - (x.size : Int)) (by omega); omega
theorem szFrom_mem : ∀ (xs : List ByteArray) (l : Int), 0 ≤ szFrom xs l → ∀ x ∈ xs, (x.size : Int) ≤ l := by
  intro xs
  induction xs with
  | nil => intro l _ x hx; simp at hx
  | cons y xs ih =>
    intro l h x hx
    simp only [szFrom] at h
    split at h
    · omega
    · rcases List.mem_cons.1 hx with rfl | hx
      · omega
      · have := ih _ h x hx; omega
theorem szS_len {xs : List ByteArray} {l : Int} (h : 0 ≤ szS xs l) : (xs.length : Int) ≤ l ∧ (∀ x ∈ xs, (x.size : Int) ≤ l) ∧ (szS xs l ≤ l) := by
  unfold szS at h ⊢
  split at h
  · omega
  · rename_i h0
    have h1 := (szFrom_le xs (l - (xs.length : Int)) (by omega)).1
    refine ⟨by omega, fun x hx => ?_, ?_⟩
    · have := szFrom_mem xs _ h x hx; omega
    · rw [if_neg h0]; omega
theorem laws_szStringS_l0 (xs : List ByteArray) (hn : xs.length ≤ 4611686018427387904) (hx : ∀ x ∈ xs, x.size ≤ 9223372036854775807) : ∀ (d j k : Nat) (l : Int), j + d = xs.length → d < k → 0 ≤ l → l ≤ 1048576 →
    laws_szStringS.l0 k xs l (j : Int) = some (szFrom (xs.drop j) l) := by
  intro d
  induction d with
  | zero =>
    intro j k l hj hk h0 h1
    obtain ⟨k, rfl⟩ := succ_of hk
    simp only [laws_szStringS.l0]
    rw [if_neg (by omega), List.drop_eq_nil_of_le (by omega)]; rfl
  | succ d ih =>
    intro j k l hj hk h0 h1
    obtain ⟨k, rfl⟩ := succ_of hk
    have hlt : j < xs.length := by omega
    have := hx _ (List.getElem_mem hlt)
    simp only [laws_szStringS.l0]
    rw [if_pos (by omega), if_pos (by omega), rdOf_nat _ _ _ hlt, wrap_id (by omega) (by omega), wrap_succ hlt hn, List.drop_eq_getElem_cons hlt]
    simp only [szFrom]
    by_cases h : l - (xs[j].size : Int) < 0
    · rw [if_pos h, if_pos h]
    · rw [if_neg h, if_neg h, ih (j + 1) k _ (by omega) (by omega) (by omega) (by omega)]
theorem laws_szStringS_eq (xs : List ByteArray) (l : Int) (hn : xs.length ≤ 9223372036854775807) (hx : ∀ x ∈ xs, x.size ≤ 9223372036854775807) (h0 : 0 ≤ l) (h1 : l ≤ 1048576) (k : Nat) (hk : 1048577 < k) :
    laws_szStringS.f k xs l = some (szS xs l) := by
  unfold laws_szStringS.f szS
  rw [wrap_id (by omega) (by omega)]
  split
  · rfl
  · have := laws_szStringS_l0 xs (by omega) hx xs.length 0 k (l - (xs.length : Int)) (by omega) (by omega) (by omega) (by omega)
    simpa using this

theorem set_at_end {α : Type} (p : List α) (x y : α) (r : List α) : (p ++ x :: r).set p.length y = (p ++ [y]) ++ r := by simp
theorem laws_toStringS_l0 (xs : List ByteArray) (hn : xs.length ≤ 4611686018427387904) : ∀ (d j k : Nat) (r : List ByteArray), j + d = xs.length → d < k → r.length = d →
    laws_toStringS.l0 k xs (xs.take j ++ r) (j : Int) = some xs := by
  intro d
  induction d with
  | zero =>
    intro j k r hj hk hr
    obtain ⟨k, rfl⟩ := succ_of hk
    have : r = [] := List.length_eq_zero_iff.1 hr
    subst this
    simp only [laws_toStringS.l0]
    rw [if_neg (by omega), List.append_nil, List.take_of_length_le (by omega)]
  | succ d ih =>
    intro j k r hj hk hr
    obtain ⟨k, rfl⟩ := succ_of hk
    have hlt : j < xs.length := by omega
    cases r with
    | nil => simp at hr
    | cons y r =>
      simp only [laws_toStringS.l0]
      have hl : (xs.take j).length = j := by rw [List.length_take]; omega
      rw [if_pos (by omega), if_pos (by omega), if_pos (by simp only [List.length_append, List.length_cons, hl] at *; omega), rdOf_nat _ _ _ hlt, wrap_succ hlt hn, Int.toNat_natCast]
      have e : (xs.take j ++ y :: r).set j xs[j] = xs.take (j + 1) ++ r := by
        have := set_at_end (xs.take j) y xs[j] r
        rw [hl] at this
        rw [this, List.take_succ_eq_append_getElem hlt]
      rw [e]
      exact ih (j + 1) k r (by omega) (by omega) (by simpa using hr)
theorem laws_toStringS_eq (xs : List ByteArray) (hn : xs.length ≤ 17592186044416) (k : Nat) (hk : xs.length < k) : laws_toStringS.f k xs = some xs := by
  unfold laws_toStringS.f
  rw [if_pos (by omega), if_pos (by omega)]
  have := laws_toStringS_l0 xs (by omega) xs.length 0 k (List.replicate xs.length (⟨#[]⟩ : ByteArray)) (by omega) hk (by simp)
  simpa using this

instance bytesDec : DecidableEq ByteArray := fun a b => decidable_of_iff (a.data = b.data) ⟨fun h => by cases a; cases b; exact congrArg ByteArray.mk h, fun h => by rw [h]⟩
theorem bytes_eq (a b : ByteArray) : a.toList = b.toList ↔ a = b := by
  rw [ByteArray.toList_eq, ByteArray.toList_eq]
  constructor
  · intro h; cases a; cases b; simp only [ByteArray.mk.injEq] at *; exact Array.toList_inj.mp h
  · intro h; rw [h]
theorem bytes_lit (s : ByteArray) (a : Array UInt8) : s.toList = a.toList ↔ s = ⟨a⟩ := by
  rw [ByteArray.toList_eq]
  constructor
  · intro h; cases s; simp only [ByteArray.mk.injEq] at *; exact Array.toList_inj.mp h
  · intro h; rw [h]

theorem laws_eqStringS_l0 (a b : List ByteArray) (hab : a.length = b.length) (hn : a.length ≤ 4611686018427387904) : ∀ (d j k : Nat), j + d = a.length → d < k →
    laws_eqStringS.l0 k a b (j : Int) = some (decide (a.drop j = b.drop j)) := by
  intro d
  induction d with
  | zero =>
    intro j k hj hk
    obtain ⟨k, rfl⟩ := succ_of hk
    simp only [laws_eqStringS.l0]
    rw [if_neg (by omega), List.drop_eq_nil_of_le (by omega), List.drop_eq_nil_of_le (by omega)]; simp
  | succ d ih =>
    intro j k hj hk
    obtain ⟨k, rfl⟩ := succ_of hk
    have hlt : j < a.length := by omega
    simp only [laws_eqStringS.l0]
    rw [if_pos (by omega), if_pos (by omega), if_pos (by omega), rdOf_nat _ _ _ hlt, rdOf_nat _ _ _ (by omega), wrap_succ hlt hn, ih (j + 1) k (by omega) (by omega), List.drop_eq_getElem_cons hlt, List.drop_eq_getElem_cons (hab ▸ hlt : j < b.length)]
    simp only [List.cons.injEq, bytes_eq]
    by_cases h : a[j] = b[j]
    · rw [if_pos h]; simp only [h, true_and]
    · rw [if_neg h]; simp only [h, false_and, decide_false]
theorem laws_eqStringS_eq (a b : List ByteArray) (hn : a.length ≤ 4611686018427387904) (k : Nat) (hk : a.length < k) : laws_eqStringS.f k a b = some (decide (a = b)) := by
  unfold laws_eqStringS.f
  by_cases h : a.length = b.length
  · rw [if_pos (by omega)]
    have := laws_eqStringS_l0 a b h hn a.length 0 k (by omega) hk
    simpa using this
  · rw [if_neg (by omega)]; congr 1; symm; rw [decide_eq_false_iff_not]; intro e; exact h (by rw [e])

theorem bl_tri (a b : List UInt8) : a < b ∨ a = b ∨ b < a := by
  by_cases h : a < b
  · exact Or.inl h
  · by_cases h' : b < a
    · exact Or.inr (Or.inr h')
    · exact Or.inr (Or.inl (List.le_antisymm h' h))
abbrev blt (a b : ByteArray) : Prop := a.data.toList < b.data.toList
theorem blt_irrefl (a : ByteArray) : ¬ blt a a := List.lt_irrefl _
theorem blt_trans {a b c : ByteArray} (h : blt a b) (h' : blt b c) : blt a c := List.lt_trans h h'
theorem data_inj {a b : ByteArray} (h : a.data.toList = b.data.toList) : a = b := by
  cases a; cases b; simp only [ByteArray.mk.injEq] at *; exact Array.toList_inj.1 h
theorem blt_total {a b : ByteArray} (h : ¬ blt a b) (h' : a ≠ b) : blt b a := by
  rcases bl_tri a.data.toList b.data.toList with h1 | h1 | h1
  · exact absurd h1 h
  · exact absurd (data_inj h1) h'
  · exact h1
theorem asc_eq : ∀ {xs ys : List ByteArray}, xs.Pairwise blt → ys.Pairwise blt → (∀ a, a ∈ xs ↔ a ∈ ys) → xs = ys
  | [], [], _, _, _ => rfl
  | [], y :: ys, _, _, h => by have := (h y).2 (by simp); simp at this
  | x :: xs, [], _, _, h => by have := (h x).1 (by simp); simp at this
  | x :: xs, y :: ys, hx, hy, h => by
    rw [List.pairwise_cons] at hx hy
    have e : x = y := by
      apply Classical.byContradiction
      intro ne
      have h1 : x ∈ ys := by
        rcases List.mem_cons.1 ((h x).1 (by simp)) with e | e
        · exact absurd e ne
        · exact e
      have h2 : y ∈ xs := by
        rcases List.mem_cons.1 ((h y).2 (by simp)) with e | e
        · exact absurd e.symm ne
        · exact e
      exact blt_irrefl _ (blt_trans (hx.1 y h2) (hy.1 x h1))
    subst e
    rw [asc_eq hx.2 hy.2 (fun a => ⟨fun ha => ?_, fun ha => ?_⟩)]
    · rcases List.mem_cons.1 ((h a).1 (List.mem_cons_of_mem _ ha)) with e | e
      · subst e; exact absurd (hx.1 a ha) (blt_irrefl a)
      · exact e
    · rcases List.mem_cons.1 ((h a).2 (List.mem_cons_of_mem _ ha)) with e | e
      · subst e; exact absurd (hy.1 a ha) (blt_irrefl a)
      · exact e
def insB (x : ByteArray) : List ByteArray → List ByteArray
  | [] => [x]
  | y :: ys => if y.data.toList < x.data.toList then y :: insB x ys else if y = x then y :: ys else x :: y :: ys
theorem insB_len (x : ByteArray) : ∀ ys, (insB x ys).length ≤ ys.length + 1
  | [] => by simp [insB]
  | y :: ys => by
    have := insB_len x ys
    unfold insB; split
    · simp only [List.length_cons]; omega
    · split <;> simp
theorem insB_mem (x : ByteArray) : ∀ ys a, a ∈ insB x ys ↔ a = x ∨ a ∈ ys
  | [], a => by simp [insB]
  | y :: ys, a => by
    unfold insB; split
    · rw [List.mem_cons, insB_mem x ys a, List.mem_cons]; constructor
      · rintro (h | h | h) <;> simp [h]
      · rintro (h | h | h) <;> simp [h]
    · split
      · rename_i e; subst e; rw [List.mem_cons]; constructor
        · rintro (h | h) <;> simp [h]
        · rintro (h | h | h) <;> simp [h]
      · rw [List.mem_cons]
theorem insB_asc (x : ByteArray) : ∀ {ys}, ys.Pairwise blt → (insB x ys).Pairwise blt
  | [], _ => by simp [insB]
  | y :: ys, h => by
    have h' := h
    rw [List.pairwise_cons] at h'
    unfold insB; split
    · rename_i hl
      rw [List.pairwise_cons]
      refine ⟨fun a ha => ?_, insB_asc x h'.2⟩
      rcases (insB_mem x ys a).1 ha with rfl | ha
      · exact hl
      · exact h'.1 a ha
    · rename_i hl
      split
      · exact h
      · rename_i ne
        rw [List.pairwise_cons]
        have hx : blt x y := blt_total hl ne
        refine ⟨fun a ha => ?_, h⟩
        rcases List.mem_cons.1 ha with rfl | ha
        · exact hx
        · exact blt_trans hx (h'.1 a ha)
def sortB (acc : List ByteArray) : List ByteArray → List ByteArray
  | [] => acc
  | x :: xs => sortB (insB x acc) xs
theorem sortB_len : ∀ xs acc, (sortB acc xs).length ≤ acc.length + xs.length
  | [], acc => by simp [sortB]
  | x :: xs, acc => by
    have h1 := sortB_len xs (insB x acc)
    have h2 := insB_len x acc
    simp only [sortB, List.length_cons]; omega
theorem sortB_mem : ∀ xs acc a, a ∈ sortB acc xs ↔ a ∈ acc ∨ a ∈ xs
  | [], acc, a => by simp [sortB]
  | x :: xs, acc, a => by
    rw [sortB, sortB_mem xs, insB_mem, List.mem_cons]
    constructor
    · rintro ((h | h) | h) <;> simp [h]
    · rintro (h | h | h) <;> simp [h]
theorem sortB_asc : ∀ xs {acc : List ByteArray}, acc.Pairwise blt → (sortB acc xs).Pairwise blt
  | [], _, h => h
  | x :: xs, _, h => sortB_asc xs (insB_asc x h)
theorem compact_asc (d : Array (List UInt8)) (hs : ∀ i j, i < j → j < d.size → d[i]! ≤ d[j]!) : ∀ m, m ≤ d.size →
    (Lib.compactUpTo d m).Pairwise (· < ·) ∧ (∀ a, a ∈ Lib.compactUpTo d m ↔ ∃ j, j < m ∧ a = d[j]!)
  | 0, _ => by simp [Lib.compactUpTo]
  | m + 1, hm => by
    obtain ⟨h1, h2⟩ := compact_asc d hs m (by omega)
    rw [Lib.compactUpTo_succ]
    cases hk : Lib.keeps d m with
    | false =>
      simp only [Bool.false_eq_true, if_false, List.append_nil]
      refine ⟨h1, fun a => ?_⟩
      rw [h2 a]
      unfold Lib.keeps at hk
      rw [decide_eq_false_iff_not, not_or, Classical.not_not] at hk
      constructor
      · rintro ⟨j, hj, e⟩; exact ⟨j, by omega, e⟩
      · rintro ⟨j, hj, e⟩
        by_cases hjm : j = m
        · subst hjm; exact ⟨j - 1, by omega, e.trans hk.2⟩
        · exact ⟨j, by omega, e⟩
    | true =>
      simp only [if_true]
      constructor
      · rw [List.pairwise_append]
        refine ⟨h1, by simp, fun a ha b hb => ?_⟩
        rw [List.mem_singleton] at hb; subst hb
        obtain ⟨j, hj, rfl⟩ := (h2 a).1 ha
        simp only [Lib.keeps, decide_eq_true_eq] at hk
        rcases hk with hk | hk
        · omega
        · have h3 : d[j]! ≤ d[m - 1]! := by
            by_cases e : j = m - 1
            · rw [e]; exact List.le_refl _
            · exact hs j (m - 1) (by omega) (by omega)
          have h4 : d[m-1]! ≤ d[m]! := hs (m-1) m (by omega) (by omega)
          have h5 : d[m-1]! < d[m]! := by
            rcases bl_tri d[m-1]! d[m]! with h | h | h
            · exact h
            · exact absurd h.symm hk
            · exact absurd h h4
          rcases bl_tri d[j]! d[m-1]! with h | h | h
          · exact List.lt_trans h h5
          · rw [h]; exact h5
          · exact absurd h h3
      · intro a
        rw [List.mem_append, h2 a, List.mem_singleton]
        constructor
        · rintro (⟨j, hj, e⟩ | e)
          · exact ⟨j, by omega, e⟩
          · exact ⟨m, by omega, e⟩
        · rintro ⟨j, hj, e⟩
          by_cases hjm : j = m
          · subst hjm; exact Or.inr e
          · exact Or.inl ⟨j, by omega, e⟩
theorem sort_compact (l : List ByteArray) : ((Lib.compact ((l.map (·.data.toList)).mergeSort fun x y => decide (x ≤ y))).map fun L => (⟨L.toArray⟩ : ByteArray)) = sortB [] l := by
  generalize hd : ((l.map (·.data.toList)).mergeSort fun x y => decide (x ≤ y)) = d
  have hp : d.Perm (l.map (·.data.toList)) := hd ▸ List.mergeSort_perm _ _
  have hsd : d.Pairwise (fun x y => decide (x ≤ y) = true) := by
    rw [← hd]
    refine List.pairwise_mergeSort (fun a b c h1 h2 => ?_) (fun a b => ?_) _
    · simp only [decide_eq_true_eq] at *; exact List.le_trans h1 h2
    · simp only [Bool.or_eq_true, decide_eq_true_eq]; exact List.le_total _ _
  have hc := compact_asc d.toArray (fun i j hij hj => by
    have hj' : j < d.length := by simpa using hj
    rw [getElem!_pos d.toArray i (by simp; omega), getElem!_pos d.toArray j hj]
    simpa using (List.pairwise_iff_getElem.1 hsd) i j (by omega) hj' hij) d.length (by simp)
  refine asc_eq ?_ (sortB_asc l List.Pairwise.nil) fun a => ?_
  · rw [List.pairwise_map]; exact hc.1.imp (fun h => by simpa [blt] using h)
  · rw [sortB_mem, List.mem_map]
    have key : ∀ L, L ∈ Lib.compact d ↔ L ∈ d := fun L => by
      rw [Lib.compact, hc.2 L, List.mem_iff_getElem]
      constructor
      · rintro ⟨j, hj, rfl⟩; exact ⟨j, hj, by simp [getElem!_pos, hj]⟩
      · rintro ⟨j, hj, rfl⟩; exact ⟨j, hj, by simp [getElem!_pos, hj]⟩
    constructor
    · rintro ⟨L, hL, rfl⟩
      have := hp.mem_iff.1 ((key L).1 hL)
      obtain ⟨b, hb, rfl⟩ := List.mem_map.1 this
      exact Or.inr (by simpa using hb)
    · rintro (h | h)
      · simp at h
      · exact ⟨a.data.toList, (key _).2 (hp.mem_iff.2 (List.mem_map.2 ⟨a, h, rfl⟩)), by simp⟩

theorem spec_SortNames_l1 (x0 x3 : List ByteArray) (hn : x0.length ≤ 4611686018427387904) (hm : x3.length < 1048577) (i : Nat) (hi : i < x0.length) : ∀ (d j k : Nat), j + d = x3.length → d < k →
    ∃ k', k ≤ k' + d + 1 ∧ spec_SortNames.l1 k x0 x3 (i : Int) (j : Int) = spec_SortNames.l0 k' x0 (x3.take j ++ insB x0[i] (x3.drop j)) ((i + 1 : Nat) : Int) := by
  intro d
  induction d with
  | zero =>
    intro j k hj hk
    obtain ⟨k, rfl⟩ := succ_of hk
    refine ⟨k, by omega, ?_⟩
    have e : j = x3.length := by omega
    subst e
    rw [spec_SortNames.l1, if_neg (by omega), Option.bind_some, if_pos (by omega), if_pos (by omega), Option.bind_some, Int.toNat_natCast, List.drop_eq_nil_of_le (by omega), if_pos (by simp), Option.bind_some, Option.bind_some, if_pos (by omega), if_pos (by omega), if_pos (by rw [List.length_take]; omega), Option.bind_some,
      if_pos (by simp only [List.length_append, List.length_take, List.length_nil, List.length_cons]; omega), wrap_succ hi hn, rdOf_nat _ _ _ hi]
    simp [insB]
  | succ d ih =>
    intro j k hj hk
    obtain ⟨k, rfl⟩ := succ_of hk
    have hlt : j < x3.length := by omega
    rw [spec_SortNames.l1, if_pos (by omega), if_pos (by omega), if_pos (by omega), if_pos (by omega), rdOf_nat _ _ _ hlt, rdOf_nat _ _ _ hi, bytesLess_eq, Lib.toList_data, Lib.toList_data, List.drop_eq_getElem_cons hlt]
    simp only [decide_eq_true_eq, insB]
    by_cases h1 : x3[j].data.toList < x0[i].data.toList
    · rw [if_pos h1, if_pos h1, wrap_succ hlt (by omega)]
      obtain ⟨k', hk', e⟩ := ih (j + 1) k (by omega) (by omega)
      refine ⟨k', by omega, ?_⟩
      rw [e, List.take_succ_eq_append_getElem hlt, List.append_assoc]; rfl
    · rw [if_neg h1, if_neg h1]
      refine ⟨k, by omega, ?_⟩
      by_cases h2 : x3[j] = x0[i]
      · rw [if_pos (by rw [h2]), if_pos h2, wrap_succ hi hn, ← List.drop_eq_getElem_cons hlt, List.take_append_drop]
      · rw [if_neg (fun e => h2 (data_inj e)), if_neg h2, Option.bind_some, if_pos (by omega), Option.bind_some, Int.toNat_natCast, if_pos (by simp only [List.length_nil, List.length_drop]; omega), Option.bind_some, Option.bind_some, if_pos (by rw [List.length_take]; omega), Option.bind_some,
          if_pos (by simp only [List.length_append, List.length_take, List.length_drop, List.length_nil, List.length_cons]; omega), wrap_succ hi hn, ← List.drop_eq_getElem_cons hlt]
        simp
theorem spec_SortNames_l0 (B : Nat) (hB : B = 1048578) (x0 : List ByteArray) (hn : x0.length ≤ 1048576) : ∀ (d i k : Nat) (x3 : List ByteArray), i + d = x0.length → x3.length ≤ i → d * B < k →
    spec_SortNames.l0 k x0 x3 (i : Int) = some (sortB x3 (x0.drop i)) := by
  intro d
  induction d with
  | zero =>
    intro i k x3 hi h3 hk
    obtain ⟨k, rfl⟩ := succ_of hk
    rw [spec_SortNames.l0, if_neg (by omega), List.drop_eq_nil_of_le (by omega)]; rfl
  | succ d ih =>
    intro i k x3 hi h3 hk
    obtain ⟨k, rfl⟩ := succ_of hk
    have hlt : i < x0.length := by omega
    rw [spec_SortNames.l0, if_pos (by omega)]
    obtain ⟨k', hk', e⟩ := spec_SortNames_l1 x0 x3 (by omega) (by omega) i hlt x3.length 0 k (by omega) (by rw [Nat.succ_mul] at hk; omega)
    have e0 : ((0 : Nat) : Int) = 0 := rfl
    rw [← e0, e]
    simp only [List.take_zero, List.drop_zero, List.nil_append]
    have hl := insB_len x0[i] x3
    rw [ih (i + 1) k' _ (by omega) (by omega) (by rw [Nat.succ_mul] at hk; omega), List.drop_eq_getElem_cons hlt]; rfl
theorem spec_SortNames_eq (x0 : List ByteArray) (hn : x0.length ≤ 1048576) (k : Nat) (hk : 1099513724928 < k) : spec_SortNames.f k x0 = some (sortB [] x0) := by
  have h := spec_SortNames_l0 1048578 rfl x0 hn x0.length 0 k [] (by omega) (by simp) (by have := Nat.mul_le_mul_right 1048578 hn; omega)
  simpa [spec_SortNames.f] using h

theorem impl_SortNames_eq (x0 : List ByteArray) (hn : x0.length ≤ 1048576) : impl_SortNames.f x0 = some (sortB [] x0) := by
  unfold impl_SortNames.f slices_Clone_string_string.f
  rw [Option.bind_some, if_pos (by simp only [List.length_nil]; omega), Option.bind_some, List.nil_append]
  unfold slices_Sort_string_string.f
  rw [if_pos (by omega), Option.bind_some]
  unfold slices_Compact_string_string.f
  rw [if_pos (by simp only [List.length_map, List.length_mergeSort]; omega), Option.bind_some]
  have e : (List.map (fun L => (⟨L.toArray⟩ : ByteArray)) ((x0.map (·.data.toList)).mergeSort fun x y => decide (x ≤ y))).map (·.data.toList) = ((x0.map (·.data.toList)).mergeSort fun x y => decide (x ≤ y)) := by
    rw [List.map_map]; simp [Function.comp_def]
  rw [e, sort_compact]

theorem strOf_one (a : Int) : (strOfNums [a]).size = 1 := by unfold strOfNums; rfl
theorem laws_markText_l0 : ∀ (d k : Nat) (x : Int) (t : ByteArray), 0 ≤ x → x < 10 ^ d → x ≤ 9223372036854775807 → t.size + d ≤ 1000000 → d < k → ∃ r, laws_markText.l0 k x t = some r := by
  intro d
  induction d with
  | zero =>
    intro k x t h0 h1 _ ht hk
    obtain ⟨k, rfl⟩ := succ_of hk
    have : x = 0 := by simp at h1; omega
    subst this
    simp only [laws_markText.l0]
    rw [if_neg (by omega), if_pos (by omega)]
    exact ⟨_, rfl⟩
  | succ d ih =>
    intro k x t h0 h1 h2 ht hk
    obtain ⟨k, rfl⟩ := succ_of hk
    simp only [laws_markText.l0]
    by_cases h : x > 0
    · rw [if_pos h]; simp only [Option.bind_some]
      rw [strOf_one, if_pos (by omega)]
      have e : Int.tdiv x 10 = x / 10 := Int.tdiv_eq_ediv_of_nonneg h0
      rw [e, wrap_id (by omega) (by omega)]
      have hp : (10 : Int) ^ (d + 1) = 10 ^ d * 10 := Int.pow_succ 10 d
      exact ih k (x / 10) _ (by omega) (by omega) (by omega) (by rw [ByteArray.size_append, strOf_one]; omega) (by omega)
    · rw [if_neg h, if_pos (by omega)]
      exact ⟨_, rfl⟩
/-- The text of a number. -/
def txt (m : Int) : ByteArray := (laws_markText.f 100 m).getD ⟨#[]⟩
theorem laws_markText_eq (m : Int) (h0 : 0 ≤ m) (h1 : m ≤ 4611686018427387904) (k : Nat) (hk : 100 ≤ k) : laws_markText.f k m = some (txt m) := by
  have h : ∃ t, laws_markText.f 100 m = some t := by
    unfold laws_markText.f
    split
    · exact ⟨_, rfl⟩
    · have hb : m < 10 ^ 19 := by have : (10 : Int) ^ 19 = 10000000000000000000 := by decide
                                  omega
      exact laws_markText_l0 19 100 m _ h0 hb (by omega) (by show 0 + 19 ≤ 1000000; omega) (by omega)
  obtain ⟨t, ht⟩ := h
  have : txt m = t := by unfold txt; rw [ht]; rfl
  rw [this]
  exact at_rounds (laws_markText.mono m) hk ht
/-- d texts from m on. -/
def txts (m : Int) : Nat → List ByteArray
  | 0 => []
  | d + 1 => txt m :: txts (m + 1) d
theorem txts_length : ∀ (d : Nat) (m : Int), (txts m d).length = d := by
  intro d; induction d with
  | zero => intro m; rfl
  | succ d ih => intro m; simp [txts, ih]
theorem txts_get : ∀ (d j : Nat) (m : Int) (h : j < (txts m d).length), (txts m d)[j] = txt (m + j) := by
  intro d; induction d with
  | zero => intro j m h; simp [txts] at h
  | succ d ih =>
    intro j m h
    cases j with
    | zero => simp [txts]
    | succ j => simp only [txts, List.getElem_cons_succ]; rw [ih]; congr 1; omega

theorem laws_markStringS_l0 : ∀ (d : Nat) (p xs : List ByteArray) (m : Int) (k : Nat), xs.length = d → d + 100 < k → 0 ≤ m → m + d ≤ 4611686018427387904 → p.length + d ≤ 4611686018427387904 →
    laws_markStringS.l0 k (p ++ xs) m (p.length : Int) = some (m + d, p ++ txts m d) := by
  intro d
  induction d with
  | zero =>
    intro p xs m k hx hk h0 hm hp
    obtain ⟨k, rfl⟩ := succ_of hk
    have : xs = [] := List.length_eq_zero_iff.1 hx
    subst this
    simp only [laws_markStringS.l0]
    rw [if_neg (by simp)]; simp [txts]
  | succ d ih =>
    intro p xs m k hx hk h0 hm hp
    obtain ⟨k, rfl⟩ := succ_of hk
    cases xs with
    | nil => simp at hx
    | cons x xs =>
      simp only [laws_markStringS.l0]
      rw [if_pos (by simp only [List.length_append, List.length_cons]; omega), laws_markText_eq m h0 (by omega) k (by omega), Option.bind_some, if_pos (by omega), wrap_id (by omega) (by omega), wrap_id (by omega) (by omega), Int.toNat_natCast]
      have e : (p ++ x :: xs).set p.length (txt m) = (p ++ [txt m]) ++ xs := by simp
      have := ih (p ++ [txt m]) xs (m + 1) k (by simpa using hx) (by omega) (by omega) (by omega) (by simp; omega)
      rw [e, show ((p.length : Int) + 1) = ((p ++ [txt m]).length : Int) by simp, this]
      simp [txts]; omega
theorem laws_markStringS_eq (xs : List ByteArray) (m : Int) (k : Nat) (hk : xs.length + 100 < k) (h0 : 0 ≤ m) (hm : m + xs.length ≤ 4611686018427387904) :
    laws_markStringS.f k xs m = some (m + xs.length, txts m xs.length) := by
  unfold laws_markStringS.f
  have := laws_markStringS_l0 xs.length [] xs m k rfl hk h0 hm (by simp; omega)
  simpa using this

theorem laws_heldStringS_l0 (m : Int) (n : Nat) (h0 : 0 ≤ m) (hm : m + n ≤ 4611686018427387904) : ∀ (d j k : Nat), j + d = n → d + 100 < k →
    laws_heldStringS.l0 k (txts m n) (m + j) (j : Int) = some (m + n) := by
  intro d
  induction d with
  | zero =>
    intro j k hj hk
    obtain ⟨k, rfl⟩ := succ_of hk
    simp only [laws_heldStringS.l0]
    rw [if_neg (by rw [txts_length]; omega)]; congr 1; omega
  | succ d ih =>
    intro j k hj hk
    obtain ⟨k, rfl⟩ := succ_of hk
    simp only [laws_heldStringS.l0]
    rw [if_pos (by rw [txts_length]; omega), if_pos (by omega), rdOf_nat _ _ _ (by rw [txts_length]; omega), txts_get, laws_markText_eq (m + j) (by omega) (by omega) k (by omega), Option.bind_some, if_pos rfl, wrap_id (by omega) (by omega), wrap_id (by omega) (by omega)]
    have := ih (j + 1) k (by omega) (by omega)
    rw [← this]; congr 1 <;> omega
theorem laws_heldStringS_eq (m : Int) (n : Nat) (k : Nat) (hk : n + 100 < k) (h0 : 0 ≤ m) (hm : m + n ≤ 4611686018427387904) : laws_heldStringS.f k (txts m n) m = some (m + n) := by
  unfold laws_heldStringS.f
  have := laws_heldStringS_l0 m n h0 hm n 0 k (by omega) hk
  simpa using this

theorem FnExactSortNames : laws_FnExactSortNames.Pure := by
  intro xs hxs
  refine ⟨2199023255552, ?_⟩
  unfold laws_FnExactSortNames.f
  rw [laws_szStringS_eq xs _ hxs.1 hxs.2 (by omega) (by omega) _ (by omega), Option.bind_some]
  split
  · rfl
  have hb := szS_len (xs := xs) (l := 1048576) (by omega)
  have hl : xs.length ≤ 1048576 := by omega
  have hw := sortB_len xs []
  simp only [List.length_nil] at hw
  rw [laws_toStringS_eq xs (by omega) _ (by omega)]; simp only [Option.bind_some]
  rw [spec_SortNames_eq xs (by omega) _ (by omega), impl_SortNames_eq xs (by omega)]; simp only [Option.bind_some]
  generalize sortB [] xs = R at hw ⊢
  rw [laws_eqStringS_eq _ _ (by omega) _ (by omega)]; simp only [Option.bind_some, decide_true, if_true]
  rw [laws_eqStringS_eq xs _ (by omega) _ (by omega)]; simp only [Option.bind_some, decide_true, if_true]
  rw [laws_markStringS_eq xs _ _ (by omega) (by omega) (by omega)]; simp only [Option.bind_some]
  rw [if_neg (by omega)]
  rw [laws_markStringS_eq _ _ _ (by omega) (by omega) (by omega)]; simp only [Option.bind_some]
  rw [laws_heldStringS_eq _ _ _ (by omega) (by omega) (by omega)]; simp only [Option.bind_some]
  rw [if_neg (by omega)]; simp only [if_true]
  rw [if_neg (by omega)]

end Go.Proofs.Ytlencemmlgkflaa.Pure
