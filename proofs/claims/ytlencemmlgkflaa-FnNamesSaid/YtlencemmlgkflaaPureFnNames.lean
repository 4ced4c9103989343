/- SortNames of any drawn list rises, is its own sorting, is of distinct names and has all of the list; valid names are not reserved; list names are valid. -/
import Derived.Test.YtlencemmlgkflaaQFnNamesx5
namespace Go.Proofs.Ytlencemmlgkflaa.Pure
open Go.RowKit Go.Proofs.YtlencemmlgkflaaV.PrintWords Go.Proofs.YtlencemmlgkflaaV.PrintLast Go.Proofs.YtlencemmlgkflaaV.PrintMore Go.Proofs.Ytlencemmlgkflaa.QFnNames
set_option linter.unusedVariables false
set_option linter.unusedSimpArgs false

theorem wrap_id {n : Int} (h0 : -9223372036854775808 ≤ n) (h1 : n ≤ 9223372036854775807) : wrap64 n = n := by
  unfold wrap64; omega
theorem wrap_succ {j n : Nat} (h : j < n) (hn : n ≤ 4611686018427387904) : wrap64 ((j : Int) + 1) = ((j + 1 : Nat) : Int) := by
  unfold wrap64; omega
theorem succ_of {d k : Nat} (h : d < k) : ∃ m, k = m + 1 := ⟨k - 1, by omega⟩
theorem lit_int {n : Int} (h : (Lit.int .i64 n).wf = true) : -9223372036854775808 ≤ n ∧ n ≤ 9223372036854775807 := by
  simpa [Lit.wf, IntKind.min, IntKind.max, IntKind.signed, IntKind.bits] using h

theorem rdOf_nat {α : Type} (d : α) (xs : List α) (j : Nat) (h : j < xs.length) : rdOf d xs (j : Int) = xs[j] := by
  unfold rdOf; rw [Int.toNat_natCast, List.getD_eq_getElem?_getD, List.getElem?_eq_getElem h]; rfl
theorem rd_nat (xs : List Int) (j : Nat) (h : j < xs.length) : rd xs (j : Int) = xs[j] := by
  unfold rd; rw [Int.toNat_natCast, List.getD_eq_getElem?_getD, List.getElem?_eq_getElem h]; rfl

/-- A cursor: the place lies in the bytes. -/
def Cur (b : List Int) (i : Int) : Prop := 0 ≤ i ∧ i ≤ (b.length : Int) ∧ b.length ≤ 140737488351232
theorem and255 (x : Int) : 0 ≤ Go.bits .and .i64 x 255 ∧ Go.bits .and .i64 x 255 ≤ 255 := by
  have h : (BitVec.ofInt 64 x &&& BitVec.ofInt 64 255).toNat ≤ 255 := by rw [BitVec.toNat_and]; exact Nat.le_trans Nat.and_le_right (by decide)
  have e : Go.bits .and .i64 x 255 = IntKind.i64.wrap (((BitVec.ofInt 64 x &&& BitVec.ofInt 64 255).toNat : Nat) : Int) := rfl
  rw [e, IntKind.wrap_i64]
  omega

theorem spec_l1Byte_ex (b : List Int) (i h : Int) (hc : Cur b i) : ∃ r i' h', spec_l1Byte.f b i h = some (r, i', h') ∧ 0 ≤ r ∧ r ≤ 255 ∧ Cur b i' := by
  obtain ⟨h0, h1, h2⟩ := hc
  unfold spec_l1Byte.f
  by_cases hlt : i < (b.length : Int)
  · rw [if_pos hlt, if_pos h0]
    refine ⟨_, _, _, rfl, (and255 _).1, (and255 _).2, ?_⟩
    rw [wrap_id (by omega) (by omega)]
    exact ⟨by omega, by omega, h2⟩
  · rw [if_neg hlt]
    exact ⟨_, _, _, rfl, (and255 _).1, (and255 _).2, h0, h1, h2⟩

theorem spec_l1Below_ex (b : List Int) (i h n : Int) (hc : Cur b i) : ∃ r i' h', spec_l1Below.f b i h n = some (r, i', h') ∧ 0 ≤ r ∧ (0 < n → r < n) ∧ (n ≤ 0 → r = 0) ∧ Cur b i' := by
  unfold spec_l1Below.f
  by_cases h0 : n ≤ 0
  · rw [if_pos h0]; exact ⟨0, _, _, rfl, by omega, by omega, fun _ => rfl, hc⟩
  rw [if_neg h0]
  by_cases h1 : n ≤ 256
  · rw [if_pos h1]
    obtain ⟨r, i', h', e, r0, r1, c1⟩ := spec_l1Byte_ex b i h hc
    rw [e]; simp only [Option.bind_some]
    rw [if_neg (by omega)]
    exact ⟨_, _, _, rfl, Int.tmod_nonneg _ r0, fun _ => Int.tmod_lt_of_pos _ (by omega), by omega, c1⟩
  · rw [if_neg h1]
    obtain ⟨x, i1, g1, e1, x0, x1, c1⟩ := spec_l1Byte_ex b i h hc
    rw [e1]; simp only [Option.bind_some]
    obtain ⟨y, i2, g2, e2, y0, y1, c2⟩ := spec_l1Byte_ex b i1 g1 c1
    rw [e2]; simp only [Option.bind_some]
    obtain ⟨z, i3, g3, e3, z0, z1, c3⟩ := spec_l1Byte_ex b i2 g2 c2
    rw [e3]; simp only [Option.bind_some]
    obtain ⟨u, i4, g4, e4, u0, u1, c4⟩ := spec_l1Byte_ex b i3 g3 c3
    rw [e4]; simp only [Option.bind_some]
    rw [if_neg (by omega)]
    refine ⟨_, _, _, rfl, Int.tmod_nonneg _ ?_, fun _ => Int.tmod_lt_of_pos _ (by omega), by omega, c4⟩
    unfold wrap64; omega

theorem spec_l1Pick_ex (b : List Int) (i h : Int) (l : List ByteArray) (hl : 0 < l.length) (hc : Cur b i) : ∃ r i' h', spec_l1Pick.f b i h l = some (r, i', h') ∧ r ∈ l ∧ Cur b i' := by
  unfold spec_l1Pick.f
  obtain ⟨r, i', h', e, r0, r1, _, c1⟩ := spec_l1Below_ex b i h (l.length : Int) hc
  have r1 := r1 (by omega)
  rw [e]; simp only [Option.bind_some]
  rw [if_pos r0, if_pos r1]
  refine ⟨_, _, _, rfl, ?_, c1⟩
  have hlt : r.toNat < l.length := by omega
  have := rdOf_nat ByteArray.empty l r.toNat hlt
  rw [Int.toNat_of_nonneg r0] at this
  rw [this]; exact List.getElem_mem hlt

theorem spec_l1Once_ex (b : List Int) (i h n : Int) (hc : Cur b i) : ∃ r i' h', spec_l1Once.f b i h n = some (r, i', h') ∧ Cur b i' := by
  unfold spec_l1Once.f
  obtain ⟨r, i', h', e, _, _, _, c1⟩ := spec_l1Below_ex b i h n hc
  rw [e]; simp only [Option.bind_some]
  exact ⟨_, _, _, rfl, c1⟩

theorem spec_l2Any_ex (b : List Int) (i h : Int) (hc : Cur b i) : ∃ r i' h', spec_l2Any.f b i h = some (r, i', h') ∧ r.size ≤ 9 ∧ Cur b i' := by
  unfold spec_l2Any.f spec_l2Name.f
  obtain ⟨r, i1, h1, e, c1⟩ := spec_l1Once_ex b i h 2 hc
  rw [e]; simp only [Option.bind_some]
  have low : ∀ (l : List ByteArray), l.all (fun s => decide (s.size ≤ 9)) = true → ∀ s ∈ l, s.size ≤ 9 := fun l hl s hs => by
    simpa using List.all_eq_true.1 hl s hs
  by_cases hr : r = true
  · rw [if_pos hr]
    obtain ⟨s, i2, h2, e, hm, c2⟩ := spec_l1Pick_ex b i1 h1 ([(⟨#[110]⟩ : ByteArray), (⟨#[109]⟩ : ByteArray), (⟨#[120, 115]⟩ : ByteArray), (⟨#[121, 115]⟩ : ByteArray), (⟨#[104]⟩ : ByteArray), (⟨#[116, 115]⟩ : ByteArray), (⟨#[107]⟩ : ByteArray), (⟨#[114]⟩ : ByteArray)] : List ByteArray) (by simp) c1
    rw [e]; simp only [Option.bind_some]
    exact ⟨_, _, _, rfl, low _ (by decide) s hm, c2⟩
  · rw [if_neg hr]
    obtain ⟨s, i2, h2, e, hm, c2⟩ := spec_l1Pick_ex b i1 h1 ([(⟨#[]⟩ : ByteArray), (⟨#[49, 97]⟩ : ByteArray), (⟨#[97, 49]⟩ : ByteArray), (⟨#[97, 98, 99, 100, 101, 102, 103, 104]⟩ : ByteArray), (⟨#[97, 98, 99, 100, 101, 102, 103, 104, 105]⟩ : ByteArray), (⟨#[105, 102]⟩ : ByteArray), (⟨#[110, 105, 108]⟩ : ByteArray), (⟨#[114, 117, 108, 101]⟩ : ByteArray), (⟨#[115, 117, 109, 115]⟩ : ByteArray), (⟨#[65]⟩ : ByteArray), (⟨#[97, 95, 98]⟩ : ByteArray), (⟨#[102, 117, 110]⟩ : ByteArray)] : List ByteArray) (by simp) c1
    rw [e]; simp only [Option.bind_some]
    exact ⟨_, _, _, rfl, low _ (by decide) s hm, c2⟩

theorem spec_l2List_l0 (b : List Int) (n : Int) (hn : n ≤ 6) : ∀ (d j k : Nat) (out : List ByteArray) (i h : Int), (n.toNat ≤ j + d) → d < k → out.length ≤ j → j ≤ 6 → Cur b i →
    ∃ r i' h', spec_l2List.l0 k out n (j : Int) b i h = some (r, i', h') ∧ r.length ≤ 6 := by
  intro d
  induction d with
  | zero =>
    intro j k out i h hj hk ho h6 hc
    obtain ⟨k, rfl⟩ := succ_of hk
    rw [spec_l2List.l0, if_neg (by omega)]
    exact ⟨_, _, _, rfl, by omega⟩
  | succ d ih =>
    intro j k out i h hj hk ho h6 hc
    obtain ⟨k, rfl⟩ := succ_of hk
    rw [spec_l2List.l0]
    by_cases hjn : (j : Int) < n
    · rw [if_pos hjn]
      obtain ⟨s, i1, h1, e, _, c1⟩ := spec_l2Any_ex b i h hc
      rw [e]; simp only [Option.bind_some]
      rw [if_pos (by omega), wrap_id (by omega) (by omega)]
      exact ih (j + 1) k _ _ _ (by omega) (by omega) (by simp only [List.length_append, List.length_singleton]; omega) (by omega) c1
    · rw [if_neg hjn]; exact ⟨_, _, _, rfl, by omega⟩
theorem spec_l2List_ex (b : List Int) (i h : Int) (hc : Cur b i) (k : Nat) (hk : 8 < k) : ∃ r i' h', spec_l2List.f k b i h = some (r, i', h') ∧ r.length ≤ 6 := by
  unfold spec_l2List.f
  obtain ⟨r, i1, h1, e, r0, r1, _, c1⟩ := spec_l1Below_ex b i h 6 hc
  have r1 := r1 (by omega)
  rw [e]; simp only [Option.bind_some]
  exact spec_l2List_l0 b r (by omega) 7 0 k [] i1 h1 (by omega) (by omega) (by simp) (by omega) c1

theorem spec_l1New_l0 (b : List Int) (hb : b.length ≤ 140737488351232) : ∀ (d j k : Nat) (h : Int), j + d = b.length → d < k → ∃ h', spec_l1New.l0 k b h (j : Int) = some (b, 0, h') := by
  intro d
  induction d with
  | zero =>
    intro j k h hj hk
    obtain ⟨k, rfl⟩ := succ_of hk
    simp only [spec_l1New.l0]
    rw [if_neg (by omega)]
    exact ⟨_, rfl⟩
  | succ d ih =>
    intro j k h hj hk
    obtain ⟨k, rfl⟩ := succ_of hk
    have hlt : j < b.length := by omega
    simp only [spec_l1New.l0]
    rw [if_pos (by omega)]
    by_cases h4 : (j : Int) < 4000
    · rw [if_pos h4, if_pos (by omega), wrap_succ hlt (by omega)]
      exact ih (j + 1) k _ (by omega) (by omega)
    · rw [if_neg h4]; exact ⟨_, rfl⟩
theorem spec_l1New_ex (b : List Int) (hb : b.length ≤ 140737488351232) (k : Nat) (hk : b.length < k) : ∃ h', spec_l1New.f k b = some (b, 0, h') := by
  unfold spec_l1New.f
  exact spec_l1New_l0 b hb b.length 0 k _ (by omega) hk
theorem cur_zero (b : List Int) (hb : b.length ≤ 140737488351232) : Cur b 0 := ⟨Int.le_refl _, by omega, hb⟩

theorem spec_DrawSortNames_ex (b : List Int) (hb : b.length ≤ 140737488351232) (k : Nat) (hk : b.length + 8 < k) : ∃ r, spec_DrawSortNames.f k b = some r ∧ r.length ≤ 6 := by
  unfold spec_DrawSortNames.f
  obtain ⟨h0, e0⟩ := spec_l1New_ex b hb k (by omega)
  rw [e0]; simp only [Option.bind_some]
  obtain ⟨r, i1, h1, e1, hr⟩ := spec_l2List_ex b 0 h0 (cur_zero b hb) k (by omega)
  rw [e1]; simp only [Option.bind_some]
  exact ⟨r, rfl, hr⟩

theorem bl_tri (a b : List UInt8) : a < b ∨ a = b ∨ b < a := by
  by_cases h : a < b
  · exact Or.inl h
  · by_cases h' : b < a
    · exact Or.inr (Or.inr h')
    · exact Or.inr (Or.inl (List.le_antisymm h' h))
abbrev blt (a b : ByteArray) : Prop := a.data.toList < b.data.toList
theorem blt_irrefl (a : ByteArray) : ¬ blt a a := List.lt_irrefl _
theorem blt_trans {a b c : ByteArray} (h : blt a b) (h' : blt b c) : blt a c := List.lt_trans h h'
theorem data_inj {a b : ByteArray} (h : a.data.toList = b.data.toList) : a = b := by
  cases a; cases b; simp only [ByteArray.mk.injEq] at *; exact Array.toList_inj.1 h
theorem blt_total {a b : ByteArray} (h : ¬ blt a b) (h' : a ≠ b) : blt b a := by
  rcases bl_tri a.data.toList b.data.toList with h1 | h1 | h1
  · exact absurd h1 h
  · exact absurd (data_inj h1) h'
  · exact h1
theorem asc_eq : ∀ {xs ys : List ByteArray}, xs.Pairwise blt → ys.Pairwise blt → (∀ a, a ∈ xs ↔ a ∈ ys) → xs = ys
  | [], [], _, _, _ => rfl
  | [], y :: ys, _, _, h => by have := (h y).2 (by simp); simp at this
  | x :: xs, [], _, _, h => by have := (h x).1 (by simp); simp at this
  | x :: xs, y :: ys, hx, hy, h => by
    rw [List.pairwise_cons] at hx hy
    have e : x = y := by
      apply Classical.byContradiction
      intro ne
      have h1 : x ∈ ys := by
        rcases List.mem_cons.1 ((h x).1 (by simp)) with e | e
        · exact absurd e ne
        · exact e
      have h2 : y ∈ xs := by
        rcases List.mem_cons.1 ((h y).2 (by simp)) with e | e
        · exact absurd e.symm ne
        · exact e
      exact blt_irrefl _ (blt_trans (hx.1 y h2) (hy.1 x h1))
    subst e
    rw [asc_eq hx.2 hy.2 (fun a => ⟨fun ha => ?_, fun ha => ?_⟩)]
    · rcases List.mem_cons.1 ((h a).1 (List.mem_cons_of_mem _ ha)) with e | e
      · subst e; exact absurd (hx.1 a ha) (blt_irrefl a)
      · exact e
    · rcases List.mem_cons.1 ((h a).2 (List.mem_cons_of_mem _ ha)) with e | e
      · subst e; exact absurd (hy.1 a ha) (blt_irrefl a)
      · exact e
def insB (x : ByteArray) : List ByteArray → List ByteArray
  | [] => [x]
  | y :: ys => if y.data.toList < x.data.toList then y :: insB x ys else if y = x then y :: ys else x :: y :: ys
theorem insB_len (x : ByteArray) : ∀ ys, (insB x ys).length ≤ ys.length + 1
  | [] => by simp [insB]
  | y :: ys => by
    have := insB_len x ys
    unfold insB; split
    · simp only [List.length_cons]; omega
    · split <;> simp
theorem insB_mem (x : ByteArray) : ∀ ys a, a ∈ insB x ys ↔ a = x ∨ a ∈ ys
  | [], a => by simp [insB]
  | y :: ys, a => by
    unfold insB; split
    · rw [List.mem_cons, insB_mem x ys a, List.mem_cons]; constructor
      · rintro (h | h | h) <;> simp [h]
      · rintro (h | h | h) <;> simp [h]
    · split
      · rename_i e; subst e; rw [List.mem_cons]; constructor
        · rintro (h | h) <;> simp [h]
        · rintro (h | h | h) <;> simp [h]
      · rw [List.mem_cons]
theorem insB_asc (x : ByteArray) : ∀ {ys}, ys.Pairwise blt → (insB x ys).Pairwise blt
  | [], _ => by simp [insB]
  | y :: ys, h => by
    have h' := h
    rw [List.pairwise_cons] at h'
    unfold insB; split
    · rename_i hl
      rw [List.pairwise_cons]
      refine ⟨fun a ha => ?_, insB_asc x h'.2⟩
      rcases (insB_mem x ys a).1 ha with rfl | ha
      · exact hl
      · exact h'.1 a ha
    · rename_i hl
      split
      · exact h
      · rename_i ne
        rw [List.pairwise_cons]
        have hx : blt x y := blt_total hl ne
        refine ⟨fun a ha => ?_, h⟩
        rcases List.mem_cons.1 ha with rfl | ha
        · exact hx
        · exact blt_trans hx (h'.1 a ha)
def sortB (acc : List ByteArray) : List ByteArray → List ByteArray
  | [] => acc
  | x :: xs => sortB (insB x acc) xs
theorem sortB_len : ∀ xs acc, (sortB acc xs).length ≤ acc.length + xs.length
  | [], acc => by simp [sortB]
  | x :: xs, acc => by
    have h1 := sortB_len xs (insB x acc)
    have h2 := insB_len x acc
    simp only [sortB, List.length_cons]; omega
theorem sortB_mem : ∀ xs acc a, a ∈ sortB acc xs ↔ a ∈ acc ∨ a ∈ xs
  | [], acc, a => by simp [sortB]
  | x :: xs, acc, a => by
    rw [sortB, sortB_mem xs, insB_mem, List.mem_cons]
    constructor
    · rintro ((h | h) | h) <;> simp [h]
    · rintro (h | h | h) <;> simp [h]
theorem sortB_asc : ∀ xs {acc : List ByteArray}, acc.Pairwise blt → (sortB acc xs).Pairwise blt
  | [], _, h => h
  | x :: xs, _, h => sortB_asc xs (insB_asc x h)
theorem compact_asc (d : Array (List UInt8)) (hs : ∀ i j, i < j → j < d.size → d[i]! ≤ d[j]!) : ∀ m, m ≤ d.size →
    (Lib.compactUpTo d m).Pairwise (· < ·) ∧ (∀ a, a ∈ Lib.compactUpTo d m ↔ ∃ j, j < m ∧ a = d[j]!)
  | 0, _ => by simp [Lib.compactUpTo]
  | m + 1, hm => by
    obtain ⟨h1, h2⟩ := compact_asc d hs m (by omega)
    rw [Lib.compactUpTo_succ]
    cases hk : Lib.keeps d m with
    | false =>
      simp only [Bool.false_eq_true, if_false, List.append_nil]
      refine ⟨h1, fun a => ?_⟩
      rw [h2 a]
      unfold Lib.keeps at hk
      rw [decide_eq_false_iff_not, not_or, Classical.not_not] at hk
      constructor
      · rintro ⟨j, hj, e⟩; exact ⟨j, by omega, e⟩
      · rintro ⟨j, hj, e⟩
        by_cases hjm : j = m
        · subst hjm; exact ⟨j - 1, by omega, e.trans hk.2⟩
        · exact ⟨j, by omega, e⟩
    | true =>
      simp only [if_true]
      constructor
      · rw [List.pairwise_append]
        refine ⟨h1, by simp, fun a ha b hb => ?_⟩
        rw [List.mem_singleton] at hb; subst hb
        obtain ⟨j, hj, rfl⟩ := (h2 a).1 ha
        simp only [Lib.keeps, decide_eq_true_eq] at hk
        rcases hk with hk | hk
        · omega
        · have h3 : d[j]! ≤ d[m - 1]! := by
            by_cases e : j = m - 1
            · rw [e]; exact List.le_refl _
            · exact hs j (m - 1) (by omega) (by omega)
          have h4 : d[m-1]! ≤ d[m]! := hs (m-1) m (by omega) (by omega)
          have h5 : d[m-1]! < d[m]! := by
            rcases bl_tri d[m-1]! d[m]! with h | h | h
            · exact h
            · exact absurd h.symm hk
            · exact absurd h h4
          rcases bl_tri d[j]! d[m-1]! with h | h | h
          · exact List.lt_trans h h5
          · rw [h]; exact h5
          · exact absurd h h3
      · intro a
        rw [List.mem_append, h2 a, List.mem_singleton]
        constructor
        · rintro (⟨j, hj, e⟩ | e)
          · exact ⟨j, by omega, e⟩
          · exact ⟨m, by omega, e⟩
        · rintro ⟨j, hj, e⟩
          by_cases hjm : j = m
          · subst hjm; exact Or.inr e
          · exact Or.inl ⟨j, by omega, e⟩
theorem sort_compact (l : List ByteArray) : ((Lib.compact ((l.map (·.data.toList)).mergeSort fun x y => decide (x ≤ y))).map fun L => (⟨L.toArray⟩ : ByteArray)) = sortB [] l := by
  generalize hd : ((l.map (·.data.toList)).mergeSort fun x y => decide (x ≤ y)) = d
  have hp : d.Perm (l.map (·.data.toList)) := hd ▸ List.mergeSort_perm _ _
  have hsd : d.Pairwise (fun x y => decide (x ≤ y) = true) := by
    rw [← hd]
    refine List.pairwise_mergeSort (fun a b c h1 h2 => ?_) (fun a b => ?_) _
    · simp only [decide_eq_true_eq] at *; exact List.le_trans h1 h2
    · simp only [Bool.or_eq_true, decide_eq_true_eq]; exact List.le_total _ _
  have hc := compact_asc d.toArray (fun i j hij hj => by
    have hj' : j < d.length := by simpa using hj
    rw [getElem!_pos d.toArray i (by simp; omega), getElem!_pos d.toArray j hj]
    simpa using (List.pairwise_iff_getElem.1 hsd) i j (by omega) hj' hij) d.length (by simp)
  refine asc_eq ?_ (sortB_asc l List.Pairwise.nil) fun a => ?_
  · rw [List.pairwise_map]; exact hc.1.imp (fun h => by simpa [blt] using h)
  · rw [sortB_mem, List.mem_map]
    have key : ∀ L, L ∈ Lib.compact d ↔ L ∈ d := fun L => by
      rw [Lib.compact, hc.2 L, List.mem_iff_getElem]
      constructor
      · rintro ⟨j, hj, rfl⟩; exact ⟨j, hj, by simp [getElem!_pos, hj]⟩
      · rintro ⟨j, hj, rfl⟩; exact ⟨j, hj, by simp [getElem!_pos, hj]⟩
    constructor
    · rintro ⟨L, hL, rfl⟩
      have := hp.mem_iff.1 ((key L).1 hL)
      obtain ⟨b, hb, rfl⟩ := List.mem_map.1 this
      exact Or.inr (by simpa using hb)
    · rintro (h | h)
      · simp at h
      · exact ⟨a.data.toList, (key _).2 (hp.mem_iff.2 (List.mem_map.2 ⟨a, h, rfl⟩)), by simp⟩

theorem impl_SortNames_eq (x0 : List ByteArray) (hn : x0.length ≤ 1048576) : impl_SortNames.f x0 = some (sortB [] x0) := by
  unfold impl_SortNames.f slices_Clone_string_string.f
  rw [Option.bind_some, if_pos (by simp only [List.length_nil]; omega), Option.bind_some, List.nil_append]
  unfold slices_Sort_string_string.f
  rw [if_pos (by omega), Option.bind_some]
  unfold slices_Compact_string_string.f
  rw [if_pos (by simp only [List.length_map, List.length_mergeSort]; omega), Option.bind_some]
  have e : (List.map (fun L => (⟨L.toArray⟩ : ByteArray)) ((x0.map (·.data.toList)).mergeSort fun x y => decide (x ≤ y))).map (·.data.toList) = ((x0.map (·.data.toList)).mergeSort fun x y => decide (x ≤ y)) := by
    rw [List.map_map]; simp [Function.comp_def]
  rw [e, sort_compact]

theorem laws_rising_l0 (xs : List ByteArray) (hn : xs.length ≤ 4611686018427387904) (ha : xs.Pairwise blt) : ∀ (d j k : Nat), xs.length ≤ j + d → d < k → 1 ≤ j → laws_rising.l0 k xs (j : Int) = some true := by
  intro d
  induction d with
  | zero =>
    intro j k hj hk h1
    obtain ⟨k, rfl⟩ := succ_of hk
    rw [laws_rising.l0, if_neg (by omega)]
  | succ d ih =>
    intro j k hj hk h1
    obtain ⟨k, rfl⟩ := succ_of hk
    rw [laws_rising.l0]
    by_cases hlt : j < xs.length
    · have e : wrap64 ((j : Int) - 1) = ((j - 1 : Nat) : Int) := by rw [wrap_id (by omega) (by omega)]; omega
      rw [if_pos (by omega), e, if_pos (by omega), if_pos (by omega), if_pos (by omega), rdOf_nat _ _ _ hlt, rdOf_nat _ _ (j - 1) (by omega), bytesLess_eq, Lib.toList_data, Lib.toList_data,
        if_pos (by simpa using (List.pairwise_iff_getElem.1 ha) (j - 1) j (by omega) hlt (by omega)), wrap_succ hlt hn]
      exact ih (j + 1) k (by omega) (by omega) (by omega)
    · rw [if_neg (by omega)]
theorem laws_rising_eq (xs : List ByteArray) (hn : xs.length ≤ 4611686018427387904) (ha : xs.Pairwise blt) (k : Nat) (hk : xs.length < k) : laws_rising.f k xs = some true := by
  unfold laws_rising.f
  exact laws_rising_l0 xs hn ha xs.length 1 k (by omega) hk (by omega)

theorem laws_sameTexts_l0 (xs : List ByteArray) (hn : xs.length ≤ 4611686018427387904) : ∀ (d j k : Nat), j + d = xs.length → d < k → laws_sameTexts.l0 k xs xs (j : Int) = some true := by
  intro d
  induction d with
  | zero =>
    intro j k hj hk
    obtain ⟨k, rfl⟩ := succ_of hk
    rw [laws_sameTexts.l0, if_neg (by omega)]
  | succ d ih =>
    intro j k hj hk
    obtain ⟨k, rfl⟩ := succ_of hk
    have hlt : j < xs.length := by omega
    rw [laws_sameTexts.l0, if_pos (by omega), if_pos (by omega), if_pos (by omega), if_pos rfl, wrap_succ hlt hn]
    exact ih (j + 1) k (by omega) (by omega)
theorem laws_sameTexts_eq (xs : List ByteArray) (hn : xs.length ≤ 4611686018427387904) (k : Nat) (hk : xs.length < k) : laws_sameTexts.f k xs xs = some true := by
  unfold laws_sameTexts.f
  rw [if_pos rfl]
  exact laws_sameTexts_l0 xs hn xs.length 0 k (by omega) hk

instance bytesDec : DecidableEq ByteArray := fun a b => decidable_of_iff (a.data = b.data) ⟨fun h => by cases a; cases b; exact congrArg ByteArray.mk h, fun h => by rw [h]⟩
theorem bytes_eq (a b : ByteArray) : a.toList = b.toList ↔ a = b := by
  rw [ByteArray.toList_eq, ByteArray.toList_eq]
  constructor
  · intro h; cases a; cases b; simp only [ByteArray.mk.injEq] at *; exact Array.toList_inj.mp h
  · intro h; rw [h]
theorem bytes_lit (s : ByteArray) (a : Array UInt8) : s.toList = a.toList ↔ s = ⟨a⟩ := by
  rw [ByteArray.toList_eq]
  constructor
  · intro h; cases s; simp only [ByteArray.mk.injEq] at *; exact Array.toList_inj.mp h
  · intro h; rw [h]

/-- Is s among xs? -/
def bmem (s : ByteArray) : List ByteArray → Bool
  | [] => false
  | x :: xs => decide (x = s) || bmem s xs
theorem bmem_iff (s : ByteArray) : ∀ xs : List ByteArray, bmem s xs = true ↔ s ∈ xs := by
  intro xs
  induction xs with
  | nil => simp [bmem]
  | cons x xs ih => simp only [bmem, Bool.or_eq_true, decide_eq_true_eq, ih, List.mem_cons]; exact or_congr eq_comm Iff.rfl

/-- Does none of the strings from place j on stand ahead of itself? -/
def distinctFrom (xs : List ByteArray) (j : Nat) : Nat → Bool
  | 0 => true
  | d + 1 => match xs[j]? with
    | some x => !(bmem x (xs.take j)) && distinctFrom xs (j + 1) d
    | none => true

/-- The place of the first s, counted from i on; -1 where there is none. -/
def idxFrom (s : ByteArray) : List ByteArray → Int → Int
  | [], _ => -1
  | x :: xs, i => if x = s then i else idxFrom s xs (i + 1)

theorem slices_Index_l0 (xs : List ByteArray) (s : ByteArray) (hn : xs.length ≤ 4611686018427387904) : ∀ (d j k : Nat), j + d = xs.length → d < k →
    slices_Index_string_string.l0 k xs s (xs.length : Int) (j : Int) = some (idxFrom s (xs.drop j) (j : Int)) := by
  intro d
  induction d with
  | zero =>
    intro j k hj hk
    obtain ⟨k, rfl⟩ := succ_of hk
    simp only [slices_Index_string_string.l0]
    rw [if_neg (by omega), List.drop_eq_nil_of_le (by omega)]; rfl
  | succ d ih =>
    intro j k hj hk
    obtain ⟨k, rfl⟩ := succ_of hk
    have hlt : j < xs.length := by omega
    simp only [slices_Index_string_string.l0]
    rw [if_pos (by omega), if_pos (by omega), if_pos (by omega), rdOf_nat _ _ _ hlt, wrap_succ hlt hn, ih (j + 1) k (by omega) (by omega), List.drop_eq_getElem_cons hlt]
    simp only [idxFrom, bytes_eq]
    by_cases h : s = xs[j]
    · rw [if_pos h, if_pos h.symm]
    · rw [if_neg h, if_neg (fun e => h e.symm)]; rfl
theorem slices_Index_eq (xs : List ByteArray) (s : ByteArray) (hn : xs.length ≤ 4611686018427387904) (k : Nat) (hk : xs.length < k) : slices_Index_string_string.f k xs s = some (idxFrom s xs 0) := by
  unfold slices_Index_string_string.f
  have := slices_Index_l0 xs s hn xs.length 0 k (by omega) hk
  simpa using this

theorem idxFrom_iff (s : ByteArray) : ∀ (xs : List ByteArray) (i : Int), 0 ≤ i → (idxFrom s xs i ≥ 0 ↔ bmem s xs = true) := by
  intro xs
  induction xs with
  | nil => intro i _; simp [idxFrom, bmem]
  | cons x xs ih =>
    intro i hi
    show (if x = s then i else idxFrom s xs (i + 1)) ≥ 0 ↔ (decide (x = s) || bmem s xs) = true
    by_cases h : x = s
    · rw [if_pos h]; simp [h]; omega
    · rw [if_neg h, ih (i + 1) (by omega)]; simp [h]
theorem idxFrom_nonneg (s : ByteArray) (xs : List ByteArray) (i : Int) (hi : 0 ≤ i) : decide (idxFrom s xs i ≥ 0) = bmem s xs := by
  rw [Bool.eq_iff_iff, decide_eq_true_iff]; exact idxFrom_iff s xs i hi
theorem slices_Contains_eq (xs : List ByteArray) (s : ByteArray) (hn : xs.length ≤ 4611686018427387904) (k : Nat) (hk : xs.length < k) : slices_Contains_string_string.f k xs s = some (bmem s xs) := by
  unfold slices_Contains_string_string.f
  rw [slices_Index_eq xs s hn k hk, Option.bind_some, idxFrom_nonneg s xs 0 (by omega)]

theorem impl_AllDistinct_l0 (xs : List ByteArray) (hn : xs.length ≤ 4611686018427387904) : ∀ (d j k : Nat), j + d = xs.length → xs.length + d < k →
    impl_AllDistinct.l0 k xs xs (xs.length : Int) (j : Int) = some (distinctFrom xs j d) := by
  intro d
  induction d with
  | zero =>
    intro j k hj hk
    obtain ⟨k, rfl⟩ := succ_of hk
    simp only [impl_AllDistinct.l0, distinctFrom]
    rw [if_neg (by omega)]
  | succ d ih =>
    intro j k hj hk
    obtain ⟨k, rfl⟩ := succ_of hk
    have hlt : j < xs.length := by omega
    simp only [impl_AllDistinct.l0, distinctFrom, List.getElem?_eq_getElem hlt]
    rw [if_pos (by omega), if_pos (by omega), if_pos (by omega), if_pos (by omega), rdOf_nat _ _ _ hlt, Int.toNat_natCast, slices_Contains_eq _ _ (by rw [List.length_take]; omega) k (by rw [List.length_take]; omega), Option.bind_some, wrap_succ hlt hn, ih (j + 1) k (by omega) (by omega)]
    cases bmem xs[j] (xs.take j) <;> simp
theorem impl_AllDistinct_eq (xs : List ByteArray) (hn : xs.length ≤ 4611686018427387904) (k : Nat) (hk : xs.length + xs.length < k) : impl_AllDistinct.f k xs = some (distinctFrom xs 0 xs.length) := by
  unfold impl_AllDistinct.f
  exact impl_AllDistinct_l0 xs hn xs.length 0 k (by omega) (by omega)

theorem impl_IndexOf_eq (xs : List ByteArray) (s : ByteArray) (hn : xs.length ≤ 4611686018427387904) (k : Nat) (hk : xs.length < k) : impl_IndexOf.f k xs s = some (idxFrom s xs 0) := by
  unfold impl_IndexOf.f; rw [slices_Index_eq xs s hn k hk]; rfl

theorem spec_DrawIsValidName_ex (b : List Int) (hb : b.length ≤ 140737488351232) (k : Nat) (hk : b.length < k) : ∃ r, spec_DrawIsValidName.f k b = some r ∧ r.size ≤ 9 := by
  unfold spec_DrawIsValidName.f
  obtain ⟨h0, e0⟩ := spec_l1New_ex b hb k hk
  rw [e0]; simp only [Option.bind_some]
  obtain ⟨r, i1, h1, e1, hr, _⟩ := spec_l2Any_ex b 0 h0 (cur_zero b hb)
  rw [e1]; simp only [Option.bind_some]
  exact ⟨r, rfl, hr⟩

theorem spec_DrawIsListName_ex (b : List Int) (hb : b.length ≤ 140737488351232) (k : Nat) (hk : b.length < k) : ∃ r, spec_DrawIsListName.f k b = some r ∧ r.size ≤ 9 := by
  unfold spec_DrawIsListName.f
  obtain ⟨h0, e0⟩ := spec_l1New_ex b hb k hk
  rw [e0]; simp only [Option.bind_some]
  obtain ⟨r, i1, h1, e1, hr, _⟩ := spec_l2Any_ex b 0 h0 (cur_zero b hb)
  rw [e1]; simp only [Option.bind_some]
  exact ⟨r, rfl, hr⟩

/-- p holds from j on, d times. -/
def allFrom (p : Nat → Bool) (j : Nat) : Nat → Bool
  | 0 => true
  | d + 1 => p j && allFrom p (j + 1) d
theorem allFrom_iff (p : Nat → Bool) : ∀ (d j : Nat), allFrom p j d = true ↔ ∀ i, j ≤ i → i < j + d → p i = true := by
  intro d
  induction d with
  | zero => intro j; simp only [allFrom, true_iff]; intro i h1 h2; omega
  | succ d ih =>
    intro j
    simp only [allFrom, Bool.and_eq_true, ih]
    constructor
    · rintro ⟨h1, h2⟩ i hi1 hi2
      by_cases e : i = j
      · rw [e]; exact h1
      · exact h2 i (by omega) (by omega)
    · intro h
      exact ⟨h j (by omega) (by omega), fun i h1 h2 => h i (by omega) (by omega)⟩

/-- The five reserved words. -/
def reservedWords : List ByteArray := [⟨#[102, 117, 110]⟩, ⟨#[112, 114, 101]⟩, ⟨#[114, 117, 108, 101]⟩, ⟨#[114, 101, 116, 117, 114, 110]⟩, ⟨#[110, 105, 108]⟩]
def reserved (s : ByteArray) : Bool := bmem s reservedWords

/-- Byte c may stand at place i of a name. -/
def okByte (c : Int) (i : Nat) : Bool := decide ((97 ≤ c ∧ c ≤ 122) ∨ ((48 ≤ c ∧ c ≤ 57) ∧ 0 < i))
def nameShape (s : ByteArray) : Bool := allFrom (fun i => okByte (bt s i) i) 0 s.size
def validName (s : ByteArray) : Bool := nameShape s && decide (1 ≤ s.size) && decide (s.size ≤ 8) && !reserved s
theorem okByte_yes {c : Int} {i : Nat} (h : okByte c i = true) : (97 ≤ c ∧ c ≤ 122) ∨ ((48 ≤ c ∧ c ≤ 57) ∧ 0 < i) := by unfold okByte at h; exact of_decide_eq_true h
theorem okByte_no {c : Int} {i : Nat} (h : okByte c i = false) : ¬ ((97 ≤ c ∧ c ≤ 122) ∨ ((48 ≤ c ∧ c ≤ 57) ∧ 0 < i)) := by unfold okByte at h; exact of_decide_eq_false h

theorem impl_IsReserved_eq (s : ByteArray) : impl_IsReserved.f s = some (reserved s) := by
  unfold impl_IsReserved.f reserved reservedWords
  have h1 := bytes_lit s #[102, 117, 110]
  have h2 := bytes_lit s #[112, 114, 101]
  have h3 := bytes_lit s #[114, 117, 108, 101]
  have h4 := bytes_lit s #[114, 101, 116, 117, 114, 110]
  have h5 := bytes_lit s #[110, 105, 108]
  simp only [] at h1 h2 h3 h4 h5
  simp only [h1, h2, h3, h4, h5, bmem, @eq_comm _ _ s]
  by_cases e1 : s = ⟨#[102, 117, 110]⟩
  · rw [if_pos e1]; simp [e1]
  by_cases e2 : s = ⟨#[112, 114, 101]⟩
  · rw [if_neg e1, if_pos e2]; simp [e2]
  by_cases e3 : s = ⟨#[114, 117, 108, 101]⟩
  · rw [if_neg e1, if_neg e2, if_pos e3]; simp [e3]
  by_cases e4 : s = ⟨#[114, 101, 116, 117, 114, 110]⟩
  · rw [if_neg e1, if_neg e2, if_neg e3, if_pos e4]; simp [e4]
  by_cases e5 : s = ⟨#[110, 105, 108]⟩
  · rw [if_neg e1, if_neg e2, if_neg e3, if_neg e4, if_pos e5]; simp [e5]
  · rw [if_neg e1, if_neg e2, if_neg e3, if_neg e4, if_neg e5]; simp [e1, e2, e3, e4, e5]

theorem impl_within_eq (a b c : Int) : impl_within.f a b c = some (decide (b ≤ a ∧ a ≤ c)) := by
  unfold impl_within.f
  by_cases h : a ≥ b
  · rw [if_pos h]; congr 1; rw [decide_eq_decide]; omega
  · rw [if_neg h]; congr 1; symm; rw [decide_eq_false_iff_not]; omega

theorem impl_IsValidName_l0 (s : ByteArray) (hn : s.size ≤ 4611686018427387904) : ∀ (d j k : Nat), j + d = s.size → d < k →
    impl_IsValidName.l0 k s (j : Int) = some (allFrom (fun i => okByte (bt s i) i) j d) := by
  intro d
  induction d with
  | zero =>
    intro j k hj hk
    obtain ⟨k, rfl⟩ := succ_of hk
    simp only [impl_IsValidName.l0, allFrom]
    rw [if_neg (by omega)]
  | succ d ih =>
    intro j k hj hk
    obtain ⟨k, rfl⟩ := succ_of hk
    have hlt : j < s.size := by omega
    simp only [impl_IsValidName.l0, allFrom]
    rw [if_pos (by omega), if_pos (by omega), wrap_succ hlt hn, ih (j + 1) k (by omega) (by omega)]
    generalize bt s (j : Int) = c
    cases h : okByte c j with
    | true =>
      have := okByte_yes h
      rw [Bool.true_and]
      repeat' split
      all_goals first | rfl | (exfalso; omega)
    | false =>
      have := okByte_no h
      rw [Bool.false_and]
      repeat' split
      all_goals first | rfl | (exfalso; omega)
theorem impl_IsValidName_eq (s : ByteArray) (hn : s.size ≤ 4611686018427387904) (k : Nat) (hk : s.size + 5 < k) : impl_IsValidName.f k s = some (validName s) := by
  unfold impl_IsValidName.f validName
  obtain ⟨k, rfl⟩ := succ_of hk
  rw [impl_within_eq, Option.bind_some, impl_IsReserved_eq, Option.bind_some]
  simp only [impl_IsValidName.j0]
  have hl := impl_IsValidName_l0 s hn s.size 0 k (by omega) (by omega)
  rw [show ((0 : Nat) : Int) = 0 from rfl] at hl
  rw [hl]
  unfold nameShape
  cases h0 : reserved s <;> cases h1 : allFrom (fun i => okByte (bt s i) i) 0 s.size <;> by_cases h2 : 1 ≤ s.size <;> by_cases h3 : s.size ≤ 8 <;> simp [h2, h3] <;> (intros; omega)

theorem spec_l2Shape_l0 (s : ByteArray) (hn : s.size ≤ 4611686018427387904) : ∀ (d j k : Nat), j + d = s.size → d < k →
    spec_l2Shape.l0 k s (j : Int) = some (allFrom (fun i => okByte (bt s i) i) j d && decide (0 < s.size)) := by
  intro d
  induction d with
  | zero =>
    intro j k hj hk
    obtain ⟨k, rfl⟩ := succ_of hk
    simp only [spec_l2Shape.l0, allFrom]
    rw [if_neg (by omega), Bool.true_and]; congr 1; rw [decide_eq_decide]; omega
  | succ d ih =>
    intro j k hj hk
    obtain ⟨k, rfl⟩ := succ_of hk
    have hlt : j < s.size := by omega
    simp only [spec_l2Shape.l0, allFrom]
    rw [if_pos (by omega), if_pos (by omega), wrap_succ hlt hn, ih (j + 1) k (by omega) (by omega)]
    generalize bt s (j : Int) = c
    cases h : okByte c j with
    | true =>
      have := okByte_yes h
      rw [Bool.true_and]
      repeat' split
      all_goals first | rfl | (exfalso; omega)
    | false =>
      have := okByte_no h
      rw [Bool.false_and, Bool.false_and]
      repeat' split
      all_goals first | rfl | (exfalso; omega)
theorem spec_l2Shape_eq (s : ByteArray) (hn : s.size ≤ 4611686018427387904) (k : Nat) (hk : s.size < k) : spec_l2Shape.f k s = some (nameShape s && decide (1 ≤ s.size)) := by
  unfold spec_l2Shape.f nameShape
  exact spec_l2Shape_l0 s hn s.size 0 k (by omega) hk

theorem spec_l1Has_l0 (xs : List ByteArray) (s : ByteArray) (hn : xs.length ≤ 4611686018427387904) : ∀ (d j k : Nat), j + d = xs.length → d < k →
    spec_l1Has.l0 k xs s (j : Int) = some (bmem s (xs.drop j)) := by
  intro d
  induction d with
  | zero =>
    intro j k hj hk
    obtain ⟨k, rfl⟩ := succ_of hk
    simp only [spec_l1Has.l0]
    rw [if_neg (by omega), List.drop_eq_nil_of_le (by omega)]
    rfl
  | succ d ih =>
    intro j k hj hk
    obtain ⟨k, rfl⟩ := succ_of hk
    have hlt : j < xs.length := by omega
    simp only [spec_l1Has.l0]
    rw [if_pos (by omega), if_pos (by omega), rdOf_nat _ _ _ hlt, wrap_succ hlt hn, ih (j + 1) k (by omega) (by omega), List.drop_eq_getElem_cons hlt]
    by_cases h : xs[j] = s
    · rw [if_pos (by rw [h])]; simp [bmem, h]
    · rw [if_neg (by rw [bytes_eq]; exact h)]; simp [bmem, h]
theorem spec_l1Has_eq (xs : List ByteArray) (s : ByteArray) (hn : xs.length ≤ 4611686018427387904) (k : Nat) (hk : xs.length < k) :
    spec_l1Has.f k xs s = some (bmem s xs) := by
  unfold spec_l1Has.f
  have := spec_l1Has_l0 xs s hn xs.length 0 k (by omega) hk
  simpa using this

theorem spec_IsReserved_eq (s : ByteArray) (k : Nat) (hk : 5 < k) : spec_IsReserved.f k s = some (reserved s) := by
  unfold spec_IsReserved.f spec_l2Reserved.f
  rw [Option.bind_some, spec_l1Has_eq _ _ (by simp) k (by simpa using hk)]
  rfl

theorem spec_IsValidName_eq (s : ByteArray) (hn : s.size ≤ 4611686018427387904) (k : Nat) (hk : s.size + 5 < k) : spec_IsValidName.f k s = some (validName s) := by
  unfold spec_IsValidName.f validName
  rw [spec_l2Shape_eq s hn k (by omega), Option.bind_some, spec_IsReserved_eq s k (by omega), Option.bind_some]
  cases h1 : nameShape s <;> by_cases h2 : 1 ≤ s.size <;> by_cases h3 : s.size ≤ 8 <;> simp [h2, h3] <;> (intros; omega)

/-- The strings that do not occur in remove. -/
def withoutL (rem : List ByteArray) : List ByteArray → List ByteArray
  | [] => []
  | x :: xs => if bmem x rem = true then withoutL rem xs else x :: withoutL rem xs
theorem withoutL_length (rem : List ByteArray) : ∀ xs, (withoutL rem xs).length ≤ xs.length := by
  intro xs
  induction xs with
  | nil => simp [withoutL]
  | cons x xs ih => simp only [withoutL]; split <;> simp only [List.length_cons] <;> omega

theorem impl_Without_l0 (xs rem : List ByteArray) (hn : xs.length ≤ 4000000000000) (hr : rem.length ≤ 4611686018427387904) : ∀ (d j k : Nat) (out : List ByteArray), j + d = xs.length → rem.length + d < k → out.length ≤ j →
    impl_Without.l0 k rem out xs (xs.length : Int) (j : Int) = some (out ++ withoutL rem (xs.drop j)) := by
  intro d
  induction d with
  | zero =>
    intro j k out hj hk ho
    obtain ⟨k, rfl⟩ := succ_of hk
    simp only [impl_Without.l0]
    rw [if_neg (by omega), List.drop_eq_nil_of_le (by omega)]; simp [withoutL]
  | succ d ih =>
    intro j k out hj hk ho
    obtain ⟨k, rfl⟩ := succ_of hk
    have hlt : j < xs.length := by omega
    simp only [impl_Without.l0]
    rw [if_pos (by omega), if_pos (by omega), if_pos (by omega), rdOf_nat _ _ _ hlt, slices_Contains_eq _ _ hr k (by omega), Option.bind_some, wrap_succ hlt (by omega), List.drop_eq_getElem_cons hlt]
    simp only [withoutL]
    by_cases h : bmem xs[j] rem = true
    · rw [if_pos h, if_pos h, ih (j + 1) k out (by omega) (by omega) (by omega)]
    · rw [if_neg h, if_neg h, if_pos (by omega), ih (j + 1) k (out ++ [xs[j]]) (by omega) (by omega) (by simp; omega)]; simp
theorem impl_Without_eq (xs rem : List ByteArray) (hn : xs.length ≤ 4000000000000) (hr : rem.length ≤ 4611686018427387904) (k : Nat) (hk : rem.length + xs.length < k) : impl_Without.f k xs rem = some (withoutL rem xs) := by
  unfold impl_Without.f
  have := impl_Without_l0 xs rem hn hr xs.length 0 k [] (by omega) hk (by simp)
  simpa using this

def listName (s : ByteArray) : Bool := validName s && (bt s ((s.size : Int) - 1) == 115)
theorem validName_size {s : ByteArray} (h : validName s = true) : 1 ≤ s.size ∧ s.size ≤ 8 := by
  unfold validName at h
  simp only [Bool.and_eq_true, decide_eq_true_eq] at h
  exact ⟨h.1.1.2, h.1.2⟩

theorem impl_IsListName_eq (s : ByteArray) (hn : s.size ≤ 4611686018427387904) (k : Nat) (hk : s.size + 5 < k) : impl_IsListName.f k s = some (listName s) := by
  unfold impl_IsListName.f listName
  rw [impl_IsValidName_eq s hn k hk, Option.bind_some]
  cases h : validName s with
  | false => simp
  | true =>
    have := validName_size h
    rw [if_pos rfl, wrap_id (by omega) (by omega), if_pos (by omega), if_pos (by omega)]; simp

theorem spec_IsListName_eq (s : ByteArray) (hn : s.size ≤ 4611686018427387904) (k : Nat) (hk : s.size + 5 < k) : spec_IsListName.f k s = some (listName s) := by
  unfold spec_IsListName.f listName
  rw [spec_IsValidName_eq s hn k hk, Option.bind_some]
  cases h : validName s with
  | false => simp
  | true =>
    have := validName_size h
    rw [if_pos rfl, wrap_id (by omega) (by omega), if_pos (by omega), if_pos (by omega)]; simp

theorem sortB_self {xs : List ByteArray} (h : xs.Pairwise blt) : sortB [] xs = xs := asc_eq (sortB_asc xs List.Pairwise.nil) h (fun a => by rw [sortB_mem]; simp)
theorem distinct_asc (xs : List ByteArray) (h : xs.Pairwise blt) : ∀ (d j : Nat), j + d = xs.length → distinctFrom xs j d = true := by
  intro d
  induction d with
  | zero => intro j _; rfl
  | succ d ih =>
    intro j hj
    have hlt : j < xs.length := by omega
    rw [distinctFrom, List.getElem?_eq_getElem hlt]
    simp only [Bool.and_eq_true, Bool.not_eq_true']
    refine ⟨?_, ih (j + 1) (by omega)⟩
    cases hb : bmem xs[j] (xs.take j) with
    | false => rfl
    | true =>
      obtain ⟨i, hi, e⟩ := List.mem_iff_getElem.1 ((bmem_iff _ _).1 hb)
      rw [List.length_take] at hi
      rw [List.getElem_take] at e
      have := (List.pairwise_iff_getElem.1 h) i j (by omega) hlt (by omega)
      rw [e] at this
      exact absurd this (blt_irrefl _)
theorem idxFrom_mem (s : ByteArray) : ∀ (xs : List ByteArray) (i : Int), 0 ≤ i → s ∈ xs → 0 ≤ idxFrom s xs i := by
  intro xs
  induction xs with
  | nil => intro i _ h; simp at h
  | cons x xs ih =>
    intro i h0 h
    rw [idxFrom]
    split
    · exact h0
    · rename_i ne
      rcases List.mem_cons.1 h with e | e
      · exact absurd e.symm ne
      · exact ih (i + 1) (by omega) e
theorem withoutL_all (rem : List ByteArray) : ∀ xs : List ByteArray, (∀ x ∈ xs, x ∈ rem) → withoutL rem xs = [] := by
  intro xs
  induction xs with
  | nil => intro _; rfl
  | cons x xs ih =>
    intro h
    rw [withoutL, if_pos ((bmem_iff _ _).2 (h x (by simp)))]
    exact ih (fun y hy => h y (by simp [hy]))
theorem valid_notReserved {s : ByteArray} (h : validName s = true) : reserved s = false := by
  unfold validName at h
  simp only [Bool.and_eq_true, Bool.not_eq_true'] at h
  exact h.2
theorem list_valid {s : ByteArray} (h : listName s = true) : validName s = true := by
  unfold listName at h
  rw [Bool.and_eq_true] at h
  exact h.1

theorem laws_FnNames_l0 (c : List Int) (hb : c.length ≤ 1048576) (xs : List ByteArray) (hx : xs.length ≤ 6) : ∀ (d j k : Nat), j + d = xs.length → 2000000 + d < k → laws_FnNames.l0 k c xs (sortB [] xs) (j : Int) = some true := by
  have hs := sortB_len xs []
  simp only [List.length_nil] at hs
  intro d
  induction d with
  | zero =>
    intro j k hj hk
    obtain ⟨k, rfl⟩ := succ_of hk
    rw [laws_FnNames.l0, if_neg (by omega)]
    obtain ⟨s, e, h9⟩ := spec_DrawIsValidName_ex c (by omega) k (by omega)
    rw [e]; simp only [Option.bind_some]
    rw [impl_IsValidName_eq s (by omega) k (by omega), spec_IsValidName_eq s (by omega) k (by omega)]; simp only [Option.bind_some]
    rw [if_neg (by simp)]
    by_cases hv : validName s = true
    · rw [if_pos hv, impl_IsReserved_eq, Option.bind_some, if_neg (by rw [valid_notReserved hv]; simp)]
      obtain ⟨t, e, h9'⟩ := spec_DrawIsListName_ex c (by omega) k (by omega)
      rw [e]; simp only [Option.bind_some]
      rw [impl_Without_eq _ _ (by omega) (by omega) k (by omega)]; simp only [Option.bind_some]
      rw [withoutL_all xs (sortB [] xs) (fun x hx => by simpa using (sortB_mem xs [] x).1 hx), if_pos (by simp)]
      rw [impl_IsListName_eq t (by omega) k (by omega), spec_IsListName_eq t (by omega) k (by omega)]; simp only [Option.bind_some]
      rw [if_pos (by simp), impl_IsValidName_eq t (by omega) k (by omega)]; simp only [Option.bind_some]
      by_cases h : listName t = true
      · rw [if_pos h, list_valid h]
      · rw [if_neg h]
    · rw [if_neg hv]
      obtain ⟨t, e, h9'⟩ := spec_DrawIsListName_ex c (by omega) k (by omega)
      rw [e]; simp only [Option.bind_some]
      rw [impl_Without_eq _ _ (by omega) (by omega) k (by omega)]; simp only [Option.bind_some]
      rw [withoutL_all xs (sortB [] xs) (fun x hx => by simpa using (sortB_mem xs [] x).1 hx), if_pos (by simp)]
      rw [impl_IsListName_eq t (by omega) k (by omega), spec_IsListName_eq t (by omega) k (by omega)]; simp only [Option.bind_some]
      rw [if_pos (by simp), impl_IsValidName_eq t (by omega) k (by omega)]; simp only [Option.bind_some]
      by_cases h : listName t = true
      · rw [if_pos h, list_valid h]
      · rw [if_neg h]
  | succ d ih =>
    intro j k hj hk
    obtain ⟨k, rfl⟩ := succ_of hk
    have hlt : j < xs.length := by omega
    rw [laws_FnNames.l0, if_pos (by omega), if_pos (by omega), rdOf_nat _ _ _ hlt, impl_IndexOf_eq _ _ (by omega) k (by omega)]; simp only [Option.bind_some]
    have := idxFrom_mem xs[j] (sortB [] xs) 0 (by omega) ((sortB_mem xs [] _).2 (Or.inr (List.getElem_mem hlt)))
    rw [if_neg (by omega), wrap_succ hlt (by omega)]
    exact ih (j + 1) k (by omega) (by omega)
theorem FnNames : laws_FnNames.Pure := by
  intro c hc hc' hw
  refine ⟨2100000, ?_⟩
  unfold laws_FnNames.f laws_big.f
  rw [Option.bind_some]
  by_cases hb : (c.length : Int) > 1048576
  · rw [if_pos (by simpa using hb)]
  rw [if_neg (by simpa using hb)]
  obtain ⟨xs, e, hx⟩ := spec_DrawSortNames_ex c (by omega) 2100000 (by omega)
  rw [e]; simp only [Option.bind_some]
  have hs := sortB_len xs []
  simp only [List.length_nil] at hs
  have ha : (sortB [] xs).Pairwise blt := sortB_asc xs List.Pairwise.nil
  rw [impl_SortNames_eq xs (by omega)]; simp only [Option.bind_some]
  rw [laws_rising_eq _ (by omega) ha _ (by omega)]; simp only [Option.bind_some, if_true]
  rw [impl_SortNames_eq _ (by omega)]; simp only [Option.bind_some]
  rw [sortB_self ha, laws_sameTexts_eq _ (by omega) _ (by omega)]; simp only [Option.bind_some, if_true]
  rw [impl_AllDistinct_eq _ (by omega) _ (by omega), distinct_asc _ ha _ 0 (by omega)]; simp only [Option.bind_some, if_true]
  exact laws_FnNames_l0 c (by omega) xs hx xs.length 0 _ (by omega) (by omega)

end Go.Proofs.Ytlencemmlgkflaa.Pure
