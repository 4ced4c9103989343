/- What is written is read as the same expression; a text that is read is the text of what was read; and so with constraints, at every draw. -/
import Derived.Test.YtmdjhmggogfbdaaGreatDoorQFnLinTextx15
namespace Go.Proofs.YtmdjhmggogfbdaaGreatDoor.Pure
open Go.RowKit Go.Proofs.YtmdjhmggogfbdaaGreatDoorV.PrintWords Go.Proofs.YtmdjhmggogfbdaaGreatDoorV.PrintLast Go.Proofs.YtmdjhmggogfbdaaGreatDoorV.PrintMore Go.Proofs.YtmdjhmggogfbdaaGreatDoor.QFnLinText
set_option linter.unusedVariables false
set_option linter.unusedSimpArgs false
theorem wrap_id {n : Int} (h0 : -9223372036854775808 ≤ n) (h1 : n ≤ 9223372036854775807) : wrap64 n = n := by
 unfold wrap64; omega
theorem wrap_succ {j n : Nat} (h : j < n) (hn : n ≤ 4611686018427387904) : wrap64 ((j : Int) + 1) = ((j + 1 : Nat) : Int) := by
 unfold wrap64; omega
theorem succ_of {d k : Nat} (h : d < k) : ∃ m, k = m + 1 := ⟨k - 1, by omega⟩
theorem rdOf_nat {α : Type} (d : α) (xs : List α) (j : Nat) (h : j < xs.length) : rdOf d xs (j : Int) = xs[j] := by
 unfold rdOf; rw [Int.toNat_natCast, List.getD_eq_getElem?_getD, List.getElem?_eq_getElem h]; rfl
theorem rd_nat (xs : List Int) (j : Nat) (h : j < xs.length) : rd xs (j : Int) = xs[j] := by
 unfold rd; rw [Int.toNat_natCast, List.getD_eq_getElem?_getD, List.getElem?_eq_getElem h]; rfl
def Cur (b : List Int) (i : Int) : Prop := 0 ≤ i ∧ i ≤ (b.length : Int) ∧ b.length ≤ 140737488351232
theorem and255 (x : Int) : 0 ≤ Go.bits .and .i64 x 255 ∧ Go.bits .and .i64 x 255 ≤ 255 := by
 have h : (BitVec.ofInt 64 x &&& BitVec.ofInt 64 255).toNat ≤ 255 := by rw [BitVec.toNat_and]; exact Nat.le_trans Nat.and_le_right (by decide)
 have e : Go.bits .and .i64 x 255 = IntKind.i64.wrap (((BitVec.ofInt 64 x &&& BitVec.ofInt 64 255).toNat : Nat) : Int) := rfl
 rw [e, IntKind.wrap_i64]
 omega
theorem spec_l1New_l0 (b : List Int) (hb : b.length ≤ 140737488351232) : ∀ (d j k : Nat) (h : Int), j + d = b.length → d < k → ∃ h', spec_l1New.l0 k b h (j : Int) = some (b, 0, h') := by
 intro d
 induction d with
 | zero =>
  intro j k h hj hk
  obtain ⟨k, rfl⟩ := succ_of hk
  simp only [spec_l1New.l0]
  rw [if_neg (by omega)]
  exact ⟨_, rfl⟩
 | succ d ih =>
  intro j k h hj hk
  obtain ⟨k, rfl⟩ := succ_of hk
  have hlt : j < b.length := by omega
  simp only [spec_l1New.l0]
  rw [if_pos (by omega)]
  by_cases h4 : (j : Int) < 4000
  ·rw [if_pos h4, if_pos (by omega), wrap_succ hlt (by omega)]
   exact ih (j + 1) k _ (by omega) (by omega)
  ·rw [if_neg h4]; exact ⟨_, rfl⟩
theorem spec_l1New_ex (b : List Int) (hb : b.length ≤ 140737488351232) (k : Nat) (hk : b.length < k) : ∃ h', spec_l1New.f k b = some (b, 0, h') := by
 unfold spec_l1New.f
 exact spec_l1New_l0 b hb b.length 0 k _ (by omega) hk
theorem cur_zero (b : List Int) (hb : b.length ≤ 140737488351232) : Cur b 0 := ⟨Int.le_refl _, by omega, hb⟩
theorem spec_l1Byte_ex (b : List Int) (i h : Int) (hc : Cur b i) : ∃ r i' h', spec_l1Byte.f b i h = some (r, i', h') ∧ 0 ≤ r ∧ r ≤ 255 ∧ Cur b i' := by
 obtain ⟨h0, h1, h2⟩ := hc
 unfold spec_l1Byte.f
 by_cases hlt : i < (b.length : Int)
 ·rw [if_pos hlt, if_pos h0]
  refine ⟨_, _, _, rfl, (and255 _).1, (and255 _).2, ?_⟩
  rw [wrap_id (by omega) (by omega)]
  exact ⟨by omega, by omega, h2⟩
 ·rw [if_neg hlt]
  exact ⟨_, _, _, rfl, (and255 _).1, (and255 _).2, h0, h1, h2⟩
theorem spec_l1Below_ex (b : List Int) (i h n : Int) (hc : Cur b i) : ∃ r i' h', spec_l1Below.f b i h n = some (r, i', h') ∧ 0 ≤ r ∧ (0 < n → r < n) ∧ (n ≤ 0 → r = 0) ∧ Cur b i' := by
 unfold spec_l1Below.f
 by_cases h0 : n ≤ 0
 ·rw [if_pos h0]; exact ⟨0, _, _, rfl, by omega, by omega, fun _ => rfl, hc⟩
 rw [if_neg h0]
 by_cases h1 : n ≤ 256
 ·rw [if_pos h1]
  obtain ⟨r, i', h', e, r0, r1, c1⟩ := spec_l1Byte_ex b i h hc
  rw [e]; simp only [Option.bind_some]
  rw [if_neg (by omega)]
  exact ⟨_, _, _, rfl, Int.tmod_nonneg _ r0, fun _ => Int.tmod_lt_of_pos _ (by omega), by omega, c1⟩
 ·rw [if_neg h1]
  obtain ⟨x, i1, g1, e1, x0, x1, c1⟩ := spec_l1Byte_ex b i h hc
  rw [e1]; simp only [Option.bind_some]
  obtain ⟨y, i2, g2, e2, y0, y1, c2⟩ := spec_l1Byte_ex b i1 g1 c1
  rw [e2]; simp only [Option.bind_some]
  obtain ⟨z, i3, g3, e3, z0, z1, c3⟩ := spec_l1Byte_ex b i2 g2 c2
  rw [e3]; simp only [Option.bind_some]
  obtain ⟨u, i4, g4, e4, u0, u1, c4⟩ := spec_l1Byte_ex b i3 g3 c3
  rw [e4]; simp only [Option.bind_some]
  rw [if_neg (by omega)]
  refine ⟨_, _, _, rfl, Int.tmod_nonneg _ ?_, fun _ => Int.tmod_lt_of_pos _ (by omega), by omega, c4⟩
  unfold wrap64; omega
theorem spec_l1Once_ex (b : List Int) (i h n : Int) (hc : Cur b i) : ∃ r i' h', spec_l1Once.f b i h n = some (r, i', h') ∧ Cur b i' := by
 unfold spec_l1Once.f
 obtain ⟨r, i', h', e, _, _, _, c1⟩ := spec_l1Below_ex b i h n hc
 rw [e]; simp only [Option.bind_some]
 exact ⟨_, _, _, rfl, c1⟩
theorem spec_l1Pick_ex (b : List Int) (i h : Int) (l : List ByteArray) (hl : 0 < l.length) (hc : Cur b i) : ∃ r i' h', spec_l1Pick.f b i h l = some (r, i', h') ∧ r ∈ l ∧ Cur b i' := by
 unfold spec_l1Pick.f
 obtain ⟨r, i', h', e, r0, r1, _, c1⟩ := spec_l1Below_ex b i h (l.length : Int) hc
 have r1 := r1 (by omega)
 rw [e]; simp only [Option.bind_some]
 rw [if_pos r0, if_pos r1]
 refine ⟨_, _, _, rfl, ?_, c1⟩
 have hlt : r.toNat < l.length := by omega
 have := rdOf_nat ByteArray.empty l r.toNat hlt
 rw [Int.toNat_of_nonneg r0] at this
 rw [this]; exact List.getElem_mem hlt
theorem spec_l1PickInt_ex (b : List Int) (i h : Int) (l : List Int) (hl : 0 < l.length) (hc : Cur b i) : ∃ r i' h', spec_l1PickInt.f b i h l = some (r, i', h') ∧ r ∈ l ∧ Cur b i' := by
 unfold spec_l1PickInt.f
 obtain ⟨r, i', h', e, r0, r1, _, c1⟩ := spec_l1Below_ex b i h (l.length : Int) hc
 have r1 := r1 (by omega)
 rw [e]; simp only [Option.bind_some]
 rw [if_pos r0, if_pos r1]
 refine ⟨_, _, _, rfl, ?_, c1⟩
 have hlt : r.toNat < l.length := by omega
 have := rd_nat l r.toNat hlt
 rw [Int.toNat_of_nonneg r0] at this
 rw [this]; exact List.getElem_mem hlt
theorem spec_l4Small_ex (b : List Int) (i h : Int) (hc : Cur b i) : ∃ r i' h', spec_l4Small.f b i h = some (r, i', h') ∧ (-2 ≤ r ∧ r ≤ 3) ∧ Cur b i' := by
 unfold spec_l4Small.f
 obtain ⟨r, i', h', e, hm, c1⟩ := spec_l1PickInt_ex b i h [0, 0, 1, (-1), 1, 2, (-2), 3] (by simp) hc
 rw [e]; simp only [Option.bind_some]
 refine ⟨_, _, _, rfl, ?_, c1⟩
 simp only [List.mem_cons, List.not_mem_nil, or_false] at hm
 omega
theorem spec_l4Draw_l0 (b : List Int) (n : Nat) (hn : n ≤ 4611686018427387904) (c : Int) : ∀ (d j k : Nat) (i h : Int) (r : List Int), j + d = n → d < k → r.length = n → Cur b i → (∀ x ∈ r, -2 ≤ x ∧ x ≤ 3) →
  ∃ r' i' h', spec_l4Draw.l0 k (n : Int) (j : Int) b i h c r = some (c, r', i', h') ∧ r'.length = n ∧ Cur b i' ∧ (∀ x ∈ r', -2 ≤ x ∧ x ≤ 3) := by
 intro d
 induction d with
 | zero =>
  intro j k i h r hj hk hr hc hx
  obtain ⟨k, rfl⟩ := succ_of hk
  simp only [spec_l4Draw.l0]
  rw [if_neg (by omega)]
  exact ⟨_, _, _, rfl, hr, hc, hx⟩
 | succ d ih =>
  intro j k i h r hj hk hr hc hx
  obtain ⟨k, rfl⟩ := succ_of hk
  simp only [spec_l4Draw.l0]
  obtain ⟨x, i1, h1, e1, hb1, c1⟩ := spec_l4Small_ex b i h hc
  rw [if_pos (by omega), e1]; simp only [Option.bind_some]
  rw [if_pos (by omega), if_pos (by omega), wrap_succ (n := n) (by omega) hn]
  refine ih (j + 1) k _ _ _ (by omega) (by omega) (by simpa using hr) c1 ?_
  intro y hy
  rcases List.mem_or_eq_of_mem_set hy with h | rfl
  ·exact hx y h
  ·exact hb1
theorem spec_l4Draw_ex (b : List Int) (i h n : Int) (hc : Cur b i) (h0 : 0 ≤ n) (h1 : n ≤ 35184372088832) (k : Nat) (hk : n < k) :
  ∃ c r i' h', spec_l4Draw.f k b i h n = some (c, r, i', h') ∧ (r.length : Int) = n ∧ Cur b i' ∧ (∀ x ∈ r, -2 ≤ x ∧ x ≤ 3) ∧ (-4 ≤ c ∧ c ≤ 4) := by
 unfold spec_l4Draw.f
 obtain ⟨x, i1, g1, e1, x0, x1, _, c1⟩ := spec_l1Below_ex b i h 9 hc
 have x1 := x1 (by omega)
 rw [e1]; simp only [Option.bind_some]
 rw [if_pos h0, if_pos (by omega), wrap_id (by omega) (by omega)]
 obtain ⟨r, i2, g2, e2, hl, c2, hx⟩ := spec_l4Draw_l0 b n.toNat (by omega) (x - 4) n.toNat 0 k i1 g1 (List.replicate n.toNat 0) (by omega) (by omega) (by simp) c1 (by intro y hy; rw [(List.mem_replicate.1 hy).2]; omega)
 rw [show ((n.toNat : Nat) : Int) = n by omega, show ((0 : Nat) : Int) = 0 from rfl] at e2
 rw [e2]
 exact ⟨_, _, _, _, rfl, by omega, c2, hx, by omega⟩
theorem spec_l3Any_ex (b : List Int) (i h : Int) (hc : Cur b i) : ∃ r i' h', spec_l3Any.f b i h = some (r, i', h') ∧ (-9223372036854775808 ≤ r ∧ r ≤ 9223372036854775807) ∧ Cur b i' := by
 unfold spec_l3Any.f
 obtain ⟨r, i', h', e, hm, c1⟩ := spec_l1PickInt_ex b i h [0, 1, (-1), 2, 5, (-6), 12, 1000000, (-1000001), 1000000000, (-1000000000), 1000000001, 40000, 9223372036854775807, (-9223372036854775808)] (by simp) hc
 rw [e]; simp only [Option.bind_some]
 refine ⟨_, _, _, rfl, ?_, c1⟩
 simp only [List.mem_cons, List.not_mem_nil, or_false] at hm
 omega
theorem spec_l4Bent_ex (b : List Int) (i h : Int) (hc : Cur b i) (k : Nat) (hk : 20 < k) :
  ∃ c r i' h', spec_l4Bent.f k b i h = some (c, r, i', h') ∧ r.length ≤ 9 ∧ Cur b i' := by
 unfold spec_l4Bent.f
 obtain ⟨n, i1, g1, e1, n0, n1, _, c1⟩ := spec_l1Below_ex b i h 4 hc
 have n1 := n1 (by omega)
 rw [e1]; simp only [Option.bind_some]
 obtain ⟨c, r, i2, g2, e2, hl, c2, _, _⟩ := spec_l4Draw_ex b i1 g1 n c1 n0 (by omega) k (by omega)
 rw [e2]; simp only [Option.bind_some]
 obtain ⟨m, i3, g3, e3, _, _, _, c3⟩ := spec_l1Below_ex b i2 g2 10 c2
 rw [e3]; simp only [Option.bind_some]
 obtain ⟨x, i4, g4, e4, _, c4⟩ := spec_l3Any_ex b i3 g3 c3
 split
 ·rw [e4]; simp only [Option.bind_some]
  exact ⟨_, _, _, _, rfl, by omega, c4⟩
 split
 ·rw [e4]; simp only [Option.bind_some]
  rw [if_pos (by omega)]
  exact ⟨_, _, _, _, rfl, by simp; omega, c4⟩
 split
 ·rw [if_pos (by omega)]
  exact ⟨_, _, _, _, rfl, by simp, c3⟩
 ·exact ⟨_, _, _, _, rfl, by omega, c3⟩
def toI (L : List UInt8) : List Int := L.map fun b => (b.toNat : Int)
def glue (sep : List UInt8) : List (List UInt8) → List UInt8
 | [] => []
 | x :: xs => sep ++ (x ++ glue sep xs)
theorem size_len (s : ByteArray) : s.size = s.data.toList.length := by rw [Array.length_toList]; rfl
def digs (u : Nat) : List UInt8 := if h : u = 0 then [] else digs (u / 10) ++ [UInt8.ofNat (48 + u % 10)]
termination_by u
decreasing_by omega
theorem digs_zero : digs 0 = [] := by rw [digs, dif_pos rfl]
theorem digs_pos {u : Nat} (h : u ≠ 0) : digs u = digs (u / 10) ++ [UInt8.ofNat (48 + u % 10)] := by rw [digs, dif_neg h]
theorem decDigits_digs : ∀ (m u : Nat), u < m → u ≠ 0 → Lib.decDigits u = digs u := by
 intro m
 induction m with
 | zero => intro u h; omega
 | succ m ih =>
  intro u hu h0
  rw [Lib.decDigits, digs_pos h0]
  by_cases h : u < 10
  ·rw [dif_pos h, show u / 10 = 0 by omega, digs_zero, show u % 10 = u by omega]; rfl
  ·rw [dif_neg h, ih (u / 10) (by omega) (by omega)]
theorem itoa_digs (n : Int) (h : n ≠ 0) : Lib.itoa n = if n < 0 then 45 :: digs n.natAbs else digs n.natAbs := by
 unfold Lib.itoa
 by_cases h0 : n < 0
 ·rw [if_pos h0, if_pos h0, decDigits_digs _ _ (Nat.lt_succ_self _) (by omega)]
 ·rw [if_neg h0, if_neg h0, decDigits_digs _ _ (Nat.lt_succ_self _) (by omega), show n.toNat = n.natAbs by omega]
theorem itoa_zero : Lib.itoa 0 = [48] := by
 unfold Lib.itoa; rw [if_neg (by omega)]
 show Lib.decDigits 0 = [48]
 rw [Lib.decDigits, dif_pos (by omega)]; rfl
theorem ba_append (a b : List UInt8) : (⟨a.toArray⟩ : ByteArray) ++ ⟨b.toArray⟩ = ⟨(a ++ b).toArray⟩ := by
 apply ByteArray.ext
 simp
theorem ba_size (a : List UInt8) : (⟨a.toArray⟩ : ByteArray).size = a.length := by rw [size_len]
theorem strOne (d : Nat) (hd : d < 10) : strOfNums [((48 + d : Nat) : Int)] = ⟨[UInt8.ofNat (48 + d)].toArray⟩ := by
 unfold strOfNums
 simp only [List.map_cons, List.map_nil, Int.toNat_natCast]
instance bytesDec : DecidableEq ByteArray := fun a b => decidable_of_iff (a.data = b.data) ⟨fun h => by cases a; cases b; exact congrArg ByteArray.mk h, fun h => by rw [h]⟩
theorem bytes_eq (a b : ByteArray) : a.toList = b.toList ↔ a = b := by
 rw [ByteArray.toList_eq, ByteArray.toList_eq]
 constructor
 ·intro h; cases a; cases b; simp only [ByteArray.mk.injEq] at *; exact Array.toList_inj.mp h
 ·intro h; rw [h]
theorem bytes_lit (s : ByteArray) (a : Array UInt8) : s.toList = a.toList ↔ s = ⟨a⟩ := by
 rw [ByteArray.toList_eq]
 constructor
 ·intro h; cases s; simp only [ByteArray.mk.injEq] at *; exact Array.toList_inj.mp h
 ·intro h; rw [h]
theorem bt_cell (s : ByteArray) (i : Nat) (h : i < s.data.toList.length) : bt s (i : Int) = ((s.data.toList[i]'h).toNat : Int) := by
 have h' : i < s.size := by rw [size_len]; exact h
 unfold bt
 rw [dif_pos (show ((i : Int).toNat) < s.size by simpa using h')]
 simp only [Int.toNat_natCast]
 congr 1
theorem digitVal_of (d : Nat) (h : d < 10) : Lib.digitVal (UInt8.ofNat (48 + d)) = some d := by
 have e : (UInt8.ofNat (48 + d)).toNat = 48 + d := by rw [UInt8.toNat_ofNat']; omega
 unfold Lib.digitVal
 rw [e, if_pos (by omega)]; congr 1; omega
theorem decFrom_append : ∀ (a : List UInt8) (acc : Nat) (b : List UInt8), Lib.decFrom acc (a ++ b) = (Lib.decFrom acc a).bind fun x => Lib.decFrom x b
 | [], _, _ => rfl
 | c :: a, acc, b => by
  simp only [List.cons_append, Lib.decFrom]
  cases Lib.digitVal c with
  | none => rfl
  | some d => exact decFrom_append a _ b
theorem decFrom_digs : ∀ (m u : Nat), u < m → Lib.decFrom 0 (digs u) = some u := by
 intro m
 induction m with
 | zero => intro u h; omega
 | succ m ih =>
  intro u hu
  by_cases h0 : u = 0
  ·subst h0; rw [digs_zero]; rfl
  ·rw [digs_pos h0, decFrom_append, ih (u / 10) (by omega), Option.bind_some]
   simp only [Lib.decFrom]
   rw [digitVal_of _ (by omega)]
   show some _ = some _
   congr 1; omega
theorem digs_head {u : Nat} (h : u ≠ 0) : ∃ b r, digs u = b :: r ∧ 48 ≤ b.toNat ∧ b.toNat ≤ 57 := by
 cases e : digs u with
 | nil => rw [digs_pos h] at e; simp at e
 | cons b r =>
  obtain ⟨d, hd⟩ := Lib.digit_of_decFrom (digs u) 0 u (decFrom_digs _ u (Nat.lt_succ_self _)) 0 b (by rw [e]; rfl)
  have := Lib.digitVal_eq hd
  exact ⟨b, r, rfl, this.1, this.2.1⟩
theorem decNat_cons (b : UInt8) (r : List UInt8) : Lib.decNat (b :: r) = Lib.decFrom 0 (b :: r) := rfl
theorem ne_of_toNat {b : UInt8} {n : Nat} (hn : n < 256) (h : b.toNat ≠ n) : (b == UInt8.ofNat n) = false := by
 rw [beq_eq_false_iff_ne]
 intro e; apply h; rw [e, UInt8.toNat_ofNat']; omega
theorem atoi_itoa (n : Int) : Lib.atoi (Lib.itoa n) = some n := by
 by_cases h0 : n = 0
 ·subst h0; rw [itoa_zero]; rfl
 ·rw [itoa_digs n h0]
  obtain ⟨b, r, e, b0, b1⟩ := digs_head (u := n.natAbs) (by omega)
  have hd := decFrom_digs _ n.natAbs (Nat.lt_succ_self _)
  by_cases hn : n < 0
  ·rw [if_pos hn, e]
   rw [e] at hd
   simp only [Lib.atoi]
   rw [if_pos (by rfl), decNat_cons, hd]
   show some (-(n.natAbs : Int)) = some n
   congr 1; omega
  ·rw [if_neg hn, e]
   rw [e] at hd
   simp only [Lib.atoi]
   rw [if_neg (by rw [show (45 : UInt8) = UInt8.ofNat 45 from rfl, ne_of_toNat (by omega) (by omega)]; simp), if_neg (by rw [show (43 : UInt8) = UInt8.ofNat 43 from rfl, ne_of_toNat (by omega) (by omega)]; simp), decNat_cons, hd]
   show some (n.natAbs : Int) = some n
   congr 1; omega
theorem digs_len_iff : ∀ (m u : Nat), (digs u).length ≤ m ↔ u < 10 ^ m := by
 intro m
 induction m with
 | zero =>
  intro u
  constructor
  ·intro h
   by_cases h0 : u = 0
   ·subst h0; simp
   ·rw [digs_pos h0] at h; simp at h
  ·intro h; rw [show u = 0 by simpa using h, digs_zero]; simp
 | succ m ih =>
  intro u
  by_cases h0 : u = 0
  ·subst h0; rw [digs_zero]; simp [Nat.pow_pos]
  ·rw [digs_pos h0, List.length_append, List.length_singleton, Nat.pow_succ]
   have := ih (u / 10)
   constructor
   ·intro h; have := this.1 (by omega); omega
   ·intro h; have := this.2 (by omega); omega
theorem itoa_len_neg {n : Int} (h : n < 0) (m : Nat) : (Lib.itoa n).length ≤ m + 1 ↔ n.natAbs < 10 ^ m := by
 rw [itoa_digs n (by omega), if_pos h, List.length_cons, ← digs_len_iff]; omega
theorem itoa_len_pos {n : Int} (h : 0 ≤ n) (m : Nat) (hm : 1 ≤ m) : (Lib.itoa n).length ≤ m ↔ n.natAbs < 10 ^ m := by
 by_cases h0 : n = 0
 ·subst h0; rw [itoa_zero]; simp [Nat.pow_pos]; omega
 ·rw [itoa_digs n h0, if_neg (by omega), ← digs_len_iff]
def readL (L : Nat) (s : ByteArray) : Int × Bool := match Lib.atoi s.data.toList with
 | none => (0, false)
 | some n => if n.natAbs < 10 ^ L ∧ (⟨(Lib.itoa n).toArray⟩ : ByteArray) = s then (n, true) else (0, false)
theorem readL_none {L : Nat} {s : ByteArray} (h : ∀ n : Int, n.natAbs < 10 ^ L → (⟨(Lib.itoa n).toArray⟩ : ByteArray) = s → False) : readL L s = (0, false) := by
 unfold readL
 cases Lib.atoi s.data.toList with
 | none => rfl
 | some n => exact if_neg (fun x => h n x.1 x.2)
theorem readL_at {L : Nat} {s : ByteArray} {n : Int} (ha : Lib.atoi s.data.toList = some n) (hn : n.natAbs < 10 ^ L) : readL L s = if (⟨(Lib.itoa n).toArray⟩ : ByteArray) = s then (n, true) else (0, false) := by
 unfold readL
 rw [ha]
 by_cases h : (⟨(Lib.itoa n).toArray⟩ : ByteArray) = s
 ·rw [if_pos h]; exact if_pos ⟨hn, h⟩
 ·rw [if_neg h]; exact if_neg (fun x => h x.2)
theorem data_of {l : List UInt8} {s : ByteArray} (h : (⟨l.toArray⟩ : ByteArray) = s) : s.data.toList = l := by subst h; rfl
theorem text_eq (a b : ByteArray) : a.toList = b.toList ↔ a = b := by
 rw [Lib.toList_data, Lib.toList_data]
 exact ⟨fun h => ByteArray.ext (Array.toList_inj.1 h), fun h => by rw [h]⟩
def okc (n : Int) : Bool := decide (-1000000000 ≤ n ∧ n ≤ 1000000000)
theorem text_lit (s : ByteArray) (L : List UInt8) : s.toList = L ↔ s = ⟨L.toArray⟩ := by
 have := text_eq s ⟨L.toArray⟩
 rwa [show (⟨L.toArray⟩ : ByteArray).toList = L from by rw [Lib.toList_data]] at this
theorem amt_size {c : Int} (h : -1000000000 ≤ c ∧ c ≤ 1000000000) : (fl_amt c).size ≤ 10 := by
 unfold fl_amt
 rw [ba_size]
 by_cases h0 : c < 0
 ·rw [if_pos h0]; exact (itoa_len_pos (by omega) 10 (by omega)).2 (by omega)
 ·rw [if_neg h0]; exact (itoa_len_pos (by omega) 10 (by omega)).2 (by omega)
def stepV (c : Int) (nm out : ByteArray) : ByteArray := fl_term (decide (c < 0)) (decide (out = ⟨#[]⟩)) (decide (fl_amt c = ⟨#[49]⟩)) (decide (nm ≠ ⟨#[]⟩)) out (fl_amt c) nm
theorem fl_step_eq {c : Int} {nm out : ByteArray} (h : -1000000000 ≤ c ∧ c ≤ 1000000000) (ho : out.size ≤ 100000) (hn : nm.size ≤ 100000) : fl_step c nm out = some (stepV c nm out) := by
 unfold fl_step
 have := amt_size h
 rw [if_pos ⟨by omega, by omega, by omega, by omega⟩]; rfl
theorem stepV_size {c : Int} {nm out : ByteArray} (h : -1000000000 ≤ c ∧ c ≤ 1000000000) : (stepV c nm out).size ≤ out.size + nm.size + 14 := by
 unfold stepV fl_term
 have := amt_size h
 have e0 : (⟨#[]⟩ : ByteArray).size = 0 := rfl
 have e1 : (⟨#[45]⟩ : ByteArray).size = 1 := rfl
 have e2 : (⟨#[32, 45, 32]⟩ : ByteArray).size = 3 := rfl
 have e3 : (⟨#[32, 43, 32]⟩ : ByteArray).size = 3 := rfl
 cases decide (c < 0) <;> cases decide (out = ⟨#[]⟩) <;> cases decide (fl_amt c = ⟨#[49]⟩) <;> cases decide (nm ≠ ⟨#[]⟩) <;> simp only [cond_true, cond_false, Bool.and_true, Bool.and_false, Bool.true_and, Bool.false_and, ByteArray.size_append, e0, e1, e2, e3] <;> omega
def fmtGo (a : Int) : List Int → List ByteArray → ByteArray → ByteArray
 | c :: cs, n :: ns, out => fmtGo a cs ns (if c = 0 then out else stepV c n out)
 | _, _, out => if a = 0 then (if out = ⟨#[]⟩ then stepV a ⟨#[]⟩ out else out) else stepV a ⟨#[]⟩ out
theorem fmtGo_nil (a : Int) (ns : List ByteArray) (out : ByteArray) : fmtGo a [] ns out = if a = 0 then (if out = ⟨#[]⟩ then stepV a ⟨#[]⟩ out else out) else stepV a ⟨#[]⟩ out := by cases ns <;> rfl
def allFrom (p : Nat → Bool) (j : Nat) : Nat → Bool
 | 0 => true
 | d + 1 => p j && allFrom p (j + 1) d
theorem allFrom_iff (p : Nat → Bool) : ∀ (d j : Nat), allFrom p j d = true ↔ ∀ i, j ≤ i → i < j + d → p i = true := by
 intro d
 induction d with
 | zero => intro j; simp only [allFrom, true_iff]; intro i h1 h2; omega
 | succ d ih =>
  intro j
  simp only [allFrom, Bool.and_eq_true, ih]
  constructor
  ·rintro ⟨h1, h2⟩ i hi1 hi2
   by_cases e : i = j
   ·rw [e]; exact h1
   ·exact h2 i (by omega) (by omega)
  ·intro h
   exact ⟨h j (by omega) (by omega), fun i h1 h2 => h i (by omega) (by omega)⟩
def bmem (s : ByteArray) : List ByteArray → Bool
 | [] => false
 | x :: xs => decide (x = s) || bmem s xs
theorem bmem_iff (s : ByteArray) : ∀ xs : List ByteArray, bmem s xs = true ↔ s ∈ xs := by
 intro xs
 induction xs with
 | nil => simp [bmem]
 | cons x xs ih => simp only [bmem, Bool.or_eq_true, decide_eq_true_eq, ih, List.mem_cons]; exact or_congr eq_comm Iff.rfl
def reservedWords : List ByteArray := [⟨#[102, 117, 110]⟩, ⟨#[112, 114, 101]⟩, ⟨#[114, 117, 108, 101]⟩, ⟨#[114, 101, 116, 117, 114, 110]⟩, ⟨#[110, 105, 108]⟩]
def reserved (s : ByteArray) : Bool := bmem s reservedWords
def okByte (c : Int) (i : Nat) : Bool := decide ((97 ≤ c ∧ c ≤ 122) ∨ ((48 ≤ c ∧ c ≤ 57) ∧ 0 < i))
def nameShape (s : ByteArray) : Bool := allFrom (fun i => okByte (bt s i) i) 0 s.size
def validName (s : ByteArray) : Bool := nameShape s && decide (1 ≤ s.size) && decide (s.size ≤ 8) && !reserved s
theorem okByte_yes {c : Int} {i : Nat} (h : okByte c i = true) : (97 ≤ c ∧ c ≤ 122) ∨ ((48 ≤ c ∧ c ≤ 57) ∧ 0 < i) := by unfold okByte at h; exact of_decide_eq_true h
theorem okByte_no {c : Int} {i : Nat} (h : okByte c i = false) : ¬ ((97 ≤ c ∧ c ≤ 122) ∨ ((48 ≤ c ∧ c ≤ 57) ∧ 0 < i)) := by unfold okByte at h; exact of_decide_eq_false h
theorem impl_IsReserved_eq (s : ByteArray) : impl_IsReserved.f s = some (reserved s) := by
 unfold impl_IsReserved.f reserved reservedWords
 have h1 := bytes_lit s #[102, 117, 110]
 have h2 := bytes_lit s #[112, 114, 101]
 have h3 := bytes_lit s #[114, 117, 108, 101]
 have h4 := bytes_lit s #[114, 101, 116, 117, 114, 110]
 have h5 := bytes_lit s #[110, 105, 108]
 simp only [] at h1 h2 h3 h4 h5
 simp only [h1, h2, h3, h4, h5, bmem, @eq_comm _ _ s]
 by_cases e1 : s = ⟨#[102, 117, 110]⟩
 ·rw [if_pos e1]; simp [e1]
 by_cases e2 : s = ⟨#[112, 114, 101]⟩
 ·rw [if_neg e1, if_pos e2]; simp [e2]
 by_cases e3 : s = ⟨#[114, 117, 108, 101]⟩
 ·rw [if_neg e1, if_neg e2, if_pos e3]; simp [e3]
 by_cases e4 : s = ⟨#[114, 101, 116, 117, 114, 110]⟩
 ·rw [if_neg e1, if_neg e2, if_neg e3, if_pos e4]; simp [e4]
 by_cases e5 : s = ⟨#[110, 105, 108]⟩
 ·rw [if_neg e1, if_neg e2, if_neg e3, if_neg e4, if_pos e5]; simp [e5]
 ·rw [if_neg e1, if_neg e2, if_neg e3, if_neg e4, if_neg e5]; simp [e1, e2, e3, e4, e5]
theorem impl_within_eq (a b c : Int) : impl_within.f a b c = some (decide (b ≤ a ∧ a ≤ c)) := by
 unfold impl_within.f
 by_cases h : a ≥ b
 ·rw [if_pos h]; congr 1; rw [decide_eq_decide]; omega
 ·rw [if_neg h]; congr 1; symm; rw [decide_eq_false_iff_not]; omega
theorem impl_IsValidName_l0 (s : ByteArray) (hn : s.size ≤ 4611686018427387904) : ∀ (d j k : Nat), j + d = s.size → d < k →
  impl_IsValidName.l0 k s (j : Int) = some (allFrom (fun i => okByte (bt s i) i) j d) := by
 intro d
 induction d with
 | zero =>
  intro j k hj hk
  obtain ⟨k, rfl⟩ := succ_of hk
  simp only [impl_IsValidName.l0, allFrom]
  rw [if_neg (by omega)]
 | succ d ih =>
  intro j k hj hk
  obtain ⟨k, rfl⟩ := succ_of hk
  have hlt : j < s.size := by omega
  simp only [impl_IsValidName.l0, allFrom]
  rw [if_pos (by omega), if_pos (by omega), wrap_succ hlt hn, ih (j + 1) k (by omega) (by omega)]
  generalize bt s (j : Int) = c
  cases h : okByte c j with
  | true =>
   have := okByte_yes h
   rw [Bool.true_and]
   repeat' split
   all_goals first | rfl | (exfalso; omega)
  | false =>
   have := okByte_no h
   rw [Bool.false_and]
   repeat' split
   all_goals first | rfl | (exfalso; omega)
theorem impl_IsValidName_eq (s : ByteArray) (hn : s.size ≤ 4611686018427387904) (k : Nat) (hk : s.size + 5 < k) : impl_IsValidName.f k s = some (validName s) := by
 unfold impl_IsValidName.f validName
 obtain ⟨k, rfl⟩ := succ_of hk
 rw [impl_within_eq, Option.bind_some, impl_IsReserved_eq, Option.bind_some]
 simp only [impl_IsValidName.j0]
 have hl := impl_IsValidName_l0 s hn s.size 0 k (by omega) (by omega)
 rw [show ((0 : Nat) : Int) = 0 from rfl] at hl
 rw [hl]
 unfold nameShape
 cases h0 : reserved s <;> cases h1 : allFrom (fun i => okByte (bt s i) i) 0 s.size <;> by_cases h2 : 1 ≤ s.size <;> by_cases h3 : s.size ≤ 8 <;> simp [h2, h3] <;> (intros; omega)
def distinctFrom (xs : List ByteArray) (j : Nat) : Nat → Bool
 | 0 => true
 | d + 1 => match xs[j]? with
  | some x => !(bmem x (xs.take j)) && distinctFrom xs (j + 1) d
  | none => true
def idxFrom (s : ByteArray) : List ByteArray → Int → Int
 | [], _ => -1
 | x :: xs, i => if x = s then i else idxFrom s xs (i + 1)
theorem slices_Index_l0 (xs : List ByteArray) (s : ByteArray) (hn : xs.length ≤ 4611686018427387904) : ∀ (d j k : Nat), j + d = xs.length → d < k →
  slices_Index_string_string.l0 k xs s (xs.length : Int) (j : Int) = some (idxFrom s (xs.drop j) (j : Int)) := by
 intro d
 induction d with
 | zero =>
  intro j k hj hk
  obtain ⟨k, rfl⟩ := succ_of hk
  simp only [slices_Index_string_string.l0]
  rw [if_neg (by omega), List.drop_eq_nil_of_le (by omega)]; rfl
 | succ d ih =>
  intro j k hj hk
  obtain ⟨k, rfl⟩ := succ_of hk
  have hlt : j < xs.length := by omega
  simp only [slices_Index_string_string.l0]
  rw [if_pos (by omega), if_pos (by omega), if_pos (by omega), rdOf_nat _ _ _ hlt, wrap_succ hlt hn, ih (j + 1) k (by omega) (by omega), List.drop_eq_getElem_cons hlt]
  simp only [idxFrom, bytes_eq]
  by_cases h : s = xs[j]
  ·rw [if_pos h, if_pos h.symm]
  ·rw [if_neg h, if_neg (fun e => h e.symm)]; rfl
theorem slices_Index_eq (xs : List ByteArray) (s : ByteArray) (hn : xs.length ≤ 4611686018427387904) (k : Nat) (hk : xs.length < k) : slices_Index_string_string.f k xs s = some (idxFrom s xs 0) := by
 unfold slices_Index_string_string.f
 have := slices_Index_l0 xs s hn xs.length 0 k (by omega) hk
 simpa using this
theorem idxFrom_iff (s : ByteArray) : ∀ (xs : List ByteArray) (i : Int), 0 ≤ i → (idxFrom s xs i ≥ 0 ↔ bmem s xs = true) := by
 intro xs
 induction xs with
 | nil => intro i _; simp [idxFrom, bmem]
 | cons x xs ih =>
  intro i hi
  show (if x = s then i else idxFrom s xs (i + 1)) ≥ 0 ↔ (decide (x = s) || bmem s xs) = true
  by_cases h : x = s
  ·rw [if_pos h]; simp [h]; omega
  ·rw [if_neg h, ih (i + 1) (by omega)]; simp [h]
theorem idxFrom_nonneg (s : ByteArray) (xs : List ByteArray) (i : Int) (hi : 0 ≤ i) : decide (idxFrom s xs i ≥ 0) = bmem s xs := by
 rw [Bool.eq_iff_iff, decide_eq_true_iff]; exact idxFrom_iff s xs i hi
theorem slices_Contains_eq (xs : List ByteArray) (s : ByteArray) (hn : xs.length ≤ 4611686018427387904) (k : Nat) (hk : xs.length < k) : slices_Contains_string_string.f k xs s = some (bmem s xs) := by
 unfold slices_Contains_string_string.f
 rw [slices_Index_eq xs s hn k hk, Option.bind_some, idxFrom_nonneg s xs 0 (by omega)]
theorem impl_AllDistinct_l0 (xs : List ByteArray) (hn : xs.length ≤ 4611686018427387904) : ∀ (d j k : Nat), j + d = xs.length → xs.length + d < k →
  impl_AllDistinct.l0 k xs xs (xs.length : Int) (j : Int) = some (distinctFrom xs j d) := by
 intro d
 induction d with
 | zero =>
  intro j k hj hk
  obtain ⟨k, rfl⟩ := succ_of hk
  simp only [impl_AllDistinct.l0, distinctFrom]
  rw [if_neg (by omega)]
 | succ d ih =>
  intro j k hj hk
  obtain ⟨k, rfl⟩ := succ_of hk
  have hlt : j < xs.length := by omega
  simp only [impl_AllDistinct.l0, distinctFrom, List.getElem?_eq_getElem hlt]
  rw [if_pos (by omega), if_pos (by omega), if_pos (by omega), if_pos (by omega), rdOf_nat _ _ _ hlt, Int.toNat_natCast, slices_Contains_eq _ _ (by rw [List.length_take]; omega) k (by rw [List.length_take]; omega), Option.bind_some, wrap_succ hlt hn, ih (j + 1) k (by omega) (by omega)]
  cases bmem xs[j] (xs.take j) <;> simp
theorem impl_AllDistinct_eq (xs : List ByteArray) (hn : xs.length ≤ 4611686018427387904) (k : Nat) (hk : xs.length + xs.length < k) : impl_AllDistinct.f k xs = some (distinctFrom xs 0 xs.length) := by
 unfold impl_AllDistinct.f
 exact impl_AllDistinct_l0 xs hn xs.length 0 k (by omega) (by omega)
theorem impl_FormatLin_idx (B : Nat) (xs : List ByteArray) (hn : xs.length ≤ 4611686018427387904) (hx : ∀ x ∈ xs, x.size ≤ B) (hB : B ≤ 1048576) : ∀ (d j k : Nat), j + d = xs.length → d + B + 10 < k →
  ∃ i : Int, slices_IndexFunc_string_string__FormatLin_1.l0 k xs (xs.length : Int) (j : Int) = some i ∧ ((0 ≤ i) ↔ ∃ x ∈ xs.drop j, validName x = false) := by
 intro d
 induction d with
 | zero =>
  intro j k hj hk
  obtain ⟨k, rfl⟩ := succ_of hk
  rw [slices_IndexFunc_string_string__FormatLin_1.l0, if_neg (by omega), List.drop_eq_nil_of_le (by omega)]
  exact ⟨-1, rfl, by simp⟩
 | succ d ih =>
  intro j k hj hk
  obtain ⟨k, rfl⟩ := succ_of hk
  have hlt : j < xs.length := by omega
  have hs := hx _ (List.getElem_mem hlt)
  rw [slices_IndexFunc_string_string__FormatLin_1.l0, if_pos (by omega), if_pos (by omega), if_pos (by omega), rdOf_nat _ _ _ hlt, impl_FormatLin_1.f, impl_IsValidName_eq _ (by omega) k (by omega), Option.bind_some, Option.bind_some, List.drop_eq_getElem_cons hlt]
  cases hv : validName xs[j] with
  | false =>
   rw [if_pos (by simp)]
   exact ⟨_, rfl, fun _ => ⟨xs[j], List.mem_cons_self, hv⟩, fun _ => by omega⟩
  | true =>
   rw [if_neg (by simp), wrap_succ hlt hn]
   obtain ⟨i, e, hi⟩ := ih (j + 1) k (by omega) (by omega)
   refine ⟨i, e, hi.trans ⟨fun ⟨x, hx, h⟩ => ⟨x, List.mem_cons_of_mem _ hx, h⟩, fun ⟨x, hx, h⟩ => ?_⟩⟩
   rcases List.mem_cons.1 hx with rfl | hx
   ·rw [hv] at h; cases h
   ·exact ⟨x, hx, h⟩
def namesOk (ns : List ByteArray) : Bool := ns.all validName && distinctFrom ns 0 ns.length
theorem impl_names (B : Nat) (xs : List ByteArray) (hn : xs.length ≤ 1048576) (hx : ∀ x ∈ xs, x.size ≤ B) (hB : B ≤ 1048576) (k : Nat) (hk : 3000000 < k) :
  slices_ContainsFunc_string_string__FormatLin_1.f k xs () = some (!(xs.all validName)) := by
 unfold slices_ContainsFunc_string_string__FormatLin_1.f slices_IndexFunc_string_string__FormatLin_1.f
 obtain ⟨i, e, hi⟩ := impl_FormatLin_idx B xs (by omega) hx hB xs.length 0 k (by omega) (by omega)
 rw [show ((0 : Nat) : Int) = 0 from rfl] at e
 rw [e, Option.bind_some, List.drop_zero] at *
 congr 1
 rw [Bool.eq_iff_iff, decide_eq_true_iff, Bool.not_eq_true', ← Bool.not_eq_true, List.all_eq_true]
 constructor
 ·intro h hall
  obtain ⟨x, hx, hf⟩ := hi.1 h
  rw [hall x hx] at hf; cases hf
 ·intro h
  apply hi.2
  apply Classical.byContradiction
  intro hne
  exact h (fun x hx => by
   cases hv : validName x with
   | true => rfl
   | false => exact absurd ⟨x, hx, hv⟩ hne)
def validLin (c : Int) (cs : List Int) (n : Int) : Bool := decide (0 ≤ n ∧ n ≤ 8) && (decide ((cs.length : Int) = n) && (okc c && cs.all okc))
theorem validLin_iff (c : Int) (cs : List Int) (n : Int) : validLin c cs n = true ↔ (0 ≤ n ∧ n ≤ 8) ∧ (cs.length : Int) = n ∧ okc c = true ∧ ∀ x ∈ cs, okc x = true := by
 unfold validLin; simp only [Bool.and_eq_true, decide_eq_true_eq, List.all_eq_true]
theorem any_not_all {α : Type} (p : α → Bool) (xs : List α) : (!(xs.any fun c => !(p c))) = xs.all p := by
 induction xs with
 | nil => rfl
 | cons x xs ih => simp only [List.any_cons, List.all_cons, Bool.not_or, Bool.not_not, ih]
def firstBy {α : Type} (p : α → Bool) : List α → Int → Int
 | [], _ => -1
 | x :: xs, i => if p x = true then i else firstBy p xs (i + 1)
theorem firstBy_any {α : Type} (p : α → Bool) : ∀ (xs : List α) (i : Int), 0 ≤ i → decide (firstBy p xs i ≥ 0) = xs.any p := by
 intro xs
 induction xs with
 | nil => intro i _; simp [firstBy]
 | cons x xs ih =>
  intro i hi
  simp only [firstBy, List.any_cons]
  by_cases h : p x = true
  ·simp [h]; omega
  ·have := ih (i + 1) (by omega)
   simp only [Bool.eq_false_iff.mpr h, Bool.false_eq_true, if_false, Bool.false_or]; exact this
theorem impl_coeffOk_eq (n : Int) : impl_coeffOk.f n = some (okc n) := by unfold impl_coeffOk.f; rw [impl_within_eq]; rfl
theorem slices_IndexFunc_int_int__IsValidLin_1_l0 (p : Int → Bool) (hp : ∀ c, impl_IsValidLin_1.f c = some (p c)) (xs : List Int) (hn : xs.length ≤ 4611686018427387904) : ∀ (d j k : Nat), j + d = xs.length → d < k →
  slices_IndexFunc_int_int__IsValidLin_1.l0 k xs (xs.length : Int) (j : Int) = some (firstBy p (xs.drop j) (j : Int)) := by
 intro d
 induction d with
 | zero =>
  intro j k hj hk
  obtain ⟨k, rfl⟩ := succ_of hk
  simp only [slices_IndexFunc_int_int__IsValidLin_1.l0]
  rw [if_neg (by omega), List.drop_eq_nil_of_le (by omega)]; rfl
 | succ d ih =>
  intro j k hj hk
  obtain ⟨k, rfl⟩ := succ_of hk
  have hlt : j < xs.length := by omega
  simp only [slices_IndexFunc_int_int__IsValidLin_1.l0]
  rw [if_pos (by omega), if_pos (by omega), if_pos (by omega), rd_nat _ _ hlt, hp, Option.bind_some, wrap_succ hlt hn, ih (j + 1) k (by omega) (by omega), List.drop_eq_getElem_cons hlt]
  simp only [firstBy]
  split <;> rfl
theorem slices_ContainsFunc_int_int__IsValidLin_1_eq (p : Int → Bool) (hp : ∀ c, impl_IsValidLin_1.f c = some (p c)) (xs : List Int) (hn : xs.length ≤ 4611686018427387904) (k : Nat) (hk : xs.length < k) :
  slices_ContainsFunc_int_int__IsValidLin_1.f k xs () = some (xs.any p) := by
 unfold slices_ContainsFunc_int_int__IsValidLin_1.f slices_IndexFunc_int_int__IsValidLin_1.f
 have := slices_IndexFunc_int_int__IsValidLin_1_l0 p hp xs hn xs.length 0 k (by omega) hk
 rw [show ((0 : Nat) : Int) = 0 from rfl, List.drop_zero] at this
 rw [this, Option.bind_some, firstBy_any p xs 0 (by omega)]
theorem impl_IsValidLin_eq (c : Int) (cs : List Int) (n : Int) (hn : cs.length ≤ 4611686018427387904) (k : Nat) (hk : cs.length < k) : impl_IsValidLin.f k c cs n = some (validLin c cs n) := by
 unfold impl_IsValidLin.f validLin
 rw [impl_within_eq, impl_coeffOk_eq, slices_ContainsFunc_int_int__IsValidLin_1_eq (fun c => !(okc c)) (fun c => by unfold impl_IsValidLin_1.f; rw [impl_coeffOk_eq]; rfl) cs hn k hk]
 simp only [Option.bind_some, any_not_all]
 by_cases h1 : 0 ≤ n ∧ n ≤ 8 <;> by_cases h2 : (cs.length : Int) = n <;> cases h3 : okc c <;> simp [h1, h2]
def listName (s : ByteArray) : Bool := validName s && (bt s ((s.size : Int) - 1) == 115)
theorem validName_size {s : ByteArray} (h : validName s = true) : 1 ≤ s.size ∧ s.size ≤ 8 := by
 unfold validName at h
 simp only [Bool.and_eq_true, decide_eq_true_eq] at h
 exact ⟨h.1.1.2, h.1.2⟩
def fmtLin (a : Int) (cs : List Int) (ns : List ByteArray) : ByteArray := if validLin a cs (ns.length : Int) = true ∧ namesOk ns = true then fmtGo a cs ns ⟨#[]⟩ else ⟨#[]⟩
theorem okc_bounds {c : Int} (h : okc c = true) : -1000000000 ≤ c ∧ c ≤ 1000000000 := by
 unfold okc at h; exact of_decide_eq_true h
theorem valid_parts {a : Int} {cs : List Int} {ns : List ByteArray} (h : validLin a cs (ns.length : Int) = true) : cs.length = ns.length ∧ cs.length ≤ 8 ∧ (-1000000000 ≤ a ∧ a ≤ 1000000000) ∧ ∀ c ∈ cs, -1000000000 ≤ c ∧ c ≤ 1000000000 := by
 obtain ⟨h1, h2, h3, h4⟩ := (validLin_iff _ _ _).1 h
 exact ⟨by omega, by omega, okc_bounds h3, fun c hc => okc_bounds (h4 c hc)⟩
theorem namesOk_size {ns : List ByteArray} (h : namesOk ns = true) : ∀ n ∈ ns, n.size ≤ 8 := by
 unfold namesOk at h
 rw [Bool.and_eq_true, List.all_eq_true] at h
 exact fun n hn => (validName_size (h.1 n hn)).2
theorem spec_FormatInt_end (k : Nat) (b : Bool) (acc : List UInt8) (h : acc.length ≤ 1000) : spec_FormatInt.l0 (k + 1) 0 b ⟨acc.toArray⟩ = some (if b = true then ⟨(45 :: (digs 0 ++ acc)).toArray⟩ else ⟨(digs 0 ++ acc).toArray⟩) := by
 rw [spec_FormatInt.l0, if_pos rfl, digs_zero]
 cases b
 ·rw [if_neg (by simp), if_neg (by simp)]; rfl
 ·rw [if_pos rfl, if_pos rfl, ba_size, if_pos (by omega), show (⟨#[45]⟩ : ByteArray) = ⟨[45].toArray⟩ from rfl, ba_append]; rfl
theorem spec_FormatInt_l0 (b : Bool) : ∀ (m u k : Nat) (n : Int) (acc : List UInt8), (n = (u : Int) ∨ n = -(u : Int)) → u < 10 ^ m → m < k → acc.length + m ≤ 1000 → u ≤ 9223372036854775808 → -9223372036854775808 ≤ n → n ≤ 9223372036854775807 →
  spec_FormatInt.l0 k n b ⟨acc.toArray⟩ = some (if b = true then ⟨(45 :: (digs u ++ acc)).toArray⟩ else ⟨(digs u ++ acc).toArray⟩) := by
 intro m
 induction m with
 | zero =>
  intro u k n acc hn hu hk ha _ _ _
  obtain ⟨k, rfl⟩ := succ_of hk
  have h0 : u = 0 := by simpa using hu
  subst h0
  have hn0 : n = 0 := by omega
  subst hn0
  exact spec_FormatInt_end k b acc (by omega)
 | succ m ih =>
  intro u k n acc hn hu hk ha hb n0 n1
  obtain ⟨k, rfl⟩ := succ_of hk
  by_cases h0 : u = 0
  ·subst h0
   have hn0 : n = 0 := by omega
   subst hn0
   exact spec_FormatInt_end k b acc (by omega)
  ·rw [spec_FormatInt.l0, if_neg (by omega)]
   have hd : (Int.tdiv n 10 = ((u / 10 : Nat) : Int) ∨ Int.tdiv n 10 = -((u / 10 : Nat) : Int)) ∧ (Int.tmod n 10 = ((u % 10 : Nat) : Int) ∨ Int.tmod n 10 = -((u % 10 : Nat) : Int)) := by
    rcases hn with rfl | rfl
    ·exact ⟨.inl (by rw [Int.ofNat_tdiv]; rfl), .inl (by rw [Int.ofNat_tmod]; rfl)⟩
    ·exact ⟨.inr (by rw [Int.neg_tdiv, Int.ofNat_tdiv]; rfl), .inr (by rw [Int.neg_tmod, Int.ofNat_tmod]; rfl)⟩
   obtain ⟨hd, hm⟩ := hd
   have hw : wrap64 (Int.tdiv n 10) = Int.tdiv n 10 := wrap_id (by omega) (by omega)
   have hr : ∀ d : Int, d = ((u % 10 : Nat) : Int) → strOfNums [(wrap64 (48 + d)) % 256] = ⟨[UInt8.ofNat (48 + u % 10)].toArray⟩ := fun d hd => by
    subst hd
    rw [wrap_id (by omega) (by omega), show ((48 : Int) + ((u % 10 : Nat) : Int)) % 256 = ((48 + u % 10 : Nat) : Int) by omega, strOne _ (by omega)]
   have step := ih (u / 10) k (Int.tdiv n 10) (UInt8.ofNat (48 + u % 10) :: acc) hd (by rw [Nat.pow_succ] at hu; omega) (by omega) (by simp only [List.length_cons]; omega) (by omega) (by omega) (by omega)
   have e : digs u ++ acc = digs (u / 10) ++ (UInt8.ofNat (48 + u % 10) :: acc) := by rw [digs_pos h0, List.append_assoc]; rfl
   rw [e]
   by_cases hneg : Int.tmod n 10 < 0
   ·rw [if_pos hneg, Option.bind_some, hr _ (by rw [wrap_id (by omega) (by omega)]; omega), ba_size, ba_size, if_pos (by simp only [List.length_singleton]; omega), hw, ba_append]
    exact step
   ·rw [if_neg hneg, Option.bind_some, hr _ (by omega), ba_size, ba_size, if_pos (by simp only [List.length_singleton]; omega), hw, ba_append]
    exact step
theorem spec_FormatInt_eq (n : Int) (n0 : -9223372036854775808 ≤ n) (n1 : n ≤ 9223372036854775807) (k : Nat) (hk : 19 < k) : spec_FormatInt.f k n = some ⟨(Lib.itoa n).toArray⟩ := by
 unfold spec_FormatInt.f
 by_cases h : n = 0
 ·subst h; rw [if_pos rfl, itoa_zero]
 ·rw [if_neg h]
  have := spec_FormatInt_l0 (decide (n < 0)) 19 n.natAbs k n [] (by omega) (by omega) hk (by simp) (by omega) n0 n1
  rw [show (⟨#[]⟩ : ByteArray) = ⟨([] : List UInt8).toArray⟩ from rfl, this, itoa_digs n h, List.append_nil]
  by_cases h0 : n < 0
  ·rw [if_pos (decide_eq_true h0), if_pos h0]
  ·rw [if_neg (by simpa using h0), if_neg h0]
theorem spec_l5Term_j1 (c : Int) (nm out X : ByteArray) (hX : X.size ≤ 100) (ho : out.size ≤ 100000) (hn : nm.size ≤ 100000) (k : Nat) (hk : 2 < k) :
  spec_l5Term.j1 k out c nm X = some ((bif decide (out = ⟨#[]⟩) then (bif decide (c < 0) then (⟨#[45]⟩ : ByteArray) else out) else bif decide (c < 0) then out ++ (⟨#[32, 45, 32]⟩ : ByteArray) else out ++ (⟨#[32, 43, 32]⟩ : ByteArray)) ++ (X ++ nm)) := by
 obtain ⟨k, rfl⟩ := succ_of hk
 obtain ⟨k, rfl⟩ := succ_of (show 1 < k by omega)
 have e1 : (⟨#[45]⟩ : ByteArray).size = 1 := rfl
 have e2 : (⟨#[32, 45, 32]⟩ : ByteArray).size = 3 := rfl
 have e3 : (⟨#[32, 43, 32]⟩ : ByteArray).size = 3 := rfl
 have eo : out.toList = ([] : List UInt8) ↔ out = ⟨#[]⟩ := text_lit out []
 rw [spec_l5Term.j1]
 by_cases h1 : out = ⟨#[]⟩
 ·rw [if_pos (eo.2 h1), spec_l5Term.j2, decide_eq_true h1, cond_true]
  by_cases h2 : c < 0
  ·rw [decide_eq_true h2, if_pos rfl, cond_true, if_pos (by omega), if_pos (by rw [ByteArray.size_append, e1]; omega), ByteArray.append_assoc]
  ·rw [decide_eq_false h2, if_neg (by simp), cond_false, if_pos (eo.2 h1), if_pos (by omega), h1]
   congr 1
 ·rw [if_neg (fun x => h1 (eo.1 x)), spec_l5Term.j2, decide_eq_false h1, cond_false, if_neg (by simp), if_neg (fun x => h1 (eo.1 x))]
  by_cases h2 : c < 0
  ·rw [decide_eq_true h2, if_pos h2, cond_true, if_pos (by omega), if_pos (by rw [ByteArray.size_append, e2]; omega), if_pos (by rw [ByteArray.size_append, ByteArray.size_append, e2]; omega), ByteArray.append_assoc]
  ·rw [decide_eq_false h2, if_neg h2, cond_false, if_pos (by omega), if_pos (by rw [ByteArray.size_append, e3]; omega), if_pos (by rw [ByteArray.size_append, ByteArray.size_append, e3]; omega), ByteArray.append_assoc]
theorem spec_l5Term_eq (c : Int) (nm out : ByteArray) (hc : -1000000000 ≤ c ∧ c ≤ 1000000000) (ho : out.size ≤ 100000) (hn : nm.size ≤ 100000) (k : Nat) (hk : 30 < k) : spec_l5Term.f k out c nm = some (stepV c nm out) := by
 obtain ⟨k, rfl⟩ := succ_of hk
 have hs : spec_l3Size.f c = some (if c < 0 then -c else c) := by
  unfold spec_l3Size.f
  by_cases h : c < 0
  ·rw [if_pos h, if_pos h, wrap_id (by omega) (by omega)]
  ·rw [if_neg h, if_neg h]
 have hA := amt_size hc
 unfold spec_l5Term.f
 rw [hs, Option.bind_some, spec_FormatInt_eq _ (by split <;> omega) (by split <;> omega) _ (by omega), Option.bind_some, show (⟨(Lib.itoa (if c < 0 then -c else c)).toArray⟩ : ByteArray) = fl_amt c from rfl]
 unfold stepV fl_term
 generalize fl_amt c = A at hA ⊢
 have ea : A.toList = ([49] : List UInt8) ↔ A = ⟨#[49]⟩ := text_lit A [49]
 have en : nm.toList = ([] : List UInt8) ↔ nm = ⟨#[]⟩ := text_lit nm []
 by_cases h3 : A = ⟨#[49]⟩
 ·rw [if_pos (ea.2 h3), decide_eq_true h3, spec_l5Term.j0, Bool.true_and]
  by_cases h4 : nm = ⟨#[]⟩
  ·rw [if_neg (by simp [en.2 h4]), spec_l5Term_j1 c nm out A (by omega) ho hn k (by omega), show decide (nm ≠ (⟨#[]⟩ : ByteArray)) = false from decide_eq_false (fun x => x h4), cond_false]
  ·rw [if_pos (by simpa using fun x => h4 (en.1 x)), spec_l5Term_j1 c nm out ⟨#[]⟩ (by decide) ho hn k (by omega), show decide (nm ≠ (⟨#[]⟩ : ByteArray)) = true from decide_eq_true h4, cond_true]
 ·rw [if_neg (fun x => h3 (ea.1 x)), decide_eq_false h3, spec_l5Term.j0, Bool.false_and, if_neg (by simp), spec_l5Term_j1 c nm out A (by omega) ho hn k (by omega), cond_false]
theorem spec_FormatLin_l0 (a : Int) (ha : -1000000000 ≤ a ∧ a ≤ 1000000000) (cs : List Int) (ns : List ByteArray) (hl : cs.length = ns.length) (h8 : cs.length ≤ 8) (hc : ∀ c ∈ cs, -1000000000 ≤ c ∧ c ≤ 1000000000) (hn : ∀ n ∈ ns, n.size ≤ 8) : ∀ (d j k : Nat) (out : ByteArray), j + d = cs.length → d + 40 < k → out.size ≤ 30 * j →
  spec_FormatLin.l0 k ns out (j : Int) a cs = some (fmtGo a (cs.drop j) (ns.drop j) out) := by
 have eo : ∀ out : ByteArray, out.toList = ([] : List UInt8) ↔ out = ⟨#[]⟩ := fun out => text_lit out []
 intro d
 induction d with
 | zero =>
  intro j k out hj hk ho
  obtain ⟨k, rfl⟩ := succ_of hk
  rw [spec_FormatLin.l0, if_neg (by omega), List.drop_eq_nil_of_le (by omega : cs.length ≤ j), fmtGo_nil, spec_l5Term_eq a ⟨#[]⟩ out ha (by omega) (by decide) k (by omega)]
  simp only [Option.bind_some]
  by_cases h : a = 0
  ·rw [if_pos h, if_pos h]
   by_cases h2 : out = ⟨#[]⟩
   ·rw [if_pos ((eo out).2 h2), if_pos h2]
   ·rw [if_neg (fun x => h2 ((eo out).1 x)), if_neg h2]
  ·rw [if_neg h, if_neg h]
 | succ d ih =>
  intro j k out hj hk ho
  obtain ⟨k, rfl⟩ := succ_of hk
  have hlt : j < cs.length := by omega
  have hlt2 : j < ns.length := by omega
  have hcj := hc _ (List.getElem_mem hlt)
  have hnj := hn _ (List.getElem_mem hlt2)
  rw [spec_FormatLin.l0, if_pos (by omega), if_pos (by omega), if_pos (by omega), rd_nat _ _ hlt, List.drop_eq_getElem_cons hlt, List.drop_eq_getElem_cons hlt2]
  by_cases h0 : cs[j] = 0
  ·rw [if_pos h0, wrap_succ hlt (by omega), ih (j + 1) k out (by omega) (by omega) (by omega), fmtGo, if_pos h0]
  ·rw [if_neg h0, rdOf_nat _ _ _ hlt2, spec_l5Term_eq _ _ _ hcj (by omega) (by omega) k (by omega), Option.bind_some, wrap_succ hlt (by omega), ih (j + 1) k _ (by omega) (by omega) (by have := stepV_size (nm := ns[j]) (out := out) hcj; omega), fmtGo, if_neg h0]
theorem spec_l2Shape_l0 (s : ByteArray) (hn : s.size ≤ 4611686018427387904) : ∀ (d j k : Nat), j + d = s.size → d < k →
  spec_l2Shape.l0 k s (j : Int) = some (allFrom (fun i => okByte (bt s i) i) j d && decide (0 < s.size)) := by
 intro d
 induction d with
 | zero =>
  intro j k hj hk
  obtain ⟨k, rfl⟩ := succ_of hk
  simp only [spec_l2Shape.l0, allFrom]
  rw [if_neg (by omega), Bool.true_and]; congr 1; rw [decide_eq_decide]; omega
 | succ d ih =>
  intro j k hj hk
  obtain ⟨k, rfl⟩ := succ_of hk
  have hlt : j < s.size := by omega
  simp only [spec_l2Shape.l0, allFrom]
  rw [if_pos (by omega), if_pos (by omega), wrap_succ hlt hn, ih (j + 1) k (by omega) (by omega)]
  generalize bt s (j : Int) = c
  cases h : okByte c j with
  | true =>
   have := okByte_yes h
   rw [Bool.true_and]
   repeat' split
   all_goals first | rfl | (exfalso; omega)
  | false =>
   have := okByte_no h
   rw [Bool.false_and, Bool.false_and]
   repeat' split
   all_goals first | rfl | (exfalso; omega)
theorem spec_l2Shape_eq (s : ByteArray) (hn : s.size ≤ 4611686018427387904) (k : Nat) (hk : s.size < k) : spec_l2Shape.f k s = some (nameShape s && decide (1 ≤ s.size)) := by
 unfold spec_l2Shape.f nameShape
 exact spec_l2Shape_l0 s hn s.size 0 k (by omega) hk
theorem spec_l1Has_l0 (xs : List ByteArray) (s : ByteArray) (hn : xs.length ≤ 4611686018427387904) : ∀ (d j k : Nat), j + d = xs.length → d < k →
  spec_l1Has.l0 k xs s (j : Int) = some (bmem s (xs.drop j)) := by
 intro d
 induction d with
 | zero =>
  intro j k hj hk
  obtain ⟨k, rfl⟩ := succ_of hk
  simp only [spec_l1Has.l0]
  rw [if_neg (by omega), List.drop_eq_nil_of_le (by omega)]
  rfl
 | succ d ih =>
  intro j k hj hk
  obtain ⟨k, rfl⟩ := succ_of hk
  have hlt : j < xs.length := by omega
  simp only [spec_l1Has.l0]
  rw [if_pos (by omega), if_pos (by omega), rdOf_nat _ _ _ hlt, wrap_succ hlt hn, ih (j + 1) k (by omega) (by omega), List.drop_eq_getElem_cons hlt]
  by_cases h : xs[j] = s
  ·rw [if_pos (by rw [h])]; simp [bmem, h]
  ·rw [if_neg (by rw [bytes_eq]; exact h)]; simp [bmem, h]
theorem spec_l1Has_eq (xs : List ByteArray) (s : ByteArray) (hn : xs.length ≤ 4611686018427387904) (k : Nat) (hk : xs.length < k) :
  spec_l1Has.f k xs s = some (bmem s xs) := by
 unfold spec_l1Has.f
 have := spec_l1Has_l0 xs s hn xs.length 0 k (by omega) hk
 simpa using this
theorem spec_IsReserved_eq (s : ByteArray) (k : Nat) (hk : 5 < k) : spec_IsReserved.f k s = some (reserved s) := by
 unfold spec_IsReserved.f spec_l2Reserved.f
 rw [Option.bind_some, spec_l1Has_eq _ _ (by simp) k (by simpa using hk)]
 rfl
theorem spec_IsValidName_eq (s : ByteArray) (hn : s.size ≤ 4611686018427387904) (k : Nat) (hk : s.size + 5 < k) : spec_IsValidName.f k s = some (validName s) := by
 unfold spec_IsValidName.f validName
 rw [spec_l2Shape_eq s hn k (by omega), Option.bind_some, spec_IsReserved_eq s k (by omega), Option.bind_some]
 cases h1 : nameShape s <;> by_cases h2 : 1 ≤ s.size <;> by_cases h3 : s.size ≤ 8 <;> simp [h2, h3] <;> (intros; omega)
theorem spec_AllDistinct_l0 (xs : List ByteArray) (hn : xs.length ≤ 4611686018427387904) : ∀ (d j k : Nat), j + d = xs.length → xs.length + d < k →
  spec_AllDistinct.l0 k xs (j : Int) = some (distinctFrom xs j d) := by
 intro d
 induction d with
 | zero =>
  intro j k hj hk
  obtain ⟨k, rfl⟩ := succ_of hk
  simp only [spec_AllDistinct.l0, distinctFrom]
  rw [if_neg (by omega)]
 | succ d ih =>
  intro j k hj hk
  obtain ⟨k, rfl⟩ := succ_of hk
  have hlt : j < xs.length := by omega
  simp only [spec_AllDistinct.l0, distinctFrom, List.getElem?_eq_getElem hlt]
  rw [if_pos (by omega), if_pos (by omega), if_pos (by omega), rdOf_nat _ _ _ hlt, Int.toNat_natCast, spec_l1Has_eq _ _ (by rw [List.length_take]; omega) k (by rw [List.length_take]; omega), Option.bind_some, wrap_succ hlt hn, ih (j + 1) k (by omega) (by omega)]
  cases bmem xs[j] (xs.take j) <;> simp
theorem spec_AllDistinct_eq (xs : List ByteArray) (hn : xs.length ≤ 4611686018427387904) (k : Nat) (hk : xs.length + xs.length < k) : spec_AllDistinct.f k xs = some (distinctFrom xs 0 xs.length) := by
 unfold spec_AllDistinct.f
 exact spec_AllDistinct_l0 xs hn xs.length 0 k (by omega) (by omega)
theorem spec_l5Names_l0 (B : Nat) (xs : List ByteArray) (hn : xs.length ≤ 1048576) (hx : ∀ x ∈ xs, x.size ≤ B) (hB : B ≤ 1048576) : ∀ (d j k : Nat), j + d = xs.length → d + 3000000 < k →
  spec_l5Names.l0 k xs (j : Int) = some ((xs.drop j).all validName && distinctFrom xs 0 xs.length) := by
 intro d
 induction d with
 | zero =>
  intro j k hj hk
  obtain ⟨k, rfl⟩ := succ_of hk
  rw [spec_l5Names.l0, if_neg (by omega), spec_AllDistinct_eq xs (by omega) k (by omega), List.drop_eq_nil_of_le (by omega)]; rfl
 | succ d ih =>
  intro j k hj hk
  obtain ⟨k, rfl⟩ := succ_of hk
  have hlt : j < xs.length := by omega
  have hs := hx _ (List.getElem_mem hlt)
  rw [spec_l5Names.l0, if_pos (by omega), if_pos (by omega), rdOf_nat _ _ _ hlt, spec_IsValidName_eq _ (by omega) k (by omega), Option.bind_some, List.drop_eq_getElem_cons hlt, List.all_cons]
  cases hv : validName xs[j] with
  | false => rw [if_neg (by simp)]; rfl
  | true => rw [if_pos rfl, wrap_succ hlt (by omega), ih (j + 1) k (by omega) (by omega), Bool.true_and]
theorem spec_l1In_eq (a b c : Int) : spec_l1In.f a b c = some (decide (b ≤ a ∧ a ≤ c)) := by
 unfold spec_l1In.f
 by_cases h : a ≥ b
 ·rw [if_pos h]; congr 1; rw [decide_eq_decide]; omega
 ·rw [if_neg h]; congr 1; symm; rw [decide_eq_false_iff_not]; omega
theorem spec_l3In_eq (n : Int) : spec_l3In.f n = some (okc n) := by unfold spec_l3In.f; rw [spec_l1In_eq]; rfl
theorem spec_IsValidLin_l0 (c : Int) (cs : List Int) (n : Int) (hn : cs.length ≤ 4611686018427387904) : ∀ (d j k : Nat), j + d = cs.length → d < k →
  spec_IsValidLin.l0 k n (j : Int) c cs = some ((cs.drop j).all okc && (decide (0 ≤ n ∧ n ≤ 8) && (decide ((cs.length : Int) = n) && okc c))) := by
 intro d
 induction d with
 | zero =>
  intro j k hj hk
  obtain ⟨k, rfl⟩ := succ_of hk
  simp only [spec_IsValidLin.l0]
  rw [if_neg (by omega), List.drop_eq_nil_of_le (by omega), spec_l1In_eq, spec_l3In_eq]
  simp only [Option.bind_some, List.all_nil, Bool.true_and]
  by_cases h1 : 0 ≤ n ∧ n ≤ 8 <;> by_cases h2 : (cs.length : Int) = n <;> simp [h1, h2]
 | succ d ih =>
  intro j k hj hk
  obtain ⟨k, rfl⟩ := succ_of hk
  have hlt : j < cs.length := by omega
  simp only [spec_IsValidLin.l0]
  rw [if_pos (by omega), if_pos (by omega), rd_nat _ _ hlt, spec_l3In_eq, Option.bind_some, wrap_succ hlt hn, ih (j + 1) k (by omega) (by omega), List.drop_eq_getElem_cons hlt, List.all_cons]
  cases okc cs[j] <;> simp
theorem spec_IsValidLin_eq (c : Int) (cs : List Int) (n : Int) (hn : cs.length ≤ 4611686018427387904) (k : Nat) (hk : cs.length < k) : spec_IsValidLin.f k c cs n = some (validLin c cs n) := by
 unfold spec_IsValidLin.f validLin
 have := spec_IsValidLin_l0 c cs n hn cs.length 0 k (by omega) hk
 rw [show ((0 : Nat) : Int) = 0 from rfl, List.drop_zero] at this
 rw [this]
 cases cs.all okc <;> simp
theorem spec_FormatLin_eq (B : Nat) (a : Int) (cs : List Int) (ns : List ByteArray) (hc : cs.length ≤ 1048576) (hn : ns.length ≤ 1048576) (hx : ∀ x ∈ ns, x.size ≤ B) (hB : B ≤ 1048576) (k : Nat) (hk : 5000000 < k) : spec_FormatLin.f k a cs ns = some (fmtLin a cs ns) := by
 unfold spec_FormatLin.f fmtLin
 obtain ⟨k, rfl⟩ := succ_of hk
 rw [spec_IsValidLin_eq a cs _ (by omega) _ (by omega), Option.bind_some]
 by_cases hv : validLin a cs (ns.length : Int) = true
 ·have hs : spec_l5Names.f (k + 1) ns = some (namesOk ns) := by
   have := spec_l5Names_l0 B ns hn hx hB ns.length 0 (k + 1) (by omega) (by omega)
   rw [List.drop_zero] at this
   exact this
  rw [if_pos hv, hs, Option.bind_some, spec_FormatLin.j0]
  cases hok : namesOk ns with
  | false => rw [if_pos (by simp), if_neg (fun x => by cases x.2)]
  | true =>
   obtain ⟨h1, h2, h3, h4⟩ := valid_parts hv
   rw [if_neg (by simp), if_pos ⟨hv, rfl⟩]
   have := spec_FormatLin_l0 a h3 cs ns h1 h2 h4 (namesOk_size hok) cs.length 0 k ⟨#[]⟩ (by omega) (by omega) (by decide)
   simpa using this
 ·rw [if_neg hv, spec_FormatLin.j0, if_pos rfl, if_neg (fun x => hv x.1)]
theorem fmtGo_size (a : Int) (ha : -1000000000 ≤ a ∧ a ≤ 1000000000) : ∀ (cs : List Int) (ns : List ByteArray) (out : ByteArray), (∀ c ∈ cs, -1000000000 ≤ c ∧ c ≤ 1000000000) → (∀ n ∈ ns, n.size ≤ 8) → (fmtGo a cs ns out).size ≤ out.size + 22 * cs.length + 14 := by
 have e0 : (⟨#[]⟩ : ByteArray).size = 0 := rfl
 have fin : ∀ out : ByteArray, (if a = 0 then (if out = ⟨#[]⟩ then stepV a ⟨#[]⟩ out else out) else stepV a ⟨#[]⟩ out).size ≤ out.size + 14 := by
  intro out
  have := stepV_size (nm := ⟨#[]⟩) (out := out) ha
  split
  ·split <;> omega
  ·omega
 intro cs
 induction cs with
 | nil => intro ns out _ _; rw [fmtGo_nil]; have := fin out; simp only [List.length_nil]; omega
 | cons c cs ih =>
  intro ns out hc hn
  cases ns with
  | nil =>
   have := fin out
   show (if a = 0 then (if out = ⟨#[]⟩ then stepV a ⟨#[]⟩ out else out) else stepV a ⟨#[]⟩ out).size ≤ _
   simp only [List.length_cons]; omega
  | cons n ns =>
   rw [fmtGo]
   have h1 := ih ns (if c = 0 then out else stepV c n out) (fun x hx => hc x (by simp [hx])) (fun x hx => hn x (by simp [hx]))
   have h2 := stepV_size (nm := n) (out := out) (hc c (by simp))
   have h3 := hn n (by simp)
   have h4 : (if c = 0 then out else stepV c n out).size ≤ out.size + 22 := by split <;> omega
   simp only [List.length_cons]; omega
theorem fmtLin_size (a : Int) (cs : List Int) (ns : List ByteArray) : (fmtLin a cs ns).size ≤ 1000 := by
 unfold fmtLin
 have e0 : (⟨#[]⟩ : ByteArray).size = 0 := rfl
 by_cases h : validLin a cs (ns.length : Int) = true ∧ namesOk ns = true
 ·rw [if_pos h]
  obtain ⟨h1, h2, h3, h4⟩ := valid_parts h.1
  have := fmtGo_size a h3 cs ns ⟨#[]⟩ h4 (namesOk_size h.2)
  omega
 ·rw [if_neg h]; omega
def fmtCon (a : Int) (cs : List Int) (ns : List ByteArray) : ByteArray := if fmtLin a cs ns = ⟨#[]⟩ then ⟨#[]⟩ else fmtLin a cs ns ++ ⟨#[32, 62, 61, 32, 48]⟩
theorem fmtCon_size (a : Int) (cs : List Int) (ns : List ByteArray) : (fmtCon a cs ns).size ≤ 1005 := by
 unfold fmtCon
 have := fmtLin_size a cs ns
 have e0 : (⟨#[]⟩ : ByteArray).size = 0 := rfl
 have e1 : (⟨#[32, 62, 61, 32, 48]⟩ : ByteArray).size = 5 := rfl
 split
 ·omega
 ·rw [ByteArray.size_append]; omega
theorem spec_FormatConstraint_eq (B : Nat) (a : Int) (cs : List Int) (ns : List ByteArray) (hc : cs.length ≤ 1048576) (hn : ns.length ≤ 1048576) (hx : ∀ x ∈ ns, x.size ≤ B) (hB : B ≤ 1048576) (k : Nat) (hk : 5000000 < k) : spec_FormatConstraint.f k a cs ns = some (fmtCon a cs ns) := by
 unfold spec_FormatConstraint.f fmtCon
 have := fmtLin_size a cs ns
 rw [spec_FormatLin_eq B a cs ns hc hn hx hB k hk, Option.bind_some]
 by_cases h : fmtLin a cs ns = ⟨#[]⟩
 ·rw [if_pos ((text_lit _ []).2 h), if_pos h]
 ·rw [if_neg (fun x => h ((text_lit _ []).1 x)), if_neg h, if_pos (by omega)]
theorem spec_l5Some_ex (b : List Int) (i h : Int) (hc : Cur b i) : ∃ ns i' h', spec_l5Some.f b i h = some (ns, i', h') ∧ ns.length ≤ 4 ∧ (∀ n ∈ ns, n.size ≤ 2) ∧ Cur b i' := by
 unfold spec_l5Some.f
 obtain ⟨r, i1, h1, e1, c1⟩ := spec_l1Once_ex b i h 12 hc
 rw [e1]; simp only [Option.bind_some]
 obtain ⟨x, i2, h2, e2, x0, x1, _, c2⟩ := spec_l1Below_ex b i1 h1 5 c1
 have x1 := x1 (by omega)
 have low : ∀ (l : List ByteArray) (m : Nat), l.all (fun s => decide (s.size ≤ 2)) = true → ∀ s ∈ l.take m, s.size ≤ 2 := fun l m hl s hs => by
  simpa using List.all_eq_true.1 hl s (List.mem_of_mem_take hs)
 cases r
 ·rw [if_neg (by simp), e2]; simp only [Option.bind_some]
  rw [if_pos x0, if_pos (by simp only [List.length_cons, List.length_nil]; omega)]
  exact ⟨_, _, _, rfl, by rw [List.length_take]; simp only [List.length_cons, List.length_nil]; omega, low _ _ (by decide), c2⟩
 ·rw [if_pos rfl, e2]; simp only [Option.bind_some]
  rw [if_pos x0, if_pos (by simp only [List.length_cons, List.length_nil]; omega)]
  exact ⟨_, _, _, rfl, by rw [List.length_take]; simp only [List.length_cons, List.length_nil]; omega, low _ _ (by decide), c2⟩
theorem spec_DrawFormatLin_ex (b : List Int) (hb : b.length ≤ 140737488351232) (k : Nat) (hk : b.length < k) (h2 : 100 < k) : ∃ c cs ns, spec_DrawFormatLin.f k b = some (c, cs, ns) ∧ cs.length ≤ 9 ∧ ns.length ≤ 4 ∧ ∀ n ∈ ns, n.size ≤ 2 := by
 unfold spec_DrawFormatLin.f
 obtain ⟨h0, e0⟩ := spec_l1New_ex b hb k hk
 rw [e0]; simp only [Option.bind_some]
 obtain ⟨ns, i1, g1, e1, hl, hx, c1⟩ := spec_l5Some_ex b 0 h0 (cur_zero b hb)
 rw [e1]; simp only [Option.bind_some]
 obtain ⟨r, i2, g2, e2, c2⟩ := spec_l1Once_ex b i1 g1 6 c1
 rw [e2]; simp only [Option.bind_some]
 cases r
 ·rw [if_neg (by simp)]
  obtain ⟨c, cs, i4, g4, e4, hl2, c4, _, _⟩ := spec_l4Draw_ex b i2 g2 (ns.length : Int) c2 (by omega) (by omega) k (by omega)
  rw [e4]; simp only [Option.bind_some]
  exact ⟨_, _, _, rfl, by omega, hl, hx⟩
 ·rw [if_pos rfl]
  obtain ⟨c, cs, i4, g4, e4, hl2, c4⟩ := spec_l4Bent_ex b i2 g2 c2 k (by omega)
  rw [e4]; simp only [Option.bind_some]
  exact ⟨_, _, _, rfl, hl2, hl, hx⟩
theorem extract_le (s : ByteArray) (a b : Nat) : (s.extract a b).size ≤ s.size := by
 rw [size_len, ByteArray.data_extract, Array.toList_extract, List.extract_eq_take_drop, List.length_take, List.length_drop, size_len]; omega
theorem spec_l1Turned_ex (b : List Int) (i h : Int) (s : ByteArray) (l : List ByteArray) (hs : s.size ≤ 2000) (hl : 0 < l.length) (hx : ∀ x ∈ l, x.size ≤ 10) (hc : Cur b i) : ∃ t i' h', spec_l1Turned.f b i h s l = some (t, i', h') ∧ t.size ≤ 5000 := by
 unfold spec_l1Turned.f
 rw [wrap_id (by omega) (by omega)]
 obtain ⟨x, i1, h1, e1, x0, x1, _, c1⟩ := spec_l1Below_ex b i h ((s.size : Int) + 1) hc
 have x1 := x1 (by omega)
 rw [e1]; simp only [Option.bind_some]
 obtain ⟨y, i2, h2, e2, _, _, _, c2⟩ := spec_l1Below_ex b i1 h1 6 c1
 rw [e2]; simp only [Option.bind_some]
 have ha := extract_le s 0 x.toNat
 have hb := extract_le s x.toNat s.size
 by_cases y0 : y = 0
 ·rw [if_pos y0, if_pos x0, if_pos (by omega)]
  obtain ⟨z, i3, h3, e3, hm, c3⟩ := spec_l1Pick_ex b i2 h2 l hl c2
  have hz := hx z hm
  rw [e3]; simp only [Option.bind_some]
  rw [if_pos (by omega), if_pos (by rw [ByteArray.size_append]; omega)]
  exact ⟨_, _, _, rfl, by rw [ByteArray.size_append, ByteArray.size_append]; omega⟩
 ·rw [if_neg y0]
  by_cases y1 : y = 1
  ·rw [if_pos y1, if_pos x0, if_pos (by omega)]
   exact ⟨_, _, _, rfl, by omega⟩
  ·rw [if_neg y1]
   exact ⟨_, _, _, rfl, by omega⟩
theorem turned_low : (∀ x ∈ ([(⟨#[32]⟩ : ByteArray), (⟨#[45]⟩ : ByteArray), (⟨#[32, 43, 32, 49]⟩ : ByteArray), (⟨#[110]⟩ : ByteArray), (⟨#[48]⟩ : ByteArray), (⟨#[50]⟩ : ByteArray), (⟨#[32, 32]⟩ : ByteArray)] : List ByteArray), x.size ≤ 10) ∧ ∀ x ∈ ([(⟨#[32]⟩ : ByteArray), (⟨#[61]⟩ : ByteArray), (⟨#[62, 61, 32, 48]⟩ : ByteArray), (⟨#[110]⟩ : ByteArray), (⟨#[48]⟩ : ByteArray)] : List ByteArray), x.size ≤ 10 := by
 have low : ∀ (l : List ByteArray), l.all (fun s => decide (s.size ≤ 10)) = true → ∀ s ∈ l, s.size ≤ 10 := fun l hl s hs => by
  simpa using List.all_eq_true.1 hl s hs
 exact ⟨low _ (by decide), low _ (by decide)⟩
theorem spec_DrawParseLin_ex (b : List Int) (hb : b.length ≤ 140737488351232) (k : Nat) (hk : b.length < k) (h2 : 6000000 < k) : ∃ s ns, spec_DrawParseLin.f k b = some (s, ns) ∧ s.size ≤ 5000 ∧ ns.length ≤ 4 ∧ ∀ n ∈ ns, n.size ≤ 2 := by
 unfold spec_DrawParseLin.f
 obtain ⟨c, cs, ns, e, hc, hl, hx⟩ := spec_DrawFormatLin_ex b hb k hk (by omega)
 rw [e]; simp only [Option.bind_some]
 obtain ⟨h0, e0⟩ := spec_l1New_ex b hb k hk
 rw [e0]; simp only [Option.bind_some]
 rw [spec_FormatLin_eq 2 c cs ns (by omega) (by omega) hx (by omega) k (by omega), Option.bind_some]
 have hs := fmtLin_size c cs ns
 obtain ⟨t, i1, g1, e1, ht⟩ := spec_l1Turned_ex b 0 h0 (fmtLin c cs ns) ([(⟨#[32]⟩ : ByteArray), (⟨#[45]⟩ : ByteArray), (⟨#[32, 43, 32, 49]⟩ : ByteArray), (⟨#[110]⟩ : ByteArray), (⟨#[48]⟩ : ByteArray), (⟨#[50]⟩ : ByteArray), (⟨#[32, 32]⟩ : ByteArray)] : List ByteArray) (by omega) (by simp) turned_low.1 (cur_zero b hb)
 rw [e1]; simp only [Option.bind_some]
 exact ⟨_, _, rfl, ht, hl, hx⟩
theorem spec_DrawParseConstraint_ex (b : List Int) (hb : b.length ≤ 140737488351232) (k : Nat) (hk : b.length < k) (h2 : 6000000 < k) : ∃ s ns, spec_DrawParseConstraint.f k b = some (s, ns) ∧ s.size ≤ 5000 ∧ ns.length ≤ 4 ∧ ∀ n ∈ ns, n.size ≤ 2 := by
 unfold spec_DrawParseConstraint.f
 obtain ⟨c, cs, ns, e, hc, hl, hx⟩ := spec_DrawFormatLin_ex b hb k hk (by omega)
 rw [e]; simp only [Option.bind_some]
 obtain ⟨h0, e0⟩ := spec_l1New_ex b hb k hk
 rw [e0]; simp only [Option.bind_some]
 rw [spec_FormatConstraint_eq 2 c cs ns (by omega) (by omega) hx (by omega) k (by omega), Option.bind_some]
 have hs := fmtCon_size c cs ns
 obtain ⟨t, i1, g1, e1, ht⟩ := spec_l1Turned_ex b 0 h0 (fmtCon c cs ns) ([(⟨#[32]⟩ : ByteArray), (⟨#[61]⟩ : ByteArray), (⟨#[62, 61, 32, 48]⟩ : ByteArray), (⟨#[110]⟩ : ByteArray), (⟨#[48]⟩ : ByteArray)] : List ByteArray) (by omega) (by simp) turned_low.2 (cur_zero b hb)
 rw [e1]; simp only [Option.bind_some]
 exact ⟨_, _, rfl, ht, hl, hx⟩
def readN (s : ByteArray) : Int × Bool := if (readL 12 s).2 = true ∧ 0 ≤ (readL 12 s).1 ∧ (readL 12 s).1 ≤ 999999 then ((readL 12 s).1, true) else (0, false)
theorem readL_yes {L : Nat} {s : ByteArray} (h : (readL L s).2 = true) : (readL L s).1.natAbs < 10 ^ L ∧ (⟨(Lib.itoa (readL L s).1).toArray⟩ : ByteArray) = s := by
 unfold readL at h ⊢
 cases ha : Lib.atoi s.data.toList with
 | none => rw [ha] at h; cases h
 | some n =>
  rw [ha] at h
  by_cases hc : n.natAbs < 10 ^ L ∧ (⟨(Lib.itoa n).toArray⟩ : ByteArray) = s
  ·show (if n.natAbs < 10 ^ L ∧ (⟨(Lib.itoa n).toArray⟩ : ByteArray) = s then (n, true) else (0, false)).1.natAbs < _ ∧ _
   simp only [if_pos hc]; exact hc
  ·exfalso
   have : (if n.natAbs < 10 ^ L ∧ (⟨(Lib.itoa n).toArray⟩ : ByteArray) = s then (n, true) else (0, false)).2 = true := h
   rw [if_neg hc] at this; cases this
theorem readL_itoa (L : Nat) (n : Int) (h : n.natAbs < 10 ^ L) : readL L ⟨(Lib.itoa n).toArray⟩ = (n, true) := by
 rw [readL_at (n := n) (atoi_itoa n) h, if_pos rfl]
theorem readN_six (s : ByteArray) : readN s = if (readL 6 s).2 = true ∧ ¬ (readL 6 s).1 < 0 then ((readL 6 s).1, true) else (0, false) := by
 unfold readN
 by_cases h6 : (readL 6 s).2 = true
 ·obtain ⟨hb, he⟩ := readL_yes h6
  have e12 : readL 12 s = ((readL 6 s).1, true) := by
   generalize (readL 6 s).1 = n at hb he
   subst he
   exact readL_itoa 12 n (by omega)
  rw [e12]
  by_cases hn : (readL 6 s).1 < 0
  ·rw [if_neg (by simp only; omega), if_neg (fun x => x.2 hn)]
  ·rw [if_pos ⟨rfl, by simp only; omega, by simp only; omega⟩, if_pos ⟨h6, hn⟩]
 ·have e6 : ¬ ((readL 6 s).2 = true ∧ ¬ (readL 6 s).1 < 0) := fun x => h6 x.1
  rw [if_neg e6]
  by_cases h12 : (readL 12 s).2 = true
  ·obtain ⟨hb, he⟩ := readL_yes h12
   rw [if_neg]
   rintro ⟨_, h1, h2⟩
   apply h6
   generalize (readL 12 s).1 = n at hb he h1 h2
   subst he
   rw [readL_itoa 6 n (by omega)]
  ·rw [if_neg (fun x => h12 x.1)]
def splitL (c : UInt8) : List UInt8 → List (List UInt8)
 | [] => [[]]
 | b :: r => if b = c then [] :: splitL c r else match splitL c r with
  | [] => [[b]]
  | h :: t => (b :: h) :: t
theorem splitL_ne (c : UInt8) : ∀ l, splitL c l ≠ []
 | [] => by simp [splitL]
 | b :: r => by
  unfold splitL
  split
  ·simp
  ·split <;> simp
theorem splitL_notin (c : UInt8) : ∀ l : List UInt8, c ∉ l → splitL c l = [l]
 | [], _ => rfl
 | b :: r, h => by
  have hb : b ≠ c := fun e => h (by simp [e])
  rw [splitL, if_neg hb, splitL_notin c r (fun e => h (by simp [e]))]
theorem splitL_app (c : UInt8) : ∀ (a r : List UInt8), c ∉ a → splitL c (a ++ c :: r) = a :: splitL c r
 | [], r, _ => by simp [splitL]
 | b :: a, r, h => by
  have hb : b ≠ c := fun e => h (by simp [e])
  rw [List.cons_append, splitL, if_neg hb, splitL_app c a r (fun e => h (by simp [e]))]
theorem splitL_len (c : UInt8) : ∀ l : List UInt8, (splitL c l).length ≤ l.length + 1
 | [] => by simp [splitL]
 | b :: r => by
  have := splitL_len c r
  unfold splitL
  split
  ·simp only [List.length_cons]; omega
  ·split
   ·simp
   ·rename_i h t e; rw [e] at this; simp only [List.length_cons] at *; omega
theorem splitL_mem (c : UInt8) : ∀ (l : List UInt8), ∀ p ∈ splitL c l, c ∉ p ∧ p.length ≤ l.length
 | [], p, hp => by
  rw [splitL, List.mem_singleton] at hp; subst hp; simp
 | b :: r, p, hp => by
  have ih := splitL_mem c r
  rw [splitL] at hp
  split at hp
  ·rcases List.mem_cons.1 hp with rfl | hp
   ·simp
   ·have := ih p hp; exact ⟨this.1, by simp only [List.length_cons]; omega⟩
  ·rename_i hb
   split at hp
   ·rename_i e; exact absurd e (splitL_ne c r)
   ·rename_i h t e
    rw [e] at ih
    rcases List.mem_cons.1 hp with rfl | hp
    ·have := ih h (by simp)
     refine ⟨fun hc => ?_, by simp only [List.length_cons]; omega⟩
     rcases List.mem_cons.1 hc with e | e
     ·exact hb e.symm
     ·exact this.1 e
    ·have := ih p (by simp [hp]); exact ⟨this.1, by simp only [List.length_cons]; omega⟩
theorem splitL_join (c : UInt8) : ∀ l : List UInt8, [c].intercalate (splitL c l) = l
 | [] => by simp [splitL, List.intercalate]
 | b :: r => by
  have ih := splitL_join c r
  rw [splitL]
  split
  ·rename_i e; subst e
   cases e : splitL b r with
   | nil => exact absurd e (splitL_ne b r)
   | cons h t => rw [e] at ih; rw [← ih]; simp [List.intercalate]
  ·split
   ·rename_i e; exact absurd e (splitL_ne c r)
   ·rename_i h t e
    rw [e] at ih
    rw [← ih]
    cases t with
    | nil => simp [List.intercalate]
    | cons h2 t2 => simp [List.intercalate]
theorem index_notin (c : UInt8) : ∀ l : List UInt8, c ∉ l → Lib.index l [c] = -1
 | [], _ => by simp [Lib.index]
 | b :: r, h => by
  have hb : b ≠ c := fun e => h (by simp [e])
  rw [Lib.index, index_notin c r (fun e => h (by simp [e]))]
  simp [List.isPrefixOf, Ne.symm hb]
theorem index_app (c : UInt8) : ∀ (a r : List UInt8), c ∉ a → Lib.index (a ++ c :: r) [c] = (a.length : Int)
 | [], r, _ => by simp [Lib.index, List.isPrefixOf]
 | b :: a, r, h => by
  have hb : b ≠ c := fun e => h (by simp [e])
  rw [List.cons_append, Lib.index, index_app c a r (fun e => h (by simp [e]))]
  rw [if_neg (by simp [List.isPrefixOf, Ne.symm hb]), if_neg (by rw [beq_iff_eq]; omega)]
  simp
theorem first_at (c : UInt8) : ∀ l : List UInt8, c ∈ l → ∃ a r, l = a ++ c :: r ∧ c ∉ a
 | [], h => by simp at h
 | b :: l, h => by
  by_cases e : b = c
  ·exact ⟨[], l, by simp [e], by simp⟩
  ·rcases List.mem_cons.1 h with h | h
   ·exact absurd h.symm e
   ·obtain ⟨a, r, rfl, ha⟩ := first_at c l h
    refine ⟨b :: a, r, rfl, fun hc => ?_⟩
    rcases List.mem_cons.1 hc with h | h
    ·exact e h.symm
    ·exact ha h
theorem splitK_one (c : UInt8) : ∀ (k : Nat) (l : List UInt8), l.count c ≤ k → Lib.splitK [c] 0 k l = splitL c l
 | 0, l, h => by
  rw [splitL_notin c l (fun hc => by have := List.count_pos_iff.2 hc; omega)]; rfl
 | k + 1, l, h => by
  rw [Lib.splitK]
  by_cases hc : c ∈ l
  ·obtain ⟨a, r, rfl, ha⟩ := first_at c l hc
   rw [index_app c a r ha, splitL_app c a r ha, if_neg (by rw [beq_iff_eq]; omega)]
   have h1 : (a ++ c :: r).count c = a.count c + (r.count c + 1) := by rw [List.count_append, List.count_cons_self]
   rw [show ((a.length : Int)).toNat = a.length from rfl]
   rw [Nat.add_zero, List.take_left', show (a ++ c :: r).drop (a.length + [c].length) = r from by
    rw [List.drop_append, List.drop_eq_nil_of_le (by simp)]; simp, splitK_one c k r (by omega)]
   rfl
  ·rw [index_notin c l hc, splitL_notin c l hc, if_pos (by simp)]
def splitS (c : UInt8) (s : ByteArray) : List ByteArray := (splitL c s.data.toList).map fun p => (⟨p.toArray⟩ : ByteArray)
theorem map_data (L : List ByteArray) (M : List (List UInt8)) (h : L.map (·.data.toList) = M) : L = M.map fun p => (⟨p.toArray⟩ : ByteArray) := by
 subst h
 rw [List.map_map]
 conv => lhs; rw [← List.map_id L]
 apply List.map_congr_left
 intro x _
 rfl
theorem splitB_one (c : UInt8) (s : ByteArray) : Lib.splitB ⟨#[c]⟩ 0 (Lib.countB s ⟨#[c]⟩) s = splitS c s := by
 refine map_data _ _ ?_
 rw [Lib.splitB_data]
 refine splitK_one c _ _ ?_
 rw [← Lib.count_one]
 exact Nat.le_refl _
def isDig (b : UInt8) : Bool := decide (48 ≤ b.toNat ∧ b.toNat ≤ 57)
def numS (w : ByteArray) : ByteArray := ⟨(w.data.toList.takeWhile isDig).toArray⟩
def restS (w : ByteArray) : ByteArray := ⟨(w.data.toList.dropWhile isDig).toArray⟩
def wordS (w : ByteArray) : Int × ByteArray := if (numS w).size = 0 then (1, w) else if (readN (numS w)).2 = true then ((readN (numS w)).1, restS w) else (0, ⟨#[63]⟩)
def wordI (w : ByteArray) : Option (Int × ByteArray) := if (numS w).size = 0 ∧ w.size ≠ 0 then some (1, w) else if (readN (numS w)).2 = true then some ((readN (numS w)).1, restS w) else none
def firstS (w : ByteArray) : Int × ByteArray := if w.data.toList.head? = some 45 then (-1, ⟨(w.data.toList.drop 1).toArray⟩) else (1, w)
def sgnOf (x : ByteArray) : Int := if x = ⟨#[45]⟩ then -1 else 1
def stS (ns : List ByteArray) (st : Int × List Int) (p : Int × ByteArray) : Int × List Int :=
 if p.2 = ⟨#[]⟩ then (p.1, st.2) else if 0 ≤ idxFrom p.2 ns 0 ∧ idxFrom p.2 ns 0 ≤ (st.2.length : Int) - 1 then (st.1, st.2.set (idxFrom p.2 ns 0).toNat p.1) else st
def goS (wd : ByteArray → Int × ByteArray) (ns : List ByteArray) : List ByteArray → Int × List Int → Int × List Int
 | x :: w :: r, st => goS wd ns r (stS ns st (sgnOf x * (wd w).1, (wd w).2))
 | _, st => st
def allS (wd : ByteArray → Int × ByteArray) (ns : List ByteArray) (z : List Int) : List ByteArray → Int × List Int
 | [] => (0, z)
 | w :: r => goS wd ns r (stS ns (0, z) ((firstS w).1 * (wd (firstS w).2).1, (wd (firstS w).2).2))
def goI : List ByteArray → Option (List (Int × ByteArray))
 | [] => some []
 | [_] => none
 | x :: w :: r => if x = ⟨#[43]⟩ ∨ x = ⟨#[45]⟩ then (match wordI w with
  | none => none
  | some p => (goI r).map fun l => (sgnOf x * p.1, p.2) :: l) else none
def partsL : List ByteArray → Option (List (Int × ByteArray))
 | [] => some []
 | w :: r => match wordI (firstS w).2 with
  | none => none
  | some p => (goI r).map fun l => ((firstS w).1 * p.1, p.2) :: l
def foldI (ns : List ByteArray) : List (Int × ByteArray) → Int × List Int → Option (Int × List Int)
 | [], st => some st
 | p :: r, st => if p.2 = ⟨#[]⟩ then foldI ns r (p.1, st.2) else if idxFrom p.2 ns 0 < 0 then none else foldI ns r (st.1, st.2.set (idxFrom p.2 ns 0).toNat p.1)
def smallN (n : Int) : Prop := -999999 ≤ n ∧ n ≤ 999999
def smallSt (st : Int × List Int) : Prop := smallN st.1 ∧ ∀ c ∈ st.2, smallN c
theorem readN_small (s : ByteArray) : 0 ≤ (readN s).1 ∧ (readN s).1 ≤ 999999 := by
 unfold readN
 split
 ·rename_i h; exact h.2
 ·exact ⟨by decide, by decide⟩
theorem wordS_small (w : ByteArray) : 0 ≤ (wordS w).1 ∧ (wordS w).1 ≤ 999999 := by
 unfold wordS
 split
 ·exact ⟨(by decide : (0 : Int) ≤ 1), (by decide : (1 : Int) ≤ 999999)⟩
 ·split
  ·exact readN_small _
  ·exact ⟨(by decide : (0 : Int) ≤ 0), (by decide : (0 : Int) ≤ 999999)⟩
theorem wordI_small {w : ByteArray} {p : Int × ByteArray} (h : wordI w = some p) : 0 ≤ p.1 ∧ p.1 ≤ 999999 := by
 unfold wordI at h
 split at h
 ·obtain rfl := Option.some.inj h; exact ⟨(by decide : (0 : Int) ≤ 1), (by decide : (1 : Int) ≤ 999999)⟩
 ·split at h
  ·obtain rfl := Option.some.inj h; exact readN_small _
  ·cases h
theorem sgn_small {x n : Int} (hx : x = 1 ∨ x = -1) (h : 0 ≤ n ∧ n ≤ 999999) : smallN (x * n) := by
 unfold smallN
 rcases hx with rfl | rfl <;> omega
theorem sgnOf_one (x : ByteArray) : sgnOf x = 1 ∨ sgnOf x = -1 := by
 unfold sgnOf; split
 ·exact .inr rfl
 ·exact .inl rfl
theorem firstS_one (w : ByteArray) : (firstS w).1 = 1 ∨ (firstS w).1 = -1 := by
 unfold firstS; split
 ·exact .inr rfl
 ·exact .inl rfl
theorem set_small {z : List Int} {v : Int} (h : ∀ c ∈ z, smallN c) (hv : smallN v) (i : Nat) : ∀ c ∈ z.set i v, smallN c := by
 intro c hc
 rcases List.mem_or_eq_of_mem_set hc with h' | rfl
 ·exact h c h'
 ·exact hv
theorem stS_small {ns : List ByteArray} {st : Int × List Int} {p : Int × ByteArray} (h : smallSt st) (hp : smallN p.1) : smallSt (stS ns st p) := by
 unfold stS
 split
 ·exact ⟨hp, h.2⟩
 ·split
  ·exact ⟨h.1, set_small h.2 hp _⟩
  ·exact h
theorem goS_small (ns : List ByteArray) : ∀ (m : Nat) (ws : List ByteArray) (st : Int × List Int), ws.length ≤ m → smallSt st → smallSt (goS wordS ns ws st) := by
 intro m
 induction m with
 | zero => intro ws st hm h; rw [List.eq_nil_of_length_eq_zero (by omega : ws.length = 0)]; exact h
 | succ m ih =>
  intro ws st hm h
  match ws with
  | [] => exact h
  | [_] => exact h
  | x :: w :: r =>
   rw [goS]
   exact ih r _ (by simp only [List.length_cons] at hm; omega) (stS_small h (sgn_small (sgnOf_one x) (wordS_small w)))
theorem allS_small (ns : List ByteArray) (z : List Int) (hz : ∀ c ∈ z, smallN c) (ws : List ByteArray) : smallSt (allS wordS ns z ws) := by
 have h0 : smallN 0 := ⟨by decide, by decide⟩
 cases ws with
 | nil => exact ⟨h0, hz⟩
 | cons w r =>
  rw [allS]
  exact goS_small ns _ r _ (Nat.le_refl _) (stS_small ⟨h0, hz⟩ (sgn_small (firstS_one w) (wordS_small _)))
theorem goI_small : ∀ (m : Nat) (ws : List ByteArray) (ps : List (Int × ByteArray)), ws.length ≤ m → goI ws = some ps → ∀ p ∈ ps, smallN p.1 := by
 intro m
 induction m with
 | zero =>
  intro ws ps hm h
  rw [List.eq_nil_of_length_eq_zero (by omega : ws.length = 0), goI] at h
  obtain rfl := Option.some.inj h; simp
 | succ m ih =>
  intro ws ps hm h
  match ws with
  | [] => rw [goI] at h; obtain rfl := Option.some.inj h; simp
  | [_] => rw [goI] at h; cases h
  | x :: w :: r =>
   rw [goI] at h
   split at h
   ·cases hw : wordI w with
    | none => rw [hw] at h; cases h
    | some p =>
     rw [hw] at h
     obtain ⟨l, hl, rfl⟩ := Option.map_eq_some_iff.1 h
     intro q hq
     rcases List.mem_cons.1 hq with rfl | hq
     ·exact sgn_small (sgnOf_one x) (wordI_small hw)
     ·exact ih r l (by simp only [List.length_cons] at hm; omega) hl q hq
   ·cases h
theorem partsL_small {ws : List ByteArray} {ps : List (Int × ByteArray)} (h : partsL ws = some ps) : ∀ p ∈ ps, smallN p.1 := by
 cases ws with
 | nil => rw [partsL] at h; obtain rfl := Option.some.inj h; simp
 | cons w r =>
  rw [partsL] at h
  cases hw : wordI (firstS w).2 with
  | none => rw [hw] at h; cases h
  | some p =>
   rw [hw] at h
   obtain ⟨l, hl, rfl⟩ := Option.map_eq_some_iff.1 h
   intro q hq
   rcases List.mem_cons.1 hq with rfl | hq
   ·exact sgn_small (firstS_one w) (wordI_small hw)
   ·exact goI_small _ r l (Nat.le_refl _) hl q hq
theorem foldI_small (ns : List ByteArray) : ∀ (ps : List (Int × ByteArray)) (st st' : Int × List Int), (∀ p ∈ ps, smallN p.1) → smallSt st → foldI ns ps st = some st' → smallSt st' := by
 intro ps
 induction ps with
 | nil => intro st st' _ h e; rw [foldI] at e; obtain rfl := Option.some.inj e; exact h
 | cons p r ih =>
  intro st st' hp h e
  have h1 := hp p (by simp)
  rw [foldI] at e
  split at e
  ·exact ih (p.1, st.2) _ (fun q hq => hp q (by simp [hq])) ⟨h1, h.2⟩ e
  ·split at e
   ·cases e
   ·exact ih (st.1, st.2.set (idxFrom p.2 ns 0).toNat p.1) _ (fun q hq => hp q (by simp [hq])) ⟨h.1, set_small h.2 h1 _⟩ e
theorem digs_dig : ∀ (m u : Nat), u < m → ∀ b ∈ digs u, isDig b = true := by
 intro m
 induction m with
 | zero => intro u h; omega
 | succ m ih =>
  intro u hu b hb
  by_cases h0 : u = 0
  ·subst h0; rw [digs_zero] at hb; simp at hb
  ·rw [digs_pos h0] at hb
   rcases List.mem_append.1 hb with hb | hb
   ·exact ih (u / 10) (by omega) b hb
   ·obtain rfl := List.mem_singleton.1 hb
    unfold isDig
    rw [UInt8.toNat_ofNat']
    exact decide_eq_true (by omega)
theorem itoa_dig (n : Int) (h : 0 ≤ n) : (∀ b ∈ Lib.itoa n, isDig b = true) ∧ Lib.itoa n ≠ [] := by
 by_cases h0 : n = 0
 ·subst h0; rw [itoa_zero]
  exact ⟨fun b hb => by obtain rfl := List.mem_singleton.1 hb; decide, by simp⟩
 ·rw [itoa_digs n h0, if_neg (by omega)]
  obtain ⟨b, r, e, _⟩ := digs_head (u := n.natAbs) (by omega)
  exact ⟨digs_dig _ _ (Nat.lt_succ_self _), by rw [e]; simp⟩
theorem amt_dig (c : Int) : (∀ b ∈ (fl_amt c).data.toList, isDig b = true) ∧ (fl_amt c).data.toList ≠ [] := itoa_dig _ (by split <;> omega)
def goodName (n : ByteArray) : Prop := 32 ∉ n.data.toList ∧ ∀ b, n.data.toList.head? = some b → isDig b = false ∧ b ≠ 45
theorem good_nil : goodName ⟨#[]⟩ := ⟨by simp, by simp⟩
theorem good_valid {n : ByteArray} (h : validName n = true) : goodName n ∧ n ≠ ⟨#[]⟩ := by
 have hs := validName_size h
 have hb : ∀ (i : Nat) (hi : i < n.data.toList.length), (97 ≤ (n.data.toList[i]).toNat ∧ (n.data.toList[i]).toNat ≤ 122) ∨ ((48 ≤ (n.data.toList[i]).toNat ∧ (n.data.toList[i]).toNat ≤ 57) ∧ 0 < i) := by
  intro i hi
  unfold validName at h
  simp only [Bool.and_eq_true] at h
  have h1 := (allFrom_iff _ _ _).1 h.1.1.1 i (by omega) (by rw [size_len]; omega)
  have h2 := okByte_yes h1
  rw [bt_cell n i hi] at h2
  omega
 refine ⟨⟨fun hm => ?_, fun b hb0 => ?_⟩, fun e => by subst e; exact absurd hs.1 (by decide)⟩
 ·obtain ⟨i, hi, e⟩ := List.mem_iff_getElem.1 hm
  have := hb i hi
  rw [e] at this
  have e32 : (32 : UInt8).toNat = 32 := rfl
  rw [e32] at this
  omega
 ·have hl : 0 < n.data.toList.length := by rw [← size_len]; omega
  have h0 := hb 0 hl
  have e : n.data.toList[0] = b := by
   rw [List.head?_eq_getElem?, List.getElem?_eq_getElem hl] at hb0
   exact Option.some.inj hb0
  rw [e] at h0
  have h1 : 97 ≤ b.toNat := by omega
  refine ⟨?_, fun e => ?_⟩
  ·unfold isDig; exact decide_eq_false (by omega)
  ·subst e; exact absurd h1 (by decide)
theorem good_take {n : ByteArray} (h : goodName n) : n.data.toList.takeWhile isDig = [] ∧ n.data.toList.dropWhile isDig = n.data.toList := by
 have h2 := h.2
 cases hd : n.data.toList with
 | nil => exact ⟨rfl, rfl⟩
 | cons b r =>
  have := (h2 b (by rw [hd]; rfl)).1
  simp [List.takeWhile, List.dropWhile, this]
def bodyT (c : Int) (nm : ByteArray) : ByteArray := (bif decide (fl_amt c = ⟨#[49]⟩) && decide (nm ≠ ⟨#[]⟩) then (⟨#[]⟩ : ByteArray) else fl_amt c) ++ nm
theorem stepV_first (c : Int) (nm : ByteArray) : stepV c nm ⟨#[]⟩ = (if c < 0 then (⟨#[45]⟩ : ByteArray) else ⟨#[]⟩) ++ bodyT c nm := by
 unfold stepV fl_term bodyT
 rw [decide_eq_true rfl, cond_true]
 by_cases h : c < 0
 ·rw [decide_eq_true h, if_pos h]; rfl
 ·rw [decide_eq_false h, if_neg h]; rfl
theorem stepV_next (c : Int) (nm : ByteArray) {out : ByteArray} (ho : out ≠ ⟨#[]⟩) : stepV c nm out = out ++ ((⟨[32, if c < 0 then 45 else 43, 32].toArray⟩ : ByteArray) ++ bodyT c nm) := by
 unfold stepV fl_term bodyT
 rw [decide_eq_false ho, cond_false]
 by_cases h : c < 0
 ·rw [decide_eq_true h, if_pos h, cond_true, ByteArray.append_assoc]
 ·rw [decide_eq_false h, if_neg h, cond_false, ByteArray.append_assoc]
theorem data_app (a b : ByteArray) : (a ++ b).data.toList = a.data.toList ++ b.data.toList := by rw [ByteArray.data_append, Array.toList_append]
theorem bodyT_data (c : Int) (nm : ByteArray) : (bodyT c nm).data.toList = (if fl_amt c = ⟨#[49]⟩ ∧ nm ≠ ⟨#[]⟩ then [] else (fl_amt c).data.toList) ++ nm.data.toList := by
 unfold bodyT
 rw [data_app]
 by_cases h1 : fl_amt c = ⟨#[49]⟩
 ·by_cases h2 : nm = ⟨#[]⟩
  ·rw [if_neg (fun x => x.2 h2), decide_eq_true h1, decide_eq_false (fun x => x h2)]; rfl
  ·rw [if_pos ⟨h1, h2⟩, decide_eq_true h1, decide_eq_true h2]; rfl
 ·rw [if_neg (fun x => h1 x.1), decide_eq_false h1]; rfl
theorem dig_ne {b : UInt8} (h : isDig b = true) : b ≠ 32 ∧ b ≠ 45 := by
 constructor <;> (intro e; subst e; exact absurd h (by decide))
theorem bodyT_good (c : Int) {nm : ByteArray} (h : goodName nm) : 32 ∉ (bodyT c nm).data.toList ∧ (bodyT c nm).data.toList ≠ [] ∧ ∀ b, (bodyT c nm).data.toList.head? = some b → b ≠ 45 := by
 obtain ⟨d1, d2⟩ := amt_dig c
 rw [bodyT_data]
 by_cases hc : fl_amt c = ⟨#[49]⟩ ∧ nm ≠ ⟨#[]⟩
 ·rw [if_pos hc, List.nil_append]
  refine ⟨h.1, fun e => hc.2 (ByteArray.ext (Array.toList_inj.1 e)), fun b hb => (h.2 b hb).2⟩
 ·rw [if_neg hc]
  refine ⟨fun hm => ?_, fun e => d2 (List.append_eq_nil_iff.1 e).1, fun b hb => ?_⟩
  ·rcases List.mem_append.1 hm with hm | hm
   ·exact (dig_ne (d1 _ hm)).1 rfl
   ·exact h.1 hm
  ·cases hd : (fl_amt c).data.toList with
   | nil => exact absurd hd d2
   | cons x r =>
    rw [hd] at hb d1
    obtain rfl : x = b := by simpa using hb
    exact (dig_ne (d1 x (by simp))).2
theorem amt_read {c : Int} (h : smallN c) : readN (fl_amt c) = ((if c < 0 then -c else c), true) := by
 have e : readL 12 (fl_amt c) = ((if c < 0 then -c else c), true) := readL_itoa 12 _ (by unfold smallN at h; split <;> omega)
 unfold readN
 rw [e]
 exact if_pos ⟨rfl, by show 0 ≤ (if c < 0 then -c else c); split <;> omega, by show (if c < 0 then -c else c) ≤ 999999; unfold smallN at h; split <;> omega⟩
theorem amt_one {c : Int} (h : fl_amt c = ⟨#[49]⟩) : (if c < 0 then -c else c) = 1 := by
 have h1 : Lib.itoa (if c < 0 then -c else c) = [49] := congrArg (fun s : ByteArray => s.data.toList) h
 have h2 := atoi_itoa (if c < 0 then -c else c)
 rw [h1] at h2
 have h3 : Lib.atoi [49] = some 1 := by decide
 rw [h3] at h2
 exact (Option.some.inj h2).symm
theorem word_body {c : Int} {nm : ByteArray} (hc : smallN c) (h : goodName nm) : wordS (bodyT c nm) = ((if c < 0 then -c else c), nm) ∧ wordI (bodyT c nm) = some ((if c < 0 then -c else c), nm) := by
 obtain ⟨d1, d2⟩ := amt_dig c
 obtain ⟨t1, t2⟩ := good_take h
 by_cases hh : fl_amt c = ⟨#[49]⟩ ∧ nm ≠ ⟨#[]⟩
 ·have hb : bodyT c nm = nm := by
   apply ByteArray.ext; apply Array.toList_inj.1; rw [bodyT_data, if_pos hh, List.nil_append]
  have hn : (numS nm).size = 0 := by unfold numS; rw [t1]; rfl
  have hz : nm.size ≠ 0 := fun e => hh.2 (by apply ByteArray.ext; apply Array.toList_inj.1; rw [size_len] at e; exact List.eq_nil_of_length_eq_zero e)
  rw [hb, amt_one hh.1]
  unfold wordS wordI
  rw [if_pos hn, if_pos ⟨hn, hz⟩]; exact ⟨rfl, rfl⟩
 ·have hb : (bodyT c nm).data.toList = (fl_amt c).data.toList ++ nm.data.toList := by rw [bodyT_data, if_neg hh]
  have hn : numS (bodyT c nm) = fl_amt c := by
   unfold numS; rw [hb, List.takeWhile_append_of_pos d1, t1, List.append_nil]
  have hr : restS (bodyT c nm) = nm := by
   unfold restS; rw [hb, List.dropWhile_append_of_pos d1, t2]
  have hz : (fl_amt c).size ≠ 0 := fun e => d2 (by rw [size_len] at e; exact List.eq_nil_of_length_eq_zero e)
  constructor
  ·unfold wordS
   rw [hn, hr, amt_read hc, if_neg hz]; rfl
  ·unfold wordI
   rw [hn, hr, amt_read hc, if_neg (fun x => hz x.1)]; rfl
theorem splitL_snoc (c : UInt8) (b : List UInt8) (hb : c ∉ b) : ∀ a : List UInt8, splitL c (a ++ c :: b) = splitL c a ++ [b]
 | [] => by simp [splitL, splitL_notin c b hb]
 | x :: a => by
  have ih := splitL_snoc c b hb a
  rw [List.cons_append, splitL, splitL]
  by_cases h : x = c
  ·rw [if_pos h, if_pos h, ih]; rfl
  ·rw [if_neg h, if_neg h, ih]
   cases e : splitL c a with
   | nil => exact absurd e (splitL_ne c a)
   | cons y t => rfl
theorem splitS_next (c : Int) {nm out : ByteArray} (ho : out ≠ ⟨#[]⟩) (h : goodName nm) : splitS 32 (stepV c nm out) = splitS 32 out ++ [(if c < 0 then (⟨#[45]⟩ : ByteArray) else ⟨#[43]⟩), bodyT c nm] := by
 unfold splitS
 rw [stepV_next c nm ho, data_app, data_app]
 show List.map _ (splitL 32 (out.data.toList ++ ([32, if c < 0 then 45 else 43, 32] ++ (bodyT c nm).data.toList))) = _
 rw [show out.data.toList ++ ([32, if c < 0 then 45 else 43, 32] ++ (bodyT c nm).data.toList) = (out.data.toList ++ 32 :: [if c < 0 then 45 else 43]) ++ 32 :: (bodyT c nm).data.toList from by simp, splitL_snoc 32 _ (bodyT_good c h).1, splitL_snoc 32 _ (by split <;> decide)]
 rw [List.map_append, List.map_append, List.append_assoc]
 congr 1
 by_cases hc : c < 0
 ·rw [if_pos hc, if_pos hc]; rfl
 ·rw [if_neg hc, if_neg hc]; rfl
theorem stepV_ne (c : Int) {nm : ByteArray} (out : ByteArray) (h : goodName nm) : stepV c nm out ≠ ⟨#[]⟩ := by
 have hb := (bodyT_good c h).2.1
 intro e
 have e' : (stepV c nm out).data.toList = [] := by rw [e]
 unfold stepV fl_term at e'
 rw [data_app] at e'
 exact hb (List.append_eq_nil_iff.1 e').2
def termsOf (a : Int) : List Int → List ByteArray → List (Int × ByteArray)
 | c :: cs, n :: ns => if c = 0 then termsOf a cs ns else (c, n) :: termsOf a cs ns
 | _, _ => if a = 0 then [] else [(a, ⟨#[]⟩)]
theorem termsOf_nil (a : Int) (ns : List ByteArray) : termsOf a [] ns = if a = 0 then [] else [(a, ⟨#[]⟩)] := by cases ns <;> rfl
def wordsOf : List (Int × ByteArray) → List ByteArray
 | [] => []
 | t :: r => (if t.1 < 0 then (⟨#[45]⟩ : ByteArray) else ⟨#[43]⟩) :: bodyT t.1 t.2 :: wordsOf r
def firstW (t : Int × ByteArray) : ByteArray := (if t.1 < 0 then (⟨#[45]⟩ : ByteArray) else ⟨#[]⟩) ++ bodyT t.1 t.2
theorem split_next (a : Int) : ∀ (cs : List Int) (ns : List ByteArray) (out : ByteArray), cs.length = ns.length → (∀ n ∈ ns, goodName n) → out ≠ ⟨#[]⟩ → splitS 32 (fmtGo a cs ns out) = splitS 32 out ++ wordsOf (termsOf a cs ns) := by
 intro cs
 induction cs with
 | nil =>
  intro ns out _ _ ho
  rw [fmtGo_nil, termsOf_nil]
  by_cases ha : a = 0
  ·rw [if_pos ha, if_pos ha, if_neg ho]; simp [wordsOf]
  ·rw [if_neg ha, if_neg ha, splitS_next a ho good_nil]; rfl
 | cons c cs ih =>
  intro ns out hl hn ho
  cases ns with
  | nil => simp at hl
  | cons n ns =>
   have hg := hn n (by simp)
   rw [fmtGo, termsOf]
   by_cases hc : c = 0
   ·rw [if_pos hc, if_pos hc]
    exact ih ns out (by simpa using hl) (fun m hm => hn m (by simp [hm])) ho
   ·rw [if_neg hc, if_neg hc, ih ns _ (by simpa using hl) (fun m hm => hn m (by simp [hm])) (stepV_ne c out hg), splitS_next c ho hg, wordsOf, List.append_assoc]; rfl
theorem split_firstW (c : Int) {nm : ByteArray} (h : goodName nm) : splitS 32 (stepV c nm ⟨#[]⟩) = [firstW (c, nm)] := by
 unfold splitS firstW
 rw [stepV_first, splitL_notin 32 _ (by
  rw [data_app]
  intro hm
  rcases List.mem_append.1 hm with hm | hm
  ·by_cases hc : c < 0
   ·rw [if_pos hc] at hm; exact absurd hm (by decide)
   ·rw [if_neg hc] at hm; exact absurd hm (by decide)
  ·exact (bodyT_good c h).1 hm)]
 rfl
def terms1 (ts : List (Int × ByteArray)) : List (Int × ByteArray) := if ts = [] then [(0, ⟨#[]⟩)] else ts
theorem split_first (a : Int) : ∀ (cs : List Int) (ns : List ByteArray), cs.length = ns.length → (∀ n ∈ ns, goodName n) →
  ∃ t r, terms1 (termsOf a cs ns) = t :: r ∧ splitS 32 (fmtGo a cs ns ⟨#[]⟩) = firstW t :: wordsOf r := by
 intro cs
 induction cs with
 | nil =>
  intro ns _ _
  rw [fmtGo_nil, termsOf_nil]
  by_cases ha : a = 0
  ·rw [if_pos ha, if_pos ha, if_pos rfl, ha]
   exact ⟨_, _, rfl, split_firstW 0 good_nil⟩
  ·rw [if_neg ha, if_neg ha]
   exact ⟨_, _, rfl, split_firstW a good_nil⟩
 | cons c cs ih =>
  intro ns hl hn
  cases ns with
  | nil => simp at hl
  | cons n ns =>
   have hg := hn n (by simp)
   rw [fmtGo, termsOf]
   by_cases hc : c = 0
   ·rw [if_pos hc, if_pos hc]
    exact ih ns (by simpa using hl) (fun m hm => hn m (by simp [hm]))
   ·rw [if_neg hc, if_neg hc]
    refine ⟨(c, n), termsOf a cs ns, by simp [terms1], ?_⟩
    rw [split_next a cs ns _ (by simpa using hl) (fun m hm => hn m (by simp [hm])) (stepV_ne c _ hg), split_firstW c hg]; rfl
theorem sgn_mul (c : Int) : (if c < 0 then (-1 : Int) else 1) * (if c < 0 then -c else c) = c := by split <;> omega
theorem sgnOf_sep (c : Int) : sgnOf (if c < 0 then (⟨#[45]⟩ : ByteArray) else ⟨#[43]⟩) = if c < 0 then -1 else 1 := by
 unfold sgnOf
 by_cases h : c < 0
 ·rw [if_pos h, if_pos rfl, if_pos h]
 ·rw [if_neg h, if_neg (by decide), if_neg h]
theorem firstS_firstW {c : Int} {nm : ByteArray} (h : goodName nm) : firstS (firstW (c, nm)) = ((if c < 0 then -1 else 1), bodyT c nm) := by
 obtain ⟨_, hb, h45⟩ := bodyT_good c h
 unfold firstS firstW
 by_cases hc : c < 0
 ·rw [if_pos hc, data_app, if_pos (by rfl), if_pos hc]; rfl
 ·rw [if_neg hc, data_app, if_neg, if_neg hc]
  ·congr 1
  ·intro e
   exact h45 45 e rfl
theorem goS_words (wd : ByteArray → Int × ByteArray) (ns : List ByteArray) : ∀ (ts : List (Int × ByteArray)) (st : Int × List Int), (∀ t ∈ ts, wd (bodyT t.1 t.2) = ((if t.1 < 0 then -t.1 else t.1), t.2)) → goS wd ns (wordsOf ts) st = ts.foldl (stS ns) st := by
 intro ts
 induction ts with
 | nil => intro st _; rfl
 | cons t r ih =>
  intro st h
  have h1 := h t (by simp)
  rw [wordsOf, goS, h1, sgnOf_sep, sgn_mul, ih _ (fun x hx => h x (by simp [hx]))]; rfl
theorem goI_words : ∀ ts : List (Int × ByteArray), (∀ t ∈ ts, smallN t.1 ∧ goodName t.2) → goI (wordsOf ts) = some ts := by
 intro ts
 induction ts with
 | nil => intro _; rfl
 | cons t r ih =>
  intro h
  have h1 := h t (by simp)
  rw [wordsOf, goI, (word_body h1.1 h1.2).2, if_pos (by split <;> simp), ih (fun x hx => h x (by simp [hx])), sgnOf_sep]
  simp only [Option.map_some, sgn_mul]
theorem idxFrom_pre (n : ByteArray) (r : List ByteArray) : ∀ (pre : List ByteArray) (i : Int), n ∉ pre → idxFrom n (pre ++ n :: r) i = i + pre.length := by
 intro pre
 induction pre with
 | nil => intro i _; rw [List.nil_append, idxFrom, if_pos rfl]; simp
 | cons x pre ih =>
  intro i h
  rw [List.cons_append, idxFrom, if_neg (fun e => h (by simp [e])), ih _ (fun e => h (by simp [e])), List.length_cons]; omega
theorem fold_terms (N : List ByteArray) (hN : ∀ (j : Nat) (h : j < N.length), N[j] ∉ N.take j) (a : Int) : ∀ (cs : List Int) (ns pre : List ByteArray) (P : List Int) (x : Int), N = pre ++ ns → cs.length = ns.length → pre.length = P.length → (∀ n ∈ ns, n ≠ ⟨#[]⟩) →
  (termsOf a cs ns).foldl (stS N) (x, P ++ List.replicate cs.length 0) = ((if a = 0 then x else a), P ++ cs) ∧ foldI N (termsOf a cs ns) (x, P ++ List.replicate cs.length 0) = some ((if a = 0 then x else a), P ++ cs) := by
 intro cs
 induction cs with
 | nil =>
  intro ns pre P x _ _ _ _
  rw [termsOf_nil]
  by_cases ha : a = 0
  ·rw [if_pos ha, if_pos ha]; exact ⟨rfl, rfl⟩
  ·rw [if_neg ha, if_neg ha]
   constructor
   ·show stS N _ (a, ⟨#[]⟩) = _
    unfold stS; rw [if_pos rfl]; rfl
   ·rw [foldI, if_pos rfl]; rfl
 | cons c cs ih =>
  intro ns pre P x hN' hl hp hne
  cases ns with
  | nil => simp at hl
  | cons n ns =>
   have hn := hne n (by simp)
   have hl' : cs.length = ns.length := by simpa using hl
   have hx : n ∉ pre := by
    have := hN pre.length (by rw [hN']; simp)
    simp only [hN'] at this
    simpa using this
   have hi : idxFrom n N 0 = (P.length : Int) := by rw [hN', idxFrom_pre n ns pre 0 hx, hp]; omega
   have ih' := fun v => ih ns (pre ++ [n]) (P ++ [v]) x (by rw [hN']; simp) hl' (by simp [hp]) (fun m hm => hne m (by simp [hm]))
   have er : ∀ v : Int, (P ++ [v]) ++ List.replicate cs.length 0 = P ++ v :: List.replicate cs.length 0 := fun v => by simp
   have ec : ∀ v : Int, (P ++ [v]) ++ cs = P ++ v :: cs := fun v => by simp
   rw [termsOf]
   by_cases hc : c = 0
   ·rw [if_pos hc]
    have := ih' 0
    rw [er, ec] at this
    rw [hc]; exact this
   ·rw [if_neg hc]
    have := ih' c
    rw [er, ec] at this
    have es : (P ++ List.replicate (cs.length + 1) (0 : Int)).set P.length c = P ++ c :: List.replicate cs.length 0 := by
     rw [List.replicate_succ, List.set_append_right _ _ (Nat.le_refl _), Nat.sub_self]; rfl
    rw [List.length_cons]
    constructor
    ·rw [List.foldl_cons]
     have e1 : stS N (x, P ++ List.replicate (cs.length + 1) 0) (c, n) = (x, P ++ c :: List.replicate cs.length 0) := by
      unfold stS
      rw [if_neg hn]
      simp only [hi, Int.toNat_natCast, es]
      rw [if_pos ⟨by omega, by rw [List.length_append, List.length_replicate]; omega⟩]
     rw [e1]; exact this.1
    ·rw [foldI, if_neg hn]
     simp only [hi, Int.toNat_natCast, es]
     rw [if_neg (by omega)]
     exact this.2
theorem distinct_at {xs : List ByteArray} : ∀ (d j : Nat), j + d = xs.length → distinctFrom xs j d = true → ∀ i, j ≤ i → ∀ h : i < xs.length, xs[i] ∉ xs.take i := by
 intro d
 induction d with
 | zero => intro j hj _ i h1 h2; omega
 | succ d ih =>
  intro j hj hd i h1 h2
  have hlt : j < xs.length := by omega
  rw [distinctFrom, List.getElem?_eq_getElem hlt] at hd
  simp only [Bool.and_eq_true, Bool.not_eq_true'] at hd
  by_cases e : i = j
  ·subst e
   intro hm
   rw [(bmem_iff _ _).2 hm] at hd
   exact absurd hd.1 (by decide)
  ·exact ih (j + 1) (by omega) hd.2 i (by omega) h2
theorem termsOf_mem (a : Int) (ha : smallN a) : ∀ (cs : List Int) (ns : List ByteArray), (∀ c ∈ cs, smallN c) → (∀ n ∈ ns, goodName n) → ∀ t ∈ termsOf a cs ns, smallN t.1 ∧ goodName t.2 := by
 have fin : ∀ t ∈ (if a = 0 then [] else [(a, (⟨#[]⟩ : ByteArray))]), smallN t.1 ∧ goodName t.2 := by
  intro t ht
  split at ht
  ·simp at ht
  ·obtain rfl := List.mem_singleton.1 ht; exact ⟨ha, good_nil⟩
 intro cs
 induction cs with
 | nil => intro ns _ _ t ht; rw [termsOf_nil] at ht; exact fin t ht
 | cons c cs ih =>
  intro ns hc hn t ht
  cases ns with
  | nil => exact fin t ht
  | cons n ns =>
   rw [termsOf] at ht
   split at ht
   ·exact ih ns (fun x hx => hc x (by simp [hx])) (fun x hx => hn x (by simp [hx])) t ht
   ·rcases List.mem_cons.1 ht with rfl | ht
    ·exact ⟨hc c (by simp), hn n (by simp)⟩
    ·exact ih ns (fun x hx => hc x (by simp [hx])) (fun x hx => hn x (by simp [hx])) t ht
theorem termsOf_good (a : Int) : ∀ (cs : List Int) (ns : List ByteArray), (∀ n ∈ ns, goodName n) → ∀ t ∈ termsOf a cs ns, goodName t.2 := by
 have fin : ∀ t ∈ (if a = 0 then [] else [(a, (⟨#[]⟩ : ByteArray))]), goodName t.2 := by
  intro t ht
  split at ht
  ·simp at ht
  ·obtain rfl := List.mem_singleton.1 ht; exact good_nil
 intro cs
 induction cs with
 | nil => intro ns _ t ht; rw [termsOf_nil] at ht; exact fin t ht
 | cons c cs ih =>
  intro ns hn t ht
  cases ns with
  | nil => exact fin t ht
  | cons n ns =>
   rw [termsOf] at ht
   split at ht
   ·exact ih ns (fun x hx => hn x (by simp [hx])) t ht
   ·rcases List.mem_cons.1 ht with rfl | ht
    ·exact hn n (by simp)
    ·exact ih ns (fun x hx => hn x (by simp [hx])) t ht
theorem fmt_parts (a : Int) (cs : List Int) (ns : List ByteArray) (s : ByteArray) (h : fmtLin a cs ns = s) (hne : s ≠ ⟨#[]⟩) :
  cs.length = ns.length ∧ ns.length ≤ 8 ∧ (∀ n ∈ ns, goodName n) ∧ ∃ t r, terms1 (termsOf a cs ns) = t :: r ∧ splitS 32 s = firstW t :: wordsOf r ∧
   (t :: r).foldl (stS ns) (0, List.replicate ns.length 0) = (a, cs) ∧ foldI ns (t :: r) (0, List.replicate ns.length 0) = some (a, cs) := by
 unfold fmtLin at h
 by_cases hv : validLin a cs (ns.length : Int) = true ∧ namesOk ns = true
 ·rw [if_pos hv] at h
  obtain ⟨h1, h2, h3, h4⟩ := valid_parts hv.1
  have hok := hv.2
  unfold namesOk at hok
  rw [Bool.and_eq_true, List.all_eq_true] at hok
  have hg : ∀ n ∈ ns, goodName n := fun n hn => (good_valid (hok.1 n hn)).1
  have hg2 : ∀ n ∈ ns, n ≠ ⟨#[]⟩ := fun n hn => (good_valid (hok.1 n hn)).2
  have hN := fun (j : Nat) (hj : j < ns.length) => distinct_at ns.length 0 (by omega) hok.2 j (by omega) hj
  obtain ⟨t, r, e1, e2⟩ := split_first a cs ns h1 hg
  rw [h] at e2
  have hf := fold_terms ns hN a cs ns [] [] 0 rfl h1 rfl hg2
  have ha : (if a = 0 then 0 else a) = a := by split <;> omega
  rw [ha, List.nil_append, List.nil_append, h1] at hf
  refine ⟨h1, by omega, hg, t, r, e1, e2, ?_⟩
  unfold terms1 at e1
  split at e1
  ·rename_i e
   rw [e] at hf
   obtain ⟨rfl, rfl⟩ := List.cons.inj e1
   obtain ⟨f1, f2⟩ := hf
   have f1 : ((0 : Int), List.replicate ns.length (0 : Int)) = (a, cs) := f1
   constructor
   ·show stS ns _ (0, ⟨#[]⟩) = _
    unfold stS; rw [if_pos rfl]; exact f1
   ·rw [foldI, if_pos rfl, foldI]; exact congrArg some f1
  ·rw [← e1]; exact hf
 ·rw [if_neg hv] at h
  exact absurd h.symm hne
theorem terms1_mem {P : Int × ByteArray → Prop} {ts : List (Int × ByteArray)} (h : ∀ x ∈ ts, P x) (h0 : P (0, ⟨#[]⟩)) : ∀ x ∈ terms1 ts, P x := by
 intro x hx
 unfold terms1 at hx
 split at hx
 ·obtain rfl := List.mem_singleton.1 hx; exact h0
 ·exact h x hx
theorem allS_words {wd : ByteArray → Int × ByteArray} {ns : List ByteArray} {z : List Int} {t : Int × ByteArray} {r : List (Int × ByteArray)} (hg : goodName t.2) (hw : ∀ x ∈ t :: r, wd (bodyT x.1 x.2) = ((if x.1 < 0 then -x.1 else x.1), x.2)) : allS wd ns z (firstW t :: wordsOf r) = (t :: r).foldl (stS ns) (0, z) := by
 rw [allS, show t = (t.1, t.2) from rfl, firstS_firstW hg]
 simp only
 rw [hw t (by simp), goS_words wd ns r _ (fun x hx => hw x (by simp [hx]))]
 simp only [sgn_mul]; rfl
theorem round_trip (a : Int) (cs : List Int) (ns : List ByteArray) (s : ByteArray) (hs : smallSt (a, cs)) (h : fmtLin a cs ns = s) (hne : s ≠ ⟨#[]⟩) :
  cs.length = ns.length ∧ ns.length ≤ 8 ∧ allS wordS ns (List.replicate ns.length 0) (splitS 32 s) = (a, cs) ∧ ∃ ps, partsL (splitS 32 s) = some ps ∧ foldI ns ps (0, List.replicate ns.length 0) = some (a, cs) := by
 obtain ⟨h1, h2, hg, t, r, e1, e2, f1, f2⟩ := fmt_parts a cs ns s h hne
 have hm : ∀ x ∈ t :: r, smallN x.1 ∧ goodName x.2 := by
  rw [← e1]
  exact terms1_mem (P := fun x => smallN x.1 ∧ goodName x.2) (termsOf_mem a hs.1 cs ns hs.2 hg) ⟨⟨by decide, by decide⟩, good_nil⟩
 have ht := hm t (by simp)
 refine ⟨h1, h2, ?_, t :: r, ?_, f2⟩
 ·rw [e2, allS_words ht.2 (fun x hx => (word_body (hm x hx).1 (hm x hx).2).1)]; exact f1
 ·rw [e2, partsL, show t = (t.1, t.2) from rfl, firstS_firstW ht.2]
  simp only
  rw [(word_body ht.1 ht.2).2, goI_words r (fun x hx => hm x (by simp [hx]))]
  simp only [Option.map_some, sgn_mul]
def wordG (w : ByteArray) : Int × ByteArray := if (numS w).size = 0 then (1, w) else ((Lib.atoi (numS w).data.toList).getD 0, restS w)
theorem wordG_body (c : Int) {nm : ByteArray} (h : goodName nm) : wordG (bodyT c nm) = ((if c < 0 then -c else c), nm) := by
 obtain ⟨d1, d2⟩ := amt_dig c
 obtain ⟨t1, t2⟩ := good_take h
 by_cases hh : fl_amt c = ⟨#[49]⟩ ∧ nm ≠ ⟨#[]⟩
 ·have hb : bodyT c nm = nm := by
   apply ByteArray.ext; apply Array.toList_inj.1; rw [bodyT_data, if_pos hh, List.nil_append]
  have hn : (numS nm).size = 0 := by unfold numS; rw [t1]; rfl
  rw [hb, amt_one hh.1]
  unfold wordG
  rw [if_pos hn]
 ·have hb : (bodyT c nm).data.toList = (fl_amt c).data.toList ++ nm.data.toList := by rw [bodyT_data, if_neg hh]
  have hn : numS (bodyT c nm) = fl_amt c := by
   unfold numS; rw [hb, List.takeWhile_append_of_pos d1, t1, List.append_nil]
  have hr : restS (bodyT c nm) = nm := by
   unfold restS; rw [hb, List.dropWhile_append_of_pos d1, t2]
  have hz : (fl_amt c).size ≠ 0 := fun e => d2 (by rw [size_len] at e; exact List.eq_nil_of_length_eq_zero e)
  have ha : Lib.atoi (fl_amt c).data.toList = some (if c < 0 then -c else c) := atoi_itoa _
  unfold wordG
  rw [hn, hr, if_neg hz, ha]; rfl
theorem fmt_inj {a b : Int} {cs ds : List Int} {ns : List ByteArray} {s : ByteArray} (h : fmtLin a cs ns = s) (h' : fmtLin b ds ns = s) (hne : s ≠ ⟨#[]⟩) : (a, cs) = (b, ds) := by
 have key : ∀ (a : Int) (cs : List Int), fmtLin a cs ns = s → allS wordG ns (List.replicate ns.length 0) (splitS 32 s) = (a, cs) := by
  intro a cs h
  obtain ⟨h1, h2, hg, t, r, e1, e2, f1, f2⟩ := fmt_parts a cs ns s h hne
  have hm : ∀ x ∈ t :: r, goodName x.2 := by
   rw [← e1]
   exact terms1_mem (P := fun x => goodName x.2) (termsOf_good a cs ns hg) good_nil
  rw [e2, allS_words (hm t (by simp)) (fun x hx => wordG_body x.1 (hm x hx))]; exact f1
 exact (key a cs h).symm.trans (key b ds h')
def ansP (s : ByteArray) (ns : List ByteArray) (st : Int × List Int) : (Int × List Int) × Bool := if s ≠ ⟨#[]⟩ ∧ fmtLin st.1 st.2 ns = s then (st, true) else ((0, []), false)
def parseLin (s : ByteArray) (ns : List ByteArray) : (Int × List Int) × Bool := ansP s ns (allS wordS ns (List.replicate (min ns.length 8) 0) (splitS 32 s))
def partsI (s : ByteArray) (ns : List ByteArray) : Option (Int × List Int) := (partsL (splitS 32 s)).bind fun ps => if 8 < ns.length then none else foldI ns ps (0, List.replicate ns.length 0)
theorem zeros_small (n : Nat) : ∀ c ∈ List.replicate n (0 : Int), smallN c := by
 intro c hc
 obtain ⟨_, rfl⟩ := List.mem_replicate.1 hc
 exact ⟨by decide, by decide⟩
theorem parse_same (s : ByteArray) (ns : List ByteArray) : (match partsI s ns with
  | none => ((0, []), false)
  | some st => ansP s ns st) = parseLin s ns := by
 unfold parseLin
 generalize hst : allS wordS ns (List.replicate (min ns.length 8) 0) (splitS 32 s) = st
 have hsm : smallSt st := by rw [← hst]; exact allS_small ns _ (zeros_small _) _
 by_cases hacc : s ≠ ⟨#[]⟩ ∧ fmtLin st.1 st.2 ns = s
 ·obtain ⟨h1, h2, _, ps, h4, h5⟩ := round_trip st.1 st.2 ns s hsm hacc.2 hacc.1
  unfold partsI
  rw [h4, Option.bind_some, if_neg (by omega), h5]
 ·have hr : ansP s ns st = ((0, []), false) := if_neg hacc
  rw [hr]
  cases hp : partsI s ns with
  | none => rfl
  | some st' =>
   show ansP s ns st' = _
   by_cases h' : s ≠ ⟨#[]⟩ ∧ fmtLin st'.1 st'.2 ns = s
   ·exfalso
    have hsm' : smallSt st' := by
     unfold partsI at hp
     obtain ⟨ps, hps, hp⟩ := Option.bind_eq_some_iff.1 hp
     split at hp
     ·cases hp
     ·exact foldI_small ns ps _ _ (partsL_small hps) ⟨⟨(by decide : (-999999 : Int) ≤ 0), (by decide : (0 : Int) ≤ 999999)⟩, zeros_small _⟩ hp
    obtain ⟨h1, h2, h3, _⟩ := round_trip st'.1 st'.2 ns s hsm' h'.2 h'.1
    rw [show min ns.length 8 = ns.length by omega] at hst
    rw [hst] at h3
    rw [show st' = (st'.1, st'.2) from rfl, ← h3] at h'
    exact hacc h'
   ·exact if_neg h'
theorem ansP_len (s : ByteArray) (ns : List ByteArray) (st : Int × List Int) : (ansP s ns st).1.2.length ≤ 8 := by
 unfold ansP
 split
 ·rename_i h
  unfold fmtLin at h
  by_cases hv : validLin st.1 st.2 (ns.length : Int) = true ∧ namesOk ns = true
  ·have := valid_parts hv.1
   show st.2.length ≤ 8
   omega
  ·rw [if_neg hv] at h
   exact absurd h.2.symm h.1
 ·simp
theorem parseLin_len (s : ByteArray) (ns : List ByteArray) : (parseLin s ns).1.2.length ≤ 8 := ansP_len s ns _
theorem take_while (p : UInt8 → Bool) (l : List UInt8) : l.take (l.takeWhile p).length = l.takeWhile p := by
 have h := List.takeWhile_append_dropWhile (p := p) (l := l)
 conv => lhs; rhs; rw [← h]
 exact List.take_left' rfl
theorem drop_while (p : UInt8 → Bool) (l : List UInt8) : l.drop (l.takeWhile p).length = l.dropWhile p := by
 have h := List.takeWhile_append_dropWhile (p := p) (l := l)
 conv => lhs; rhs; rw [← h]
 exact List.drop_left' rfl
theorem extract_take (w : ByteArray) (n : Nat) : w.extract 0 n = ⟨(w.data.toList.take n).toArray⟩ := by
 apply ByteArray.ext; apply Array.toList_inj.1
 rw [ByteArray.data_extract, Array.toList_extract, List.extract_eq_take_drop, Nat.sub_zero, List.drop_zero]
theorem extract_drop (w : ByteArray) (n : Nat) : w.extract n w.size = ⟨(w.data.toList.drop n).toArray⟩ := by
 apply ByteArray.ext; apply Array.toList_inj.1
 rw [ByteArray.data_extract, Array.toList_extract, List.extract_eq_take_drop, size_len]
 exact List.take_of_length_le (by rw [List.length_drop]; exact Nat.le_refl _)
theorem extract_num (w : ByteArray) {j : Nat} (h : (w.data.toList.takeWhile isDig).length = j) : w.extract 0 j = numS w := by
 rw [extract_take, ← h, take_while]; rfl
theorem extract_rest (w : ByteArray) {j : Nat} (h : (w.data.toList.takeWhile isDig).length = j) : w.extract j w.size = restS w := by
 rw [extract_drop, ← h, drop_while]; rfl
theorem isDig_bt (w : ByteArray) {j : Nat} (h : j < w.data.toList.length) : isDig (w.data.toList[j]) = true ↔ (48 ≤ bt w (j : Int) ∧ bt w (j : Int) ≤ 57) := by
 rw [bt_cell w j h]; unfold isDig; rw [decide_eq_true_iff]; omega
theorem num_step (w : ByteArray) {j : Nat} (h : j < w.data.toList.length) (hd : isDig (w.data.toList[j]) = true) : (w.data.toList.drop j).takeWhile isDig = w.data.toList[j] :: (w.data.toList.drop (j + 1)).takeWhile isDig := by
 rw [List.drop_eq_getElem_cons h, List.takeWhile_cons, if_pos hd]
theorem num_stop (w : ByteArray) {j : Nat} (h : j < w.data.toList.length) (hd : ¬ isDig (w.data.toList[j]) = true) : (w.data.toList.drop j).takeWhile isDig = [] := by
 rw [List.drop_eq_getElem_cons h, List.takeWhile_cons, if_neg hd]
theorem sgn_wrap {x n : Int} (hx : x = 1 ∨ x = -1) (h : 0 ≤ n ∧ n ≤ 999999) : wrap64 (x * n) = x * n := by
 have := sgn_small hx h
 unfold smallN at this
 exact wrap_id (by omega) (by omega)
theorem stS_len (ns : List ByteArray) (st : Int × List Int) (p : Int × ByteArray) : (stS ns st p).2.length = st.2.length := by
 unfold stS
 split
 ·rfl
 ·split
  ·simp
  ·rfl
theorem spec_l1Read_l0 (s t : ByteArray) (neg : Bool) (hl : t.size ≤ 12) : ∀ (d j k acc : Nat), j + d = t.size → d + 21 < k → acc < 10 ^ j →
  spec_l1Read.l0 k s neg t (acc : Int) (j : Int) = some (match Lib.decFrom acc (t.data.toList.drop j) with
   | none => ((0 : Int), false)
   | some m => if (⟨(Lib.itoa (if neg = true then -(m : Int) else (m : Int))).toArray⟩ : ByteArray) = s then (if neg = true then -(m : Int) else (m : Int), true) else (0, false)) := by
 intro d
 induction d with
 | zero =>
  intro j k acc hj hk ha
  obtain ⟨k, rfl⟩ := succ_of hk
  have hb : acc < 10 ^ 12 := Nat.lt_of_lt_of_le ha (Nat.pow_le_pow_right (by omega) (by omega))
  rw [spec_l1Read.l0, if_neg (by omega), List.drop_eq_nil_of_le (by rw [size_len] at hj; omega)]
  simp only [Lib.decFrom]
  cases neg
  ·rw [if_neg (by simp), spec_FormatInt_eq _ (by omega) (by omega) k (by omega), Option.bind_some]
   simp only [Bool.false_eq_true, if_false]
   by_cases he : (⟨(Lib.itoa (acc : Int)).toArray⟩ : ByteArray) = s
   ·rw [if_pos ((text_eq _ _).2 he), if_pos he]
   ·rw [if_neg (fun x => he ((text_eq _ _).1 x)), if_neg he]
  ·rw [if_pos rfl, wrap_id (by omega) (by omega), spec_FormatInt_eq _ (by omega) (by omega) k (by omega), Option.bind_some]
   simp only [if_true]
   by_cases he : (⟨(Lib.itoa (-(acc : Int))).toArray⟩ : ByteArray) = s
   ·rw [if_pos ((text_eq _ _).2 he), if_pos he]
   ·rw [if_neg (fun x => he ((text_eq _ _).1 x)), if_neg he]
 | succ d ih =>
  intro j k acc hj hk ha
  obtain ⟨k, rfl⟩ := succ_of hk
  have hlt : j < t.data.toList.length := by rw [← size_len]; omega
  have hb : acc < 10 ^ 11 := Nat.lt_of_lt_of_le ha (Nat.pow_le_pow_right (by omega) (by omega))
  have hc := bt_cell t j hlt
  rw [spec_l1Read.l0, if_pos (by omega), if_pos (by omega), hc, List.drop_eq_getElem_cons hlt]
  simp only [Lib.decFrom, Lib.digitVal]
  have hu := (t.data.toList[j]).toNat_lt
  by_cases h1 : 48 ≤ (t.data.toList[j]).toNat ∧ (t.data.toList[j]).toNat ≤ 57
  ·rw [if_pos h1, if_neg (by omega), if_neg (by omega)]
   have e : wrap64 ((wrap64 (10 * (acc : Int))) + ((((t.data.toList[j]).toNat : Int) - 48) % 256)) = ((acc * 10 + ((t.data.toList[j]).toNat - 48) : Nat) : Int) := by
    rw [wrap_id (n := 10 * (acc : Int)) (by omega) (by omega), wrap_id (by omega) (by omega)]; omega
   rw [e, wrap_succ (n := 12) (by omega) (by omega)]
   exact ih (j + 1) k _ (by omega) (by omega) (by rw [Nat.pow_succ]; omega)
  ·rw [if_neg h1]
   by_cases h2 : (t.data.toList[j]).toNat < 48
   ·rw [if_pos (by omega)]
   ·rw [if_neg (by omega), if_pos (by omega)]
theorem spec_l1Read_j1 (L : Nat) (hL : 1 ≤ L ∧ L ≤ 12) (s t : ByteArray) (neg : Bool) (k : Nat) (hk : 50 < k) :
  spec_l1Read.j1 k s (L : Int) neg t = some (if 1 ≤ t.size ∧ t.size ≤ L then (match Lib.decFrom 0 t.data.toList with
   | none => ((0 : Int), false)
   | some m => if (⟨(Lib.itoa (if neg = true then -(m : Int) else (m : Int))).toArray⟩ : ByteArray) = s then (if neg = true then -(m : Int) else (m : Int), true) else (0, false)) else (0, false)) := by
 obtain ⟨k, rfl⟩ := succ_of hk
 obtain ⟨k, rfl⟩ := succ_of (show 48 < k by omega)
 rw [spec_l1Read.j1]
 by_cases h1 : (t.size : Int) < 1
 ·rw [if_pos h1, spec_l1Read.j2, if_pos rfl, if_neg (by omega)]
 ·rw [if_neg h1, spec_l1Read.j2]
  by_cases h2 : (t.size : Int) > (L : Int)
  ·rw [if_pos (decide_eq_true h2), if_neg (by omega)]
  ·rw [if_neg (by simpa using h2), if_pos (by omega)]
   have := spec_l1Read_l0 s t neg (by omega) t.size 0 k 0 (by omega) (by omega) (by simp)
   rw [List.drop_zero] at this
   exact this
theorem readL_sign (L : Nat) (hL : 1 ≤ L) (s t : ByteArray) (neg : Bool) (hd : s.data.toList = if neg = true then 45 :: t.data.toList else t.data.toList) (hs : neg = false → ∀ b r, t.data.toList = b :: r → b.toNat ≠ 45) :
  (if 1 ≤ t.size ∧ t.size ≤ L then (match Lib.decFrom 0 t.data.toList with
   | none => ((0 : Int), false)
   | some m => if (⟨(Lib.itoa (if neg = true then -(m : Int) else (m : Int))).toArray⟩ : ByteArray) = s then (if neg = true then -(m : Int) else (m : Int), true) else (0, false)) else (0, false)) = readL L s := by
 -- a number that is written as s
 have key : ∀ n : Int, (⟨(Lib.itoa n).toArray⟩ : ByteArray) = s → n.natAbs < 10 ^ L → (1 ≤ t.size ∧ t.size ≤ L) ∧ Lib.decFrom 0 t.data.toList = some n.natAbs ∧ n = (if neg = true then -(n.natAbs : Int) else (n.natAbs : Int)) := by
  intro n hn hb
  have hl := data_of hn
  rw [hd] at hl
  rw [size_len]
  cases neg with
  | true =>
   simp only [if_true] at hl ⊢
   by_cases h0 : n < 0
   ·have hi := itoa_digs n (by omega)
    rw [if_pos h0] at hi
    rw [hi] at hl
    have ht : t.data.toList = digs n.natAbs := by injection hl
    have hlen := (digs_len_iff L n.natAbs).2 hb
    obtain ⟨b, r, e, _⟩ := digs_head (u := n.natAbs) (by omega)
    refine ⟨⟨by rw [ht, e]; simp, by rw [ht]; exact hlen⟩, by rw [ht]; exact decFrom_digs _ _ (Nat.lt_succ_self _), by omega⟩
   ·exfalso
    by_cases hz : n = 0
    ·subst hz; rw [itoa_zero] at hl; injection hl with h1 _; exact absurd h1 (by decide)
    ·rw [itoa_digs n hz, if_neg h0] at hl
     obtain ⟨b, r, e, b0, _⟩ := digs_head (u := n.natAbs) (by omega)
     rw [e] at hl
     injection hl with h1 _
     rw [← h1] at b0
     exact absurd b0 (by decide)
  | false =>
   simp only [Bool.false_eq_true, if_false] at hl ⊢
   by_cases h0 : n < 0
   ·exfalso
    have hi := itoa_digs n (by omega)
    rw [if_pos h0] at hi
    rw [hi] at hl
    exact hs rfl 45 (digs n.natAbs) hl rfl
   ·have hlen := (itoa_len_pos (by omega : 0 ≤ n) L hL).2 hb
    have hpos : 1 ≤ (Lib.itoa n).length := by
     by_cases hz : n = 0
     ·subst hz; rw [itoa_zero]; simp
     ·rw [itoa_digs n hz, if_neg h0]
      obtain ⟨b, r, e, _⟩ := digs_head (u := n.natAbs) (by omega)
      rw [e]; simp
    refine ⟨⟨by rw [hl]; exact hpos, by rw [hl]; exact hlen⟩, ?_, by omega⟩
    rw [hl]
    by_cases hz : n = 0
    ·subst hz; rw [itoa_zero]; rfl
    ·rw [itoa_digs n hz, if_neg h0]; exact decFrom_digs _ _ (Nat.lt_succ_self _)
 by_cases ht : 1 ≤ t.size ∧ t.size ≤ L
 ·rw [if_pos ht]
  cases hdec : Lib.decFrom 0 t.data.toList with
  | none =>
   rw [readL_none]
   intro n hn he
   have := (key n he hn).2.1
   rw [hdec] at this; cases this
  | some m =>
   have hm : m < 10 ^ L := by
    have h1 := Lib.decFrom_lt _ _ _ hdec
    rw [← size_len] at h1
    have h2 : 10 ^ t.size ≤ 10 ^ L := Nat.pow_le_pow_right (by omega) ht.2
    omega
   show (if (⟨(Lib.itoa (if neg = true then -(m : Int) else (m : Int))).toArray⟩ : ByteArray) = s then (if neg = true then -(m : Int) else (m : Int), true) else (0, false)) = readL L s
   by_cases he : (⟨(Lib.itoa (if neg = true then -(m : Int) else (m : Int))).toArray⟩ : ByteArray) = s
   ·rw [if_pos he]
    have ha : Lib.atoi s.data.toList = some (if neg = true then -(m : Int) else (m : Int)) := by rw [data_of he]; exact atoi_itoa _
    rw [readL_at ha (by cases neg <;> simp <;> omega), if_pos he]
   ·rw [if_neg he, readL_none]
    intro n hn h'
    obtain ⟨_, h2, h3⟩ := key n h' hn
    rw [hdec] at h2
    obtain rfl := Option.some.inj h2
    rw [← h3] at he
    exact he h'
 ·rw [if_neg ht, readL_none]
  intro n hn he
  exact ht (key n he hn).1
theorem spec_l1Read_eq (L : Nat) (hL : 1 ≤ L ∧ L ≤ 12) (s : ByteArray) (k : Nat) (hk : 60 < k) : spec_l1Read.f k s (L : Int) = some (readL L s) := by
 unfold spec_l1Read.f
 obtain ⟨k, rfl⟩ := succ_of hk
 by_cases h0 : (s.size : Int) > 0
 ·rw [if_pos h0, if_pos (by omega)]
  have hlt : 0 < s.data.toList.length := by rw [← size_len]; omega
  have hb := bt_cell s 0 hlt
  rw [show ((0 : Nat) : Int) = 0 from rfl] at hb
  rw [spec_l1Read.j0]
  by_cases h45 : (bt s 0 == 45) = true
  ·rw [if_pos h45, if_pos (by omega), spec_l1Read_j1 L hL _ _ _ k (by omega), h45]
   have e45 : s.data.toList[0] = 45 := by
    have := beq_iff_eq.1 h45
    rw [hb] at this
    apply UInt8.toNat_inj.1
    show (s.data.toList[0]).toNat = 45
    omega
   have hex : (s.extract 1 s.size).data.toList = s.data.toList.drop 1 := by
    rw [ByteArray.data_extract, Array.toList_extract, size_len]
    simp only [List.extract_eq_take_drop]
    exact List.take_of_length_le (by rw [List.length_drop]; exact Nat.le_refl _)
   rw [readL_sign L hL.1 s (s.extract 1 s.size) true (by
    rw [if_pos rfl, hex, ← e45, List.getElem_cons_drop, List.drop_zero]) (fun h => by cases h)]
  ·rw [if_neg h45, spec_l1Read_j1 L hL _ _ _ k (by omega), Bool.eq_false_iff.2 h45]
   rw [readL_sign L hL.1 s s false (by rw [if_neg (by simp)]) (fun _ b r e hb' => ?_)]
   apply h45
   rw [beq_iff_eq, hb]
   have : s.data.toList[0] = b := by simp [e]
   rw [this]; omega
 ·rw [if_neg h0, spec_l1Read.j0, if_neg (by simp), spec_l1Read_j1 L hL _ _ _ k (by omega)]
  rw [readL_sign L hL.1 s s false (by rw [if_neg (by simp)]) (fun _ b r e => ?_)]
  rw [size_len, e] at h0; simp at h0
theorem spec_ParseNumber_eq (s : ByteArray) (k : Nat) (hk : 60 < k) : spec_ParseNumber.f k s = some (readN s) := by
 unfold spec_ParseNumber.f
 rw [show (6 : Int) = ((6 : Nat) : Int) from rfl, spec_l1Read_eq 6 (by omega) s k hk, Option.bind_some, readN_six]
 generalize readL 6 s = x
 obtain ⟨n, b⟩ := x
 cases b
 ·rw [if_neg (by simp), if_neg (by simp)]
 ·simp only [if_true]
  by_cases h0 : n < 0
  ·rw [if_pos h0, if_neg (fun x => x.2 h0)]
  ·rw [if_neg h0, if_pos ⟨trivial, h0⟩]
theorem spec_l5Word_j1 (w : ByteArray) (j : Nat) (h : (w.data.toList.takeWhile isDig).length = j) (k : Nat) (hk : 62 < k) : spec_l5Word.j1 k w (j : Int) = some (wordS w) := by
 obtain ⟨k, rfl⟩ := succ_of hk
 have hj : j ≤ w.size := by
  rw [← h, size_len]
  have h2 := congrArg List.length (List.takeWhile_append_dropWhile (p := isDig) (l := w.data.toList))
  rw [List.length_append] at h2; omega
 have hz : (numS w).size = j := by unfold numS; rw [ba_size]; exact h
 rw [spec_l5Word.j1, if_pos (by omega), if_pos (by omega), Int.toNat_natCast, extract_num w h, extract_rest w h, spec_ParseNumber_eq _ k (by omega), Option.bind_some]
 unfold wordS
 by_cases h0 : j = 0
 ·rw [if_pos (by omega), if_pos (by omega)]
 ·rw [if_neg (show ¬ (j : Int) = 0 by omega), if_neg (show ¬ (numS w).size = 0 by omega)]
  split <;> rfl
theorem spec_l5Word_l0 (w : ByteArray) (hs : w.size ≤ 4611686018427387904) : ∀ (d j k : Nat), j + d = w.size → d + 63 < k → (w.data.toList.takeWhile isDig).length = j + ((w.data.toList.drop j).takeWhile isDig).length → spec_l5Word.l0 k w (j : Int) = some (wordS w) := by
 intro d
 induction d with
 | zero =>
  intro j k hj hk h
  obtain ⟨k, rfl⟩ := succ_of hk
  rw [spec_l5Word.l0, if_neg (by omega)]
  rw [List.drop_eq_nil_of_le (by rw [← size_len]; omega)] at h
  exact spec_l5Word_j1 w j h k (by omega)
 | succ d ih =>
  intro j k hj hk h
  obtain ⟨k, rfl⟩ := succ_of hk
  have hlt : j < w.data.toList.length := by rw [← size_len]; omega
  have hw : wrap64 ((j : Int) + 1) = ((j + 1 : Nat) : Int) := by rw [wrap_id (by omega) (by omega)]; rfl
  rw [spec_l5Word.l0, hw, if_pos (by omega), if_pos (by omega)]
  clear hw
  have hd := isDig_bt w hlt
  generalize bt w (j : Int) = B at hd ⊢
  by_cases hh : 48 ≤ B ∧ B ≤ 57
  ·rw [if_pos hh.1, if_pos hh.2]
   rw [num_step w hlt (hd.2 hh), List.length_cons] at h
   exact ih (j + 1) k (by omega) (by omega) (by omega)
  ·rw [num_stop w hlt (fun x => hh (hd.1 x))] at h
   have e := spec_l5Word_j1 w j h k (by omega)
   by_cases h1 : B ≥ 48
   ·rw [if_pos h1, if_neg (fun x => hh ⟨h1, x⟩), e]
   ·rw [if_neg h1, e]
theorem spec_l5Word_eq (w : ByteArray) (hs : w.size ≤ 4611686018427387904) (k : Nat) (hk : w.size + 63 < k) : spec_l5Word.f k w = some (wordS w) := by
 unfold spec_l5Word.f
 have := spec_l5Word_l0 w hs w.size 0 k (by omega) hk (by rw [List.drop_zero]; omega)
 exact this
theorem spec_IndexOf_l0 (xs : List ByteArray) (s : ByteArray) (hn : xs.length ≤ 4611686018427387904) : ∀ (d j k : Nat), j + d = xs.length → d < k →
  spec_IndexOf.l0 k xs s (j : Int) = some (idxFrom s (xs.drop j) (j : Int)) := by
 intro d
 induction d with
 | zero =>
  intro j k hj hk
  obtain ⟨k, rfl⟩ := succ_of hk
  simp only [spec_IndexOf.l0]
  rw [if_neg (by omega), List.drop_eq_nil_of_le (by omega)]; rfl
 | succ d ih =>
  intro j k hj hk
  obtain ⟨k, rfl⟩ := succ_of hk
  have hlt : j < xs.length := by omega
  simp only [spec_IndexOf.l0]
  rw [if_pos (by omega), if_pos (by omega), rdOf_nat _ _ _ hlt, wrap_succ hlt hn, ih (j + 1) k (by omega) (by omega), List.drop_eq_getElem_cons hlt]
  simp only [idxFrom, bytes_eq]
  split <;> rfl
theorem spec_IndexOf_eq (xs : List ByteArray) (s : ByteArray) (hn : xs.length ≤ 4611686018427387904) (k : Nat) (hk : xs.length < k) : spec_IndexOf.f k xs s = some (idxFrom s xs 0) := by
 unfold spec_IndexOf.f
 have := spec_IndexOf_l0 xs s hn xs.length 0 k (by omega) hk
 simpa using this
theorem spec_SplitByte_l0 (s : ByteArray) (n : Int) (h0 : 0 ≤ n) (h1 : n < 256) (hs : s.size ≤ 4294967280) : ∀ (d i k fr : Nat) (out : List ByteArray), i + d = s.size → d + 1 < k → fr ≤ i → out.length ≤ i →
  spec_SplitByte.l0 k s n out (fr : Int) (i : Int) = some (out ++ (match splitL (UInt8.ofNat n.toNat) (s.data.toList.drop i) with
   | [] => []
   | h :: t => ((s.extract fr i) ++ (⟨h.toArray⟩ : ByteArray)) :: t.map fun p => (⟨p.toArray⟩ : ByteArray))) := by
 intro d
 induction d with
 | zero =>
  intro i k fr out hi hk hf ho
  obtain ⟨k, rfl⟩ := succ_of hk
  obtain ⟨k, rfl⟩ := succ_of (show 0 < k by omega)
  rw [spec_SplitByte.l0, if_pos (by omega), if_pos (by omega), if_pos (by omega), if_pos (by omega), if_pos (by omega), wrap_id (by omega) (by omega), spec_SplitByte.l0, if_neg (by omega), List.drop_eq_nil_of_le (by rw [← size_len]; omega)]
  simp only [splitL, List.map_nil, Int.toNat_natCast]
  congr 3
  exact (ByteArray.append_empty).symm
 | succ d ih =>
  intro i k fr out hi hk hf ho
  obtain ⟨k, rfl⟩ := succ_of hk
  have hlt : i < s.data.toList.length := by rw [← size_len]; omega
  have hc : bt s (i : Int) = n ↔ s.data.toList[i] = UInt8.ofNat n.toNat := by
   have hu := (s.data.toList[i]).toNat_lt
   rw [bt_cell s i hlt, ← UInt8.toNat_inj, UInt8.toNat_ofNat']; omega
  have hw : wrap64 ((i : Int) + 1) = ((i + 1 : Nat) : Int) := by clear hc; rw [wrap_id (by omega) (by omega)]; rfl
  rw [spec_SplitByte.l0, hw, List.drop_eq_getElem_cons hlt]
  clear hw
  generalize bt s (i : Int) = B at hc ⊢
  rw [if_pos (show (i : Int) ≤ (s.size : Int) by omega), if_neg (show ¬ (i : Int) = (s.size : Int) by omega), if_pos (show 0 ≤ (i : Int) by omega), if_pos (show (i : Int) < (s.size : Int) by omega)]
  by_cases he : B = n
  ·rw [if_pos he, if_pos (show 0 ≤ (fr : Int) by omega), if_pos (show (fr : Int) ≤ (i : Int) by omega), if_pos (show out.length < 8796093022208 by omega), ih (i + 1) k (i + 1) _ (by omega) (by omega) (Nat.le_refl _) (by simp only [List.length_append, List.length_singleton]; omega)]
   rw [splitL, if_pos (hc.1 he)]
   cases e : splitL (UInt8.ofNat n.toNat) (s.data.toList.drop (i + 1)) with
   | nil => exact absurd e (splitL_ne _ _)
   | cons h t =>
    simp only [Int.toNat_natCast, List.map_cons, List.append_assoc, List.singleton_append]
    rw [show s.extract (i + 1) (i + 1) = ByteArray.empty from by apply ByteArray.ext; simp, ByteArray.empty_append, show (⟨([] : List UInt8).toArray⟩ : ByteArray) = ByteArray.empty from rfl, ByteArray.append_empty]
  ·rw [if_neg he, ih (i + 1) k fr out (by omega) (by omega) (by omega) (by omega), splitL, if_neg (fun x => he (hc.2 x))]
   cases e : splitL (UInt8.ofNat n.toNat) (s.data.toList.drop (i + 1)) with
   | nil => exact absurd e (splitL_ne _ _)
   | cons h t =>
    simp only
    congr 3
    apply ByteArray.ext
    apply Array.toList_inj.1
    simp only [ByteArray.data_append, ByteArray.data_extract, Array.toList_append, Array.toList_extract, List.extract_eq_take_drop]
    rw [show i + 1 - fr = (i - fr) + 1 by omega, List.take_succ_eq_append_getElem (by rw [List.length_drop]; omega), List.getElem_drop, List.append_assoc]
    simp only [show fr + (i - fr) = i by omega]
    rfl
theorem spec_SplitByte_eq (s : ByteArray) (n : Int) (h0 : 0 ≤ n) (h1 : n < 256) (hs : s.size ≤ 4294967280) (k : Nat) (hk : s.size + 1 < k) : spec_SplitByte.f k s n = some (splitS (UInt8.ofNat n.toNat) s) := by
 unfold spec_SplitByte.f
 have := spec_SplitByte_l0 s n h0 h1 hs s.size 0 k 0 [] (by omega) hk (Nat.le_refl _) (by simp)
 rw [show ((0 : Nat) : Int) = 0 from rfl, List.drop_zero] at this
 rw [this]
 unfold splitS
 cases e : splitL (UInt8.ofNat n.toNat) s.data.toList with
 | nil => exact absurd e (splitL_ne _ _)
 | cons h t =>
  simp only [List.nil_append, List.map_cons]
  rw [show s.extract 0 0 = ByteArray.empty from by apply ByteArray.ext; simp, ByteArray.empty_append]
def flat (x : (Int × List Int) × Bool) : Int × List Int × Bool := (x.1.1, x.1.2, x.2)
theorem nil_text (s : ByteArray) : s.toList = ([] : List UInt8) ↔ s = ⟨#[]⟩ := text_lit s []
theorem spec_ParseLin_j4 (s : ByteArray) (ns ws : List ByteArray) (hn : ns.length ≤ 1048576) (w : ByteArray) (hw : w.size ≤ 1048576) (sg : Int) (hsg : sg = 1 ∨ sg = -1) (i : Nat) (hi : i ≤ 2097152) (st : Int × List Int) (hl : st.2.length ≤ 8) (k : Nat) (hk : 1048700 < k) :
  ∃ k', k = k' + 1 ∧ spec_ParseLin.j4 k s ns ws (i : Int) w sg st.1 st.2 = spec_ParseLin.l0 k' s ns ws ((i + 2 : Nat) : Int) (stS ns st (sg * (wordS w).1, (wordS w).2)).1 (stS ns st (sg * (wordS w).1, (wordS w).2)).2 := by
 obtain ⟨k, rfl⟩ := succ_of hk
 refine ⟨k, rfl, ?_⟩
 have hm := wordS_small w
 have e2 : wrap64 ((i : Int) + 2) = ((i + 2 : Nat) : Int) := by rw [wrap_id (by omega) (by omega)]; rfl
 have e1 : wrap64 ((st.2.length : Int) - 1) = (st.2.length : Int) - 1 := wrap_id (by omega) (by omega)
 rw [spec_ParseLin.j4, spec_l5Word_eq w (by omega) k (by omega), Option.bind_some, spec_IndexOf_eq ns _ (by omega) k (by omega), Option.bind_some, sgn_wrap hsg hm, e2, e1, spec_l1In_eq, Option.bind_some]
 unfold stS
 by_cases h0 : (wordS w).2 = ⟨#[]⟩
 ·rw [if_pos ((nil_text _).2 h0), if_pos h0]
 ·rw [if_neg (fun x => h0 ((nil_text _).1 x)), if_neg h0]
  generalize idxFrom (wordS w).2 ns 0 = at_
  by_cases h1 : 0 ≤ at_ ∧ at_ ≤ (st.2.length : Int) - 1
  ·rw [if_pos (decide_eq_true h1), if_pos h1.1, if_pos (by omega), if_pos h1]
  ·rw [if_neg (by simpa using h1), if_neg h1]
theorem spec_ParseLin_end (s : ByteArray) (ns ws : List ByteArray) (hn : ns.length ≤ 1048576) (hx : ∀ x ∈ ns, x.size ≤ 1048576) (i : Nat) (hi : ws.length ≤ i) (st : Int × List Int) (hl : st.2.length ≤ 8) (k : Nat) (hk : 5000001 < k) : spec_ParseLin.l0 k s ns ws (i : Int) st.1 st.2 = some (flat (ansP s ns st)) := by
 obtain ⟨k, rfl⟩ := succ_of hk
 rw [spec_ParseLin.l0, if_neg (by omega)]
 unfold ansP
 by_cases h0 : s = ⟨#[]⟩
 ·rw [if_pos ((nil_text s).2 h0), if_neg (fun x => x.1 h0)]; rfl
 ·rw [if_neg (fun x => h0 ((nil_text s).1 x)), spec_FormatLin_eq 1048576 st.1 st.2 ns (by omega) hn hx (by omega) k (by omega), Option.bind_some]
  by_cases h1 : fmtLin st.1 st.2 ns = s
  ·rw [if_pos (by rw [h1]), if_pos ⟨h0, h1⟩]; rfl
  ·rw [if_neg (fun x => h1 ((bytes_eq _ _).1 x)), if_neg (fun x => h1 x.2)]; rfl
theorem spec_ParseLin_l0 (s : ByteArray) (ns ws : List ByteArray) (hn : ns.length ≤ 1048576) (hx : ∀ x ∈ ns, x.size ≤ 1048576) (hw : ∀ w ∈ ws, w.size ≤ 1048576) (hwl : ws.length ≤ 1048580) : ∀ (d i k : Nat) (st : Int × List Int), ws.length + 1 - i ≤ d → 1 ≤ i → i ≤ ws.length + 1 → 6 * d + 6000000 < k → st.2.length ≤ 8 →
  spec_ParseLin.l0 k s ns ws (i : Int) st.1 st.2 = some (flat (ansP s ns (goS wordS ns (ws.drop (i - 1)) st))) := by
 intro d
 induction d with
 | zero =>
  intro i k st hd h1 h2 hk hl
  rw [List.drop_eq_nil_of_le (by omega)]
  exact spec_ParseLin_end s ns ws hn hx i (by omega) st hl k (by omega)
 | succ d ih =>
  intro i k st hd h1 h2 hk hl
  by_cases hi : i < ws.length
  ·obtain ⟨k, rfl⟩ := succ_of hk
   obtain ⟨k, rfl⟩ := succ_of (show 6 * d + 6000004 < k by omega)
   obtain ⟨k, rfl⟩ := succ_of (show 6 * d + 6000003 < k by omega)
   obtain ⟨k, rfl⟩ := succ_of (show 6 * d + 6000002 < k by omega)
   have hp : i - 1 < ws.length := by omega
   have hwi := hw _ (List.getElem_mem hi)
   have hws := hw _ (List.getElem_mem hp)
   have ew : wrap64 ((i : Int) - 1) = ((i - 1 : Nat) : Int) := by rw [wrap_id (by omega) (by omega)]; omega
   have e0 : ws.drop (i - 1) = ws[i - 1] :: ws[i] :: ws.drop (i + 1) := by
    rw [List.drop_eq_getElem_cons hp]
    simp only [show i - 1 + 1 = i by omega]
    rw [List.drop_eq_getElem_cons hi]
   rw [spec_ParseLin.l0, if_pos (by omega), if_pos (by omega), if_neg (by omega), rdOf_nat _ _ _ hi, spec_ParseLin.j1, if_neg (by simp), spec_ParseLin.j2, if_pos (by omega), ew, if_pos (by omega), if_pos (by omega), rdOf_nat _ _ _ hp, spec_ParseLin.j3, e0, goS]
   have hsg : (if ((ws[i - 1].toList == ([45] : List UInt8)) = true) then (-1 : Int) else 1) = sgnOf ws[i - 1] := by
    unfold sgnOf
    by_cases h : ws[i - 1] = ⟨#[45]⟩
    ·rw [if_pos h, if_pos (beq_iff_eq.2 ((text_lit _ _).2 h))]
    ·rw [if_neg h, if_neg (fun x => h ((text_lit _ _).1 (beq_iff_eq.1 x)))]
   have key := fun (sg : Int) (h : sg = 1 ∨ sg = -1) => spec_ParseLin_j4 s ns ws hn ws[i] hwi sg h i (by omega) st hl k (by omega)
   have fin : ∀ sg : Int, sg = 1 ∨ sg = -1 → sg = sgnOf ws[i - 1] → spec_ParseLin.j4 k s ns ws (i : Int) ws[i] sg st.1 st.2 = some (flat (ansP s ns (goS wordS ns (ws.drop (i + 1)) (stS ns st (sgnOf ws[i - 1] * (wordS ws[i]).1, (wordS ws[i]).2))))) := by
    intro sg h hs
    obtain ⟨k', e, e'⟩ := key sg h
    rw [e', hs, ih (i + 2) k' _ (by omega) (by omega) (by omega) (by omega) (by rw [stS_len]; exact hl)]
    rfl
   by_cases hb : (ws[i - 1].toList == ([45] : List UInt8)) = true
   ·rw [if_pos hb]
    rw [if_pos hb] at hsg
    exact fin _ (.inr rfl) hsg
   ·rw [if_neg hb]
    rw [if_neg hb] at hsg
    exact fin _ (.inl rfl) hsg
  ·have e0 : goS wordS ns (ws.drop (i - 1)) st = st := by
    by_cases he : i = ws.length + 1
    ·rw [List.drop_eq_nil_of_le (by omega)]; rfl
    ·have hp : i - 1 < ws.length := by omega
     rw [List.drop_eq_getElem_cons hp, List.drop_eq_nil_of_le (by omega)]; rfl
   rw [e0]
   exact spec_ParseLin_end s ns ws hn hx i (by omega) st hl k (by omega)
theorem splitS_sizes (s : ByteArray) : (splitS 32 s).length ≤ s.size + 1 ∧ ∀ w ∈ splitS 32 s, w.size ≤ s.size := by
 unfold splitS
 constructor
 ·rw [List.length_map, size_len]; exact splitL_len 32 _
 ·intro w hw
  obtain ⟨p, hp, rfl⟩ := List.mem_map.1 hw
  have := (splitL_mem 32 _ p hp).2
  rw [ba_size, size_len]; exact this
theorem spec_ParseLin_eq (s : ByteArray) (ns : List ByteArray) (hs : s.size ≤ 1048576) (hn : ns.length ≤ 1048576) (hx : ∀ x ∈ ns, x.size ≤ 1048576) (k : Nat) (hk : 13000000 < k) : spec_ParseLin.f k s ns = some (flat (parseLin s ns)) := by
 unfold spec_ParseLin.f parseLin
 obtain ⟨h1, h2⟩ := splitS_sizes s
 have hm : spec_l1Min.f (ns.length : Int) 8 = some ((min ns.length 8 : Nat) : Int) := by
  unfold spec_l1Min.f
  by_cases h : (ns.length : Int) < 8
  ·rw [if_pos h, Nat.min_eq_left (by omega)]
  ·rw [if_neg h, Nat.min_eq_right (by omega)]; rfl
 rw [hm, Option.bind_some, if_pos (by omega), Int.toNat_natCast, if_pos (by omega), spec_SplitByte_eq s 32 (by omega) (by omega) (by omega) k (by omega), Option.bind_some]
 show spec_ParseLin.l0 k s ns (splitS 32 s) 0 0 (List.replicate (min ns.length 8) 0) = _
 cases hws : splitS 32 s with
 | nil =>
  unfold splitS at hws
  exact absurd (List.map_eq_nil_iff.1 hws) (splitL_ne 32 _)
 | cons w r =>
  rw [hws] at h1 h2
  have hw := h2 w (by simp)
  have hl : (List.replicate (min ns.length 8) (0 : Int)).length ≤ 8 := by rw [List.length_replicate]; omega
  have hw2 : ∀ x ∈ w :: r, x.size ≤ 1048576 := fun x hx => by have := h2 x hx; omega
  obtain ⟨k, rfl⟩ := succ_of hk
  obtain ⟨k, rfl⟩ := succ_of (show 12999999 < k by omega)
  obtain ⟨k, rfl⟩ := succ_of (show 12999998 < k by omega)
  obtain ⟨k, rfl⟩ := succ_of (show 12999997 < k by omega)
  have fin : ∀ (sg : Int) (w' : ByteArray), sg = 1 ∨ sg = -1 → w'.size ≤ 1048576 → (sg, w') = firstS w → spec_ParseLin.j2 (k + 2) s ns (w :: r) 0 w' sg 0 (List.replicate (min ns.length 8) 0) = some (flat (ansP s ns (allS wordS ns (List.replicate (min ns.length 8) 0) (w :: r)))) := by
   intro sg w' hsg hw' hf
   rw [spec_ParseLin.j2, if_neg (by omega), spec_ParseLin.j3, if_neg (by simp)]
   obtain ⟨k', e, e'⟩ := spec_ParseLin_j4 s ns (w :: r) hn w' hw' sg hsg 0 (by omega) (0, List.replicate (min ns.length 8) 0) hl k (by omega)
   have e' : spec_ParseLin.j4 k s ns (w :: r) 0 w' sg 0 (List.replicate (min ns.length 8) 0) = _ := e'
   rw [e']
   by_cases hr : r.length = 0
   ·have hr : r = [] := List.eq_nil_of_length_eq_zero hr
    subst hr
    rw [spec_ParseLin_end s ns [w] hn hx _ (by simp) _ (by rw [stS_len]; exact hl) k' (by omega), allS, ← hf]; rfl
   ·rw [spec_ParseLin_l0 s ns (w :: r) hn hx hw2 (by omega) (r.length + 2) (0 + 2) k' _ (by simp only [List.length_cons]; omega) (by omega) (by simp only [List.length_cons]; omega) (by simp only [List.length_cons] at h1; omega) (by rw [stS_len]; exact hl), allS, ← hf]; rfl
  have hb := fun (h : 0 < w.data.toList.length) => bt_cell w 0 h
  rw [spec_ParseLin.l0, if_pos (by simp only [List.length_cons]; omega), if_pos (by omega), if_pos rfl, show rdOf ByteArray.empty (w :: r) 0 = w from rfl]
  by_cases h0 : (w.size : Int) > 0
  ·have hlt : 0 < w.data.toList.length := by rw [← size_len]; omega
   have hb := hb hlt
   rw [show ((0 : Nat) : Int) = 0 from rfl] at hb
   have hh : w.data.toList.head? = some (w.data.toList[0]) := by rw [List.head?_eq_getElem?, List.getElem?_eq_getElem hlt]
   rw [if_pos h0, if_pos (by omega), spec_ParseLin.j1]
   by_cases h45 : (bt w 0 == 45) = true
   ·rw [if_pos h45, if_pos (by omega), extract_drop]
    refine fin (-1) _ (.inr rfl) ?_ ?_
    ·rw [ba_size, List.length_drop, ← size_len]; omega
    ·unfold firstS
     rw [if_pos]
     rw [hh]; congr 1
     apply UInt8.toNat_inj.1
     have := beq_iff_eq.1 h45
     rw [hb] at this
     show (w.data.toList[0]).toNat = 45
     omega
   ·rw [if_neg h45]
    refine fin 1 w (.inl rfl) (by omega) ?_
    unfold firstS
    rw [if_neg]
    intro e
    rw [hh] at e
    have e := Option.some.inj e
    apply h45
    rw [beq_iff_eq, hb, e]; rfl
  ·rw [if_neg h0, spec_ParseLin.j1, if_neg (by simp)]
   refine fin 1 w (.inl rfl) (by omega) ?_
   unfold firstS
   rw [if_neg]
   intro e
   cases e2 : w.data.toList with
   | nil => rw [e2] at e; cases e
   | cons x y => rw [size_len, e2] at h0; simp at h0
theorem impl_ParseInt_eq (s : ByteArray) : impl_ParseInt.f s = some (readL 12 s) := by
 unfold impl_ParseInt.f
 by_cases h : s.size > 13
 ·rw [if_pos h, readL_none]
  intro n hn e
  have hl := data_of e
  rw [size_len, hl] at h
  by_cases h0 : n < 0
  ·have := (itoa_len_neg h0 12).2 hn; omega
  ·have := (itoa_len_pos (by omega : 0 ≤ n) 12 (by omega)).2 hn; omega
 ·rw [if_neg h]
  unfold readL
  cases Lib.atoi s.data.toList with
  | none => rfl
  | some n =>
   by_cases hn : n.natAbs < 10 ^ 12
   ·by_cases he : (⟨(Lib.itoa n).toArray⟩ : ByteArray) = s
    ·exact (if_pos ⟨by omega, by omega, he⟩).trans (congrArg some (if_pos ⟨hn, he⟩)).symm
    ·exact (if_neg (fun x => he x.2.2)).trans (congrArg some (if_neg (fun x => he x.2))).symm
   ·exact (if_neg (fun x => hn (by omega))).trans (congrArg some (if_neg (fun x => hn x.1))).symm
theorem impl_ParseNumber_eq (s : ByteArray) : impl_ParseNumber.f s = some (readN s) := by
 unfold impl_ParseNumber.f readN
 rw [impl_ParseInt_eq, Option.bind_some]
 generalize readL 12 s = x
 obtain ⟨n, b⟩ := x
 cases b
 ·rw [if_neg (by simp), if_neg (by simp)]
 ·simp only [if_true, impl_within.f]
  by_cases h0 : n ≥ 0
  ·rw [if_pos h0, Option.bind_some]
   by_cases h1 : n ≤ 999999
   ·rw [if_pos (decide_eq_true h1), if_pos ⟨trivial, h0, h1⟩]
   ·rw [if_neg (by simpa using h1), if_neg (fun x => h1 x.2.2)]
  ·rw [if_neg h0, Option.bind_some, if_neg (by simp), if_neg (fun x => h0 x.2.1)]
def mkP (p : Int × ByteArray) : S52 := ⟨p.1, p.2⟩
def ansI (out : List S52) : Option (List (Int × ByteArray)) → List S52 × Bool
 | none => ([], false)
 | some l => (out ++ l.map mkP, true)
theorem nil_size (w : ByteArray) : w.toList = ([] : List UInt8) ↔ w.size = 0 := by
 rw [text_lit w []]
 constructor
 ·intro h; rw [h]; rfl
 ·intro h; apply ByteArray.ext; apply Array.toList_inj.1; rw [size_len] at h; exact List.eq_nil_of_length_eq_zero h
theorem partsOf_j5 (out : List S52) (ho : out.length ≤ 1048580) (ws : List ByteArray) (i : Nat) (hi : i ≤ 1048580) (sg : Int) (hsg : sg = 1 ∨ sg = -1) (w : ByteArray) (R : List S52 × Bool) (K : Nat)
  (hn : wordI w = none → R = ([], false)) (hR : ∀ p, wordI w = some p → ∀ k, K < k → impl_partsOf.l0 k (out ++ [⟨sg * p.1, p.2⟩]) ws ((i + 1 : Nat) : Int) = some R)
  (j : Nat) (h : (w.data.toList.takeWhile isDig).length = j) (k : Nat) (hk : K + 1 < k) : impl_partsOf.j4 (k + 1) out ws (i : Int) sg w (j : Int) = some R := by
 obtain ⟨k, rfl⟩ := succ_of hk
 have hj : j ≤ w.size := by
  rw [← h, size_len]
  have h2 := congrArg List.length (List.takeWhile_append_dropWhile (p := isDig) (l := w.data.toList))
  rw [List.length_append] at h2; omega
 have hz : (numS w).size = j := by unfold numS; rw [ba_size]; exact h
 have e2 : wrap64 ((i : Int) + 1) = ((i + 1 : Nat) : Int) := by rw [wrap_id (by omega) (by omega)]; rfl
 have e1 : wrap64 (sg * 1) = sg * 1 := sgn_wrap hsg ⟨by decide, by decide⟩
 have numc : ¬ ((numS w).size = 0 ∧ w.size ≠ 0) → impl_partsOf.j5 (k + 1) out ws (i : Int) sg w (j : Int) 1 true = some R := by
  intro hf
  rw [impl_partsOf.j5, if_pos rfl, if_pos (by omega), if_pos (by omega), Int.toNat_natCast, extract_num w h, extract_rest w h, impl_ParseNumber_eq, Option.bind_some, e2]
  unfold wordI at hn hR
  rw [if_neg hf] at hn hR
  by_cases hr : (readN (numS w)).2 = true
  ·rw [if_pos hr] at hn hR
   rw [if_pos hr, if_pos (by omega), sgn_wrap hsg (readN_small _)]
   exact hR _ rfl k (by omega)
  ·rw [if_neg hr] at hn hR
   rw [if_neg hr, hn rfl]
 rw [impl_partsOf.j4]
 by_cases h0 : j = 0
 ·rw [if_neg (by omega)]
  by_cases hw : w.size = 0
  ·rw [show (w.toList == ([] : List UInt8)) = true from beq_iff_eq.2 ((nil_size w).2 hw)]
   exact numc (fun x => x.2 hw)
  ·rw [show (w.toList == ([] : List UInt8)) = false from beq_eq_false_iff_ne.2 (fun x => hw ((nil_size w).1 x))]
   rw [impl_partsOf.j5, if_neg (by simp), if_pos (by omega), if_pos (by omega), if_pos (by omega), Int.toNat_natCast, e1, e2, extract_drop, h0, List.drop_zero]
   have hwi : wordI w = some (1, w) := by unfold wordI; rw [if_pos ⟨by omega, hw⟩]
   exact hR _ hwi k (by omega)
 ·rw [if_pos (by omega)]
  exact numc (fun x => h0 (by have := x.1; omega))
theorem partsOf_l1 (out : List S52) (ho : out.length ≤ 1048580) (ws : List ByteArray) (i : Nat) (hi : i ≤ 1048580) (sg : Int) (hsg : sg = 1 ∨ sg = -1) (w : ByteArray) (hs : w.size ≤ 1048576) (R : List S52 × Bool) (K : Nat)
  (hn : wordI w = none → R = ([], false)) (hR : ∀ p, wordI w = some p → ∀ k, K < k → impl_partsOf.l0 k (out ++ [⟨sg * p.1, p.2⟩]) ws ((i + 1 : Nat) : Int) = some R) :
  ∀ (d j k : Nat), j + d = w.size → d + K + 3 < k → (w.data.toList.takeWhile isDig).length = j + ((w.data.toList.drop j).takeWhile isDig).length → impl_partsOf.l1 k out ws (i : Int) sg w (j : Int) = some R := by
 intro d
 induction d with
 | zero =>
  intro j k hj hk h
  obtain ⟨k, rfl⟩ := succ_of hk
  obtain ⟨k, rfl⟩ := succ_of (show K + 2 < k by omega)
  rw [impl_partsOf.l1, if_neg (by omega)]
  rw [List.drop_eq_nil_of_le (by rw [← size_len]; omega)] at h
  exact partsOf_j5 out ho ws i hi sg hsg w R K hn hR j h k (by omega)
 | succ d ih =>
  intro j k hj hk h
  obtain ⟨k, rfl⟩ := succ_of hk
  have hlt : j < w.data.toList.length := by rw [← size_len]; omega
  have b1 : (j : Int) < (w.size : Int) := by omega
  have b2 : 0 ≤ (j : Int) := by omega
  have hw : wrap64 ((j : Int) + 1) = ((j + 1 : Nat) : Int) := wrap_succ (n := w.size) (by omega) (by omega)
  rw [impl_partsOf.l1, if_pos b1, if_pos b2, hw]
  clear hw
  have hd := isDig_bt w hlt
  generalize bt w (j : Int) = B at hd ⊢
  by_cases hh : 48 ≤ B ∧ B ≤ 57
  ·rw [if_pos hh.1, if_pos hh.2]
   rw [num_step w hlt (hd.2 hh), List.length_cons] at h
   exact ih (j + 1) k (by omega) (by omega) (by omega)
  ·rw [num_stop w hlt (fun x => hh (hd.1 x))] at h
   obtain ⟨k, rfl⟩ := succ_of (show K + 2 < k by omega)
   have e := partsOf_j5 out ho ws i hi sg hsg w R K hn hR j h k (by omega)
   by_cases h1 : B ≥ 48
   ·rw [if_pos h1, if_neg (fun x => hh ⟨h1, x⟩), e]
   ·rw [if_neg h1, e]
theorem partsOf_j2 (out : List S52) (ho : out.length ≤ 1048580) (ws : List ByteArray) (i : Nat) (hi : i ≤ 1048580) (sg : Int) (hsg : sg = 1 ∨ sg = -1) (w : ByteArray) (hs : w.size ≤ 1048576) (R : List S52 × Bool) (K : Nat)
  (hn : wordI w = none → R = ([], false)) (hR : ∀ p, wordI w = some p → ∀ k, K < k → impl_partsOf.l0 k (out ++ [⟨sg * p.1, p.2⟩]) ws ((i + 1 : Nat) : Int) = some R) (k : Nat) (hk : K + 1048590 < k) : impl_partsOf.j2 k out ws (i : Int) sg w = some R := by
 obtain ⟨k, rfl⟩ := succ_of hk
 rw [impl_partsOf.j2]
 have := partsOf_l1 out ho ws i hi sg hsg w hs R K hn hR w.size 0 k (by omega) (by omega) (by rw [List.drop_zero]; omega)
 exact this
theorem partsOf_l0 (ws : List ByteArray) (hw : ∀ w ∈ ws, w.size ≤ 1048576) (hwl : ws.length ≤ 1048578) : ∀ (d i k : Nat) (out : List S52), ws.length - i ≤ d → 1 ≤ i → i ≤ ws.length → 1048620 * d + 1048700 < k → out.length ≤ i →
  impl_partsOf.l0 k out ws (i : Int) = some (ansI out (goI (ws.drop i))) := by
 intro d
 induction d using Nat.strongRecOn with
 | _ d ih =>
  intro i k out hd h1 h2 hk ho
  obtain ⟨k, rfl⟩ := succ_of hk
  by_cases hi : i < ws.length
  ·obtain ⟨k, rfl⟩ := succ_of (show 1048620 * d + 1048699 < k by omega)
   have ew : wrap64 ((i : Int) + 1) = ((i + 1 : Nat) : Int) := by rw [wrap_id (by omega) (by omega)]; rfl
   have e0 : ws.drop i = ws[i] :: ws.drop (i + 1) := List.drop_eq_getElem_cons hi
   rw [impl_partsOf.l0, if_pos (by omega), if_pos (by omega), if_neg (by omega), rdOf_nat _ _ _ hi, ew, e0]
   have stop : ∀ (sg : Int) (w : ByteArray), impl_partsOf.j1 (k + 1) out ws (i : Int) sg w true = some ([], false) := fun sg w => by rw [impl_partsOf.j1, if_pos rfl]
   by_cases hx : ws[i] = ⟨#[43]⟩ ∨ ws[i] = ⟨#[45]⟩
   ·have hj1 : impl_partsOf.j1 (k + 1) out ws (i : Int) 1 ws[i] (((i + 1 : Nat) : Int) == (ws.length : Int)) = some (ansI out (goI (ws[i] :: ws.drop (i + 1)))) := by
     by_cases hl : i + 1 = ws.length
     ·rw [show ((((i + 1 : Nat) : Int) == (ws.length : Int))) = true from beq_iff_eq.2 (by omega), stop, List.drop_eq_nil_of_le (by omega)]; rfl
     ·have hi1 : i + 1 < ws.length := by omega
      have hwi := hw _ (List.getElem_mem hi1)
      rw [show ((((i + 1 : Nat) : Int) == (ws.length : Int))) = false from beq_eq_false_iff_ne.2 (by omega), impl_partsOf.j1, if_neg (by simp), ew, List.drop_eq_getElem_cons hi1, goI, if_pos hx]
      have go := fun (sg : Int) (hs : sg = 1 ∨ sg = -1) (he : sg = sgnOf ws[i]) => partsOf_j2 out (by omega) ws (i + 1) (by omega) sg hs ws[i + 1] hwi
       (ansI out (match wordI ws[i + 1] with
        | none => none
        | some p => (goI (ws.drop (i + 1 + 1))).map fun l => (sgnOf ws[i] * p.1, p.2) :: l)) (1048620 * (d - 2) + 1048700) (fun hn => by rw [hn]; rfl)
       (fun p hp k' hk' => by
        rw [ih (d - 2) (by omega) (i + 1 + 1) k' _ (by omega) (by omega) (by omega) (by omega) (by rw [List.length_append, List.length_singleton]; omega), hp, he]
        cases goI (ws.drop (i + 1 + 1)) with
        | none => rfl
        | some l => simp [ansI, mkP])
      by_cases hb : ws[i] = ⟨#[45]⟩
      ·rw [if_pos ((text_lit _ _).2 hb), if_pos (by omega), if_pos (by omega), rdOf_nat _ _ _ hi1]
       exact go (-1) (.inr rfl) (by unfold sgnOf; rw [if_pos hb]) k (by omega)
      ·rw [if_neg (fun x => hb ((text_lit _ _).1 x)), if_pos (by omega), if_pos (by omega), rdOf_nat _ _ _ hi1]
       exact go 1 (.inl rfl) (by unfold sgnOf; rw [if_neg hb]) k (by omega)
    by_cases h43 : ws[i].toList = ([43] : List UInt8)
    ·rw [if_pos h43]; exact hj1
    ·rw [if_neg h43]
     have h45 : ws[i].toList = ([45] : List UInt8) := by
      rcases hx with hx | hx
      ·exact absurd ((text_lit _ _).2 hx) h43
      ·exact (text_lit _ _).2 hx
     rw [if_pos h45]; exact hj1
   ·rw [if_neg (fun x => hx (.inl ((text_lit _ _).1 x))), if_neg (fun x => hx (.inr ((text_lit _ _).1 x))), stop]
    cases hr : ws.drop (i + 1) with
    | nil => rfl
    | cons y r => rw [goI, if_neg hx]; rfl
  ·rw [impl_partsOf.l0, if_neg (by omega), List.drop_eq_nil_of_le (by omega)]
   simp [ansI, goI]
theorem impl_partsOf_eq (s : ByteArray) (hs : s.size ≤ 1048576) (k : Nat) (hk : 2000000000000 < k) : impl_partsOf.f k s = some (ansI [] (partsL (splitS 32 s))) := by
 obtain ⟨h1, h2⟩ := splitS_sizes s
 unfold impl_partsOf.f strings_Split.f
 have hc := Lib.countB_le ⟨#[32]⟩ (Nat.le_refl 1) s.size s (Nat.le_refl _)
 rw [if_pos ⟨by omega, Nat.le_refl 1, by omega⟩, splitB_one, Option.bind_some]
 cases hws : splitS 32 s with
 | nil =>
  unfold splitS at hws
  exact absurd (List.map_eq_nil_iff.1 hws) (splitL_ne 32 _)
 | cons w r =>
  rw [hws] at h1 h2
  have hw := h2 w (by simp)
  have hw2 : ∀ x ∈ w :: r, x.size ≤ 1048576 := fun x hx => by have := h2 x hx; omega
  obtain ⟨k, rfl⟩ := succ_of hk
  rw [impl_partsOf.l0, if_pos (by simp only [List.length_cons]; omega), if_pos (by omega), if_pos rfl, show rdOf ByteArray.empty (w :: r) 0 = w from rfl]
  have go := fun (sg : Int) (w' : ByteArray) (hsg : sg = 1 ∨ sg = -1) (hw' : w'.size ≤ 1048576) (hf : (sg, w') = firstS w) => partsOf_j2 [] (by simp) (w :: r) 0 (by omega) sg hsg w' hw'
   (ansI [] (partsL (w :: r))) (1048620 * r.length + 1048700) (fun hn => by rw [partsL, ← hf]; simp only; rw [hn]; rfl)
   (fun p hp k' hk' => by
    rw [partsOf_l0 (w :: r) hw2 (by omega) r.length (0 + 1) k' _ (by simp only [List.length_cons]; omega) (by omega) (by simp only [List.length_cons]; omega) hk' (by simp), partsL, ← hf]
    simp only
    rw [hp, show (w :: r).drop (0 + 1) = r from rfl]
    cases goI r with
    | none => rfl
    | some l => simp [ansI, mkP])
  simp only [List.length_cons] at h1
  have hp : strings_HasPrefix.f w ⟨#[45]⟩ = some (decide (w.data.toList.head? = some 45)) := by
   unfold strings_HasPrefix.f
   congr 1
   cases e : w.data.toList with
   | nil => rfl
   | cons x y =>
    show List.isPrefixOf [45] (x :: y) = _
    simp only [List.isPrefixOf, Bool.and_true, List.head?_cons, Option.some.injEq]
    rw [Bool.eq_iff_iff, beq_iff_eq, decide_eq_true_iff]
    exact eq_comm
  rw [hp, Option.bind_some]
  by_cases h45 : w.data.toList.head? = some 45
  ·have hlt : 1 ≤ w.size := by
    rw [size_len]
    cases e : w.data.toList with
    | nil => rw [e] at h45; cases h45
    | cons x y => simp
   rw [if_pos (decide_eq_true h45), if_pos (by omega), extract_drop]
   exact go (-1) _ (.inr rfl) (by rw [ba_size, List.length_drop, ← size_len]; omega) (by unfold firstS; rw [if_pos h45]) k (by omega)
  ·rw [if_neg (by simpa using h45)]
   exact go 1 w (.inl rfl) (by omega) (by unfold firstS; rw [if_neg h45]) k (by omega)
theorem impl_IndexOf_eq (xs : List ByteArray) (s : ByteArray) (hn : xs.length ≤ 4611686018427387904) (k : Nat) (hk : xs.length < k) : impl_IndexOf.f k xs s = some (idxFrom s xs 0) := by
 unfold impl_IndexOf.f; rw [slices_Index_eq xs s hn k hk]; rfl
theorem impl_FormatLin_l0 (a : Int) (ha : -1000000000 ≤ a ∧ a ≤ 1000000000) (cs : List Int) (ns : List ByteArray) (hl : cs.length = ns.length) (h8 : cs.length ≤ 8) (hc : ∀ c ∈ cs, -1000000000 ≤ c ∧ c ≤ 1000000000) (hn : ∀ n ∈ ns, n.size ≤ 8) : ∀ (d j k : Nat) (out : ByteArray), j + d = cs.length → d < k → out.size ≤ 30 * j →
  impl_FormatLin.l0 k a cs ns out (j : Int) = some (fmtGo a (cs.drop j) (ns.drop j) out) := by
 intro d
 induction d with
 | zero =>
  intro j k out hj hk ho
  obtain ⟨k, rfl⟩ := succ_of hk
  rw [impl_FormatLin.l0, if_neg (by omega), List.drop_eq_nil_of_le (by omega : cs.length ≤ j), fmtGo_nil, fl_step_eq ha (by omega) (by decide)]
  by_cases h : a = 0
  ·rw [if_pos h, if_pos h]
   by_cases h2 : out = ⟨#[]⟩
   ·rw [if_pos h2, if_pos h2]
   ·rw [if_neg h2, if_neg h2]
  ·rw [if_neg h, if_neg h]
 | succ d ih =>
  intro j k out hj hk ho
  obtain ⟨k, rfl⟩ := succ_of hk
  have hlt : j < cs.length := by omega
  have hlt2 : j < ns.length := by omega
  have hcj := hc _ (List.getElem_mem hlt)
  have hnj := hn _ (List.getElem_mem hlt2)
  rw [impl_FormatLin.l0, if_pos (by omega), if_pos (by omega), rd_nat _ _ hlt, List.drop_eq_getElem_cons hlt, List.drop_eq_getElem_cons hlt2]
  by_cases h0 : cs[j] = 0
  ·rw [if_pos h0, wrap_succ hlt (by omega), ih (j + 1) k out (by omega) (by omega) (by omega), fmtGo, if_pos h0]
  ·rw [if_neg h0, if_pos (by omega), rdOf_nat _ _ _ hlt2, fl_step_eq hcj (by omega) (by omega), Option.bind_some, wrap_succ hlt (by omega), ih (j + 1) k _ (by omega) (by omega) (by have := stepV_size (nm := ns[j]) (out := out) hcj; omega), fmtGo, if_neg h0]
theorem impl_FormatLin_eq (B : Nat) (a : Int) (cs : List Int) (ns : List ByteArray) (hc : cs.length ≤ 1048576) (hn : ns.length ≤ 1048576) (hx : ∀ x ∈ ns, x.size ≤ B) (hB : B ≤ 1048576) (k : Nat) (hk : 4000000 < k) : impl_FormatLin.f k a cs ns = some (fmtLin a cs ns) := by
 unfold impl_FormatLin.f fmtLin
 rw [impl_IsValidLin_eq a cs _ (by omega) k (by omega), Option.bind_some]
 by_cases hv : validLin a cs (ns.length : Int) = true
 ·rw [if_pos hv, impl_AllDistinct_eq ns (by omega) k (by omega), Option.bind_some]
  by_cases hd : distinctFrom ns 0 ns.length = true
  ·rw [if_pos hd, impl_names B ns hn hx hB k (by omega), Option.bind_some]
   by_cases hw : ns.all validName = true
   ·have hok : namesOk ns = true := by unfold namesOk; rw [hw, hd]; rfl
    obtain ⟨h1, h2, h3, h4⟩ := valid_parts hv
    rw [hw, if_neg (by simp), if_pos ⟨hv, hok⟩]
    have := impl_FormatLin_l0 a h3 cs ns h1 h2 h4 (namesOk_size hok) cs.length 0 k ⟨#[]⟩ (by omega) (by omega) (by decide)
    simpa using this
   ·have hok : ¬ namesOk ns = true := fun h => by unfold namesOk at h; rw [Bool.and_eq_true] at h; exact hw h.1
    rw [Bool.eq_false_iff.2 hw, if_pos (by simp), if_neg (fun x => hok x.2)]
  ·have hok : ¬ namesOk ns = true := fun h => by unfold namesOk at h; rw [Bool.and_eq_true] at h; exact hd h.2
   rw [if_neg hd, if_neg (fun x => hok x.2)]
 ·rw [if_neg hv, if_neg (fun x => hv x.1)]
def constLin (k n : Int) : Int × List Int := if (0 ≤ n ∧ n ≤ 8) ∧ okc k = true then (k, List.replicate n.toNat 0) else (0, [])
theorem impl_ConstLin_eq (k n : Int) : impl_ConstLin.f k n = some (constLin k n) := by
 unfold impl_ConstLin.f constLin
 rw [impl_within_eq, impl_coeffOk_eq]; simp only [Option.bind_some, decide_eq_true_eq]
 by_cases h : 0 ≤ n ∧ n ≤ 8
 ·have h3 : n.toNat ≤ 35184372088832 := by omega
  rw [if_pos h, if_pos h.1, if_pos h3]; cases h2 : okc k
  ·rw [if_neg (by simp), if_neg (by simp)]
  ·rw [if_pos rfl, if_pos ⟨h, rfl⟩]
 ·rw [if_neg h, if_neg (fun e => h e.1)]
theorem rd_part (xs : List S52) (j : Nat) (h : j < xs.length) : rd_T52 xs (j : Int) = xs[j] := by
 unfold rd_T52; rw [Int.toNat_natCast, List.getD_eq_getElem?_getD, List.getElem?_eq_getElem h]; rfl
theorem idxFrom_lt (s : ByteArray) : ∀ (xs : List ByteArray) (i : Int), idxFrom s xs i < i + xs.length ∨ idxFrom s xs i = -1 := by
 intro xs
 induction xs with
 | nil => intro i; exact .inr rfl
 | cons x xs ih =>
  intro i
  rw [idxFrom, List.length_cons]
  split
  ·left; omega
  ·rcases ih (i + 1) with h | h
   ·left; omega
   ·right; exact h
def finI (s : ByteArray) (ns : List ByteArray) : Option (Int × List Int) → Int × List Int × Bool
 | none => (0, [], false)
 | some st => flat (ansP s ns st)
theorem impl_ParseLin_l0 (s : ByteArray) (ns : List ByteArray) (hn : ns.length ≤ 8) (hx : ∀ x ∈ ns, x.size ≤ 1048576) (ps : List (Int × ByteArray)) (hp : ps.length ≤ 1048580) : ∀ (d j k : Nat) (st : Int × List Int), j + d = ps.length → d + 4000002 < k → st.2.length = ns.length →
  impl_ParseLin.l0 k s ns (ps.map mkP) ((ps.map mkP).length : Int) (j : Int) st.1 st.2 = some (finI s ns (foldI ns (ps.drop j) st)) := by
 intro d
 induction d with
 | zero =>
  intro j k st hj hk hl
  obtain ⟨k, rfl⟩ := succ_of hk
  rw [impl_ParseLin.l0, if_neg (by rw [List.length_map]; omega), List.drop_eq_nil_of_le (by omega), foldI]
  unfold finI ansP
  by_cases h0 : s = ⟨#[]⟩
  ·rw [if_pos ((nil_text s).2 h0)]
   show _ = some (flat _)
   rw [if_neg (fun x => x.1 h0)]; rfl
  ·rw [if_neg (fun x => h0 ((nil_text s).1 x)), impl_FormatLin_eq 1048576 st.1 st.2 ns (by omega) (by omega) hx (by omega) k (by omega), Option.bind_some]
   show _ = some (flat _)
   by_cases h1 : fmtLin st.1 st.2 ns = s
   ·rw [if_pos (by rw [h1]), if_pos ⟨h0, h1⟩]; rfl
   ·rw [if_neg (fun x => h1 ((bytes_eq _ _).1 x)), if_neg (fun x => h1 x.2)]; rfl
 | succ d ih =>
  intro j k st hj hk hl
  obtain ⟨k, rfl⟩ := succ_of hk
  have hlt : j < ps.length := by omega
  have hlm : j < (ps.map mkP).length := by rw [List.length_map]; exact hlt
  rw [impl_ParseLin.l0, if_pos (by omega), if_pos (by omega), if_pos (by omega), rd_part _ _ hlm, List.getElem_map, wrap_succ hlt (by omega), List.drop_eq_getElem_cons hlt, foldI]
  generalize ps[j] = p
  show (if p.2.toList = [] then _ else _) = _
  by_cases h0 : p.2 = ⟨#[]⟩
  ·rw [if_pos ((nil_text _).2 h0), if_pos h0]
   exact ih (j + 1) k (p.1, st.2) (by omega) (by omega) hl
  ·rw [if_neg (fun x => h0 ((nil_text _).1 x)), if_neg h0]
   show ((impl_IndexOf.f k ns p.2).bind _) = _
   rw [impl_IndexOf_eq ns _ (by omega) k (by omega), Option.bind_some]
   have hi := idxFrom_lt p.2 ns 0
   generalize idxFrom p.2 ns 0 = at_ at hi
   by_cases h1 : at_ < 0
   ·rw [if_pos h1, if_pos h1]; rfl
   ·rw [if_neg h1, if_neg h1, if_pos (by omega), if_pos (by omega)]
    exact ih (j + 1) k (st.1, st.2.set at_.toNat p.1) (by omega) (by omega) (by simpa using hl)
theorem partsL_len : ∀ (m : Nat) (ws : List ByteArray) (l : List (Int × ByteArray)), ws.length ≤ m → goI ws = some l → l.length ≤ ws.length := by
 intro m
 induction m with
 | zero => intro ws l hm h; rw [List.eq_nil_of_length_eq_zero (by omega : ws.length = 0), goI] at h; obtain rfl := Option.some.inj h; simp
 | succ m ih =>
  intro ws l hm h
  match ws with
  | [] => rw [goI] at h; obtain rfl := Option.some.inj h; simp
  | [_] => rw [goI] at h; cases h
  | x :: w :: r =>
   rw [goI] at h
   split at h
   ·cases hw : wordI w with
    | none => rw [hw] at h; cases h
    | some p =>
     rw [hw] at h
     obtain ⟨l', hl, rfl⟩ := Option.map_eq_some_iff.1 h
     have := ih r l' (by simp only [List.length_cons] at hm; omega) hl
     simp only [List.length_cons]; omega
   ·cases h
theorem impl_ParseLin_eq (s : ByteArray) (ns : List ByteArray) (hs : s.size ≤ 1048576) (hn : ns.length ≤ 1048576) (hx : ∀ x ∈ ns, x.size ≤ 1048576) (k : Nat) (hk : 2000000000000 < k) : impl_ParseLin.f k s ns = some (flat (parseLin s ns)) := by
 have hsame := parse_same s ns
 have hfin : finI s ns (partsI s ns) = flat (parseLin s ns) := by
  rw [← hsame]
  cases partsI s ns <;> rfl
 unfold impl_ParseLin.f
 rw [impl_partsOf_eq s hs k hk, Option.bind_some, ← hfin]
 obtain ⟨h1, h2⟩ := splitS_sizes s
 obtain ⟨k, rfl⟩ := succ_of hk
 unfold partsI
 cases hp : partsL (splitS 32 s) with
 | none =>
  rw [show (ansI [] none).2 = false from rfl, if_neg (by simp), impl_ParseLin.j0, if_pos rfl]; rfl
 | some ps =>
  have hlen : ps.length ≤ 1048580 := by
   cases hws : splitS 32 s with
   | nil => rw [hws, partsL] at hp; obtain rfl := Option.some.inj hp; simp
   | cons w r =>
    rw [hws, partsL] at hp
    cases hw : wordI (firstS w).2 with
    | none => rw [hw] at hp; cases hp
    | some p =>
     rw [hw] at hp
     obtain ⟨l', hl, rfl⟩ := Option.map_eq_some_iff.1 hp
     have := partsL_len _ r l' (Nat.le_refl _) hl
     rw [hws] at h1
     simp only [List.length_cons] at h1 ⊢; omega
  rw [show (ansI [] (some ps)).2 = true from rfl, if_pos rfl, show (ansI [] (some ps)).1 = ps.map mkP from by simp [ansI], impl_ParseLin.j0, Option.bind_some]
  by_cases h8 : 8 < ns.length
  ·rw [if_pos (decide_eq_true (by omega)), if_pos h8]; rfl
  ·rw [if_neg (by simp; omega), if_neg h8, impl_ConstLin_eq, Option.bind_some]
   have hc : constLin 0 (ns.length : Int) = (0, List.replicate ns.length 0) := by
    unfold constLin; rw [if_pos ⟨by omega, rfl⟩, Int.toNat_natCast]
   rw [hc]
   have := impl_ParseLin_l0 s ns (by omega) hx ps hlen ps.length 0 k (0, List.replicate ns.length 0) (by omega) (by omega) (by simp)
   rw [List.drop_zero] at this
   exact this
def sufL : List UInt8 := [32, 62, 61, 32, 48]
def cutC (s : ByteArray) : ByteArray := ⟨(s.data.toList.take (s.size - 5)).toArray⟩
def parseCon (s : ByteArray) (ns : List ByteArray) : (Int × List Int) × Bool := if 5 < s.size ∧ s.data.toList.drop (s.size - 5) = sufL then parseLin (cutC s) ns else ((0, []), false)
theorem parseLin_nil (ns : List ByteArray) : parseLin ⟨#[]⟩ ns = ((0, []), false) := by
 unfold parseLin ansP
 rw [if_neg (fun x => x.1 rfl)]
theorem parseCon_len (s : ByteArray) (ns : List ByteArray) : (parseCon s ns).1.2.length ≤ 8 := by
 unfold parseCon
 split
 ·exact parseLin_len _ ns
 ·simp
theorem cutC_size (s : ByteArray) : (cutC s).size ≤ s.size := by
 unfold cutC; rw [ba_size, List.length_take, size_len]; omega
theorem spec_ParseConstraint_eq (s : ByteArray) (ns : List ByteArray) (hs : s.size ≤ 1048576) (hn : ns.length ≤ 1048576) (hx : ∀ x ∈ ns, x.size ≤ 1048576) (k : Nat) (hk : 13000000 < k) : spec_ParseConstraint.f k s ns = some (flat (parseCon s ns)) := by
 unfold spec_ParseConstraint.f parseCon
 rw [wrap_id (by omega) (by omega)]
 by_cases h5 : 5 < s.size
 ·rw [if_neg (by omega), if_pos (by omega), if_pos (by omega), show ((s.size : Int) - 5).toNat = s.size - 5 by omega, extract_drop, extract_take]
  have hc := cutC_size s
  by_cases h : s.data.toList.drop (s.size - 5) = sufL
  ·rw [if_pos (by rw [Lib.toList_data]; exact h), if_pos ⟨h5, h⟩, show (⟨(s.data.toList.take (s.size - 5)).toArray⟩ : ByteArray) = cutC s from rfl, spec_ParseLin_eq _ ns (by omega) hn hx k hk]; rfl
  ·rw [if_neg (by rw [Lib.toList_data]; exact h), if_neg (fun x => h x.2)]; rfl
 ·rw [if_pos (by omega), if_neg (fun x => h5 x.1)]; rfl
theorem impl_ParseConstraint_eq (s : ByteArray) (ns : List ByteArray) (hs : s.size ≤ 1048576) (hn : ns.length ≤ 1048576) (hx : ∀ x ∈ ns, x.size ≤ 1048576) (k : Nat) (hk : 2000000000000 < k) : impl_ParseConstraint.f k s ns = some (flat (parseCon s ns)) := by
 unfold impl_ParseConstraint.f strings_CutSuffix.f parseCon
 have hc := cutC_size s
 have hsuf : Lib.hasSuffix s.data.toList (⟨#[32, 62, 61, 32, 48]⟩ : ByteArray).data.toList = true ↔ s.data.toList.drop (s.size - 5) = sufL := by
  unfold Lib.hasSuffix
  rw [List.isSuffixOf_iff_suffix, List.suffix_iff_eq_drop, size_len]
  exact eq_comm
 rw [if_pos (by omega), Option.bind_some]
 simp only
 by_cases h : s.data.toList.drop (s.size - 5) = sufL
 ·have ht : (⟨(Lib.trimSuffix s.data.toList (⟨#[32, 62, 61, 32, 48]⟩ : ByteArray).data.toList).toArray⟩ : ByteArray) = cutC s := by
   unfold Lib.trimSuffix cutC
   rw [if_pos (hsuf.2 h), size_len]; rfl
  rw [if_pos (hsuf.2 h), ht, impl_ParseLin_eq _ ns (by omega) hn hx k hk]
  by_cases h5 : 5 < s.size
  ·rw [if_pos ⟨h5, h⟩]; rfl
  ·rw [if_neg (fun x => h5 x.1)]
   have hz : cutC s = ⟨#[]⟩ := by unfold cutC; rw [show s.size - 5 = 0 by omega]; rfl
   rw [hz, parseLin_nil]; rfl
 ·rw [if_neg (fun x => h (hsuf.1 x)), if_neg (fun x => h x.2)]; rfl
theorem impl_FormatConstraint_eq (B : Nat) (a : Int) (cs : List Int) (ns : List ByteArray) (hc : cs.length ≤ 1048576) (hn : ns.length ≤ 1048576) (hx : ∀ x ∈ ns, x.size ≤ B) (hB : B ≤ 1048576) (k : Nat) (hk : 4000000 < k) : impl_FormatConstraint.f k a cs ns = some (fmtCon a cs ns) := by
 unfold impl_FormatConstraint.f fmtCon
 have := fmtLin_size a cs ns
 rw [impl_FormatLin_eq B a cs ns hc hn hx hB k hk, Option.bind_some]
 by_cases h : fmtLin a cs ns = ⟨#[]⟩
 ·rw [if_pos ((text_lit _ []).2 h), if_pos h]
 ·rw [if_neg (fun x => h ((text_lit _ []).1 x)), if_neg h, if_pos (by omega)]
theorem spec_l1Ints_l0 (a b : List Int) (hab : a.length = b.length) (hn : a.length ≤ 4611686018427387904) : ∀ (d j k : Nat), j + d = a.length → d < k →
  spec_l1Ints.l0 k a b (j : Int) = some (decide (a.drop j = b.drop j)) := by
 intro d
 induction d with
 | zero =>
  intro j k hj hk
  obtain ⟨k, rfl⟩ := succ_of hk
  simp only [spec_l1Ints.l0]
  rw [if_neg (by omega), List.drop_eq_nil_of_le (by omega), List.drop_eq_nil_of_le (by omega)]; simp
 | succ d ih =>
  intro j k hj hk
  obtain ⟨k, rfl⟩ := succ_of hk
  have hlt : j < a.length := by omega
  simp only [spec_l1Ints.l0]
  rw [if_pos (by omega), if_pos (by omega), if_pos (by omega), rd_nat _ _ hlt, rd_nat _ _ (by omega), wrap_succ hlt hn, ih (j + 1) k (by omega) (by omega), List.drop_eq_getElem_cons hlt, List.drop_eq_getElem_cons (hab ▸ hlt : j < b.length)]
  simp only [List.cons.injEq]
  by_cases h : a[j] = b[j]
  ·rw [if_pos h]; simp only [h, true_and]
  ·rw [if_neg h]; simp only [h, false_and, decide_false]
theorem spec_l1Ints_eq (a b : List Int) (hn : a.length ≤ 4611686018427387904) (k : Nat) (hk : a.length < k) : spec_l1Ints.f k a b = some (decide (a = b)) := by
 unfold spec_l1Ints.f
 by_cases h : a.length = b.length
 ·rw [if_pos (by omega)]
  have := spec_l1Ints_l0 a b h hn a.length 0 k (by omega) hk
  simpa using this
 ·rw [if_neg (by omega)]; congr 1; symm; rw [decide_eq_false_iff_not]; intro e; exact h (by rw [e])
theorem spec_EqualLin_eq (c : Int) (a : List Int) (c' : Int) (b : List Int) (hn : a.length ≤ 4611686018427387904) (k : Nat) (hk : a.length < k) : spec_EqualLin.f k c a c' b = some (decide (c = c' ∧ a = b)) := by
 unfold spec_EqualLin.f
 rw [spec_l1Ints_eq a b hn k hk]
 by_cases h : c = c' <;> by_cases h2 : a = b <;> simp [h, h2]
theorem ansP_yes {s : ByteArray} {ns : List ByteArray} {st : Int × List Int} (h : (ansP s ns st).2 = true) : s ≠ ⟨#[]⟩ ∧ fmtLin (ansP s ns st).1.1 (ansP s ns st).1.2 ns = s := by
 unfold ansP at h ⊢
 split at h
 ·rename_i hc; rw [if_pos hc]; exact hc
 ·cases h
theorem parse_yes {s : ByteArray} {ns : List ByteArray} (h : (parseLin s ns).2 = true) : s ≠ ⟨#[]⟩ ∧ fmtLin (parseLin s ns).1.1 (parseLin s ns).1.2 ns = s := ansP_yes h
theorem parseCon_yes {s : ByteArray} {ns : List ByteArray} (h : (parseCon s ns).2 = true) : fmtCon (parseCon s ns).1.1 (parseCon s ns).1.2 ns = s := by
 unfold parseCon at h ⊢
 by_cases hc : 5 < s.size ∧ s.data.toList.drop (s.size - 5) = sufL
 ·rw [if_pos hc] at h ⊢
  obtain ⟨h1, h2⟩ := parse_yes h
  unfold fmtCon
  rw [h2, if_neg h1]
  apply ByteArray.ext; apply Array.toList_inj.1
  rw [data_app]
  show (cutC s).data.toList ++ sufL = _
  rw [← hc.2]
  exact List.take_append_drop _ _
 ·rw [if_neg hc] at h; cases h
theorem linText_j1 (b : List Int) (hb : b.length ≤ 1048576) (k : Nat) (hk : 2000000000001 < k) : laws_FnLinText.j1 k b false = some true := by
 obtain ⟨k, rfl⟩ := succ_of hk
 obtain ⟨s, ns, e, hs, hn, hx⟩ := spec_DrawParseConstraint_ex b (by omega) k (by omega) (by omega)
 have hx' : ∀ n ∈ ns, n.size ≤ 1048576 := fun n h => by have := hx n h; omega
 rw [laws_FnLinText.j1, if_neg (by simp), e]; simp only [Option.bind_some]
 rw [impl_ParseConstraint_eq s ns (by omega) (by omega) hx' k (by omega), spec_ParseConstraint_eq s ns (by omega) (by omega) hx' k (by omega)]; simp only [Option.bind_some]
 rw [if_pos (by simp)]
 show (if (parseCon s ns).2 = true then _ else _) = _
 by_cases h : (parseCon s ns).2 = true
 ·have hl := parseCon_len s ns
  rw [if_pos h]
  show ((impl_FormatConstraint.f k (parseCon s ns).1.1 (parseCon s ns).1.2 ns).bind _) = _
  rw [impl_FormatConstraint_eq 2 _ _ ns (by omega) (by omega) hx (by omega) k (by omega), Option.bind_some, parseCon_yes h]; simp
 ·rw [if_neg h]
theorem linText_j0 (b : List Int) (hb : b.length ≤ 1048576) (k : Nat) (hk : 2000000000002 < k) : laws_FnLinText.j0 k b false = some true := by
 obtain ⟨k, rfl⟩ := succ_of hk
 obtain ⟨s, ns, e, hs, hn, hx⟩ := spec_DrawParseLin_ex b (by omega) k (by omega) (by omega)
 have hx' : ∀ n ∈ ns, n.size ≤ 1048576 := fun n h => by have := hx n h; omega
 rw [laws_FnLinText.j0, if_neg (by simp), e]; simp only [Option.bind_some]
 rw [impl_ParseLin_eq s ns (by omega) (by omega) hx' k (by omega), spec_ParseLin_eq s ns (by omega) (by omega) hx' k (by omega)]; simp only [Option.bind_some]
 rw [if_neg (by simp)]
 show (if (parseLin s ns).2 = true then _ else _) = _
 by_cases h : (parseLin s ns).2 = true
 ·have hl := parseLin_len s ns
  rw [if_pos h]
  show ((impl_FormatLin.f k (parseLin s ns).1.1 (parseLin s ns).1.2 ns).bind _) = _
  rw [impl_FormatLin_eq 2 _ _ ns (by omega) (by omega) hx (by omega) k (by omega), Option.bind_some, (parse_yes h).2]
  simp only [bne_self_eq_false]
  exact linText_j1 b hb k (by omega)
 ·rw [if_neg h]; exact linText_j1 b hb k (by omega)
theorem FnLinText : laws_FnLinText.Pure := by
 intro b hb
 refine ⟨2100000000000, ?_⟩
 unfold laws_FnLinText.f laws_big.f
 rw [Option.bind_some]
 by_cases hz : (b.length : Int) > 1048576
 ·rw [if_pos (by simpa using hz)]
 rw [if_neg (by simpa using hz)]
 obtain ⟨c, cs, ns, e, hc, hn, hx⟩ := spec_DrawFormatLin_ex b (by omega) 2100000000000 (by omega) (by omega)
 have hx' : ∀ n ∈ ns, n.size ≤ 1048576 := fun n h => by have := hx n h; omega
 have hs := fmtLin_size c cs ns
 rw [e]; simp only [Option.bind_some]
 rw [impl_FormatLin_eq 2 c cs ns (by omega) (by omega) hx (by omega) _ (by omega)]; simp only [Option.bind_some]
 rw [impl_ParseLin_eq _ ns (by omega) (by omega) hx' _ (by omega), spec_ParseLin_eq _ ns (by omega) (by omega) hx' _ (by omega)]; simp only [Option.bind_some]
 rw [spec_FormatLin_eq 2 c cs ns (by omega) (by omega) hx (by omega) _ (by omega)]; simp only [Option.bind_some, if_true]
 rw [if_neg (by simp)]
 show (if (parseLin (fmtLin c cs ns) ns).2 = true then _ else _) = _
 by_cases h : (parseLin (fmtLin c cs ns) ns).2 = true
 ·obtain ⟨h1, h2⟩ := parse_yes h
  have hi := fmt_inj h2 (rfl : fmtLin c cs ns = fmtLin c cs ns) h1
  have hl := parseLin_len (fmtLin c cs ns) ns
  rw [if_pos h]
  show ((spec_EqualLin.f _ (parseLin (fmtLin c cs ns) ns).1.1 (parseLin (fmtLin c cs ns) ns).1.2 c cs).bind _) = _
  rw [spec_EqualLin_eq _ _ _ _ (by omega) _ (by omega), Option.bind_some]
  have e1 := congrArg Prod.fst hi
  have e2 := congrArg Prod.snd hi
  simp only at e1 e2
  rw [e1, e2]; simp only [and_self, decide_true, Bool.not_true]
  exact linText_j0 b (by omega) _ (by omega)
 ·rw [if_neg h]; exact linText_j0 b (by omega) _ (by omega)
end Go.Proofs.YtmdjhmggogfbdaaGreatDoor.Pure
