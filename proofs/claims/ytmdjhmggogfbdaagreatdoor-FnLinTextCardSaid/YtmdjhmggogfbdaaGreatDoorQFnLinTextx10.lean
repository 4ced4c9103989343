-- Made by a program of this claim's own (wip/print): not the kit's print as it stands.
import Derived.Test.YtmdjhmggogfbdaaGreatDoorUFnLinTextTri
import Derived.Test.YtmdjhmggogfbdaaGreatDoorQFnLinTextx0
import Derived.Test.YtmdjhmggogfbdaaGreatDoorQFnLinTextx7
import Derived.Test.YtmdjhmggogfbdaaGreatDoorQFnLinTextx8
import Derived.Test.YtmdjhmggogfbdaaGreatDoorQFnLinTextx9
namespace Go.Proofs.YtmdjhmggogfbdaaGreatDoor.QFnLinText
open Go.RowKit Go.Proofs.YtmdjhmggogfbdaaGreatDoorV.PrintWords Go.Proofs.YtmdjhmggogfbdaaGreatDoorV.PrintLast Go.Proofs.YtmdjhmggogfbdaaGreatDoorV.PrintMore
attribute [local go_sem] max2_int min2_int max_two min_two max_three min_three max_four min_four   -- for this text's walks alone
set_option linter.unusedVariables false
set_option linter.unusedSimpArgs false

/-! ### impl_partsOf: function 30 -/
mutual
def impl_partsOf.l0 : Nat → List (S52) → List ByteArray → Int → Option ((List (S52)) × Bool)
 | 0, _, _, _ => none
 | k + 1, x4, x5, x6 => if x6 < (x5.length : Int) then (if 0 ≤ x6 then (if x6 = 0 then ((strings_HasPrefix.f (rdOf ByteArray.empty x5 x6) (⟨#[45]⟩ : ByteArray)).bind fun t201 => (if t201 = true then (if 1 ≤ ((rdOf ByteArray.empty x5 x6).size : Int) then (impl_partsOf.j2 k x4 x5 x6 (-1) ((rdOf ByteArray.empty x5 x6).extract 1 (rdOf ByteArray.empty x5 x6).size)) else (none)) else (impl_partsOf.j2 k x4 x5 x6 1 (rdOf ByteArray.empty x5 x6)))) else (if (rdOf ByteArray.empty x5 x6).toList = ([43] : List UInt8) then (impl_partsOf.j1 k x4 x5 x6 1 (rdOf ByteArray.empty x5 x6) ((wrap64 (x6 + 1)) == (x5.length : Int))) else (if (rdOf ByteArray.empty x5 x6).toList = ([45] : List UInt8) then (impl_partsOf.j1 k x4 x5 x6 1 (rdOf ByteArray.empty x5 x6) ((wrap64 (x6 + 1)) == (x5.length : Int))) else (impl_partsOf.j1 k x4 x5 x6 1 (rdOf ByteArray.empty x5 x6) true)))) else (none)) else (some (x4, true))
def impl_partsOf.j2 : Nat → List (S52) → List ByteArray → Int → Int → ByteArray → Option ((List (S52)) × Bool)
 | 0, _, _, _, _, _ => none
 | k + 1, x4, x5, x6, x7, x8 => impl_partsOf.l1 k x4 x5 x6 x7 x8 0
def impl_partsOf.j4 : Nat → List (S52) → List ByteArray → Int → Int → ByteArray → Int → Option ((List (S52)) × Bool)
 | 0, _, _, _, _, _, _ => none
 | k + 1, x4, x5, x6, x7, x8, x9 => if x9 > 0 then (impl_partsOf.j5 k x4 x5 x6 x7 x8 x9 1 true) else (impl_partsOf.j5 k x4 x5 x6 x7 x8 x9 1 (x8.toList == ([] : List UInt8)))
def impl_partsOf.j5 : Nat → List (S52) → List ByteArray → Int → Int → ByteArray → Int → Int → Bool → Option ((List (S52)) × Bool)
 | 0, _, _, _, _, _, _, _, _ => none
 | k + 1, x4, x5, x6, x7, x8, x9, x10, x75 => if x75 = true then (if 0 ≤ x9 then (if x9 ≤ (x8.size : Int) then ((impl_ParseNumber.f (x8.extract 0 (x9 : Int).toNat)).bind fun bt204 => (if bt204.2 = true then (if x4.length < 5864062014805 then (impl_partsOf.l0 k (x4 ++ [(⟨wrap64 (x7 * bt204.1), x8.extract (x9 : Int).toNat x8.size⟩ : S52)]) x5 (wrap64 (x6 + 1))) else (none)) else (some (([] : List (S52)), false)))) else (none)) else (none)) else (if 0 ≤ x9 then (if x9 ≤ (x8.size : Int) then (if x4.length < 5864062014805 then (impl_partsOf.l0 k (x4 ++ [(⟨wrap64 (x7 * x10), x8.extract (x9 : Int).toNat x8.size⟩ : S52)]) x5 (wrap64 (x6 + 1))) else (none)) else (none)) else (none))
def impl_partsOf.l1 : Nat → List (S52) → List ByteArray → Int → Int → ByteArray → Int → Option ((List (S52)) × Bool)
 | 0, _, _, _, _, _, _ => none
 | k + 1, x4, x5, x6, x7, x8, x9 => if x9 < (x8.size : Int) then (if 0 ≤ x9 then (if (bt x8 x9) ≥ 48 then (if (bt x8 x9) ≤ 57 then (impl_partsOf.l1 k x4 x5 x6 x7 x8 (wrap64 (x9 + 1))) else (impl_partsOf.j4 k x4 x5 x6 x7 x8 x9)) else (impl_partsOf.j4 k x4 x5 x6 x7 x8 x9)) else (none)) else (impl_partsOf.j4 k x4 x5 x6 x7 x8 x9)
def impl_partsOf.j1 : Nat → List (S52) → List ByteArray → Int → Int → ByteArray → Bool → Option ((List (S52)) × Bool)
 | 0, _, _, _, _, _, _ => none
 | k + 1, x4, x5, x6, x7, x8, x43 => if x43 = true then (some (([] : List (S52)), false)) else (if x8.toList = ([45] : List UInt8) then (if 0 ≤ (wrap64 (x6 + 1)) then (if (wrap64 (x6 + 1)) < (x5.length : Int) then (impl_partsOf.j2 k x4 x5 (wrap64 (x6 + 1)) (-1) (rdOf ByteArray.empty x5 (wrap64 (x6 + 1)))) else (none)) else (none)) else (if 0 ≤ (wrap64 (x6 + 1)) then (if (wrap64 (x6 + 1)) < (x5.length : Int) then (impl_partsOf.j2 k x4 x5 (wrap64 (x6 + 1)) x7 (rdOf ByteArray.empty x5 (wrap64 (x6 + 1)))) else (none)) else (none)))
end
def impl_partsOf.f (k : Nat) (a0 : ByteArray) : Option ((List (S52)) × Bool) := (strings_Split.f a0 (⟨#[32]⟩ : ByteArray)).bind fun t197 => (impl_partsOf.l0 k ([] : List (S52)) t197 0)
theorem impl_partsOf.mono_l : ∀ k, (∀ y0 y1 y2, LeO (impl_partsOf.l0 k y0 y1 y2) (impl_partsOf.l0 (k + 1) y0 y1 y2)) ∧ (∀ y0 y1 y2 y3 y4, LeO (impl_partsOf.j2 k y0 y1 y2 y3 y4) (impl_partsOf.j2 (k + 1) y0 y1 y2 y3 y4)) ∧ (∀ y0 y1 y2 y3 y4 y5, LeO (impl_partsOf.j4 k y0 y1 y2 y3 y4 y5) (impl_partsOf.j4 (k + 1) y0 y1 y2 y3 y4 y5)) ∧ (∀ y0 y1 y2 y3 y4 y5 y6 y7, LeO (impl_partsOf.j5 k y0 y1 y2 y3 y4 y5 y6 y7) (impl_partsOf.j5 (k + 1) y0 y1 y2 y3 y4 y5 y6 y7)) ∧ (∀ y0 y1 y2 y3 y4 y5, LeO (impl_partsOf.l1 k y0 y1 y2 y3 y4 y5) (impl_partsOf.l1 (k + 1) y0 y1 y2 y3 y4 y5)) ∧ (∀ y0 y1 y2 y3 y4 y5, LeO (impl_partsOf.j1 k y0 y1 y2 y3 y4 y5) (impl_partsOf.j1 (k + 1) y0 y1 y2 y3 y4 y5))
 | 0 => ⟨fun _ _ _ r h => by simp [impl_partsOf.l0] at h, fun _ _ _ _ _ r h => by simp [impl_partsOf.j2] at h, fun _ _ _ _ _ _ r h => by simp [impl_partsOf.j4] at h, fun _ _ _ _ _ _ _ _ r h => by simp [impl_partsOf.j5] at h, fun _ _ _ _ _ _ r h => by simp [impl_partsOf.l1] at h, fun _ _ _ _ _ _ r h => by simp [impl_partsOf.j1] at h⟩
 | k + 1 => by
  obtain ⟨ih0, ih1, ih2, ih3, ih4, ih5⟩ := impl_partsOf.mono_l k
  refine ⟨?_, ?_, ?_, ?_, ?_, ?_⟩
  ·intro y0 y1 y2
   unfold impl_partsOf.l0
   repeat' first
   | (with_reducible exact ih0 _ _ _)
   | (with_reducible exact ih1 _ _ _ _ _)
   | (with_reducible exact ih2 _ _ _ _ _ _)
   | (with_reducible exact ih3 _ _ _ _ _ _ _ _)
   | (with_reducible exact ih4 _ _ _ _ _ _)
   | (with_reducible exact ih5 _ _ _ _ _ _)
   | (with_reducible exact LeO.refl _)
   | (with_reducible exact LeO.none _)
   | (with_reducible refine LeO.ite ?_ ?_)
   | (with_reducible refine LeO.bind ?_ (fun _ => ?_))
   | exact ih0 _ _ _
   | exact ih1 _ _ _ _ _
   | exact ih2 _ _ _ _ _ _
   | exact ih3 _ _ _ _ _ _ _ _
   | exact ih4 _ _ _ _ _ _
   | exact ih5 _ _ _ _ _ _
   | exact LeO.none _
   | refine LeO.ite ?_ ?_
   | refine LeO.bind ?_ (fun _ => ?_)
  ·intro y0 y1 y2 y3 y4
   unfold impl_partsOf.j2
   repeat' first
   | (with_reducible exact ih0 _ _ _)
   | (with_reducible exact ih1 _ _ _ _ _)
   | (with_reducible exact ih2 _ _ _ _ _ _)
   | (with_reducible exact ih3 _ _ _ _ _ _ _ _)
   | (with_reducible exact ih4 _ _ _ _ _ _)
   | (with_reducible exact ih5 _ _ _ _ _ _)
   | (with_reducible exact LeO.refl _)
   | (with_reducible exact LeO.none _)
   | (with_reducible refine LeO.ite ?_ ?_)
   | (with_reducible refine LeO.bind ?_ (fun _ => ?_))
   | exact ih0 _ _ _
   | exact ih1 _ _ _ _ _
   | exact ih2 _ _ _ _ _ _
   | exact ih3 _ _ _ _ _ _ _ _
   | exact ih4 _ _ _ _ _ _
   | exact ih5 _ _ _ _ _ _
   | exact LeO.none _
   | refine LeO.ite ?_ ?_
   | refine LeO.bind ?_ (fun _ => ?_)
  ·intro y0 y1 y2 y3 y4 y5
   unfold impl_partsOf.j4
   repeat' first
   | (with_reducible exact ih0 _ _ _)
   | (with_reducible exact ih1 _ _ _ _ _)
   | (with_reducible exact ih2 _ _ _ _ _ _)
   | (with_reducible exact ih3 _ _ _ _ _ _ _ _)
   | (with_reducible exact ih4 _ _ _ _ _ _)
   | (with_reducible exact ih5 _ _ _ _ _ _)
   | (with_reducible exact LeO.refl _)
   | (with_reducible exact LeO.none _)
   | (with_reducible refine LeO.ite ?_ ?_)
   | (with_reducible refine LeO.bind ?_ (fun _ => ?_))
   | exact ih0 _ _ _
   | exact ih1 _ _ _ _ _
   | exact ih2 _ _ _ _ _ _
   | exact ih3 _ _ _ _ _ _ _ _
   | exact ih4 _ _ _ _ _ _
   | exact ih5 _ _ _ _ _ _
   | exact LeO.none _
   | refine LeO.ite ?_ ?_
   | refine LeO.bind ?_ (fun _ => ?_)
  ·intro y0 y1 y2 y3 y4 y5 y6 y7
   unfold impl_partsOf.j5
   repeat' first
   | (with_reducible exact ih0 _ _ _)
   | (with_reducible exact ih1 _ _ _ _ _)
   | (with_reducible exact ih2 _ _ _ _ _ _)
   | (with_reducible exact ih3 _ _ _ _ _ _ _ _)
   | (with_reducible exact ih4 _ _ _ _ _ _)
   | (with_reducible exact ih5 _ _ _ _ _ _)
   | (with_reducible exact LeO.refl _)
   | (with_reducible exact LeO.none _)
   | (with_reducible refine LeO.ite ?_ ?_)
   | (with_reducible refine LeO.bind ?_ (fun _ => ?_))
   | exact ih0 _ _ _
   | exact ih1 _ _ _ _ _
   | exact ih2 _ _ _ _ _ _
   | exact ih3 _ _ _ _ _ _ _ _
   | exact ih4 _ _ _ _ _ _
   | exact ih5 _ _ _ _ _ _
   | exact LeO.none _
   | refine LeO.ite ?_ ?_
   | refine LeO.bind ?_ (fun _ => ?_)
  ·intro y0 y1 y2 y3 y4 y5
   unfold impl_partsOf.l1
   repeat' first
   | (with_reducible exact ih0 _ _ _)
   | (with_reducible exact ih1 _ _ _ _ _)
   | (with_reducible exact ih2 _ _ _ _ _ _)
   | (with_reducible exact ih3 _ _ _ _ _ _ _ _)
   | (with_reducible exact ih4 _ _ _ _ _ _)
   | (with_reducible exact ih5 _ _ _ _ _ _)
   | (with_reducible exact LeO.refl _)
   | (with_reducible exact LeO.none _)
   | (with_reducible refine LeO.ite ?_ ?_)
   | (with_reducible refine LeO.bind ?_ (fun _ => ?_))
   | exact ih0 _ _ _
   | exact ih1 _ _ _ _ _
   | exact ih2 _ _ _ _ _ _
   | exact ih3 _ _ _ _ _ _ _ _
   | exact ih4 _ _ _ _ _ _
   | exact ih5 _ _ _ _ _ _
   | exact LeO.none _
   | refine LeO.ite ?_ ?_
   | refine LeO.bind ?_ (fun _ => ?_)
  ·intro y0 y1 y2 y3 y4 y5
   unfold impl_partsOf.j1
   repeat' first
   | (with_reducible exact ih0 _ _ _)
   | (with_reducible exact ih1 _ _ _ _ _)
   | (with_reducible exact ih2 _ _ _ _ _ _)
   | (with_reducible exact ih3 _ _ _ _ _ _ _ _)
   | (with_reducible exact ih4 _ _ _ _ _ _)
   | (with_reducible exact ih5 _ _ _ _ _ _)
   | (with_reducible exact LeO.refl _)
   | (with_reducible exact LeO.none _)
   | (with_reducible refine LeO.ite ?_ ?_)
   | (with_reducible refine LeO.bind ?_ (fun _ => ?_))
   | exact ih0 _ _ _
   | exact ih1 _ _ _ _ _
   | exact ih2 _ _ _ _ _ _
   | exact ih3 _ _ _ _ _ _ _ _
   | exact ih4 _ _ _ _ _ _
   | exact ih5 _ _ _ _ _ _
   | exact LeO.none _
   | refine LeO.ite ?_ ?_
   | refine LeO.bind ?_ (fun _ => ?_)
theorem impl_partsOf.mono : ∀ a0 k, LeO (impl_partsOf.f k a0) (impl_partsOf.f (k + 1) a0) := by
 intro a0 k
 obtain ⟨ih0, ih1, ih2, ih3, ih4, ih5⟩ := impl_partsOf.mono_l k
 unfold impl_partsOf.f
 repeat' first
   | (with_reducible exact ih0 _ _ _)
   | (with_reducible exact ih1 _ _ _ _ _)
   | (with_reducible exact ih2 _ _ _ _ _ _)
   | (with_reducible exact ih3 _ _ _ _ _ _ _ _)
   | (with_reducible exact ih4 _ _ _ _ _ _)
   | (with_reducible exact ih5 _ _ _ _ _ _)
   | (with_reducible exact LeO.refl _)
   | (with_reducible exact LeO.none _)
   | (with_reducible refine LeO.ite ?_ ?_)
   | (with_reducible refine LeO.bind ?_ (fun _ => ?_))
   | exact ih0 _ _ _
   | exact ih1 _ _ _ _ _
   | exact ih2 _ _ _ _ _ _
   | exact ih3 _ _ _ _ _ _ _ _
   | exact ih4 _ _ _ _ _ _
   | exact ih5 _ _ _ _ _ _
   | exact LeO.none _
   | refine LeO.ite ?_ ?_
   | refine LeO.bind ?_ (fun _ => ?_)
set_option maxHeartbeats 8000000 in
set_option maxRecDepth 100000 in
theorem impl_partsOf.calls (k : Nat) (a0 : ByteArray) (r1 : List (S52)) (r2 : Bool) (w : World) (h : impl_partsOf.f k a0 = some (r1, r2)) (hTb_ : TbL w := by first | assumption | ((with_reducible repeat (first | apply tb_alloc | apply tb_drewN | apply tb_drew)); first | assumption | exact tb_of (by assumption) (by assumption) | exact tb_of (by assumption) ⟨below_set (below_set (Aside0.out (by assumption)) (Aside0.out (by assumption))) (Aside0.out (by assumption))⟩)) :
  Calls Tryz.prog 30 #[.string a0] w fun e w' => ∃ v0_ : Value, e = .returned (.tuple #[v0_, .bool r2]) ∧ Kd.R k52 52 w' w.heap.size (fun _ => True) v0_ r1 ∧ Below w.heap.size w w' := by
 have hu52 := Tryz.underlying52
 have HB := Aside0.mk (Below.refl w.heap.size w)
 have H : ((strings_Split.f a0 (⟨#[32]⟩ : ByteArray)).bind fun t197 => (impl_partsOf.l0 k ([] : List (S52)) t197 0)) = some (r1, r2) := h
 clear h
 replace H := Option.bind_eq_some_iff.mp H
 obtain ⟨t197, A20, H⟩ := H
 replace H : (impl_partsOf.l0 k ([] : List (S52)) t197 0) = some (r1, r2) := H
 have A2 := Aside0.mk A20
 clear A20
 have H' := Aside0.mk H
 clear H
 go_enter Tryz.func30, Tryz.ntmps30
 go_wp2_with (first | (go_at_call 57; (with_reducible refine (strings_Split.calls a0 (⟨#[32]⟩ : ByteArray) t197 _ A2.out).mono ?_); rintro e w3 ⟨v198, rfl, ho0, hb⟩; have HO199 := Aside0.mk (Kd.R_lower ho0 (below_size (ms HB))); replace HB := bs HB hb; (try clear hb); (try clear ho0)))
 repeat (go_quiet (first | (go_at_call 57; (with_reducible refine (strings_Split.calls a0 (⟨#[32]⟩ : ByteArray) t197 _ A2.out).mono ?_); rintro e w3 ⟨v198, rfl, ho0, hb⟩; have HO199 := Aside0.mk (Kd.R_lower ho0 (below_size (ms HB))); replace HB := bs HB hb; (try clear hb); (try clear ho0))); try go_wp2_with (first | (go_at_call 57; (with_reducible refine (strings_Split.calls a0 (⟨#[32]⟩ : ByteArray) t197 _ A2.out).mono ?_); rintro e w3 ⟨v198, rfl, ho0, hb⟩; have HO199 := Aside0.mk (Kd.R_lower ho0 (below_size (ms HB))); replace HB := bs HB hb; (try clear hb); (try clear ho0))))
 go_loopg [4, 6] k (fun kq v4 v6 w' => ∃ (x4_1 : List (S52)) (x6_1 : Int), v6 = .int .i64 x6_1 ∧ Aside0 (impl_partsOf.l0 kq x4_1 t197 x6_1 = some (r1, r2)) ∧ Aside0 (kq ≤ k) ∧ Aside0 (Kd.R k52 52 w' w.heap.size (fun _ => True) v4 x4_1) ∧ Aside0 (Kd.R Kd.string 9 w' w.heap.size (fun _ => True) v198 t197) ∧ Aside0 (Below w.heap.size w w'))
 case atStart => exact ⟨(([] : List (S52))), (0), (by first | rfl | (simp; done) | (simp [*]; done)), H', ⟨Nat.le_refl _⟩, ⟨by first | exact Kd.R_nil _ _ _ _ _ | exact Kd.N_nil _ _ _ _ _ | exact Kd.V_nil _ _ _ _ _ | exact Kd.Q_nil _ _ _ _ _ | exact Kd.S_nil _ _ _ _ _⟩, ⟨by (with_reducible repeat (first | apply Kd.R_alloc | apply Kd.R_drewN | apply Kd.R_drew)); exact HO199.out⟩, ⟨ms HB⟩⟩
 case round =>
  clear H'
  try clear p2
  try clear c3
  obtain ⟨x4_1, x6_1, rfl, HA, HK1, HO_4, HO_5, HB⟩ := hrel
  cases gk with
  | zero => exact absurd HA.out (by simp [impl_partsOf.l0])
  | succ k1 =>
   have H := HA.out
   clear HA
   simp only [impl_partsOf.l0] at H
   by_cases c4 : x6_1 < (t197.length : Int)
   ·rw [if_pos c4] at H
    have c4b0 : decide (x6_1 < (t197.length : Int)) = true := decide_eq_true c4
    clear c4
    by_cases c5 : 0 ≤ x6_1
    ·rw [if_pos c5] at H
     have c5b0 : decide (0 ≤ x6_1) = true := decide_eq_true c5
     clear c5
     have HC6 := Aside0.mk H
     clear H
     obtain ⟨Ao7, co7, eo7⟩ := Kd.R_slice HO_5.out
     subst eo7
     have p200 : 0 ≤ (x6_1 : Int) := of_decide_eq_true (by first | (with_reducible assumption) | assumption)
     have q200 : x6_1 < (t197.length : Int) := of_decide_eq_true (by first | (with_reducible assumption) | assumption)
     obtain ⟨ad200, e200, hx200_0⟩ := Kd.at_string (Kd.R_reads' HO_5.out).2.2 x6_1 p200 q200
     cases e200
     replace p200 := eq_true p200
     replace q200 := eq_true q200
     go_upto_if 26 with (fail)
     repeat (go_quiet (fail); go_upto_if 26 with (fail))
     go_cut [6, 7, 8] (fun v6 v7 v8 wc => ∃ (kq : Nat) (x6_5 : Int) (x7_5 : Int) (x8_5 : ByteArray), v6 = .int .i64 x6_5 ∧ v7 = .int .i64 x7_5 ∧ v8 = .string x8_5 ∧ Aside0 (impl_partsOf.j2 kq x4_1 t197 x6_5 x7_5 x8_5 = some (r1, r2)) ∧ Aside0 (kq ≤ k1) ∧ Aside0 (Kd.R k52 52 wc w.heap.size (fun _ => True) u4 x4_1) ∧ Aside0 (Kd.R Kd.string 9 wc w.heap.size (fun _ => True) (.slice (some ad200) t197.length co7) t197) ∧ Aside0 (Below w.heap.size w wc))
     case first =>
      have H := HC6.out
      clear HC6
      by_cases c8 : x6_1 = 0
      ·rw [if_pos c8] at H
       have c8b0 : (x6_1 == 0) = true := beq_iff_eq.mpr c8
       have c8b1 : (x6_1 != 0) = false := bne_eq_false_iff_eq.mpr c8
       clear c8
       (first | rw [c8b0] | (simp only [i64_w, i32_w]; rw [c8b0]) | skip)
       replace H := Option.bind_eq_some_iff.mp H
       obtain ⟨t201, A90, H⟩ := H
       replace H : (if t201 = true then (if 1 ≤ ((rdOf ByteArray.empty t197 x6_1).size : Int) then (impl_partsOf.j2 k1 x4_1 t197 x6_1 (-1) ((rdOf ByteArray.empty t197 x6_1).extract 1 (rdOf ByteArray.empty t197 x6_1).size)) else (none)) else (impl_partsOf.j2 k1 x4_1 t197 x6_1 1 (rdOf ByteArray.empty t197 x6_1))) = some (r1, r2) := H
       have A9 := Aside0.mk A90
       clear A90
       by_cases c10 : t201 = true
       ·subst c10
        have H1 : (if 1 ≤ ((rdOf ByteArray.empty t197 x6_1).size : Int) then (impl_partsOf.j2 k1 x4_1 t197 x6_1 (-1) ((rdOf ByteArray.empty t197 x6_1).extract 1 (rdOf ByteArray.empty t197 x6_1).size)) else (none)) = some (r1, r2) := by rw [if_pos rfl] at H; exact H
        clear H
        have H := H1
        clear H1
        by_cases c11 : 1 ≤ ((rdOf ByteArray.empty t197 x6_1).size : Int)
        ·rw [if_pos c11] at H
         have c11b0 := eq_true c11
         have c11b1 : decide (1 ≤ ((rdOf ByteArray.empty t197 x6_1).size : Int)) = true := decide_eq_true c11
         clear c11
         have H' := Aside0.mk H
         clear H
         go_wp2_with (first | (go_at_call 58; (with_reducible refine (strings_HasPrefix.calls (rdOf ByteArray.empty t197 x6_1) (⟨#[45]⟩ : ByteArray) true _ A9.out).mono ?_); rintro e w' ⟨rfl, ⟨nd, rfl⟩⟩; (try first | exact ⟨rfl, _, World.drewN_drewN _ _ _⟩ | exact ⟨rfl, _, Eq.trans (World.drewN_drewN _ _ _) (congrArg (World.drewN _) (Nat.add_assoc _ _ _))⟩)))
         repeat (go_quiet (first | (go_at_call 58; (with_reducible refine (strings_HasPrefix.calls (rdOf ByteArray.empty t197 x6_1) (⟨#[45]⟩ : ByteArray) true _ A9.out).mono ?_); rintro e w' ⟨rfl, ⟨nd, rfl⟩⟩; (try first | exact ⟨rfl, _, World.drewN_drewN _ _ _⟩ | exact ⟨rfl, _, Eq.trans (World.drewN_drewN _ _ _) (congrArg (World.drewN _) (Nat.add_assoc _ _ _))⟩))); try go_wp2_with (first | (go_at_call 58; (with_reducible refine (strings_HasPrefix.calls (rdOf ByteArray.empty t197 x6_1) (⟨#[45]⟩ : ByteArray) true _ A9.out).mono ?_); rintro e w' ⟨rfl, ⟨nd, rfl⟩⟩; (try first | exact ⟨rfl, _, World.drewN_drewN _ _ _⟩ | exact ⟨rfl, _, Eq.trans (World.drewN_drewN _ _ _) (congrArg (World.drewN _) (Nat.add_assoc _ _ _))⟩))))
         go_meet
         case rel => exact ⟨_, (x6_1), ((-1)), ((rdOf ByteArray.empty t197 x6_1).extract 1 (rdOf ByteArray.empty t197 x6_1).size), (by first | rfl | (simp; done) | (simp [*]; done)), (by first | rfl | (simp; done) | (simp [*]; done)), (by first | rfl | (simp; done) | (simp [*]; done)), H', ⟨by have := HK1.out; first | omega | exact Nat.le_refl _⟩, ⟨by (with_reducible repeat (first | apply Kd.R_alloc | apply Kd.R_drewN | apply Kd.R_drew)); exact HO_4.out⟩, ⟨by (with_reducible repeat (first | apply Kd.R_alloc | apply Kd.R_drewN | apply Kd.R_drew)); exact HO_5.out⟩, ⟨ms HB⟩⟩
        ·rw [if_neg c11] at H
         exact absurd H (by simp)
       ·replace c10 := Bool.eq_false_iff.mpr c10
        subst c10
        have H1 : (impl_partsOf.j2 k1 x4_1 t197 x6_1 1 (rdOf ByteArray.empty t197 x6_1)) = some (r1, r2) := by rw [if_neg (show ¬ (false = true) by decide)] at H; exact H
        clear H
        have H := H1
        clear H1
        have H' := Aside0.mk H
        clear H
        go_wp2_with (first | (go_at_call 58; (with_reducible refine (strings_HasPrefix.calls (rdOf ByteArray.empty t197 x6_1) (⟨#[45]⟩ : ByteArray) false _ A9.out).mono ?_); rintro e w' ⟨rfl, ⟨nd, rfl⟩⟩; (try first | exact ⟨rfl, _, World.drewN_drewN _ _ _⟩ | exact ⟨rfl, _, Eq.trans (World.drewN_drewN _ _ _) (congrArg (World.drewN _) (Nat.add_assoc _ _ _))⟩)))
        repeat (go_quiet (first | (go_at_call 58; (with_reducible refine (strings_HasPrefix.calls (rdOf ByteArray.empty t197 x6_1) (⟨#[45]⟩ : ByteArray) false _ A9.out).mono ?_); rintro e w' ⟨rfl, ⟨nd, rfl⟩⟩; (try first | exact ⟨rfl, _, World.drewN_drewN _ _ _⟩ | exact ⟨rfl, _, Eq.trans (World.drewN_drewN _ _ _) (congrArg (World.drewN _) (Nat.add_assoc _ _ _))⟩))); try go_wp2_with (first | (go_at_call 58; (with_reducible refine (strings_HasPrefix.calls (rdOf ByteArray.empty t197 x6_1) (⟨#[45]⟩ : ByteArray) false _ A9.out).mono ?_); rintro e w' ⟨rfl, ⟨nd, rfl⟩⟩; (try first | exact ⟨rfl, _, World.drewN_drewN _ _ _⟩ | exact ⟨rfl, _, Eq.trans (World.drewN_drewN _ _ _) (congrArg (World.drewN _) (Nat.add_assoc _ _ _))⟩))))
        go_meet
        case rel => exact ⟨_, (x6_1), (1), (rdOf ByteArray.empty t197 x6_1), (by first | rfl | (simp; done) | (simp [*]; done)), (by first | rfl | (simp; done) | (simp [*]; done)), (by first | rfl | (simp; done) | (simp [*]; done)), H', ⟨by have := HK1.out; first | omega | exact Nat.le_refl _⟩, ⟨by (with_reducible repeat (first | apply Kd.R_alloc | apply Kd.R_drewN | apply Kd.R_drew)); exact HO_4.out⟩, ⟨by (with_reducible repeat (first | apply Kd.R_alloc | apply Kd.R_drewN | apply Kd.R_drew)); exact HO_5.out⟩, ⟨ms HB⟩⟩
      ·rw [if_neg c8] at H
       have c8b0 : (x6_1 == 0) = false := beq_eq_false_iff_ne.mpr c8
       have c8b1 : (x6_1 != 0) = true := bne_iff_ne.mpr c8
       (first | rw [c8b0] | (simp only [i64_w, i32_w]; rw [c8b0]) | skip)
       have HC12 := Aside0.mk H
       clear H
       go_upto_region 10 with (fail)
       repeat (go_quiet (fail); go_upto_region 10 with (fail))
       go_cut [43] (fun v43 wc => ∃ (kq : Nat) (x43_11 : Bool), v43 = .bool x43_11 ∧ Aside0 (impl_partsOf.j1 kq x4_1 t197 x6_1 1 (rdOf ByteArray.empty t197 x6_1) x43_11 = some (r1, r2)) ∧ Aside0 (kq ≤ k1) ∧ Aside0 (Kd.R k52 52 wc w.heap.size (fun _ => True) u4 x4_1) ∧ Aside0 (Kd.R Kd.string 9 wc w.heap.size (fun _ => True) (.slice (some ad200) t197.length co7) t197) ∧ Aside0 (Below w.heap.size w wc))
       case first =>
        have H := HC12.out
        clear HC12
        by_cases c13 : (rdOf ByteArray.empty t197 x6_1).toList = ([43] : List UInt8)
        ·rw [if_pos c13] at H
         have c13b0 : ((rdOf ByteArray.empty t197 x6_1).toList == ([43] : List UInt8)) = true := beq_iff_eq.mpr c13
         have c13b1 : ((rdOf ByteArray.empty t197 x6_1).toList != ([43] : List UInt8)) = false := bne_eq_false_iff_eq.mpr c13
         clear c13
         (first | rw [c13b0] | (simp only [i64_w, i32_w]; rw [c13b0]) | skip)
         have H' := Aside0.mk H
         clear H
         go_wp2
         repeat (go_quiet (fail); try go_wp2)
         go_meet
         case rel => exact ⟨_, (((wrap64 (x6_1 + 1)) == (t197.length : Int))), (by first | rfl | (simp; done) | (simp [*]; done)), H', ⟨by have := HK1.out; first | omega | exact Nat.le_refl _⟩, ⟨by (with_reducible repeat (first | apply Kd.R_alloc | apply Kd.R_drewN | apply Kd.R_drew)); exact HO_4.out⟩, ⟨by (with_reducible repeat (first | apply Kd.R_alloc | apply Kd.R_drewN | apply Kd.R_drew)); exact HO_5.out⟩, ⟨ms HB⟩⟩
        ·rw [if_neg c13] at H
         have c13b0 : ((rdOf ByteArray.empty t197 x6_1).toList == ([43] : List UInt8)) = false := beq_eq_false_iff_ne.mpr c13
         have c13b1 : ((rdOf ByteArray.empty t197 x6_1).toList != ([43] : List UInt8)) = true := bne_iff_ne.mpr c13
         (first | rw [c13b0] | (simp only [i64_w, i32_w]; rw [c13b0]) | skip)
         by_cases c14 : (rdOf ByteArray.empty t197 x6_1).toList = ([45] : List UInt8)
         ·rw [if_pos c14] at H
          have c14b0 : ((rdOf ByteArray.empty t197 x6_1).toList == ([45] : List UInt8)) = true := beq_iff_eq.mpr c14
          have c14b1 : ((rdOf ByteArray.empty t197 x6_1).toList != ([45] : List UInt8)) = false := bne_eq_false_iff_eq.mpr c14
          clear c14
          have H' := Aside0.mk H
          clear H
          go_wp2
          repeat (go_quiet (fail); try go_wp2)
          go_meet
          case rel => exact ⟨_, (((wrap64 (x6_1 + 1)) == (t197.length : Int))), (by first | rfl | (simp; done) | (simp [*]; done)), H', ⟨by have := HK1.out; first | omega | exact Nat.le_refl _⟩, ⟨by (with_reducible repeat (first | apply Kd.R_alloc | apply Kd.R_drewN | apply Kd.R_drew)); exact HO_4.out⟩, ⟨by (with_reducible repeat (first | apply Kd.R_alloc | apply Kd.R_drewN | apply Kd.R_drew)); exact HO_5.out⟩, ⟨ms HB⟩⟩
         ·rw [if_neg c14] at H
          have c14b0 : ((rdOf ByteArray.empty t197 x6_1).toList == ([45] : List UInt8)) = false := beq_eq_false_iff_ne.mpr c14
          have c14b1 : ((rdOf ByteArray.empty t197 x6_1).toList != ([45] : List UInt8)) = true := bne_iff_ne.mpr c14
          have H' := Aside0.mk H
          clear H
          go_wp2
          repeat (go_quiet (fail); try go_wp2)
          go_meet
          case rel => exact ⟨_, (true), (by first | rfl | (simp; done) | (simp [*]; done)), H', ⟨by have := HK1.out; first | omega | exact Nat.le_refl _⟩, ⟨by (with_reducible repeat (first | apply Kd.R_alloc | apply Kd.R_drewN | apply Kd.R_drew)); exact HO_4.out⟩, ⟨by (with_reducible repeat (first | apply Kd.R_alloc | apply Kd.R_drewN | apply Kd.R_drew)); exact HO_5.out⟩, ⟨ms HB⟩⟩
       case rest =>
        clear HC12
        try clear c1
        try clear p2
        try clear q2
        try clear hx2
        try clear c3
        try clear c4
        try clear c4b0
        try clear c5
        try clear c5b0
        try clear p6
        try clear c8
        try clear c8b0
        try clear c8b1
        try clear c10
        try clear c11
        try clear c11b0
        try clear c11b1
        try clear c13
        try clear c13b0
        try clear c13b1
        try clear c14
        try clear c14b0
        try clear c14b1
        try clear hx200_0
        try clear p2
        try clear p200
        try clear q200
        obtain ⟨kq, x43_11, rfl, HA, HJ11, HO_4, HO_5, HB⟩ := hcut
        cases kq with
        | zero => exact absurd HA.out (by simp [impl_partsOf.j1])
        | succ kj11 =>
         have H := HA.out
         clear HA
         simp only [impl_partsOf.j1] at H
         by_cases c15 : x43_11 = true
         ·subst c15
          have H1 : (some (([] : List (S52)), false)) = some (r1, r2) := by rw [if_pos rfl] at H; exact H
          clear H
          have H := H1
          clear H1
          simp only [Option.some.injEq, Prod.mk.injEq] at H
          obtain ⟨rfl, rfl⟩ := H
          go_wp2
          repeat (go_quiet (fail); try go_wp2)
          go_ret2
          exact ⟨_, by first | rfl | (simp [errW_none, errW_some] <;> rfl) | (simp [*, errW_none, errW_some] <;> rfl), by first | exact Kd.R_nil _ _ _ _ _ | exact Kd.N_nil _ _ _ _ _ | exact Kd.V_nil _ _ _ _ _ | exact Kd.Q_nil _ _ _ _ _ | exact Kd.S_nil _ _ _ _ _, ms HB⟩
         ·replace c15 := Bool.eq_false_iff.mpr c15
          subst c15
          have H1 : (if (rdOf ByteArray.empty t197 x6_1).toList = ([45] : List UInt8) then (if 0 ≤ (wrap64 (x6_1 + 1)) then (if (wrap64 (x6_1 + 1)) < (t197.length : Int) then (impl_partsOf.j2 kj11 x4_1 t197 (wrap64 (x6_1 + 1)) (-1) (rdOf ByteArray.empty t197 (wrap64 (x6_1 + 1)))) else (none)) else (none)) else (if 0 ≤ (wrap64 (x6_1 + 1)) then (if (wrap64 (x6_1 + 1)) < (t197.length : Int) then (impl_partsOf.j2 kj11 x4_1 t197 (wrap64 (x6_1 + 1)) 1 (rdOf ByteArray.empty t197 (wrap64 (x6_1 + 1)))) else (none)) else (none))) = some (r1, r2) := by rw [if_neg (show ¬ (false = true) by decide)] at H; exact H
          clear H
          have H := H1
          clear H1
          by_cases c16 : (rdOf ByteArray.empty t197 x6_1).toList = ([45] : List UInt8)
          ·rw [if_pos c16] at H
           have c16b0 : ((rdOf ByteArray.empty t197 x6_1).toList == ([45] : List UInt8)) = true := beq_iff_eq.mpr c16
           have c16b1 : ((rdOf ByteArray.empty t197 x6_1).toList != ([45] : List UInt8)) = false := bne_eq_false_iff_eq.mpr c16
           clear c16
           obtain ⟨ji17, hji17⟩ : ∃ j_ : Int, (wrap64 (x6_1 + 1)) = j_ := ⟨_, rfl⟩
           replace H : (if 0 ≤ (ji17) then (if (ji17) < (t197.length : Int) then (impl_partsOf.j2 kj11 x4_1 t197 ji17 (-1) (rdOf ByteArray.empty t197 (ji17))) else (none)) else (none)) = some (r1, r2) := by first | (rw [hji17] at H; exact H) | (simp only [hji17] at H ⊢; exact H)
           have hji17w : (IntKind.i64.wrap (x6_1 + 1)) = ji17 := (i64_w _).trans hji17
           by_cases c18 : 0 ≤ (ji17)
           ·rw [if_pos c18] at H
            have c18b0 : decide (0 ≤ (ji17)) = true := decide_eq_true c18
            clear c18
            by_cases c19 : (ji17) < (t197.length : Int)
            ·rw [if_pos c19] at H
             have c19b0 : decide ((ji17) < (t197.length : Int)) = true := decide_eq_true c19
             clear c19
             have H' := Aside0.mk H
             clear H
             have p202 : 0 ≤ ((ji17) : Int) := of_decide_eq_true (by first | (with_reducible assumption) | assumption)
             have q202 : (ji17) < (t197.length : Int) := of_decide_eq_true (by first | (with_reducible assumption) | assumption)
             obtain ⟨ad202, e202, hx202_0⟩ := Kd.at_string (Kd.R_reads' HO_5.out).2.2 (ji17) p202 q202
             obtain rfl : ad200 = ad202 := (by injection e202)
             replace p202 := eq_true p202
             replace q202 := eq_true q202
             go_wp2
             repeat (go_quiet (fail); try go_wp2)
             go_meet
             case rel => exact ⟨_, (ji17), ((-1)), (rdOf ByteArray.empty t197 (ji17)), (by first | rfl | (simp; done) | (simp only [← hji17] <;> (first | rfl | simp)) | (simp [*]; done)), (by first | rfl | (simp; done) | (simp [*]; done)), (by first | rfl | (simp; done) | (simp only [← hji17] <;> (first | rfl | simp)) | (simp [*]; done)), H', ⟨by have := HK1.out; have := HJ11.out; first | omega | exact Nat.le_refl _⟩, ⟨by (with_reducible repeat (first | apply Kd.R_alloc | apply Kd.R_drewN | apply Kd.R_drew)); exact HO_4.out⟩, ⟨by (with_reducible repeat (first | apply Kd.R_alloc | apply Kd.R_drewN | apply Kd.R_drew)); exact HO_5.out⟩, ⟨ms HB⟩⟩
            ·rw [if_neg c19] at H
             exact absurd H (by simp)
           ·rw [if_neg c18] at H
            exact absurd H (by simp)
          ·rw [if_neg c16] at H
           have c16b0 : ((rdOf ByteArray.empty t197 x6_1).toList == ([45] : List UInt8)) = false := beq_eq_false_iff_ne.mpr c16
           have c16b1 : ((rdOf ByteArray.empty t197 x6_1).toList != ([45] : List UInt8)) = true := bne_iff_ne.mpr c16
           obtain ⟨ji20, hji20⟩ : ∃ j_ : Int, (wrap64 (x6_1 + 1)) = j_ := ⟨_, rfl⟩
           replace H : (if 0 ≤ (ji20) then (if (ji20) < (t197.length : Int) then (impl_partsOf.j2 kj11 x4_1 t197 ji20 1 (rdOf ByteArray.empty t197 (ji20))) else (none)) else (none)) = some (r1, r2) := by first | (rw [hji20] at H; exact H) | (simp only [hji20] at H ⊢; exact H)
           have hji20w : (IntKind.i64.wrap (x6_1 + 1)) = ji20 := (i64_w _).trans hji20
           by_cases c21 : 0 ≤ (ji20)
           ·rw [if_pos c21] at H
            have c21b0 : decide (0 ≤ (ji20)) = true := decide_eq_true c21
            clear c21
            by_cases c22 : (ji20) < (t197.length : Int)
            ·rw [if_pos c22] at H
             have c22b0 : decide ((ji20) < (t197.length : Int)) = true := decide_eq_true c22
             clear c22
             have H' := Aside0.mk H
             clear H
             have p203 : 0 ≤ ((ji20) : Int) := of_decide_eq_true (by first | (with_reducible assumption) | assumption)
             have q203 : (ji20) < (t197.length : Int) := of_decide_eq_true (by first | (with_reducible assumption) | assumption)
             obtain ⟨ad203, e203, hx203_0⟩ := Kd.at_string (Kd.R_reads' HO_5.out).2.2 (ji20) p203 q203
             obtain rfl : ad200 = ad203 := (by injection e203)
             replace p203 := eq_true p203
             replace q203 := eq_true q203
             go_wp2
             repeat (go_quiet (fail); try go_wp2)
             go_meet
             case rel => exact ⟨_, (ji20), (1), (rdOf ByteArray.empty t197 (ji20)), (by first | rfl | (simp; done) | (simp only [← hji20] <;> (first | rfl | simp)) | (simp [*]; done)), (by first | rfl | (simp; done) | (simp [*]; done)), (by first | rfl | (simp; done) | (simp only [← hji20] <;> (first | rfl | simp)) | (simp [*]; done)), H', ⟨by have := HK1.out; have := HJ11.out; first | omega | exact Nat.le_refl _⟩, ⟨by (with_reducible repeat (first | apply Kd.R_alloc | apply Kd.R_drewN | apply Kd.R_drew)); exact HO_4.out⟩, ⟨by (with_reducible repeat (first | apply Kd.R_alloc | apply Kd.R_drewN | apply Kd.R_drew)); exact HO_5.out⟩, ⟨ms HB⟩⟩
            ·rw [if_neg c22] at H
             exact absurd H (by simp)
           ·rw [if_neg c21] at H
            exact absurd H (by simp)
     case rest =>
      clear HC6
      try clear c1
      try clear c2
      try clear p2
      try clear q2
      try clear hx2
      try clear c3
      try clear c4
      try clear c4b0
      try clear c5
      try clear c5b0
      try clear p6
      try clear c8
      try clear c8b0
      try clear c8b1
      try clear c10
      try clear c11
      try clear c11b0
      try clear c11b1
      try clear c13
      try clear c13b0
      try clear c13b1
      try clear c14
      try clear c14b0
      try clear c14b1
      try clear c15
      try clear c16
      try clear c16b0
      try clear c16b1
      try clear c18
      try clear c18b0
      try clear c19
      try clear c19b0
      try clear p20
      try clear q20
      try clear hx20
      try clear c21
      try clear c21b0
      try clear c22
      try clear c22b0
      try clear hx200_0
      try clear hx202_0
      try clear hx203_0
      try clear p2
      try clear p200
      try clear p202
      try clear p203
      try clear p6
      try clear q2
      try clear q200
      try clear q202
      try clear q203
      obtain ⟨kq, x6_5, x7_5, x8_5, rfl, rfl, rfl, HA, HJ5, HO_4, HO_5, HB⟩ := hcut
      cases kq with
      | zero => exact absurd HA.out (by simp [impl_partsOf.j2])
      | succ kj5 =>
       have H := HA.out
       clear HA
       simp only [impl_partsOf.j2] at H
       have HC23 := Aside0.mk H
       clear H
       go_upto_block 2 with (fail)
       repeat (go_quiet (fail); go_upto_block 2 with (fail))
       go_cut [9] (fun v9 wc => ∃ (kq : Nat) (x9_22 : Int), v9 = .int .i64 x9_22 ∧ Aside0 (impl_partsOf.j4 kq x4_1 t197 x6_5 x7_5 x8_5 x9_22 = some (r1, r2)) ∧ Aside0 (kq ≤ kj5) ∧ Aside0 (Kd.R k52 52 wc w.heap.size (fun _ => True) u4 x4_1) ∧ Aside0 (Kd.R Kd.string 9 wc w.heap.size (fun _ => True) (.slice (some ad200) t197.length co7) t197) ∧ Aside0 (Below w.heap.size w wc))
       case first =>
        have H := HC23.out
        clear HC23
        have H' := Aside0.mk H
        clear H
        go_wp2
        repeat (go_quiet (fail); try go_wp2)
        go_loopg [9] kj5 (fun kq v9 w' => ∃ (x9_3 : Int), v9 = .int .i64 x9_3 ∧ Aside0 (impl_partsOf.l1 kq x4_1 t197 x6_5 x7_5 x8_5 x9_3 = some (r1, r2)) ∧ Aside0 (kq ≤ kj5) ∧ Aside0 (Kd.R k52 52 w' w.heap.size (fun _ => True) u4 x4_1) ∧ Aside0 (Kd.R Kd.string 9 w' w.heap.size (fun _ => True) (.slice (some ad200) t197.length co7) t197) ∧ Aside0 (Below w.heap.size w w'))
        case atStart => exact ⟨(0), (by first | rfl | (simp; done) | (simp [*]; done)), H', ⟨Nat.le_refl _⟩, ⟨by (with_reducible repeat (first | apply Kd.R_alloc | apply Kd.R_drewN | apply Kd.R_drew)); exact HO_4.out⟩, ⟨by (with_reducible repeat (first | apply Kd.R_alloc | apply Kd.R_drewN | apply Kd.R_drew)); exact HO_5.out⟩, ⟨ms HB⟩⟩
        case round =>
         clear H'
         try clear c1
         try clear c2
         try clear p2
         try clear q2
         try clear hx2
         try clear c3
         try clear c4
         try clear c4b0
         try clear c5
         try clear c5b0
         try clear p6
         try clear c8
         try clear c8b0
         try clear c8b1
         try clear c10
         try clear c11
         try clear c11b0
         try clear c11b1
         try clear c13
         try clear c13b0
         try clear c13b1
         try clear c14
         try clear c14b0
         try clear c14b1
         try clear c15
         try clear c16
         try clear c16b0
         try clear c16b1
         try clear c18
         try clear c18b0
         try clear c19
         try clear c19b0
         try clear p20
         try clear q20
         try clear hx20
         try clear c21
         try clear c21b0
         try clear c22
         try clear c22b0
         try clear hx200_0
         try clear hx202_0
         try clear hx203_0
         try clear p2
         try clear p20
         try clear p200
         try clear p202
         try clear p203
         try clear p6
         try clear q2
         try clear q20
         try clear q200
         try clear q202
         try clear q203
         obtain ⟨x9_3, rfl, HA, HK3, HO_4, HO_5, HB⟩ := hrel
         cases gk with
         | zero => exact absurd HA.out (by simp [impl_partsOf.l1])
         | succ k3 =>
          have H := HA.out
          clear HA
          simp only [impl_partsOf.l1] at H
          by_cases c24 : x9_3 < (x8_5.size : Int)
          ·rw [if_pos c24] at H
           have c24b0 : decide (x9_3 < (x8_5.size : Int)) = true := decide_eq_true c24
           clear c24
           (first | rw [c24b0] | (simp only [i64_w, i32_w]; rw [c24b0]) | skip)
           by_cases c25 : 0 ≤ x9_3
           ·rw [if_pos c25] at H
            have c25b0 : decide (0 ≤ x9_3) = true := decide_eq_true c25
            clear c25
            by_cases c27 : (bt x8_5 x9_3) ≥ 48
            ·rw [if_pos c27] at H
             have c27b0 : decide (48 ≤ (bt x8_5 x9_3)) = true := decide_eq_true c27
             clear c27
             by_cases c29 : (bt x8_5 x9_3) ≤ 57
             ·rw [if_pos c29] at H
              have c29b0 : decide ((bt x8_5 x9_3) ≤ 57) = true := decide_eq_true c29
              clear c29
              have H' := Aside0.mk H
              clear H
              have p26 : 0 ≤ (x9_3 : Int) := of_decide_eq_true (by first | (with_reducible assumption) | assumption)
              have q26 : x9_3 < (x8_5.size : Int) := of_decide_eq_true (by first | (with_reducible assumption) | assumption)
              have hx26 := bt_at x8_5 x9_3
              replace p26 := eq_true p26
              replace q26 := eq_true q26
              have p28 : 0 ≤ (x9_3 : Int) := of_decide_eq_true (by first | (with_reducible assumption) | assumption)
              have q28 : x9_3 < (x8_5.size : Int) := of_decide_eq_true (by first | (with_reducible assumption) | assumption)
              have hx28 := bt_at x8_5 x9_3
              replace p28 := eq_true p28
              replace q28 := eq_true q28
              go_wp2
              repeat (go_quiet (fail); try go_wp2)
              go_roundg k3
              case measure => have := HK1.out; have := HJ5.out; have := HK3.out; omega
              case rel => exact ⟨(wrap64 (x9_3 + 1)), (by first | rfl | (simp; done) | (simp [*]; done)), H', ⟨by have := HK1.out; have := HJ5.out; have := HK3.out; omega⟩, ⟨by (with_reducible repeat (first | apply Kd.R_alloc | apply Kd.R_drewN | apply Kd.R_drew)); exact HO_4.out⟩, ⟨by (with_reducible repeat (first | apply Kd.R_alloc | apply Kd.R_drewN | apply Kd.R_drew)); exact HO_5.out⟩, ⟨ms HB⟩⟩
             ·rw [if_neg c29] at H
              have c29b0 : decide ((bt x8_5 x9_3) ≤ 57) = false := decide_eq_false c29
              clear c29
              have H' := Aside0.mk H
              clear H
              have p26 : 0 ≤ (x9_3 : Int) := of_decide_eq_true (by first | (with_reducible assumption) | assumption)
              have q26 : x9_3 < (x8_5.size : Int) := of_decide_eq_true (by first | (with_reducible assumption) | assumption)
              have hx26 := bt_at x8_5 x9_3
              replace p26 := eq_true p26
              replace q26 := eq_true q26
              have p28 : 0 ≤ (x9_3 : Int) := of_decide_eq_true (by first | (with_reducible assumption) | assumption)
              have q28 : x9_3 < (x8_5.size : Int) := of_decide_eq_true (by first | (with_reducible assumption) | assumption)
              have hx28 := bt_at x8_5 x9_3
              replace p28 := eq_true p28
              replace q28 := eq_true q28
              go_wp2
              repeat (go_quiet (fail); try go_wp2)
              go_meet
              case rel => exact ⟨_, (x9_3), (by first | rfl | (simp; done) | (simp [*]; done)), H', ⟨by have := HK1.out; have := HJ5.out; have := HK3.out; first | omega | exact Nat.le_refl _⟩, ⟨by (with_reducible repeat (first | apply Kd.R_alloc | apply Kd.R_drewN | apply Kd.R_drew)); exact HO_4.out⟩, ⟨by (with_reducible repeat (first | apply Kd.R_alloc | apply Kd.R_drewN | apply Kd.R_drew)); exact HO_5.out⟩, ⟨ms HB⟩⟩
            ·rw [if_neg c27] at H
             have c27b0 : decide (48 ≤ (bt x8_5 x9_3)) = false := decide_eq_false c27
             clear c27
             have H' := Aside0.mk H
             clear H
             have p26 : 0 ≤ (x9_3 : Int) := of_decide_eq_true (by first | (with_reducible assumption) | assumption)
             have q26 : x9_3 < (x8_5.size : Int) := of_decide_eq_true (by first | (with_reducible assumption) | assumption)
             have hx26 := bt_at x8_5 x9_3
             replace p26 := eq_true p26
             replace q26 := eq_true q26
             go_wp2
             repeat (go_quiet (fail); try go_wp2)
             go_meet
             case rel => exact ⟨_, (x9_3), (by first | rfl | (simp; done) | (simp [*]; done)), H', ⟨by have := HK1.out; have := HJ5.out; have := HK3.out; first | omega | exact Nat.le_refl _⟩, ⟨by (with_reducible repeat (first | apply Kd.R_alloc | apply Kd.R_drewN | apply Kd.R_drew)); exact HO_4.out⟩, ⟨by (with_reducible repeat (first | apply Kd.R_alloc | apply Kd.R_drewN | apply Kd.R_drew)); exact HO_5.out⟩, ⟨ms HB⟩⟩
           ·rw [if_neg c25] at H
            exact absurd H (by simp)
          ·rw [if_neg c24] at H
           have c24b0 : decide (x9_3 < (x8_5.size : Int)) = false := decide_eq_false c24
           clear c24
           (first | rw [c24b0] | (simp only [i64_w, i32_w]; rw [c24b0]) | skip)
           have H' := Aside0.mk H
           clear H
           go_wp2
           repeat (go_quiet (fail); try go_wp2)
           go_meet
           case rel => exact ⟨_, (x9_3), (by first | rfl | (simp; done) | (simp [*]; done)), H', ⟨by have := HK1.out; have := HJ5.out; have := HK3.out; first | omega | exact Nat.le_refl _⟩, ⟨by (with_reducible repeat (first | apply Kd.R_alloc | apply Kd.R_drewN | apply Kd.R_drew)); exact HO_4.out⟩, ⟨by (with_reducible repeat (first | apply Kd.R_alloc | apply Kd.R_drewN | apply Kd.R_drew)); exact HO_5.out⟩, ⟨ms HB⟩⟩
       case rest =>
        clear HC23
        try clear c1
        try clear c2
        try clear p2
        try clear q2
        try clear hx2
        try clear c3
        try clear c4
        try clear c4b0
        try clear c5
        try clear c5b0
        try clear p6
        try clear c8
        try clear c8b0
        try clear c8b1
        try clear c10
        try clear c11
        try clear c11b0
        try clear c11b1
        try clear c13
        try clear c13b0
        try clear c13b1
        try clear c14
        try clear c14b0
        try clear c14b1
        try clear c15
        try clear c16
        try clear c16b0
        try clear c16b1
        try clear c18
        try clear c18b0
        try clear c19
        try clear c19b0
        try clear p20
        try clear q20
        try clear hx20
        try clear c21
        try clear c21b0
        try clear c22
        try clear c22b0
        try clear c24
        try clear c24b0
        try clear c25
        try clear c25b0
        try clear p26
        try clear q26
        try clear hx26
        try clear c27
        try clear c27b0
        try clear p28
        try clear q28
        try clear hx28
        try clear c29
        try clear c29b0
        try clear hx200_0
        try clear hx202_0
        try clear hx203_0
        try clear p2
        try clear p20
        try clear p200
        try clear p202
        try clear p203
        try clear p26
        try clear p28
        try clear p6
        try clear q2
        try clear q20
        try clear q200
        try clear q202
        try clear q203
        try clear q26
        try clear q28
        obtain ⟨kq, x9_22, rfl, HA, HJ22, HO_4, HO_5, HB⟩ := hcut
        cases kq with
        | zero => exact absurd HA.out (by simp [impl_partsOf.j4])
        | succ kj22 =>
         have H := HA.out
         clear HA
         simp only [impl_partsOf.j4] at H
         have HC30 := Aside0.mk H
         clear H
         go_upto_region 20 with (fail)
         repeat (go_quiet (fail); go_upto_region 20 with (fail))
         go_cut [75] (fun v75 wc => ∃ (kq : Nat) (x75_29 : Bool), v75 = .bool x75_29 ∧ Aside0 (impl_partsOf.j5 kq x4_1 t197 x6_5 x7_5 x8_5 x9_22 1 x75_29 = some (r1, r2)) ∧ Aside0 (kq ≤ kj22) ∧ Aside0 (Kd.R k52 52 wc w.heap.size (fun _ => True) u4 x4_1) ∧ Aside0 (Kd.R Kd.string 9 wc w.heap.size (fun _ => True) (.slice (some ad200) t197.length co7) t197) ∧ Aside0 (Below w.heap.size w wc))
         case first =>
          have H := HC30.out
          clear HC30
          by_cases c31 : x9_22 > 0
          ·rw [if_pos c31] at H
           have c31b0 : decide (0 < x9_22) = true := decide_eq_true c31
           clear c31
           (first | rw [c31b0] | (simp only [i64_w, i32_w]; rw [c31b0]) | skip)
           have H' := Aside0.mk H
           clear H
           go_wp2
           repeat (go_quiet (fail); try go_wp2)
           go_meet
           case rel => exact ⟨_, (true), (by first | rfl | (simp; done) | (simp [*]; done)), H', ⟨by have := HK1.out; have := HJ5.out; have := HJ22.out; first | omega | exact Nat.le_refl _⟩, ⟨by (with_reducible repeat (first | apply Kd.R_alloc | apply Kd.R_drewN | apply Kd.R_drew)); exact HO_4.out⟩, ⟨by (with_reducible repeat (first | apply Kd.R_alloc | apply Kd.R_drewN | apply Kd.R_drew)); exact HO_5.out⟩, ⟨ms HB⟩⟩
          ·rw [if_neg c31] at H
           have c31b0 : decide (0 < x9_22) = false := decide_eq_false c31
           clear c31
           (first | rw [c31b0] | (simp only [i64_w, i32_w]; rw [c31b0]) | skip)
           have H' := Aside0.mk H
           clear H
           go_wp2
           repeat (go_quiet (fail); try go_wp2)
           go_meet
           case rel => exact ⟨_, ((x8_5.toList == ([] : List UInt8))), (by first | rfl | (simp; done) | (simp [*]; done)), H', ⟨by have := HK1.out; have := HJ5.out; have := HJ22.out; first | omega | exact Nat.le_refl _⟩, ⟨by (with_reducible repeat (first | apply Kd.R_alloc | apply Kd.R_drewN | apply Kd.R_drew)); exact HO_4.out⟩, ⟨by (with_reducible repeat (first | apply Kd.R_alloc | apply Kd.R_drewN | apply Kd.R_drew)); exact HO_5.out⟩, ⟨ms HB⟩⟩
         case rest =>
          clear HC30
          try clear c1
          try clear c2
          try clear p2
          try clear q2
          try clear hx2
          try clear c3
          try clear c4
          try clear c4b0
          try clear c5
          try clear c5b0
          try clear p6
          try clear c8
          try clear c8b0
          try clear c8b1
          try clear c10
          try clear c11
          try clear c11b0
          try clear c11b1
          try clear c13
          try clear c13b0
          try clear c13b1
          try clear c14
          try clear c14b0
          try clear c14b1
          try clear c15
          try clear c16
          try clear c16b0
          try clear c16b1
          try clear c18
          try clear c18b0
          try clear c19
          try clear c19b0
          try clear p20
          try clear q20
          try clear hx20
          try clear c21
          try clear c21b0
          try clear c22
          try clear c22b0
          try clear c24
          try clear c24b0
          try clear c25
          try clear c25b0
          try clear p26
          try clear q26
          try clear hx26
          try clear c27
          try clear c27b0
          try clear p28
          try clear q28
          try clear hx28
          try clear c29
          try clear c29b0
          try clear c30
          try clear c31
          try clear c31b0
          try clear hx200_0
          try clear hx202_0
          try clear hx203_0
          try clear p2
          try clear p20
          try clear p200
          try clear p202
          try clear p203
          try clear p26
          try clear p28
          try clear p6
          try clear q2
          try clear q20
          try clear q200
          try clear q202
          try clear q203
          try clear q26
          try clear q28
          obtain ⟨kq, x75_29, rfl, HA, HJ29, HO_4, HO_5, HB⟩ := hcut
          cases kq with
          | zero => exact absurd HA.out (by simp [impl_partsOf.j5])
          | succ kj29 =>
           have H := HA.out
           clear HA
           simp only [impl_partsOf.j5] at H
           by_cases c32 : x75_29 = true
           ·subst c32
            have H1 : (if 0 ≤ x9_22 then (if x9_22 ≤ (x8_5.size : Int) then ((impl_ParseNumber.f (x8_5.extract 0 (x9_22 : Int).toNat)).bind fun bt204 => (if bt204.2 = true then (if x4_1.length < 5864062014805 then (impl_partsOf.l0 kj29 (x4_1 ++ [(⟨wrap64 (x7_5 * bt204.1), x8_5.extract (x9_22 : Int).toNat x8_5.size⟩ : S52)]) t197 (wrap64 (x6_5 + 1))) else (none)) else (some (([] : List (S52)), false)))) else (none)) else (none)) = some (r1, r2) := by rw [if_pos rfl] at H; exact H
            clear H
            have H := H1
            clear H1
            by_cases c33 : 0 ≤ x9_22
            ·rw [if_pos c33] at H
             have c33b0 := eq_true c33
             have c33b1 : decide (0 ≤ x9_22) = true := decide_eq_true c33
             clear c33
             by_cases c34 : x9_22 ≤ (x8_5.size : Int)
             ·rw [if_pos c34] at H
              have c34b0 := eq_true c34
              have c34b1 : decide (x9_22 ≤ (x8_5.size : Int)) = true := decide_eq_true c34
              clear c34
              replace H := Option.bind_eq_some_iff.mp H
              obtain ⟨⟨t204, t205⟩, A350, H⟩ := H
              replace H : (if t205 = true then (if x4_1.length < 5864062014805 then (impl_partsOf.l0 kj29 (x4_1 ++ [(⟨wrap64 (x7_5 * t204), x8_5.extract (x9_22 : Int).toNat x8_5.size⟩ : S52)]) t197 (wrap64 (x6_5 + 1))) else (none)) else (some (([] : List (S52)), false))) = some (r1, r2) := H
              have A35 := Aside0.mk A350
              clear A350
              by_cases c36 : t205 = true
              ·subst c36
               have H1 : (if x4_1.length < 5864062014805 then (impl_partsOf.l0 kj29 (x4_1 ++ [(⟨wrap64 (x7_5 * t204), x8_5.extract (x9_22 : Int).toNat x8_5.size⟩ : S52)]) t197 (wrap64 (x6_5 + 1))) else (none)) = some (r1, r2) := by rw [if_pos rfl] at H; exact H
               clear H
               have H := H1
               clear H1
               have c37b0 := eq_true (of_decide_eq_true (by first | (with_reducible assumption) | assumption) : 0 ≤ x9_22)
               have c38b0 := eq_true (of_decide_eq_true (by first | (with_reducible assumption) | assumption) : x9_22 ≤ (x8_5.size : Int))
               by_cases c39 : x4_1.length < 5864062014805
               ·rw [if_pos c39] at H
                have LMc39 := Aside0.mk c39
                clear c39
                obtain ⟨y206, hy206⟩ : ∃ y_ : List (S52), y_ = (x4_1 ++ [(⟨wrap64 (x7_5 * t204), x8_5.extract (x9_22 : Int).toNat x8_5.size⟩ : S52)]) := ⟨_, rfl⟩
                replace H : (impl_partsOf.l0 kj29 y206 t197 (wrap64 (x6_5 + 1))) = some (r1, r2) := by first | (rw [hy206]; with_reducible exact H) | (have H2_ := (Option.bind_some _ _).symm.trans H; rw [hy206]; with_reducible exact H2_) | (have H2_ := (Option.bind_some _ _).symm.trans H; with_reducible exact H2_) | with_reducible exact H | (rw [hy206]; exact H) | exact H
                have Ny206 := Aside0.mk hy206
                clear hy206
                have H' := Aside0.mk H
                clear H
                go_wp2_with (first | (go_at_call 59; (with_reducible refine (impl_ParseNumber.calls (x8_5.extract 0 (x9_22 : Int).toNat) t204 true _ A35.out).mono ?_); rintro e w40 ⟨rfl, hb⟩; replace HO_4 := rb HO_4 hb; replace HO_5 := rb HO_5 hb; replace HB := bs HB hb; (try clear hb)) | ((with_reducible refine gate_builtin (b := .append) (xs := #[.tmp 86, .tmp 94]) rfl ?_); at_builtin; refine Kd.R_append k52 (w0 := w) w.heap.size rfl (.tmp 86) (.tmp 94) 47 52 (.agg #[(.int .i64 0), (.string ⟨#[]⟩)]) 24 rfl Tryz.underlying47 info52 rfl (by decide) (by omega) u4 x4_1 (⟨wrap64 (x7_5 * t204), x8_5.extract (x9_22 : Int).toNat x8_5.size⟩ : S52) [.int .i64 (wrap64 (x7_5 * t204)), .string (x8_5.extract (x9_22 : Int).toNat x8_5.size)] (fun _ => True) (fun _ => False) rfl rfl ?aP (fun _ hk => hk.elim) ?aF ?aO ?aB ?aS ?aL ?_; (case aP => exact k52_mkM _ _ _ (⟨wrap64 (x7_5 * t204), x8_5.extract (x9_22 : Int).toNat x8_5.size⟩ : S52)); (case aB => exact (ms HB)); (case aF => exact (fun _ _ => trivial)); (case aO => exact (mr HO_4)); (case aS => exact (below_size (ms HB))); (case aL => have := LMc39.out; omega); intro v207 w41 ho hb hg hat; rw [← Ny206.out] at ho; replace HO_5 := Aside0.mk (Kd.R_over' (mr HO_5) (Kd.R_typed (mr HO_4)) (by decide) hg); replace HB := Aside0.mk (hb); have HO208 := Aside0.mk (ho); clear HO_4 ho hb hg hat))
                repeat (go_quiet (first | (go_at_call 59; (with_reducible refine (impl_ParseNumber.calls (x8_5.extract 0 (x9_22 : Int).toNat) t204 true _ A35.out).mono ?_); rintro e w40 ⟨rfl, hb⟩; replace HO_4 := rb HO_4 hb; replace HO_5 := rb HO_5 hb; replace HB := bs HB hb; (try clear hb)) | ((with_reducible refine gate_builtin (b := .append) (xs := #[.tmp 86, .tmp 94]) rfl ?_); at_builtin; refine Kd.R_append k52 (w0 := w) w.heap.size rfl (.tmp 86) (.tmp 94) 47 52 (.agg #[(.int .i64 0), (.string ⟨#[]⟩)]) 24 rfl Tryz.underlying47 info52 rfl (by decide) (by omega) u4 x4_1 (⟨wrap64 (x7_5 * t204), x8_5.extract (x9_22 : Int).toNat x8_5.size⟩ : S52) [.int .i64 (wrap64 (x7_5 * t204)), .string (x8_5.extract (x9_22 : Int).toNat x8_5.size)] (fun _ => True) (fun _ => False) rfl rfl ?aP (fun _ hk => hk.elim) ?aF ?aO ?aB ?aS ?aL ?_; (case aP => exact k52_mkM _ _ _ (⟨wrap64 (x7_5 * t204), x8_5.extract (x9_22 : Int).toNat x8_5.size⟩ : S52)); (case aB => exact (ms HB)); (case aF => exact (fun _ _ => trivial)); (case aO => exact (mr HO_4)); (case aS => exact (below_size (ms HB))); (case aL => have := LMc39.out; omega); intro v207 w41 ho hb hg hat; rw [← Ny206.out] at ho; replace HO_5 := Aside0.mk (Kd.R_over' (mr HO_5) (Kd.R_typed (mr HO_4)) (by decide) hg); replace HB := Aside0.mk (hb); have HO208 := Aside0.mk (ho); clear HO_4 ho hb hg hat)); try go_wp2_with (first | (go_at_call 59; (with_reducible refine (impl_ParseNumber.calls (x8_5.extract 0 (x9_22 : Int).toNat) t204 true _ A35.out).mono ?_); rintro e w40 ⟨rfl, hb⟩; replace HO_4 := rb HO_4 hb; replace HO_5 := rb HO_5 hb; replace HB := bs HB hb; (try clear hb)) | ((with_reducible refine gate_builtin (b := .append) (xs := #[.tmp 86, .tmp 94]) rfl ?_); at_builtin; refine Kd.R_append k52 (w0 := w) w.heap.size rfl (.tmp 86) (.tmp 94) 47 52 (.agg #[(.int .i64 0), (.string ⟨#[]⟩)]) 24 rfl Tryz.underlying47 info52 rfl (by decide) (by omega) u4 x4_1 (⟨wrap64 (x7_5 * t204), x8_5.extract (x9_22 : Int).toNat x8_5.size⟩ : S52) [.int .i64 (wrap64 (x7_5 * t204)), .string (x8_5.extract (x9_22 : Int).toNat x8_5.size)] (fun _ => True) (fun _ => False) rfl rfl ?aP (fun _ hk => hk.elim) ?aF ?aO ?aB ?aS ?aL ?_; (case aP => exact k52_mkM _ _ _ (⟨wrap64 (x7_5 * t204), x8_5.extract (x9_22 : Int).toNat x8_5.size⟩ : S52)); (case aB => exact (ms HB)); (case aF => exact (fun _ _ => trivial)); (case aO => exact (mr HO_4)); (case aS => exact (below_size (ms HB))); (case aL => have := LMc39.out; omega); intro v207 w41 ho hb hg hat; rw [← Ny206.out] at ho; replace HO_5 := Aside0.mk (Kd.R_over' (mr HO_5) (Kd.R_typed (mr HO_4)) (by decide) hg); replace HB := Aside0.mk (hb); have HO208 := Aside0.mk (ho); clear HO_4 ho hb hg hat)))
                go_roundg kj29
                case measure => have := HK1.out; have := HJ5.out; have := HJ22.out; have := HJ29.out; omega
                case rel => exact ⟨(y206), (wrap64 (x6_5 + 1)), (by first | rfl | (simp; done) | (simp [*]; done)), H', ⟨by have := HK1.out; have := HJ5.out; have := HJ22.out; have := HJ29.out; omega⟩, ⟨by (with_reducible repeat (first | apply Kd.R_alloc | apply Kd.R_drewN | apply Kd.R_drew)); exact HO208.out⟩, ⟨by (with_reducible repeat (first | apply Kd.R_alloc | apply Kd.R_drewN | apply Kd.R_drew)); exact HO_5.out⟩, ⟨ms HB⟩⟩
               ·rw [if_neg c39] at H
                exact absurd H (by simp)
              ·replace c36 := Bool.eq_false_iff.mpr c36
               subst c36
               have H1 : (some (([] : List (S52)), false)) = some (r1, r2) := by rw [if_neg (show ¬ (false = true) by decide)] at H; exact H
               clear H
               have H := H1
               clear H1
               simp only [Option.some.injEq, Prod.mk.injEq] at H
               obtain ⟨rfl, rfl⟩ := H
               go_wp2_with (first | (go_at_call 59; (with_reducible refine (impl_ParseNumber.calls (x8_5.extract 0 (x9_22 : Int).toNat) t204 false _ A35.out).mono ?_); rintro e w42 ⟨rfl, hb⟩; replace HO_4 := rb HO_4 hb; replace HO_5 := rb HO_5 hb; replace HB := bs HB hb; (try clear hb)))
               repeat (go_quiet (first | (go_at_call 59; (with_reducible refine (impl_ParseNumber.calls (x8_5.extract 0 (x9_22 : Int).toNat) t204 false _ A35.out).mono ?_); rintro e w42 ⟨rfl, hb⟩; replace HO_4 := rb HO_4 hb; replace HO_5 := rb HO_5 hb; replace HB := bs HB hb; (try clear hb))); try go_wp2_with (first | (go_at_call 59; (with_reducible refine (impl_ParseNumber.calls (x8_5.extract 0 (x9_22 : Int).toNat) t204 false _ A35.out).mono ?_); rintro e w42 ⟨rfl, hb⟩; replace HO_4 := rb HO_4 hb; replace HO_5 := rb HO_5 hb; replace HB := bs HB hb; (try clear hb))))
               go_ret2
               exact ⟨_, by first | rfl | (simp [errW_none, errW_some] <;> rfl) | (simp [*, errW_none, errW_some] <;> rfl), by first | exact Kd.R_nil _ _ _ _ _ | exact Kd.N_nil _ _ _ _ _ | exact Kd.V_nil _ _ _ _ _ | exact Kd.Q_nil _ _ _ _ _ | exact Kd.S_nil _ _ _ _ _, ms HB⟩
             ·rw [if_neg c34] at H
              exact absurd H (by simp)
            ·rw [if_neg c33] at H
             exact absurd H (by simp)
           ·replace c32 := Bool.eq_false_iff.mpr c32
            subst c32
            have H1 : (if 0 ≤ x9_22 then (if x9_22 ≤ (x8_5.size : Int) then (if x4_1.length < 5864062014805 then (impl_partsOf.l0 kj29 (x4_1 ++ [(⟨wrap64 (x7_5 * 1), x8_5.extract (x9_22 : Int).toNat x8_5.size⟩ : S52)]) t197 (wrap64 (x6_5 + 1))) else (none)) else (none)) else (none)) = some (r1, r2) := by rw [if_neg (show ¬ (false = true) by decide)] at H; exact H
            clear H
            have H := H1
            clear H1
            by_cases c43 : 0 ≤ x9_22
            ·rw [if_pos c43] at H
             have c43b0 := eq_true c43
             have c43b1 : decide (0 ≤ x9_22) = true := decide_eq_true c43
             clear c43
             by_cases c44 : x9_22 ≤ (x8_5.size : Int)
             ·rw [if_pos c44] at H
              have c44b0 := eq_true c44
              have c44b1 : decide (x9_22 ≤ (x8_5.size : Int)) = true := decide_eq_true c44
              clear c44
              by_cases c45 : x4_1.length < 5864062014805
              ·rw [if_pos c45] at H
               have LMc45 := Aside0.mk c45
               clear c45
               rw [Int.mul_one] at H
               obtain ⟨y209, hy209⟩ : ∃ y_ : List (S52), y_ = (x4_1 ++ [(⟨wrap64 x7_5, x8_5.extract (x9_22 : Int).toNat x8_5.size⟩ : S52)]) := ⟨_, rfl⟩
               replace H : (impl_partsOf.l0 kj29 y209 t197 (wrap64 (x6_5 + 1))) = some (r1, r2) := by first | (rw [hy209]; with_reducible exact H) | (have H2_ := (Option.bind_some _ _).symm.trans H; rw [hy209]; with_reducible exact H2_) | (have H2_ := (Option.bind_some _ _).symm.trans H; with_reducible exact H2_) | with_reducible exact H | (rw [hy209]; exact H) | exact H
               have Ny209 := Aside0.mk hy209
               clear hy209
               have H' := Aside0.mk H
               clear H
               go_wp2_with (first | ((with_reducible refine gate_builtin (b := .append) (xs := #[.tmp 86, .tmp 94]) rfl ?_); at_builtin; refine Kd.R_append k52 (w0 := w) w.heap.size rfl (.tmp 86) (.tmp 94) 47 52 (.agg #[(.int .i64 0), (.string ⟨#[]⟩)]) 24 rfl Tryz.underlying47 info52 rfl (by decide) (by omega) u4 x4_1 (⟨wrap64 x7_5, x8_5.extract (x9_22 : Int).toNat x8_5.size⟩ : S52) [.int .i64 (wrap64 x7_5), .string (x8_5.extract (x9_22 : Int).toNat x8_5.size)] (fun _ => True) (fun _ => False) rfl rfl ?aP (fun _ hk => hk.elim) ?aF ?aO ?aB ?aS ?aL ?_; (case aP => exact k52_mkM _ _ _ (⟨wrap64 x7_5, x8_5.extract (x9_22 : Int).toNat x8_5.size⟩ : S52)); (case aB => exact (ms HB)); (case aF => exact (fun _ _ => trivial)); (case aO => exact (mr HO_4)); (case aS => exact (below_size (ms HB))); (case aL => have := LMc45.out; omega); intro v210 w46 ho hb hg hat; rw [← Ny209.out] at ho; replace HO_5 := Aside0.mk (Kd.R_over' (mr HO_5) (Kd.R_typed (mr HO_4)) (by decide) hg); replace HB := Aside0.mk (hb); have HO211 := Aside0.mk (ho); clear HO_4 ho hb hg hat))
               repeat (go_quiet (first | ((with_reducible refine gate_builtin (b := .append) (xs := #[.tmp 86, .tmp 94]) rfl ?_); at_builtin; refine Kd.R_append k52 (w0 := w) w.heap.size rfl (.tmp 86) (.tmp 94) 47 52 (.agg #[(.int .i64 0), (.string ⟨#[]⟩)]) 24 rfl Tryz.underlying47 info52 rfl (by decide) (by omega) u4 x4_1 (⟨wrap64 x7_5, x8_5.extract (x9_22 : Int).toNat x8_5.size⟩ : S52) [.int .i64 (wrap64 x7_5), .string (x8_5.extract (x9_22 : Int).toNat x8_5.size)] (fun _ => True) (fun _ => False) rfl rfl ?aP (fun _ hk => hk.elim) ?aF ?aO ?aB ?aS ?aL ?_; (case aP => exact k52_mkM _ _ _ (⟨wrap64 x7_5, x8_5.extract (x9_22 : Int).toNat x8_5.size⟩ : S52)); (case aB => exact (ms HB)); (case aF => exact (fun _ _ => trivial)); (case aO => exact (mr HO_4)); (case aS => exact (below_size (ms HB))); (case aL => have := LMc45.out; omega); intro v210 w46 ho hb hg hat; rw [← Ny209.out] at ho; replace HO_5 := Aside0.mk (Kd.R_over' (mr HO_5) (Kd.R_typed (mr HO_4)) (by decide) hg); replace HB := Aside0.mk (hb); have HO211 := Aside0.mk (ho); clear HO_4 ho hb hg hat)); try go_wp2_with (first | ((with_reducible refine gate_builtin (b := .append) (xs := #[.tmp 86, .tmp 94]) rfl ?_); at_builtin; refine Kd.R_append k52 (w0 := w) w.heap.size rfl (.tmp 86) (.tmp 94) 47 52 (.agg #[(.int .i64 0), (.string ⟨#[]⟩)]) 24 rfl Tryz.underlying47 info52 rfl (by decide) (by omega) u4 x4_1 (⟨wrap64 x7_5, x8_5.extract (x9_22 : Int).toNat x8_5.size⟩ : S52) [.int .i64 (wrap64 x7_5), .string (x8_5.extract (x9_22 : Int).toNat x8_5.size)] (fun _ => True) (fun _ => False) rfl rfl ?aP (fun _ hk => hk.elim) ?aF ?aO ?aB ?aS ?aL ?_; (case aP => exact k52_mkM _ _ _ (⟨wrap64 x7_5, x8_5.extract (x9_22 : Int).toNat x8_5.size⟩ : S52)); (case aB => exact (ms HB)); (case aF => exact (fun _ _ => trivial)); (case aO => exact (mr HO_4)); (case aS => exact (below_size (ms HB))); (case aL => have := LMc45.out; omega); intro v210 w46 ho hb hg hat; rw [← Ny209.out] at ho; replace HO_5 := Aside0.mk (Kd.R_over' (mr HO_5) (Kd.R_typed (mr HO_4)) (by decide) hg); replace HB := Aside0.mk (hb); have HO211 := Aside0.mk (ho); clear HO_4 ho hb hg hat)))
               go_roundg kj29
               case measure => have := HK1.out; have := HJ5.out; have := HJ22.out; have := HJ29.out; omega
               case rel => exact ⟨(y209), (wrap64 (x6_5 + 1)), (by first | rfl | (simp; done) | (simp [*]; done)), H', ⟨by have := HK1.out; have := HJ5.out; have := HJ22.out; have := HJ29.out; omega⟩, ⟨by (with_reducible repeat (first | apply Kd.R_alloc | apply Kd.R_drewN | apply Kd.R_drew)); exact HO211.out⟩, ⟨by (with_reducible repeat (first | apply Kd.R_alloc | apply Kd.R_drewN | apply Kd.R_drew)); exact HO_5.out⟩, ⟨ms HB⟩⟩
              ·rw [if_neg c45] at H
               exact absurd H (by simp)
             ·rw [if_neg c44] at H
              exact absurd H (by simp)
            ·rw [if_neg c43] at H
             exact absurd H (by simp)
    ·rw [if_neg c5] at H
     exact absurd H (by simp)
   ·rw [if_neg c4] at H
    have c4b0 : decide (x6_1 < (t197.length : Int)) = false := decide_eq_false c4
    clear c4
    simp only [Option.some.injEq, Prod.mk.injEq] at H
    obtain ⟨rfl, rfl⟩ := H
    obtain ⟨Ao47, co47, eo47⟩ := Kd.R_slice HO_5.out
    subst eo47
    go_wp2
    repeat (go_quiet (fail); try go_wp2)
    go_ret2
    exact ⟨_, by first | rfl | (simp [errW_none, errW_some] <;> rfl) | (simp [*, errW_none, errW_some] <;> rfl), by (with_reducible repeat (first | apply Kd.R_alloc | apply Kd.R_drewN | apply Kd.R_drew)); exact HO_4.out, ms HB⟩

end Go.Proofs.YtmdjhmggogfbdaaGreatDoor.QFnLinText
