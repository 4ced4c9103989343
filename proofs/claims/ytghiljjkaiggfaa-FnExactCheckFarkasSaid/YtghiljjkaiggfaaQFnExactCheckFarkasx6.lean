-- Made by a program of this claim's own (wip/print): not the kit's print as it stands.
import Derived.Test.YtghiljjkaiggfaaUFnExactCheckFarkasTri
import Derived.Test.YtghiljjkaiggfaaQFnExactCheckFarkasx0
namespace Go.Proofs.Ytghiljjkaiggfaa.QFnExactCheckFarkas
open Go.RowKit Go.Proofs.YtghiljjkaiggfaaV.PrintWords Go.Proofs.YtghiljjkaiggfaaV.PrintLast Go.Proofs.YtghiljjkaiggfaaV.PrintMore
attribute [local go_sem] max2_int min2_int max_two min_two max_three min_three max_four min_four   -- for this text's walks alone
set_option linter.unusedVariables false
set_option linter.unusedSimpArgs false

/-! ### spec_IsConstant: function 43 -/
def spec_IsConstant.l0 : Nat → Int → Int → List Int → Option (Bool)
 | 0, _, _, _ => none
 | k + 1, x3, x207000, x207001 => if x3 < (x207001.length : Int) then (if 0 ≤ x3 then (if (rd x207001 x3) = 0 then (spec_IsConstant.l0 k (wrap64 (x3 + 1)) x207000 x207001) else (some false)) else (none)) else (some true)
def spec_IsConstant.f (k : Nat) (a0_0 : Int) (l0_1 : List Int) : Option (Bool) := spec_IsConstant.l0 k 0 a0_0 l0_1
theorem spec_IsConstant.mono_l : ∀ k, (∀ y0 y1 y2, LeO (spec_IsConstant.l0 k y0 y1 y2) (spec_IsConstant.l0 (k + 1) y0 y1 y2))
 | 0 => fun _ _ _ r h => by simp [spec_IsConstant.l0] at h
 | k + 1 => by
  have ih0 := spec_IsConstant.mono_l k
  ·intro y0 y1 y2
   unfold spec_IsConstant.l0
   repeat' first
   | (with_reducible exact ih0 _ _ _)
   | (with_reducible exact LeO.refl _)
   | (with_reducible exact LeO.none _)
   | (with_reducible refine LeO.ite ?_ ?_)
   | (with_reducible refine LeO.bind ?_ (fun _ => ?_))
   | exact ih0 _ _ _
   | exact LeO.none _
   | refine LeO.ite ?_ ?_
   | refine LeO.bind ?_ (fun _ => ?_)
theorem spec_IsConstant.mono : ∀ a0 a1 k, LeO (spec_IsConstant.f k a0 a1) (spec_IsConstant.f (k + 1) a0 a1) := by
 intro a0 a1 k
 have ih0 := spec_IsConstant.mono_l k
 unfold spec_IsConstant.f
 repeat' first
   | (with_reducible exact ih0 _ _ _)
   | (with_reducible exact LeO.refl _)
   | (with_reducible exact LeO.none _)
   | (with_reducible refine LeO.ite ?_ ?_)
   | (with_reducible refine LeO.bind ?_ (fun _ => ?_))
   | exact ih0 _ _ _
   | exact LeO.none _
   | refine LeO.ite ?_ ?_
   | refine LeO.bind ?_ (fun _ => ?_)
set_option maxHeartbeats 8000000 in
set_option maxRecDepth 100000 in
theorem spec_IsConstant.calls (k : Nat) (a0_0 : Int) (A0_1 : Option Addr) (c0_1 : Nat) (l0_1 : List Int) (r : Bool) (w : World) (hr0_1 : Kd.C (Kd.int .i64) w A0_1 l0_1.length l0_1) (hc0_1 : l0_1.length ≤ c0_1) (h : spec_IsConstant.f k a0_0 l0_1 = some r) :
  Calls Try.prog 43 #[.agg #[.int .i64 a0_0, .slice A0_1 l0_1.length c0_1]] w fun e w' => e = .returned (.bool r) ∧ Below w.heap.size w w' := by
 have hu36 := Try.underlying36
 have HR0_1 := Aside0.mk hr0_1
 have HC0_1 := Aside0.mk hc0_1
 clear hr0_1 hc0_1
 have HB := Aside0.mk (Below.refl w.heap.size w)
 have H : (spec_IsConstant.l0 k 0 a0_0 l0_1) = some r := h
 clear h
 have H' := Aside0.mk H
 clear H
 go_enter Try.func43, Try.ntmps43
 go_wp2_with (first | ((with_reducible refine gate_dst (N := 1) rfl ?_); refine box_event ?hg (N := 1) ?hd (cs := #[.int .i64 a0_0, .slice A0_1 l0_1.length c0_1]) (t := 36) ?hr ?_; (case hd => rfl); (case hg => rfl); (case hr => first | (go_simp; done) | (go_simp; rfl)); intro gb206 hg w2 hbox hb; have BK206 := Aside0.mk (hbox); have GW206 := gw hg HB; have GE206 := gw hg HB; replace HB := bs HB hb; clear hb hbox hg))
 go_loopg [3] k (fun kq v3 w' => ∃ (x3_1 : Int), v3 = .int .i64 x3_1 ∧ Aside0 (spec_IsConstant.l0 kq x3_1 a0_0 l0_1 = some r) ∧ Aside0 (kq ≤ k) ∧ Aside0 (w'.heap[gb206]? = some (.cells #[.int .i64 a0_0, (.slice A0_1 l0_1.length c0_1)] 36 (0, 0))) ∧ Aside0 (Below w.heap.size w w'))
 case atStart => exact ⟨(0), (by first | rfl | (simp; done) | (simp [*]; done)), H', ⟨Nat.le_refl _⟩, ⟨by (with_reducible repeat (first | refine blk_drewN ?_ _ | refine blk_drew ?_ | refine blk_alloc ?_ _)); exact BK206.out⟩, ⟨ms HB⟩⟩
 case round =>
  clear H'
  try clear p2
  obtain ⟨x3_1, rfl, HA, HK1, BK206, HB⟩ := hrel
  cases gk with
  | zero => exact absurd HA.out (by simp [spec_IsConstant.l0])
  | succ k1 =>
   have H := HA.out
   clear HA
   simp only [spec_IsConstant.l0] at H
   by_cases c3 : x3_1 < (l0_1.length : Int)
   ·rw [if_pos c3] at H
    have c3b0 : decide (x3_1 < (l0_1.length : Int)) = true := decide_eq_true c3
    clear c3
    by_cases c4 : 0 ≤ x3_1
    ·rw [if_pos c4] at H
     have c4b0 : decide (0 ≤ x3_1) = true := decide_eq_true c4
     clear c4
     by_cases c5 : (rd l0_1 x3_1) = 0
     ·rw [if_pos c5] at H
      have c5b0 : ((rd l0_1 x3_1) == 0) = true := beq_iff_eq.mpr c5
      have c5b1 : ((rd l0_1 x3_1) != 0) = false := bne_eq_false_iff_eq.mpr c5
      clear c5
      have H' := Aside0.mk H
      clear H
      obtain ⟨hcz6_0, hcz6_1⟩ := c2 BK206
      have hfz6_0 := blk_frozen BK206.out 0
      have hfz6_1 := blk_frozen BK206.out 1
      have p207 : 0 ≤ (x3_1 : Int) := of_decide_eq_true (by first | (with_reducible assumption) | assumption)
      have q207 : x3_1 < (l0_1.length : Int) := of_decide_eq_true (by first | (with_reducible assumption) | assumption)
      obtain ⟨ad207, e207, hx207_0⟩ := Kd.at_int HR0_1.out x3_1 p207 q207
      cases e207
      replace hx207_0 := (HB.out.cell (World.block_lt_of_cell? w _ hx207_0)).trans hx207_0
      replace p207 := eq_true p207
      replace q207 := eq_true q207
      go_wp2
      go_roundg k1
      case measure => have := HK1.out; omega
      case rel => exact ⟨(wrap64 (x3_1 + 1)), (by first | rfl | (simp; done) | (simp [*]; done)), H', ⟨by have := HK1.out; omega⟩, ⟨by (with_reducible repeat (first | refine blk_drewN ?_ _ | refine blk_drew ?_ | refine blk_alloc ?_ _)); exact BK206.out⟩, ⟨ms HB⟩⟩
     ·rw [if_neg c5] at H
      have c5b0 : ((rd l0_1 x3_1) == 0) = false := beq_eq_false_iff_ne.mpr c5
      have c5b1 : ((rd l0_1 x3_1) != 0) = true := bne_iff_ne.mpr c5
      obtain rfl := Option.some.inj H
      obtain ⟨hcz7_0, hcz7_1⟩ := c2 BK206
      have hfz7_0 := blk_frozen BK206.out 0
      have hfz7_1 := blk_frozen BK206.out 1
      have p207 : 0 ≤ (x3_1 : Int) := of_decide_eq_true (by first | (with_reducible assumption) | assumption)
      have q207 : x3_1 < (l0_1.length : Int) := of_decide_eq_true (by first | (with_reducible assumption) | assumption)
      obtain ⟨ad207, e207, hx207_0⟩ := Kd.at_int HR0_1.out x3_1 p207 q207
      cases e207
      replace hx207_0 := (HB.out.cell (World.block_lt_of_cell? w _ hx207_0)).trans hx207_0
      replace p207 := eq_true p207
      replace q207 := eq_true q207
      go_wp2
      go_ret
      exact ⟨by first | rfl | (simp [errW_none, errW_some] <;> rfl) | (simp [*, errW_none, errW_some] <;> rfl), ms HB⟩
    ·rw [if_neg c4] at H
     exact absurd H (by simp)
   ·rw [if_neg c3] at H
    have c3b0 : decide (x3_1 < (l0_1.length : Int)) = false := decide_eq_false c3
    clear c3
    obtain rfl := Option.some.inj H
    obtain ⟨hcz8_0, hcz8_1⟩ := c2 BK206
    have hfz8_0 := blk_frozen BK206.out 0
    have hfz8_1 := blk_frozen BK206.out 1
    go_wp2
    go_ret
    exact ⟨by first | rfl | (simp [errW_none, errW_some] <;> rfl) | (simp [*, errW_none, errW_some] <;> rfl), ms HB⟩

end Go.Proofs.Ytghiljjkaiggfaa.QFnExactCheckFarkas
