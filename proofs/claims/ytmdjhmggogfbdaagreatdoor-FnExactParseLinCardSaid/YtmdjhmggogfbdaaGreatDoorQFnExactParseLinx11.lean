-- Made by a program of this claim's own (wip/print): not the kit's print as it stands.
import Derived.Test.YtmdjhmggogfbdaaGreatDoorUFnExactParseLinTri
import Derived.Test.YtmdjhmggogfbdaaGreatDoorQFnExactParseLinx0
import Derived.Test.YtmdjhmggogfbdaaGreatDoorQFnExactParseLinx7
import Derived.Test.YtmdjhmggogfbdaaGreatDoorQFnExactParseLinx8
import Derived.Test.YtmdjhmggogfbdaaGreatDoorQFnExactParseLinx10
namespace Go.Proofs.YtmdjhmggogfbdaaGreatDoor.QFnExactParseLin
open Go.RowKit Go.Proofs.YtmdjhmggogfbdaaGreatDoorV.PrintWords Go.Proofs.YtmdjhmggogfbdaaGreatDoorV.PrintLast Go.Proofs.YtmdjhmggogfbdaaGreatDoorV.PrintMore
attribute [local go_sem] max2_int min2_int max_two min_two max_three min_three max_four min_four   -- for this text's walks alone
set_option linter.unusedVariables false
set_option linter.unusedSimpArgs false

/-! ### impl_ConstLin: function 31 -/
def impl_ConstLin.f (a0 : Int) (a1 : Int) : Option (Int × List Int) := (impl_within.f a1 0 8).bind fun t219 => (if t219 = true then ((impl_coeffOk.f a0).bind fun t220 => (if t220 = true then (if 0 ≤ a1 then (if (a1 : Int).toNat ≤ 35184372088832 then (some (a0, (List.replicate (a1 : Int).toNat 0))) else (none)) else (none)) else (some (0, ([] : List Int))))) else (some (0, ([] : List Int))))
set_option maxHeartbeats 8000000 in
set_option maxRecDepth 100000 in
theorem impl_ConstLin.calls (a0 : Int) (a1 : Int) (r1 : Int) (r2 : List Int) (w : World) (h : impl_ConstLin.f a0 a1 = some (r1, r2)) :
  Calls Tryz.prog 31 #[.int .i64 a0, .int .i64 a1] w fun e w' => ∃ v1_ : Value, e = .returned (.agg #[.int .i64 r1, v1_]) ∧ Kd.R (Kd.int .i64) 3 w' w.heap.size (fun _ => True) v1_ r2 ∧ Below w.heap.size w w' := by
 have hu26 := Tryz.underlying26
 have HB := Aside0.mk (Below.refl w.heap.size w)
 have H : ((impl_within.f a1 0 8).bind fun t219 => (if t219 = true then ((impl_coeffOk.f a0).bind fun t220 => (if t220 = true then (if 0 ≤ a1 then (if (a1 : Int).toNat ≤ 35184372088832 then (some (a0, (List.replicate (a1 : Int).toNat 0))) else (none)) else (none)) else (some (0, ([] : List Int))))) else (some (0, ([] : List Int))))) = some (r1, r2) := h
 clear h
 replace H := Option.bind_eq_some_iff.mp H
 obtain ⟨t219, A30, H⟩ := H
 replace H : (if t219 = true then ((impl_coeffOk.f a0).bind fun t220 => (if t220 = true then (if 0 ≤ a1 then (if (a1 : Int).toNat ≤ 35184372088832 then (some (a0, (List.replicate (a1 : Int).toNat 0))) else (none)) else (none)) else (some (0, ([] : List Int))))) else (some (0, ([] : List Int)))) = some (r1, r2) := H
 have A3 := Aside0.mk A30
 clear A30
 by_cases c4 : t219 = true
 ·subst c4
  have H1 : ((impl_coeffOk.f a0).bind fun t220 => (if t220 = true then (if 0 ≤ a1 then (if (a1 : Int).toNat ≤ 35184372088832 then (some (a0, (List.replicate (a1 : Int).toNat 0))) else (none)) else (none)) else (some (0, ([] : List Int))))) = some (r1, r2) := by rw [if_pos rfl] at H; exact H
  clear H
  have H := H1
  clear H1
  replace H := Option.bind_eq_some_iff.mp H
  obtain ⟨t220, A50, H⟩ := H
  replace H : (if t220 = true then (if 0 ≤ a1 then (if (a1 : Int).toNat ≤ 35184372088832 then (some (a0, (List.replicate (a1 : Int).toNat 0))) else (none)) else (none)) else (some (0, ([] : List Int)))) = some (r1, r2) := H
  have A5 := Aside0.mk A50
  clear A50
  by_cases c6 : t220 = true
  ·subst c6
   have H1 : (if 0 ≤ a1 then (if (a1 : Int).toNat ≤ 35184372088832 then (some (a0, (List.replicate (a1 : Int).toNat 0))) else (none)) else (none)) = some (r1, r2) := by rw [if_pos rfl] at H; exact H
   clear H
   have H := H1
   clear H1
   by_cases c7 : 0 ≤ a1
   ·rw [if_pos c7] at H
    have c7b0 := eq_true c7
    have c7b1 : decide (0 ≤ a1) = true := decide_eq_true c7
    clear c7
    by_cases c8 : (a1 : Int).toNat ≤ 35184372088832
    ·rw [if_pos c8] at H
     have c8b0 := eq_true c8
     have c8b1 : decide ((a1 : Int).toNat ≤ 35184372088832) = true := decide_eq_true c8
     clear c8
     obtain ⟨y221, hy221⟩ : ∃ y_ : List Int, y_ = (List.replicate (a1 : Int).toNat 0) := ⟨_, rfl⟩
     replace H : (some (a0, y221)) = some (r1, r2) := by first | (rw [hy221]; with_reducible exact H) | (have H2_ := (Option.bind_some _ _).symm.trans H; rw [hy221]; with_reducible exact H2_) | (have H2_ := (Option.bind_some _ _).symm.trans H; with_reducible exact H2_) | with_reducible exact H | (rw [hy221]; exact H) | exact H
     have Ny221 := Aside0.mk hy221
     clear hy221
     simp only [Option.some.injEq, Prod.mk.injEq] at H
     obtain ⟨rfl, rfl⟩ := H
     go_enter Tryz.func31, Tryz.ntmps31
     go_wp2_with (first | ((with_reducible refine gate_dst (N := 4) rfl ?_); refine box_event ?hg (N := 4) ?hd (cs := #[.int .i64 0, .slice none 0 0]) (t := 26) ?hr ?_; (case hd => rfl); (case hg => rfl); (case hr => first | (go_simp; done) | (go_simp; rfl)); intro gb218 hg w9 hbox hb; have BK218 := Aside0.mk (hbox); have GW218 := gw hg HB; have GE218 := gw hg HB; replace HB := bs HB hb; clear hb hbox hg) | ((with_reducible refine gate_callee (f := 60) rfl ?_); refine gl (some 6) rfl rfl Tryz.func60 (by kernel_rfl) rfl #[.int .i64 a1, .int .i64 0, .int .i64 8] rfl ?_; (with_reducible refine (impl_within.calls a1 0 8 true _ A3.out).mono ?_); rintro e w' ⟨rfl, ⟨nd, rfl⟩⟩; refine ⟨_, rfl, ?_⟩; (try (rw [drewN_self w9]; generalize hq_ : World.drewN w9 _ = w9; have n0_ : Aside0 (w9.heap[gb218]? = some (.cells #[.int .i64 0, .slice none 0 0] 26 (0, 0))) := ⟨by rw [← hq_]; exact (mb BK218)⟩; have n1_ : Aside0 (Below w.heap.size w w9) := ⟨by rw [← hq_]; exact (ms HB)⟩; clear BK218 HB hq_; have BK218 := n0_; have HB := n1_; clear n0_ n1_))) | (go_at_call 61; (with_reducible refine (impl_coeffOk.calls a0 true _ A5.out).mono ?_); rintro e w' ⟨rfl, ⟨nd, rfl⟩⟩; (try (rw [drewN_self w9]; generalize hq_ : World.drewN w9 _ = w9; have n0_ : Aside0 (w9.heap[gb218]? = some (.cells #[.int .i64 0, .slice none 0 0] 26 (0, 0))) := ⟨by rw [← hq_]; exact (mb BK218)⟩; have n1_ : Aside0 (Below w.heap.size w w9) := ⟨by rw [← hq_]; exact (ms HB)⟩; clear BK218 HB hq_; have BK218 := n0_; have HB := n1_; clear n0_ n1_))) | ((with_reducible refine gate_dst (N := 16) rfl ?_); refine Kd.R_make (Kd.int .i64) _ 3 rfl (N := 16) rfl 24 _ _ rfl a1 rfl rfl Tryz.underlying24 (.int .i64 0) 8 info3 rfl (by decide) (by omega) 0 (ok := fun _ => True) (okp := fun _ => True) rfl (fun _ hk => hk) trivial (of_decide_eq_true (by first | (with_reducible assumption) | assumption)) (Nat.le_trans (Nat.mul_le_mul_right _ (of_decide_eq_true (by first | (with_reducible assumption) | assumption) : a1.toNat ≤ 35184372088832)) (by omega)) (Below.refl _ _) (Nat.le_refl _) ?_; intro v222 w10 ho11 hb hg_ hnew_; clear hg_ hnew_; (first | rw [← Ny221.out] at ho11 | (simp only [Int.reduceToNat] at ho11; rw [← Ny221.out] at ho11)); have HO223 := Aside0.mk (Kd.R_lower ho11 (below_size (ms HB))); replace BK218 := bb BK218 hb; replace HB := bs HB hb; clear hb ho11; obtain ⟨Ao12, co12, eo12⟩ := Kd.R_slice HO223.out; subst eo12; obtain ⟨hcz13_0, hcz13_1⟩ := c2 BK218; have hfz13_0 := blk_frozen BK218.out 0; have hfz13_1 := blk_frozen BK218.out 1))
     refine bodyPost_ret (results_cell_row rfl _ _ gb218 26 #[.int .i64 a0, .slice Ao12 y221.length co12] (0, 0) _ rfl (by (with_reducible repeat (first | refine blk_drewN ?_ _ | refine blk_drew ?_ | refine blk_alloc ?_ _)); refine blk_put (cs := #[.int .i64 a0, .slice none 0 0]) ?_ 1 _ rfl; (with_reducible repeat (first | refine blk_drewN ?_ _ | refine blk_drew ?_ | refine blk_alloc ?_ _)); refine blk_put (cs := #[.int .i64 0, .slice none 0 0]) ?_ 0 _ rfl; (with_reducible repeat (first | refine blk_drewN ?_ _ | refine blk_drew ?_ | refine blk_alloc ?_ _)); exact BK218.out) Tryz.underlying26 rfl (by kernel_rfl)) rfl ?_
     exact ⟨_, by first | rfl | (simp [errW_none, errW_some] <;> rfl) | (simp [*, errW_none, errW_some] <;> rfl), by (with_reducible repeat (first | apply Kd.R_alloc | apply Kd.R_drewN | apply Kd.R_drew)); exact Kd.R_mono (Kd.R_far (p := ⟨gb218, 1, none⟩) (Kd.R_far (p := ⟨gb218, 0, none⟩) (Kd.R_types HO223.out BK218.out (by decide)) (fun _ hk => hk.2) (.int .i64 a0)) (fun _ hk => hk.2) (.slice Ao12 y221.length co12)) (fun _ hk => trivial), ms HB⟩
    ·rw [if_neg c8] at H
     exact absurd H (by simp)
   ·rw [if_neg c7] at H
    exact absurd H (by simp)
  ·replace c6 := Bool.eq_false_iff.mpr c6
   subst c6
   have H1 : (some (0, ([] : List Int))) = some (r1, r2) := by rw [if_neg (show ¬ (false = true) by decide)] at H; exact H
   clear H
   have H := H1
   clear H1
   simp only [Option.some.injEq, Prod.mk.injEq] at H
   obtain ⟨rfl, rfl⟩ := H
   go_enter Tryz.func31, Tryz.ntmps31
   go_wp2_with (first | ((with_reducible refine gate_dst (N := 4) rfl ?_); refine box_event ?hg (N := 4) ?hd (cs := #[.int .i64 0, .slice none 0 0]) (t := 26) ?hr ?_; (case hd => rfl); (case hg => rfl); (case hr => first | (go_simp; done) | (go_simp; rfl)); intro gb218 hg w14 hbox hb; have BK218 := Aside0.mk (hbox); have GW218 := gw hg HB; have GE218 := gw hg HB; replace HB := bs HB hb; clear hb hbox hg) | ((with_reducible refine gate_callee (f := 60) rfl ?_); refine gl (some 6) rfl rfl Tryz.func60 (by kernel_rfl) rfl #[.int .i64 a1, .int .i64 0, .int .i64 8] rfl ?_; (with_reducible refine (impl_within.calls a1 0 8 true _ A3.out).mono ?_); rintro e w' ⟨rfl, ⟨nd, rfl⟩⟩; refine ⟨_, rfl, ?_⟩; (try (rw [drewN_self w14]; generalize hq_ : World.drewN w14 _ = w14; have n0_ : Aside0 (w14.heap[gb218]? = some (.cells #[.int .i64 0, .slice none 0 0] 26 (0, 0))) := ⟨by rw [← hq_]; exact (mb BK218)⟩; have n1_ : Aside0 (Below w.heap.size w w14) := ⟨by rw [← hq_]; exact (ms HB)⟩; clear BK218 HB hq_; have BK218 := n0_; have HB := n1_; clear n0_ n1_))) | (go_at_call 61; (with_reducible refine (impl_coeffOk.calls a0 false _ A5.out).mono ?_); rintro e w' ⟨rfl, ⟨nd, rfl⟩⟩; (try (rw [drewN_self w14]; generalize hq_ : World.drewN w14 _ = w14; have n0_ : Aside0 (w14.heap[gb218]? = some (.cells #[.int .i64 0, .slice none 0 0] 26 (0, 0))) := ⟨by rw [← hq_]; exact (mb BK218)⟩; have n1_ : Aside0 (Below w.heap.size w w14) := ⟨by rw [← hq_]; exact (ms HB)⟩; clear BK218 HB hq_; have BK218 := n0_; have HB := n1_; clear n0_ n1_)); obtain ⟨hcz15_0, hcz15_1⟩ := c2 BK218; have hfz15_0 := blk_frozen BK218.out 0; have hfz15_1 := blk_frozen BK218.out 1))
   refine bodyPost_ret (results_cell_row rfl _ _ gb218 26 #[.int .i64 0, .slice none 0 0] (0, 0) _ rfl (by (with_reducible repeat (first | refine blk_drewN ?_ _ | refine blk_drew ?_ | refine blk_alloc ?_ _)); refine blk_put (cs := #[.int .i64 0, .slice none 0 0]) ?_ 1 _ rfl; (with_reducible repeat (first | refine blk_drewN ?_ _ | refine blk_drew ?_ | refine blk_alloc ?_ _)); refine blk_put (cs := #[.int .i64 0, .slice none 0 0]) ?_ 0 _ rfl; (with_reducible repeat (first | refine blk_drewN ?_ _ | refine blk_drew ?_ | refine blk_alloc ?_ _)); exact BK218.out) Tryz.underlying26 rfl (by kernel_rfl)) rfl ?_
   exact ⟨_, by first | rfl | (simp [errW_none, errW_some] <;> rfl) | (simp [*, errW_none, errW_some] <;> rfl), by first | exact Kd.R_nil _ _ _ _ _ | exact Kd.N_nil _ _ _ _ _ | exact Kd.V_nil _ _ _ _ _ | exact Kd.Q_nil _ _ _ _ _ | exact Kd.S_nil _ _ _ _ _, ms HB⟩
 ·replace c4 := Bool.eq_false_iff.mpr c4
  subst c4
  have H1 : (some (0, ([] : List Int))) = some (r1, r2) := by rw [if_neg (show ¬ (false = true) by decide)] at H; exact H
  clear H
  have H := H1
  clear H1
  simp only [Option.some.injEq, Prod.mk.injEq] at H
  obtain ⟨rfl, rfl⟩ := H
  go_enter Tryz.func31, Tryz.ntmps31
  go_wp2_with (first | ((with_reducible refine gate_dst (N := 4) rfl ?_); refine box_event ?hg (N := 4) ?hd (cs := #[.int .i64 0, .slice none 0 0]) (t := 26) ?hr ?_; (case hd => rfl); (case hg => rfl); (case hr => first | (go_simp; done) | (go_simp; rfl)); intro gb218 hg w16 hbox hb; have BK218 := Aside0.mk (hbox); have GW218 := gw hg HB; have GE218 := gw hg HB; replace HB := bs HB hb; clear hb hbox hg) | ((with_reducible refine gate_callee (f := 60) rfl ?_); refine gl (some 6) rfl rfl Tryz.func60 (by kernel_rfl) rfl #[.int .i64 a1, .int .i64 0, .int .i64 8] rfl ?_; (with_reducible refine (impl_within.calls a1 0 8 false _ A3.out).mono ?_); rintro e w' ⟨rfl, ⟨nd, rfl⟩⟩; refine ⟨_, rfl, ?_⟩; (try (rw [drewN_self w16]; generalize hq_ : World.drewN w16 _ = w16; have n0_ : Aside0 (w16.heap[gb218]? = some (.cells #[.int .i64 0, .slice none 0 0] 26 (0, 0))) := ⟨by rw [← hq_]; exact (mb BK218)⟩; have n1_ : Aside0 (Below w.heap.size w w16) := ⟨by rw [← hq_]; exact (ms HB)⟩; clear BK218 HB hq_; have BK218 := n0_; have HB := n1_; clear n0_ n1_)); obtain ⟨hcz17_0, hcz17_1⟩ := c2 BK218; have hfz17_0 := blk_frozen BK218.out 0; have hfz17_1 := blk_frozen BK218.out 1))
  refine bodyPost_ret (results_cell_row rfl _ _ gb218 26 #[.int .i64 0, .slice none 0 0] (0, 0) _ rfl (by (with_reducible repeat (first | refine blk_drewN ?_ _ | refine blk_drew ?_ | refine blk_alloc ?_ _)); refine blk_put (cs := #[.int .i64 0, .slice none 0 0]) ?_ 1 _ rfl; (with_reducible repeat (first | refine blk_drewN ?_ _ | refine blk_drew ?_ | refine blk_alloc ?_ _)); refine blk_put (cs := #[.int .i64 0, .slice none 0 0]) ?_ 0 _ rfl; (with_reducible repeat (first | refine blk_drewN ?_ _ | refine blk_drew ?_ | refine blk_alloc ?_ _)); exact BK218.out) Tryz.underlying26 rfl (by kernel_rfl)) rfl ?_
  exact ⟨_, by first | rfl | (simp [errW_none, errW_some] <;> rfl) | (simp [*, errW_none, errW_some] <;> rfl), by first | exact Kd.R_nil _ _ _ _ _ | exact Kd.N_nil _ _ _ _ _ | exact Kd.V_nil _ _ _ _ _ | exact Kd.Q_nil _ _ _ _ _ | exact Kd.S_nil _ _ _ _ _, ms HB⟩

/-! ### impl_IndexOf: function 32 -/
def impl_IndexOf.f (k : Nat) (l0 : List ByteArray) (a1 : ByteArray) : Option (Int) := (slices_Index_string_string.f k l0 a1).bind fun t224 => (some t224)
theorem impl_IndexOf.mono : ∀ a0 a1 k, LeO (impl_IndexOf.f k a0 a1) (impl_IndexOf.f (k + 1) a0 a1) := by
 intro a0 a1 k
 unfold impl_IndexOf.f
 repeat' first
   | (with_reducible exact slices_Index_string_string.mono _ _ _)
   | (with_reducible exact LeO.refl _)
   | (with_reducible exact LeO.none _)
   | (with_reducible refine LeO.ite ?_ ?_)
   | (with_reducible refine LeO.bind ?_ (fun _ => ?_))
   | exact slices_Index_string_string.mono _ _ _
   | exact LeO.none _
   | refine LeO.ite ?_ ?_
   | refine LeO.bind ?_ (fun _ => ?_)
set_option maxHeartbeats 8000000 in
set_option maxRecDepth 100000 in
theorem impl_IndexOf.calls (k : Nat) (A0 : Option Addr) (c0 : Nat) (l0 : List ByteArray) (a1 : ByteArray) (r : Int) (w : World) (hr0 : Kd.C Kd.string w A0 l0.length l0) (hc0 : l0.length ≤ c0) (h : impl_IndexOf.f k l0 a1 = some r) :
  Calls Tryz.prog 32 #[.slice A0 l0.length c0, .string a1] w fun e w' => e = .returned (.int .i64 r) ∧ Drawn0 w w' := by
 have HR0 := Aside0.mk hr0
 have HC0 := Aside0.mk hc0
 clear hr0 hc0
 have H : ((slices_Index_string_string.f k l0 a1).bind fun t224 => (some t224)) = some r := h
 clear h
 replace H := Option.bind_eq_some_iff.mp H
 obtain ⟨t224, A30, H⟩ := H
 replace H : (some t224) = some r := H
 have A3 := Aside0.mk A30
 clear A30
 obtain rfl := Option.some.inj H
 go_enter Tryz.func32, Tryz.ntmps32
 go_wp2_with (first | ((with_reducible refine gate_callee (f := 62) rfl ?_); refine gl (some 7) rfl rfl Tryz.func62 (by kernel_rfl) rfl #[.slice A0 l0.length c0, .string a1] rfl ?_; (with_reducible refine (slices_Index_string_string.calls k _ _ l0 a1 t224 _ ?side1 ?side2 A3.out).mono ?_); (case side1 => repeat (first | exact HR0.out | (with_reducible refine Kd.C_alloc ?_ _) | (with_reducible refine Kd.C_drewN ?_ _) | (with_reducible refine Kd.C_drew ?_))); (case side2 => exact HC0.out); rintro e w' ⟨rfl, ⟨nd, rfl⟩⟩; refine ⟨_, rfl, ?_⟩))
 go_ret
 exact ⟨by first | rfl | (simp; done) | (simp [*]; done), by repeat (first | exact Drawn0.refl _ | apply Drawn0.step)⟩

/-! ### impl_ParseLin: function 9 -/
mutual
def impl_ParseLin.j0 : Nat → ByteArray → List ByteArray → List (S52) → Bool → Option (Int × List Int × Bool)
 | 0, _, _, _, _ => none
 | k + 1, x0, x1, x6, x23 => if x23 = true then (some (0, ([] : List Int), false)) else ((impl_ConstLin.f 0 (x1.length : Int)).bind fun bt230 => (impl_ParseLin.l0 k x0 x1 x6 (x6.length : Int) 0 bt230.1 bt230.2))
def impl_ParseLin.l0 : Nat → ByteArray → List ByteArray → List (S52) → Int → Int → Int → List Int → Option (Int × List Int × Bool)
 | 0, _, _, _, _, _, _, _ => none
 | k + 1, x0, x1, x28, x29, x30, x235000, x235001 => if x30 < x29 then (if 0 ≤ x30 then (if x30 < (x28.length : Int) then (if ((rd_T52 x28 x30).f1).toList = ([] : List UInt8) then (impl_ParseLin.l0 k x0 x1 x28 x29 (wrap64 (x30 + 1)) ((rd_T52 x28 x30).f0) x235001) else ((impl_IndexOf.f k x1 ((rd_T52 x28 x30).f1)).bind fun t238 => (if t238 < 0 then (some (0, ([] : List Int), false)) else (if 0 ≤ t238 then (if t238 < (x235001.length : Int) then (impl_ParseLin.l0 k x0 x1 x28 x29 (wrap64 (x30 + 1)) x235000 (x235001.set (t238 : Int).toNat ((rd_T52 x28 x30).f0))) else (none)) else (none))))) else (none)) else (none)) else (if x0.toList = ([] : List UInt8) then (some (0, ([] : List Int), false)) else ((impl_FormatLin.f k x235000 x235001 x1).bind fun t235 => (if t235.toList = x0.toList then (some (x235000, x235001, true)) else (some (0, ([] : List Int), false)))))
end
def impl_ParseLin.f (k : Nat) (a0 : ByteArray) (l1 : List ByteArray) : Option (Int × List Int × Bool) := (impl_partsOf.f k a0).bind fun bt226 => (if bt226.2 = true then (impl_ParseLin.j0 k a0 l1 bt226.1 (decide ((l1.length : Int) > 8))) else (impl_ParseLin.j0 k a0 l1 bt226.1 true))
theorem impl_ParseLin.mono_l : ∀ k, (∀ y0 y1 y2 y3, LeO (impl_ParseLin.j0 k y0 y1 y2 y3) (impl_ParseLin.j0 (k + 1) y0 y1 y2 y3)) ∧ (∀ y0 y1 y2 y3 y4 y5 y6, LeO (impl_ParseLin.l0 k y0 y1 y2 y3 y4 y5 y6) (impl_ParseLin.l0 (k + 1) y0 y1 y2 y3 y4 y5 y6))
 | 0 => ⟨fun _ _ _ _ r h => by simp [impl_ParseLin.j0] at h, fun _ _ _ _ _ _ _ r h => by simp [impl_ParseLin.l0] at h⟩
 | k + 1 => by
  obtain ⟨ih0, ih1⟩ := impl_ParseLin.mono_l k
  refine ⟨?_, ?_⟩
  ·intro y0 y1 y2 y3
   unfold impl_ParseLin.j0
   repeat' first
   | (with_reducible exact ih0 _ _ _ _)
   | (with_reducible exact ih1 _ _ _ _ _ _ _)
   | (with_reducible exact impl_FormatLin.mono _ _ _ _)
   | (with_reducible exact impl_IndexOf.mono _ _ _)
   | (with_reducible exact impl_partsOf.mono _ _)
   | (with_reducible exact LeO.refl _)
   | (with_reducible exact LeO.none _)
   | (with_reducible refine LeO.ite ?_ ?_)
   | (with_reducible refine LeO.bind ?_ (fun _ => ?_))
   | exact ih0 _ _ _ _
   | exact ih1 _ _ _ _ _ _ _
   | exact impl_FormatLin.mono _ _ _ _
   | exact impl_IndexOf.mono _ _ _
   | exact impl_partsOf.mono _ _
   | exact LeO.none _
   | refine LeO.ite ?_ ?_
   | refine LeO.bind ?_ (fun _ => ?_)
  ·intro y0 y1 y2 y3 y4 y5 y6
   unfold impl_ParseLin.l0
   repeat' first
   | (with_reducible exact ih0 _ _ _ _)
   | (with_reducible exact ih1 _ _ _ _ _ _ _)
   | (with_reducible exact impl_FormatLin.mono _ _ _ _)
   | (with_reducible exact impl_IndexOf.mono _ _ _)
   | (with_reducible exact impl_partsOf.mono _ _)
   | (with_reducible exact LeO.refl _)
   | (with_reducible exact LeO.none _)
   | (with_reducible refine LeO.ite ?_ ?_)
   | (with_reducible refine LeO.bind ?_ (fun _ => ?_))
   | exact ih0 _ _ _ _
   | exact ih1 _ _ _ _ _ _ _
   | exact impl_FormatLin.mono _ _ _ _
   | exact impl_IndexOf.mono _ _ _
   | exact impl_partsOf.mono _ _
   | exact LeO.none _
   | refine LeO.ite ?_ ?_
   | refine LeO.bind ?_ (fun _ => ?_)
theorem impl_ParseLin.mono : ∀ a0 a1 k, LeO (impl_ParseLin.f k a0 a1) (impl_ParseLin.f (k + 1) a0 a1) := by
 intro a0 a1 k
 obtain ⟨ih0, ih1⟩ := impl_ParseLin.mono_l k
 unfold impl_ParseLin.f
 repeat' first
   | (with_reducible exact ih0 _ _ _ _)
   | (with_reducible exact ih1 _ _ _ _ _ _ _)
   | (with_reducible exact impl_FormatLin.mono _ _ _ _)
   | (with_reducible exact impl_IndexOf.mono _ _ _)
   | (with_reducible exact impl_partsOf.mono _ _)
   | (with_reducible exact LeO.refl _)
   | (with_reducible exact LeO.none _)
   | (with_reducible refine LeO.ite ?_ ?_)
   | (with_reducible refine LeO.bind ?_ (fun _ => ?_))
   | exact ih0 _ _ _ _
   | exact ih1 _ _ _ _ _ _ _
   | exact impl_FormatLin.mono _ _ _ _
   | exact impl_IndexOf.mono _ _ _
   | exact impl_partsOf.mono _ _
   | exact LeO.none _
   | refine LeO.ite ?_ ?_
   | refine LeO.bind ?_ (fun _ => ?_)
set_option maxHeartbeats 8000000 in
set_option maxRecDepth 100000 in
theorem impl_ParseLin.calls (k : Nat) (a0 : ByteArray) (A1 : Option Addr) (c1 : Nat) (l1 : List ByteArray) (r1 : Int) (r2 : List Int) (r3 : Bool) (w : World) (hr1 : Kd.C Kd.string w A1 l1.length l1) (hc1 : l1.length ≤ c1) (h : impl_ParseLin.f k a0 l1 = some (r1, r2, r3)) (hTb_ : TbL w := by first | assumption | ((with_reducible repeat (first | apply tb_alloc | apply tb_drewN | apply tb_drew)); first | assumption | exact tb_of (by assumption) (by assumption))) :
  Calls Tryz.prog 9 #[.string a0, .slice A1 l1.length c1] w fun e w' => ∃ v1_ : Value, e = .returned (.tuple #[.agg #[.int .i64 r1, v1_], .bool r3]) ∧ Kd.R (Kd.int .i64) 3 w' w.heap.size (fun _ => True) v1_ r2 ∧ Below w.heap.size w w' := by
 have hu26 := Tryz.underlying26
 have hu52 := Tryz.underlying52
 have HR1 := Aside0.mk hr1
 have HC1 := Aside0.mk hc1
 clear hr1 hc1
 have HB := Aside0.mk (Below.refl w.heap.size w)
 have H : ((impl_partsOf.f k a0).bind fun bt226 => (if bt226.2 = true then (impl_ParseLin.j0 k a0 l1 bt226.1 (decide ((l1.length : Int) > 8))) else (impl_ParseLin.j0 k a0 l1 bt226.1 true))) = some (r1, r2, r3) := h
 clear h
 replace H := Option.bind_eq_some_iff.mp H
 obtain ⟨⟨t226, t227⟩, A30, H⟩ := H
 replace H : (if t227 = true then (impl_ParseLin.j0 k a0 l1 t226 (decide ((l1.length : Int) > 8))) else (impl_ParseLin.j0 k a0 l1 t226 true)) = some (r1, r2, r3) := H
 have A3 := Aside0.mk A30
 clear A30
 have HC4 := Aside0.mk H
 clear H
 go_enter Tryz.func9, Tryz.ntmps9
 go_upto_region 2 with (first | ((with_reducible refine gate_dst (N := 4) rfl ?_); refine box_event ?hg (N := 4) ?hd (cs := #[.int .i64 0, .slice none 0 0]) (t := 26) ?hr ?_; (case hd => rfl); (case hg => rfl); (case hr => first | (go_simp; done) | (go_simp; rfl)); intro gb225 hg w5 hbox hb; have BK225 := Aside0.mk (hbox); have GW225 := gw hg HB; have GE225 := gw hg HB; replace HB := bs HB hb; clear hb hbox hg) | ((with_reducible refine gate_callee (f := 30) rfl ?_); refine gl (some 14) rfl rfl Tryz.func30 (by kernel_rfl) rfl #[.string a0] rfl ?_; (with_reducible refine (impl_partsOf.calls k a0 t226 t227 _ A3.out).mono ?_); rintro e w6 ⟨v228, rfl, ho0, hb⟩; refine ⟨_, rfl, ?_⟩; have HO229 := Aside0.mk (Kd.R_lower ho0 (below_size (ms HB))); replace BK225 := bb BK225 hb; replace HB := bs HB hb; (try clear hb); (try clear ho0)))
 (try simp only [Act.put, List.setIfInBounds_toArray, List.set_cons_zero, List.set_cons_succ])
 go_cut [23] (fun v23 wc => ∃ (kq : Nat) (x23_3 : Bool), v23 = .bool x23_3 ∧ Aside0 (impl_ParseLin.j0 kq a0 l1 t226 x23_3 = some (r1, r2, r3)) ∧ Aside0 (kq ≤ k) ∧ Aside0 (Kd.R k52 52 wc w.heap.size (fun _ => True) v228 t226) ∧ Aside0 (wc.heap[gb225]? = some (.cells #[.int .i64 0, (.slice none 0 0)] 26 (0, 0))) ∧ Aside0 (Below w.heap.size w wc))
 case first =>
  have H := HC4.out
  clear HC4
  by_cases c7 : t227 = true
  ·subst c7
   have H1 : (impl_ParseLin.j0 k a0 l1 t226 (decide ((l1.length : Int) > 8))) = some (r1, r2, r3) := by rw [if_pos rfl] at H; exact H
   clear H
   have H := H1
   clear H1
   have H' := Aside0.mk H
   clear H
   go_wp2
   go_meet
   case rel => exact ⟨_, (decide ((l1.length : Int) > 8)), (by first | rfl | (simp; done) | (simp [*]; done)), H', ⟨by first | omega | exact Nat.le_refl _⟩, ⟨by (with_reducible repeat (first | apply Kd.R_alloc | apply Kd.R_drewN | apply Kd.R_drew)); exact HO229.out⟩, ⟨mb BK225⟩, ⟨ms HB⟩⟩
  ·replace c7 := Bool.eq_false_iff.mpr c7
   subst c7
   have H1 : (impl_ParseLin.j0 k a0 l1 t226 true) = some (r1, r2, r3) := by rw [if_neg (show ¬ (false = true) by decide)] at H; exact H
   clear H
   have H := H1
   clear H1
   have H' := Aside0.mk H
   clear H
   go_wp2
   go_meet
   case rel => exact ⟨_, (true), (by first | rfl | (simp; done) | (simp [*]; done)), H', ⟨by first | omega | exact Nat.le_refl _⟩, ⟨by (with_reducible repeat (first | apply Kd.R_alloc | apply Kd.R_drewN | apply Kd.R_drew)); exact HO229.out⟩, ⟨mb BK225⟩, ⟨ms HB⟩⟩
 case rest =>
  clear HC4
  try clear c1
  try clear p2
  try clear c3
  try clear c7
  obtain ⟨kq, x23_3, rfl, HA, HJ3, HO_6, BK225, HB⟩ := hcut
  cases kq with
  | zero => exact absurd HA.out (by simp [impl_ParseLin.j0])
  | succ kj3 =>
   have H := HA.out
   clear HA
   simp only [impl_ParseLin.j0] at H
   by_cases c8 : x23_3 = true
   ·subst c8
    have H1 : (some (0, ([] : List Int), false)) = some (r1, r2, r3) := by rw [if_pos rfl] at H; exact H
    clear H
    have H := H1
    clear H1
    simp only [Option.some.injEq, Prod.mk.injEq] at H
    obtain ⟨rfl, rfl, rfl⟩ := H
    obtain ⟨hcz9_0, hcz9_1⟩ := c2 BK225
    have hfz9_0 := blk_frozen BK225.out 0
    have hfz9_1 := blk_frozen BK225.out 1
    go_wp2
    refine bodyPost_ret (results_ct rfl _ _ gb225 26 #[.int .i64 0, .slice none 0 0] (0, 0) _ rfl (by (with_reducible repeat (first | refine blk_drewN ?_ _ | refine blk_drew ?_ | refine blk_alloc ?_ _)); refine blk_put (cs := #[.int .i64 0, .slice none 0 0]) ?_ 1 _ rfl; (with_reducible repeat (first | refine blk_drewN ?_ _ | refine blk_drew ?_ | refine blk_alloc ?_ _)); refine blk_put (cs := #[.int .i64 0, .slice none 0 0]) ?_ 0 _ rfl; (with_reducible repeat (first | refine blk_drewN ?_ _ | refine blk_drew ?_ | refine blk_alloc ?_ _)); exact BK225.out) Tryz.underlying26 rfl (by kernel_rfl)) rfl ?_
    exact ⟨_, by first | rfl | (simp [errW_none, errW_some] <;> rfl) | (simp [*, errW_none, errW_some] <;> rfl), by first | exact Kd.R_nil _ _ _ _ _ | exact Kd.N_nil _ _ _ _ _ | exact Kd.V_nil _ _ _ _ _ | exact Kd.Q_nil _ _ _ _ _ | exact Kd.S_nil _ _ _ _ _, ms HB⟩
   ·replace c8 := Bool.eq_false_iff.mpr c8
    subst c8
    have H1 : ((impl_ConstLin.f 0 (l1.length : Int)).bind fun bt230 => (impl_ParseLin.l0 kj3 a0 l1 t226 (t226.length : Int) 0 bt230.1 bt230.2)) = some (r1, r2, r3) := by rw [if_neg (show ¬ (false = true) by decide)] at H; exact H
    clear H
    have H := H1
    clear H1
    replace H := Option.bind_eq_some_iff.mp H
    obtain ⟨⟨t230, t231⟩, A100, H⟩ := H
    replace H : (impl_ParseLin.l0 kj3 a0 l1 t226 (t226.length : Int) 0 t230 t231) = some (r1, r2, r3) := H
    have A10 := Aside0.mk A100
    clear A100
    have H' := Aside0.mk H
    clear H
    go_wp2_with (first | ((with_reducible refine gate_callee (f := 31) rfl ?_); refine gl (some 27) rfl rfl Tryz.func31 (by kernel_rfl) rfl #[.int .i64 0, .int .i64 (l1.length : Int)] rfl ?_; (with_reducible refine (impl_ConstLin.calls 0 (l1.length : Int) t230 t231 _ A10.out).mono ?_); rintro e w11 ⟨v232, rfl, ho0, hb⟩; refine ⟨_, rfl, ?_⟩; replace HO_6 := rb HO_6 hb; have HO233 := Aside0.mk (Kd.R_lower ho0 (below_size (ms HB))); replace BK225 := bb BK225 hb; replace HB := bs HB hb; (try clear hb); (try clear ho0)) | ((with_reducible refine gate_dst (N := 8) rfl ?_); refine box_event ?hg (N := 8) ?hd (cs := #[.int .i64 0, .slice none 0 0]) (t := 26) ?hr ?_; (case hd => rfl); (case hg => rfl); (case hr => first | (go_simp; done) | (go_simp; rfl)); intro gb234 hg w12 hbox hb; replace HO_6 := rb HO_6 hb; replace HO233 := rb HO233 hb; have BK234 := Aside0.mk (hbox); have GW234 := gw hg HB; have GE234 := gw hg HB; replace HB := bs HB hb; have NB225_234 := nl hg BK225; have NB234_225 := ng hg BK225; replace BK225 := bb BK225 hb; clear hb hbox hg; have hnb13 := NB234_225.out; have hnc13 := NB225_234.out; obtain ⟨hcz14_0, hcz14_1⟩ := c2 BK234; have hfz14_0 := blk_frozen BK234.out 0; have hfz14_1 := blk_frozen BK234.out 1; obtain ⟨Ao15, co15, eo15⟩ := Kd.R_slice HO233.out; subst eo15; obtain ⟨Ao16, co16, eo16⟩ := Kd.R_slice HO_6.out; subst eo16))
    go_loopg [30] kj3 (fun kq v30 w' => ∃ (x30_2 : Int) (x226000_2 : Int) (x235000_2 : Int) (x235001_2 : List Int) (u235001 : Value), v30 = .int .i64 x30_2 ∧ Aside0 (impl_ParseLin.l0 kq a0 l1 t226 (t226.length : Int) x30_2 x235000_2 x235001_2 = some (r1, r2, r3)) ∧ Aside0 (kq ≤ kj3) ∧ Aside0 (Kd.R k52 52 w' w.heap.size (fun _ => True) (.slice Ao16 t226.length co16) t226) ∧ Aside0 (Kd.R (Kd.int .i64) 3 w' w.heap.size (fun _ => True) u235001 x235001_2) ∧ Aside0 (w'.heap[gb225]? = some (.cells #[.int .i64 x226000_2, (.slice none 0 0)] 26 (0, 0))) ∧ Aside0 (w'.heap[gb234]? = some (.cells #[.int .i64 x235000_2, u235001] 26 (0, 0))) ∧ Aside0 (Below w.heap.size w w'))
    case atStart => exact ⟨(0), (0), (t230), (t231), (.slice Ao15 t231.length co15), (by first | rfl | (simp; done) | (simp [*]; done)), H', ⟨Nat.le_refl _⟩, ⟨by (with_reducible repeat (first | apply Kd.R_alloc | apply Kd.R_drewN | apply Kd.R_drew)); exact Kd.R_mono (Kd.R_far (p := ⟨gb234, 1, none⟩) (Kd.R_far (p := ⟨gb234, 0, none⟩) (Kd.R_types HO_6.out BK234.out (by decide)) (fun _ hk => hk.2) (.int .i64 t230)) (fun _ hk => hk.2) (.slice Ao15 t231.length co15)) (fun _ hk => trivial)⟩, ⟨by (with_reducible repeat (first | apply Kd.R_alloc | apply Kd.R_drewN | apply Kd.R_drew)); exact Kd.R_mono (Kd.R_far (p := ⟨gb234, 1, none⟩) (Kd.R_far (p := ⟨gb234, 0, none⟩) (Kd.R_types HO233.out BK234.out (by decide)) (fun _ hk => hk.2) (.int .i64 t230)) (fun _ hk => hk.2) (.slice Ao15 t231.length co15)) (fun _ hk => trivial)⟩, ⟨by (with_reducible repeat (first | refine blk_drewN ?_ _ | refine blk_drew ?_ | refine blk_alloc ?_ _)); refine blk_far ?_ NB225_234.out _; (with_reducible repeat (first | refine blk_drewN ?_ _ | refine blk_drew ?_ | refine blk_alloc ?_ _)); refine blk_far ?_ NB225_234.out _; (with_reducible repeat (first | refine blk_drewN ?_ _ | refine blk_drew ?_ | refine blk_alloc ?_ _)); exact BK225.out⟩, ⟨by (with_reducible repeat (first | refine blk_drewN ?_ _ | refine blk_drew ?_ | refine blk_alloc ?_ _)); refine blk_put (cs := #[.int .i64 t230, .slice none 0 0]) ?_ 1 _ rfl; (with_reducible repeat (first | refine blk_drewN ?_ _ | refine blk_drew ?_ | refine blk_alloc ?_ _)); refine blk_put (cs := #[.int .i64 0, .slice none 0 0]) ?_ 0 _ rfl; (with_reducible repeat (first | refine blk_drewN ?_ _ | refine blk_drew ?_ | refine blk_alloc ?_ _)); exact BK234.out⟩, ⟨ms HB⟩⟩
    case round =>
     clear H'
     try clear c1
     try clear p2
     try clear c3
     try clear c7
     try clear c8
     try clear c9
     try clear c13
     try clear hcz14_0
     try clear hcz14_1
     try clear hcz9_0
     try clear hcz9_1
     try clear hfz14_0
     try clear hfz14_1
     try clear hfz9_0
     try clear hfz9_1
     try clear p2
     obtain ⟨x30_2, x226000_2, x235000_2, x235001_2, u235001, rfl, HA, HK2, HO_28, HO_235001, BK225, BK234, HB⟩ := hrel
     cases gk with
     | zero => exact absurd HA.out (by simp [impl_ParseLin.l0])
     | succ k2 =>
      have H := HA.out
      clear HA
      simp only [impl_ParseLin.l0] at H
      by_cases c17 : x30_2 < (t226.length : Int)
      ·rw [if_pos c17] at H
       have c17b0 : decide (x30_2 < (t226.length : Int)) = true := decide_eq_true c17
       clear c17
       by_cases c18 : 0 ≤ x30_2
       ·rw [if_pos c18] at H
        have c18b0 : decide (0 ≤ x30_2) = true := decide_eq_true c18
        clear c18
        by_cases c19 : x30_2 < (t226.length : Int)
        ·rw [if_pos c19] at H
         have c19b0 : decide (x30_2 < (t226.length : Int)) = true := decide_eq_true c19
         clear c19
         by_cases c20 : ((rd_T52 t226 x30_2).f1).toList = ([] : List UInt8)
         ·rw [if_pos c20] at H
          have c20b0 : (((rd_T52 t226 x30_2).f1).toList == ([] : List UInt8)) = true := beq_iff_eq.mpr c20
          have c20b1 : (((rd_T52 t226 x30_2).f1).toList != ([] : List UInt8)) = false := bne_eq_false_iff_eq.mpr c20
          clear c20
          have H' := Aside0.mk H
          clear H
          have p236 : 0 ≤ (x30_2 : Int) := of_decide_eq_true (by first | (with_reducible assumption) | assumption)
          have q236 : x30_2 < (t226.length : Int) := of_decide_eq_true (by first | (with_reducible assumption) | assumption)
          obtain ⟨ad236, e236, hx236_0, hx236_1⟩ := at_T52 (Kd.R_reads' HO_28.out).2.2 x30_2 p236 q236
          cases e236
          replace p236 := eq_true p236
          replace q236 := eq_true q236
          go_wp2_with (first | ((with_reducible refine gate_dst (N := 10) rfl ?_); refine box_event ?hg (N := 10) ?hd (cs := #[.int .i64 0, .string (⟨#[]⟩ : ByteArray)]) (t := 52) ?hr ?_; (case hd => rfl); (case hg => rfl); (case hr => first | (go_simp; done) | (go_simp; rfl)); intro gb237 hg w21 hbox hb; replace HO_28 := Aside0.mk (Kd.R_below (Kd.R_elderB (mr HO_28) gb237 (Nat.le_of_eq hg.symm)) hb); replace HO_235001 := rb HO_235001 hb; have BK237 := Aside0.mk (hbox); have GW237 := gw hg HB; have GE237 := gw hg HB; replace HB := bs HB hb; have NB225_237 := nl hg BK225; have NB237_225 := ng hg BK225; replace BK225 := bb BK225 hb; have NB234_237 := nl hg BK234; have NB237_234 := ng hg BK234; replace BK234 := bb BK234 hb; clear hb hbox hg; have hnb22 := NB237_225.out; have hnc22 := NB225_237.out; have hnb23 := NB237_234.out; have hnc23 := NB234_237.out; obtain ⟨hcz24_0, hcz24_1⟩ := c2 BK237; have hfz24_0 := blk_frozen BK237.out 0; have hfz24_1 := blk_frozen BK237.out 1; have hnb25 := NB234_225.out; have hnc25 := NB225_234.out; obtain ⟨hcz26_0, hcz26_1⟩ := c2 BK234; have hfz26_0 := blk_frozen BK234.out 0; have hfz26_1 := blk_frozen BK234.out 1))
          go_roundg k2
          case measure => have := HJ3.out; have := HK2.out; omega
          case rel => exact ⟨(wrap64 (x30_2 + 1)), (x226000_2), ((rd_T52 t226 x30_2).f0), (x235001_2), (u235001), (by first | rfl | (simp; done) | (simp [*]; done)), H', ⟨by have := HJ3.out; have := HK2.out; omega⟩, ⟨by (with_reducible repeat (first | apply Kd.R_alloc | apply Kd.R_drewN | apply Kd.R_drew)); exact Kd.R_mono (Kd.R_far (p := ⟨gb234, 0, none⟩) (Kd.R_far (p := ⟨gb237, 1, none⟩) (Kd.R_far (p := ⟨gb237, 0, none⟩) (Kd.R_types (Kd.R_mono HO_28.out (fun k_ hk => (⟨hk, hk.2⟩ : _ ∧ k_ ≠ gb237))) BK234.out (by decide)) (fun _ hk => hk.1.2) (.int .i64 ((rd_T52 t226 x30_2).f0))) (fun _ hk => hk.1.2) (.string ((rd_T52 t226 x30_2).f1))) (fun _ hk => hk.2) (.int .i64 ((rd_T52 t226 x30_2).f0))) (fun _ hk => trivial)⟩, ⟨by (with_reducible repeat (first | apply Kd.R_alloc | apply Kd.R_drewN | apply Kd.R_drew)); exact Kd.R_mono (Kd.R_far (p := ⟨gb234, 0, none⟩) (Kd.R_far (p := ⟨gb237, 1, none⟩) (Kd.R_far (p := ⟨gb237, 0, none⟩) (Kd.R_types (Kd.R_types HO_235001.out BK237.out (by decide)) BK234.out (by decide)) (fun _ hk => hk.1.2) (.int .i64 ((rd_T52 t226 x30_2).f0))) (fun _ hk => hk.1.2) (.string ((rd_T52 t226 x30_2).f1))) (fun _ hk => hk.2) (.int .i64 ((rd_T52 t226 x30_2).f0))) (fun _ hk => trivial)⟩, ⟨by (with_reducible repeat (first | refine blk_drewN ?_ _ | refine blk_drew ?_ | refine blk_alloc ?_ _)); refine blk_far ?_ NB225_234.out _; (with_reducible repeat (first | refine blk_drewN ?_ _ | refine blk_drew ?_ | refine blk_alloc ?_ _)); refine blk_far ?_ NB225_237.out _; (with_reducible repeat (first | refine blk_drewN ?_ _ | refine blk_drew ?_ | refine blk_alloc ?_ _)); refine blk_far ?_ NB225_237.out _; (with_reducible repeat (first | refine blk_drewN ?_ _ | refine blk_drew ?_ | refine blk_alloc ?_ _)); exact BK225.out⟩, ⟨by (with_reducible repeat (first | refine blk_drewN ?_ _ | refine blk_drew ?_ | refine blk_alloc ?_ _)); refine blk_put (cs := #[.int .i64 x235000_2, u235001]) ?_ 0 _ rfl; (with_reducible repeat (first | refine blk_drewN ?_ _ | refine blk_drew ?_ | refine blk_alloc ?_ _)); refine blk_far ?_ NB234_237.out _; (with_reducible repeat (first | refine blk_drewN ?_ _ | refine blk_drew ?_ | refine blk_alloc ?_ _)); refine blk_far ?_ NB234_237.out _; (with_reducible repeat (first | refine blk_drewN ?_ _ | refine blk_drew ?_ | refine blk_alloc ?_ _)); exact BK234.out⟩, ⟨ms HB⟩⟩
         ·rw [if_neg c20] at H
          have c20b0 : (((rd_T52 t226 x30_2).f1).toList == ([] : List UInt8)) = false := beq_eq_false_iff_ne.mpr c20
          have c20b1 : (((rd_T52 t226 x30_2).f1).toList != ([] : List UInt8)) = true := bne_iff_ne.mpr c20
          replace H := Option.bind_eq_some_iff.mp H
          obtain ⟨t238, A270, H⟩ := H
          replace H : (if t238 < 0 then (some (0, ([] : List Int), false)) else (if 0 ≤ t238 then (if t238 < (x235001_2.length : Int) then (impl_ParseLin.l0 k2 a0 l1 t226 (t226.length : Int) (wrap64 (x30_2 + 1)) x235000_2 (x235001_2.set (t238 : Int).toNat ((rd_T52 t226 x30_2).f0))) else (none)) else (none))) = some (r1, r2, r3) := H
          have A27 := Aside0.mk A270
          clear A270
          by_cases c28 : t238 < 0
          ·rw [if_pos c28] at H
           have c28b0 : decide (t238 < 0) = true := decide_eq_true c28
           clear c28
           simp only [Option.some.injEq, Prod.mk.injEq] at H
           obtain ⟨rfl, rfl, rfl⟩ := H
           have p236 : 0 ≤ (x30_2 : Int) := of_decide_eq_true (by first | (with_reducible assumption) | assumption)
           have q236 : x30_2 < (t226.length : Int) := of_decide_eq_true (by first | (with_reducible assumption) | assumption)
           obtain ⟨ad236, e236, hx236_0, hx236_1⟩ := at_T52 (Kd.R_reads' HO_28.out).2.2 x30_2 p236 q236
           cases e236
           replace p236 := eq_true p236
           replace q236 := eq_true q236
           go_wp2_with (first | ((with_reducible refine gate_dst (N := 10) rfl ?_); refine box_event ?hg (N := 10) ?hd (cs := #[.int .i64 0, .string (⟨#[]⟩ : ByteArray)]) (t := 52) ?hr ?_; (case hd => rfl); (case hg => rfl); (case hr => first | (go_simp; done) | (go_simp; rfl)); intro gb237 hg w29 hbox hb; replace HO_28 := Aside0.mk (Kd.R_below (Kd.R_elderB (mr HO_28) gb237 (Nat.le_of_eq hg.symm)) hb); replace HO_235001 := rb HO_235001 hb; have BK237 := Aside0.mk (hbox); have GW237 := gw hg HB; have GE237 := gw hg HB; replace HB := bs HB hb; have NB225_237 := nl hg BK225; have NB237_225 := ng hg BK225; replace BK225 := bb BK225 hb; have NB234_237 := nl hg BK234; have NB237_234 := ng hg BK234; replace BK234 := bb BK234 hb; clear hb hbox hg; have hnb30 := NB237_225.out; have hnc30 := NB225_237.out; have hnb31 := NB237_234.out; have hnc31 := NB234_237.out; obtain ⟨hcz32_0, hcz32_1⟩ := c2 BK237; have hfz32_0 := blk_frozen BK237.out 0; have hfz32_1 := blk_frozen BK237.out 1) | ((with_reducible refine gate_callee (f := 32) rfl ?_); refine gl (some 43) rfl rfl Tryz.func32 (by kernel_rfl) rfl #[.slice A1 l1.length c1, .string ((rd_T52 t226 x30_2).f1)] rfl ?_; (with_reducible refine (impl_IndexOf.calls k2 _ _ l1 ((rd_T52 t226 x30_2).f1) t238 _ ?side1 ?side2 A27.out).mono ?_); (case side1 => exact Kd.C_below HR1.out (ms HB)); (case side2 => exact HC1.out); rintro e w' ⟨rfl, ⟨nd, rfl⟩⟩; refine ⟨_, rfl, ?_⟩; have hnb33 := NB225_234.out; have hnc33 := NB234_225.out; obtain ⟨hcz34_0, hcz34_1⟩ := c2 BK225; have hfz34_0 := blk_frozen BK225.out 0; have hfz34_1 := blk_frozen BK225.out 1))
           refine bodyPost_ret (results_ct rfl _ _ gb225 26 #[.int .i64 0, .slice none 0 0] (0, 0) _ rfl (by (with_reducible repeat (first | refine blk_drewN ?_ _ | refine blk_drew ?_ | refine blk_alloc ?_ _)); refine blk_put (cs := #[.int .i64 0, .slice none 0 0]) ?_ 1 _ rfl; (with_reducible repeat (first | refine blk_drewN ?_ _ | refine blk_drew ?_ | refine blk_alloc ?_ _)); refine blk_put (cs := #[.int .i64 x226000_2, .slice none 0 0]) ?_ 0 _ rfl; (with_reducible repeat (first | refine blk_drewN ?_ _ | refine blk_drew ?_ | refine blk_alloc ?_ _)); refine blk_far ?_ NB225_237.out _; (with_reducible repeat (first | refine blk_drewN ?_ _ | refine blk_drew ?_ | refine blk_alloc ?_ _)); refine blk_far ?_ NB225_237.out _; (with_reducible repeat (first | refine blk_drewN ?_ _ | refine blk_drew ?_ | refine blk_alloc ?_ _)); exact BK225.out) Tryz.underlying26 rfl (by kernel_rfl)) rfl ?_
           exact ⟨_, by first | rfl | (simp [errW_none, errW_some] <;> rfl) | (simp [*, errW_none, errW_some] <;> rfl), by first | exact Kd.R_nil _ _ _ _ _ | exact Kd.N_nil _ _ _ _ _ | exact Kd.V_nil _ _ _ _ _ | exact Kd.Q_nil _ _ _ _ _ | exact Kd.S_nil _ _ _ _ _, ms HB⟩
          ·rw [if_neg c28] at H
           have c28b0 : decide (t238 < 0) = false := decide_eq_false c28
           clear c28
           by_cases c35 : 0 ≤ t238
           ·rw [if_pos c35] at H
            have c35b0 : decide (0 ≤ t238) = true := decide_eq_true c35
            clear c35
            by_cases c36 : t238 < (x235001_2.length : Int)
            ·rw [if_pos c36] at H
             have c36b0 : decide (t238 < (x235001_2.length : Int)) = true := decide_eq_true c36
             clear c36
             obtain ⟨y239, hy239⟩ : ∃ y_ : List Int, y_ = (x235001_2.set (t238 : Int).toNat ((rd_T52 t226 x30_2).f0)) := ⟨_, rfl⟩
             replace H : (impl_ParseLin.l0 k2 a0 l1 t226 (t226.length : Int) (wrap64 (x30_2 + 1)) x235000_2 y239) = some (r1, r2, r3) := by first | (rw [hy239]; with_reducible exact H) | (have H2_ := (Option.bind_some _ _).symm.trans H; rw [hy239]; with_reducible exact H2_) | (have H2_ := (Option.bind_some _ _).symm.trans H; with_reducible exact H2_) | with_reducible exact H | (rw [hy239]; exact H) | exact H
             have Ny239 := Aside0.mk hy239
             clear hy239
             have H' := Aside0.mk H
             clear H
             have p236 : 0 ≤ (x30_2 : Int) := of_decide_eq_true (by first | (with_reducible assumption) | assumption)
             have q236 : x30_2 < (t226.length : Int) := of_decide_eq_true (by first | (with_reducible assumption) | assumption)
             obtain ⟨ad236, e236, hx236_0, hx236_1⟩ := at_T52 (Kd.R_reads' HO_28.out).2.2 x30_2 p236 q236
             cases e236
             replace p236 := eq_true p236
             replace q236 := eq_true q236
             go_wp2_with (first | ((with_reducible refine gate_dst (N := 10) rfl ?_); refine box_event ?hg (N := 10) ?hd (cs := #[.int .i64 0, .string (⟨#[]⟩ : ByteArray)]) (t := 52) ?hr ?_; (case hd => rfl); (case hg => rfl); (case hr => first | (go_simp; done) | (go_simp; rfl)); intro gb237 hg w38 hbox hb; replace HO_28 := Aside0.mk (Kd.R_below (Kd.R_elderB (mr HO_28) gb237 (Nat.le_of_eq hg.symm)) hb); replace HO_235001 := rb HO_235001 hb; have BK237 := Aside0.mk (hbox); have GW237 := gw hg HB; have GE237 := gw hg HB; replace HB := bs HB hb; have NB225_237 := nl hg BK225; have NB237_225 := ng hg BK225; replace BK225 := bb BK225 hb; have NB234_237 := nl hg BK234; have NB237_234 := ng hg BK234; replace BK234 := bb BK234 hb; clear hb hbox hg; have hnb39 := NB237_225.out; have hnc39 := NB225_237.out; have hnb40 := NB237_234.out; have hnc40 := NB234_237.out; obtain ⟨hcz41_0, hcz41_1⟩ := c2 BK237; have hfz41_0 := blk_frozen BK237.out 0; have hfz41_1 := blk_frozen BK237.out 1) | ((with_reducible refine gate_store (t := 52) (p := 10) rfl ?_); refine store_event (t := 52) (p := 10) (v := ?vo_w42) (w1 := ((w38.setCell ⟨gb237, 0, none⟩ (.int .i64 ((rd_T52 t226 x30_2).f0))).setCell ⟨gb237, 1, none⟩ (.string ((rd_T52 t226 x30_2).f1)))) ?hg ?ho ?hn ?hr ?_; (case ho => rfl); (case hg => rfl); (case hn => rfl); (case hr => first | (go_simp; done) | (go_simp; rfl)); intro w42 hw; have n0_ : Aside0 (Kd.R k52 52 w42 w.heap.size (fun k_ => k_ ≠ gb237) (.slice (some ad236) t226.length co16) t226) := ⟨(by rw [hw]; exact (by (with_reducible repeat (first | apply Kd.R_alloc | apply Kd.R_drewN | apply Kd.R_drew)); exact Kd.R_mono (Kd.R_far (p := ⟨gb237, 1, none⟩) (Kd.R_far (p := ⟨gb237, 0, none⟩) (Kd.R_mono HO_28.out (fun k_ hk => (⟨hk, hk.2⟩ : _ ∧ k_ ≠ gb237))) (fun _ hk => hk.2) (.int .i64 ((rd_T52 t226 x30_2).f0))) (fun _ hk => hk.2) (.string ((rd_T52 t226 x30_2).f1))) (fun _ hk => hk.1.2)))⟩; have n1_ : Aside0 (Kd.R (Kd.int .i64) 3 w42 w.heap.size (fun _ => True) u235001 x235001_2) := ⟨(by rw [hw]; exact (by (with_reducible repeat (first | apply Kd.R_alloc | apply Kd.R_drewN | apply Kd.R_drew)); exact Kd.R_mono (Kd.R_far (p := ⟨gb237, 1, none⟩) (Kd.R_far (p := ⟨gb237, 0, none⟩) (Kd.R_types HO_235001.out BK237.out (by decide)) (fun _ hk => hk.2) (.int .i64 ((rd_T52 t226 x30_2).f0))) (fun _ hk => hk.2) (.string ((rd_T52 t226 x30_2).f1))) (fun _ hk => trivial)))⟩; have n2_ : Aside0 (w42.heap[gb225]? = some (.cells #[.int .i64 x226000_2, .slice none 0 0] 26 (0, 0))) := ⟨(by rw [hw]; exact (mf BK225))⟩; have n3_ : Aside0 (w42.heap[gb234]? = some (.cells #[.int .i64 x235000_2, u235001] 26 (0, 0))) := ⟨(by rw [hw]; exact (mf BK234))⟩; have n4_ : Aside0 (w42.heap[gb237]? = some (.cells #[.int .i64 ((rd_T52 t226 x30_2).f0), .string ((rd_T52 t226 x30_2).f1)] 52 (0, 0))) := ⟨(by rw [hw]; exact (by (with_reducible repeat (first | refine blk_drewN ?_ _ | refine blk_drew ?_ | refine blk_alloc ?_ _)); refine blk_put (cs := #[.int .i64 ((rd_T52 t226 x30_2).f0), .string (⟨#[]⟩ : ByteArray)]) ?_ 1 _ rfl; (with_reducible repeat (first | refine blk_drewN ?_ _ | refine blk_drew ?_ | refine blk_alloc ?_ _)); refine blk_put (cs := #[.int .i64 0, .string (⟨#[]⟩ : ByteArray)]) ?_ 0 _ rfl; (with_reducible repeat (first | refine blk_drewN ?_ _ | refine blk_drew ?_ | refine blk_alloc ?_ _)); exact BK237.out))⟩; have n5_ : Aside0 (Below w.heap.size w w42) := ⟨(by rw [hw]; exact (ms HB))⟩; clear hw HO_28 HO_235001 BK225 BK234 BK237 HB; have HO_28 := n0_; have HO_235001 := n1_; have BK225 := n2_; have BK234 := n3_; have BK237 := n4_; have HB := n5_; clear n0_ n1_ n2_ n3_ n4_ n5_; obtain ⟨hcz43_0, hcz43_1⟩ := c2 BK237; have hfz43_0 := blk_frozen BK237.out 0; have hfz43_1 := blk_frozen BK237.out 1) | ((with_reducible refine gate_callee (f := 32) rfl ?_); refine gl (some 43) rfl rfl Tryz.func32 (by kernel_rfl) rfl #[.slice A1 l1.length c1, .string ((rd_T52 t226 x30_2).f1)] rfl ?_; (with_reducible refine (impl_IndexOf.calls k2 _ _ l1 ((rd_T52 t226 x30_2).f1) t238 _ ?side1 ?side2 A27.out).mono ?_); (case side1 => exact mc ((Kd.C_below HR1.out HB.out))); (case side2 => exact HC1.out); rintro e w' ⟨rfl, ⟨nd, rfl⟩⟩; refine ⟨_, rfl, ?_⟩; (try (rw [drewN_self w42]; generalize hq_ : World.drewN w42 _ = w42; have n0_ : Aside0 (Kd.R (Kd.int .i64) 3 w42 w.heap.size (fun _ => True) u235001 x235001_2) := ⟨by rw [← hq_]; exact (mr HO_235001)⟩; have n1_ : Aside0 (Kd.R k52 52 w42 w.heap.size (fun k_ => k_ ≠ gb237) (.slice (some ad236) t226.length co16) t226) := ⟨by rw [← hq_]; exact (mr HO_28)⟩; have n2_ : Aside0 (w42.heap[gb225]? = some (.cells #[.int .i64 x226000_2, .slice none 0 0] 26 (0, 0))) := ⟨by rw [← hq_]; exact (mb BK225)⟩; have n3_ : Aside0 (w42.heap[gb234]? = some (.cells #[.int .i64 x235000_2, u235001] 26 (0, 0))) := ⟨by rw [← hq_]; exact (mb BK234)⟩; have n4_ : Aside0 (w42.heap[gb237]? = some (.cells #[.int .i64 ((rd_T52 t226 x30_2).f0), .string ((rd_T52 t226 x30_2).f1)] 52 (0, 0))) := ⟨by rw [← hq_]; exact (mb BK237)⟩; have n5_ : Aside0 (Below w.heap.size w w42) := ⟨by rw [← hq_]; exact (ms HB)⟩; clear HO_235001 HO_28 BK225 BK234 BK237 HB hq_; have HO_235001 := n0_; have HO_28 := n1_; have BK225 := n2_; have BK234 := n3_; have BK237 := n4_; have HB := n5_; clear n0_ n1_ n2_ n3_ n4_ n5_)); (try have hcy44_0 : w42.cell? ⟨gb237, 0, none⟩ = some (.int .i64 ((rd_T52 t226 x30_2).f0)) := (blk_cell BK237.out 0).trans rfl); (try have hcy44_1 : w42.cell? ⟨gb237, 1, none⟩ = some (.string ((rd_T52 t226 x30_2).f1)) := (blk_cell BK237.out 1).trans rfl); (try have hfy44_0 := blk_frozen BK237.out 0); (try have hfy44_1 := blk_frozen BK237.out 1); have hnb45 := NB234_225.out; have hnc45 := NB225_234.out; obtain ⟨hcz46_0, hcz46_1⟩ := c2 BK234; have hfz46_0 := blk_frozen BK234.out 0; have hfz46_1 := blk_frozen BK234.out 1; have p37 : 0 ≤ (t238 : Int) := of_decide_eq_true (by first | (with_reducible assumption) | assumption); have q37 : (t238 : Int) < ((x235001_2.length : Int) : Int) := of_decide_eq_true (by first | (with_reducible assumption) | assumption); obtain ⟨go37, co37, eo37, gb37, gl37, cl37, HG37⟩ := Kd.R_form HO_235001.out (by omega); (first | cases eo37 | (injection eo37 with ea_ en_ ec_; (first | subst ea_ | (injection ea_ with ea_; subst ea_)); subst ec_; clear en_)); have GB37 := Aside0.mk gb37; have GG37 := Aside0.mk HG37; clear gb37 gl37 HG37; obtain ⟨hx37_0, hf37_0⟩ := Kd.R_celln 0 HO_235001.out (t238 : Int) p37 q37; replace p37 := eq_true p37; replace q37 := eq_true q37; obtain ⟨hy47_, hz47_⟩ := Kd.R_celln 0 HO_235001.out (t238 : Int) (of_decide_eq_true (by first | (with_reducible assumption) | assumption)) (of_decide_eq_true (by first | (with_reducible assumption) | assumption)); have HP47 := Kd.R_putg HO_235001.out (t238 : Int) ((rd_T52 t226 x30_2).f0)) | ((with_reducible refine gate_store (t := 3) (p := 52) rfl ?_); refine store_event (t := 3) (p := 52) (v := ?vo_w48) (w1 := (w42.setCell ⟨go37, (t238 : Int).toNat, none⟩ (.int .i64 ((rd_T52 t226 x30_2).f0)))) ?hg ?ho ?hn ?hr ?_; (case ho => rfl); (case hg => rfl); (case hn => rfl); (case hr => first | (go_simp; done) | (go_simp; rfl)); intro w48 hw; have hg : w42.grownBy w48 (some go37) := (by rw [hw]; exact HP47.2); have hp_ : Kd.R (Kd.int .i64) 3 w48 w.heap.size (fun _ => True) (.slice (some ⟨go37, 0, none⟩) x235001_2.length co37) y239 := (by rw [hw, Ny239.out]; exact HP47.1); clear HP47; have n0_ := Aside0.mk (Kd.R_over' (v := (.slice (some ⟨go37, 0, none⟩) x235001_2.length co37)) (mr HO_28) (Kd.R_typed HO_235001.out) (by decide) hg); have n1_ := Aside0.mk (hp_); have n2_ := Aside0.mk (blk_grown (g := gb225) (o := .cells #[.int .i64 x226000_2, .slice none 0 0] 26 (0, 0)) (mb BK225) hg (Kd.R_ne HO_235001.out BK225.out (by decide))); have n3_ := Aside0.mk (blk_grown (g := gb234) (o := .cells #[.int .i64 x235000_2, .slice (some ⟨go37, 0, none⟩) x235001_2.length co37] 26 (0, 0)) (mb BK234) hg (Kd.R_ne HO_235001.out BK234.out (by decide))); have n4_ := Aside0.mk (blk_grown (g := gb237) (o := .cells #[.int .i64 ((rd_T52 t226 x30_2).f0), .string ((rd_T52 t226 x30_2).f1)] 52 (0, 0)) (mb BK237) hg (Kd.R_ne HO_235001.out BK237.out (by decide))); have n5_ := Aside0.mk ((by rw [hw]; exact below_set (HB.out) GB37.out : Below w.heap.size w w48)); clear HO_28 HO_235001 BK225 BK234 BK237 HB; have HO_28 := n0_; have HO_235001 := n1_; have BK225 := n2_; have BK234 := n3_; have BK237 := n4_; have HB := n5_; clear n0_ n1_ n2_ n3_ n4_ n5_; clear hg hw hp_))
             go_roundg k2
             case measure => have := HJ3.out; have := HK2.out; omega
             case rel => exact ⟨(wrap64 (x30_2 + 1)), (x226000_2), (x235000_2), (y239), (.slice (some ⟨go37, 0, none⟩) x235001_2.length co37), (by first | rfl | (simp; done) | (simp [*]; done)), H', ⟨by have := HJ3.out; have := HK2.out; omega⟩, ⟨by (with_reducible repeat (first | apply Kd.R_alloc | apply Kd.R_drewN | apply Kd.R_drew)); exact Kd.R_mono HO_28.out (fun _ hk => trivial)⟩, ⟨by (with_reducible repeat (first | apply Kd.R_alloc | apply Kd.R_drewN | apply Kd.R_drew)); exact HO_235001.out⟩, ⟨mb BK225⟩, ⟨mb BK234⟩, ⟨ms HB⟩⟩
            ·rw [if_neg c36] at H
             exact absurd H (by simp)
           ·rw [if_neg c35] at H
            exact absurd H (by simp)
        ·rw [if_neg c19] at H
         exact absurd H (by simp)
       ·rw [if_neg c18] at H
        exact absurd H (by simp)
      ·rw [if_neg c17] at H
       have c17b0 : decide (x30_2 < (t226.length : Int)) = false := decide_eq_false c17
       clear c17
       by_cases c49 : a0.toList = ([] : List UInt8)
       ·rw [if_pos c49] at H
        have c49b0 : (a0.toList == ([] : List UInt8)) = true := beq_iff_eq.mpr c49
        have c49b1 : (a0.toList != ([] : List UInt8)) = false := bne_eq_false_iff_eq.mpr c49
        clear c49
        simp only [Option.some.injEq, Prod.mk.injEq] at H
        obtain ⟨rfl, rfl, rfl⟩ := H
        have hnb50 := NB225_234.out
        have hnc50 := NB234_225.out
        obtain ⟨hcz51_0, hcz51_1⟩ := c2 BK225
        have hfz51_0 := blk_frozen BK225.out 0
        have hfz51_1 := blk_frozen BK225.out 1
        go_wp2
        refine bodyPost_ret (results_ct rfl _ _ gb225 26 #[.int .i64 0, .slice none 0 0] (0, 0) _ rfl (by (with_reducible repeat (first | refine blk_drewN ?_ _ | refine blk_drew ?_ | refine blk_alloc ?_ _)); refine blk_put (cs := #[.int .i64 0, .slice none 0 0]) ?_ 1 _ rfl; (with_reducible repeat (first | refine blk_drewN ?_ _ | refine blk_drew ?_ | refine blk_alloc ?_ _)); refine blk_put (cs := #[.int .i64 x226000_2, .slice none 0 0]) ?_ 0 _ rfl; (with_reducible repeat (first | refine blk_drewN ?_ _ | refine blk_drew ?_ | refine blk_alloc ?_ _)); exact BK225.out) Tryz.underlying26 rfl (by kernel_rfl)) rfl ?_
        exact ⟨_, by first | rfl | (simp [errW_none, errW_some] <;> rfl) | (simp [*, errW_none, errW_some] <;> rfl), by first | exact Kd.R_nil _ _ _ _ _ | exact Kd.N_nil _ _ _ _ _ | exact Kd.V_nil _ _ _ _ _ | exact Kd.Q_nil _ _ _ _ _ | exact Kd.S_nil _ _ _ _ _, ms HB⟩
       ·rw [if_neg c49] at H
        have c49b0 : (a0.toList == ([] : List UInt8)) = false := beq_eq_false_iff_ne.mpr c49
        have c49b1 : (a0.toList != ([] : List UInt8)) = true := bne_iff_ne.mpr c49
        replace H := Option.bind_eq_some_iff.mp H
        obtain ⟨t235, A520, H⟩ := H
        replace H : (if t235.toList = a0.toList then (some (x235000_2, x235001_2, true)) else (some (0, ([] : List Int), false))) = some (r1, r2, r3) := H
        have A52 := Aside0.mk A520
        clear A520
        by_cases c53 : t235.toList = a0.toList
        ·rw [if_pos c53] at H
         have c53b0 : (t235.toList == a0.toList) = true := beq_iff_eq.mpr c53
         have c53b1 : (t235.toList != a0.toList) = false := bne_eq_false_iff_eq.mpr c53
         clear c53
         simp only [Option.some.injEq, Prod.mk.injEq] at H
         obtain ⟨rfl, rfl, rfl⟩ := H
         have hnb54 := NB234_225.out
         have hnc54 := NB225_234.out
         obtain ⟨hcz55_0, hcz55_1⟩ := c2 BK234
         have hfz55_0 := blk_frozen BK234.out 0
         have hfz55_1 := blk_frozen BK234.out 1
         obtain ⟨Ao56, co56, eo56⟩ := Kd.R_slice HO_235001.out
         subst eo56
         go_wp2_with (first | (go_at_call 19; (with_reducible refine (impl_FormatLin.calls k2 x235000_2 _ _ x235001_2 _ _ l1 t235 _ ?side1 ?side2 ?side3 ?side4 A52.out).mono ?_); (case side1 => exact mc ((Kd.R_reads' HO_235001.out).2.2)); (case side2 => exact (Kd.R_reads' HO_235001.out).2.1); (case side3 => exact mc ((Kd.C_below HR1.out HB.out))); (case side4 => exact HC1.out); rintro e w57 ⟨rfl, hb⟩; replace HO_28 := rb HO_28 hb; replace HO_235001 := rb HO_235001 hb; replace BK225 := bb BK225 hb; replace BK234 := bb BK234 hb; replace HB := bs HB hb; (try clear hb); obtain ⟨hcz58_0, hcz58_1⟩ := c2 BK234; have hfz58_0 := blk_frozen BK234.out 0; have hfz58_1 := blk_frozen BK234.out 1; obtain ⟨hcz59_0, hcz59_1⟩ := c2 BK225; have hfz59_0 := blk_frozen BK225.out 0; have hfz59_1 := blk_frozen BK225.out 1))
         refine bodyPost_ret (results_ct rfl _ _ gb225 26 #[.int .i64 x235000_2, .slice Ao56 x235001_2.length co56] (0, 0) _ rfl (by (with_reducible repeat (first | refine blk_drewN ?_ _ | refine blk_drew ?_ | refine blk_alloc ?_ _)); refine blk_put (cs := #[.int .i64 x235000_2, .slice none 0 0]) ?_ 1 _ rfl; (with_reducible repeat (first | refine blk_drewN ?_ _ | refine blk_drew ?_ | refine blk_alloc ?_ _)); refine blk_put (cs := #[.int .i64 x226000_2, .slice none 0 0]) ?_ 0 _ rfl; (with_reducible repeat (first | refine blk_drewN ?_ _ | refine blk_drew ?_ | refine blk_alloc ?_ _)); exact BK225.out) Tryz.underlying26 rfl (by kernel_rfl)) rfl ?_
         exact ⟨_, by first | rfl | (simp [errW_none, errW_some] <;> rfl) | (simp [*, errW_none, errW_some] <;> rfl), by (with_reducible repeat (first | apply Kd.R_alloc | apply Kd.R_drewN | apply Kd.R_drew)); exact Kd.R_mono (Kd.R_far (p := ⟨gb225, 1, none⟩) (Kd.R_far (p := ⟨gb225, 0, none⟩) (Kd.R_types HO_235001.out BK225.out (by decide)) (fun _ hk => hk.2) (.int .i64 x235000_2)) (fun _ hk => hk.2) (.slice Ao56 x235001_2.length co56)) (fun _ hk => trivial), ms HB⟩
        ·rw [if_neg c53] at H
         have c53b0 : (t235.toList == a0.toList) = false := beq_eq_false_iff_ne.mpr c53
         have c53b1 : (t235.toList != a0.toList) = true := bne_iff_ne.mpr c53
         simp only [Option.some.injEq, Prod.mk.injEq] at H
         obtain ⟨rfl, rfl, rfl⟩ := H
         have hnb60 := NB234_225.out
         have hnc60 := NB225_234.out
         obtain ⟨hcz61_0, hcz61_1⟩ := c2 BK234
         have hfz61_0 := blk_frozen BK234.out 0
         have hfz61_1 := blk_frozen BK234.out 1
         obtain ⟨Ao62, co62, eo62⟩ := Kd.R_slice HO_235001.out
         subst eo62
         go_wp2_with (first | (go_at_call 19; (with_reducible refine (impl_FormatLin.calls k2 x235000_2 _ _ x235001_2 _ _ l1 t235 _ ?side1 ?side2 ?side3 ?side4 A52.out).mono ?_); (case side1 => exact mc ((Kd.R_reads' HO_235001.out).2.2)); (case side2 => exact (Kd.R_reads' HO_235001.out).2.1); (case side3 => exact mc ((Kd.C_below HR1.out HB.out))); (case side4 => exact HC1.out); rintro e w63 ⟨rfl, hb⟩; replace HO_28 := rb HO_28 hb; replace HO_235001 := rb HO_235001 hb; replace BK225 := bb BK225 hb; replace BK234 := bb BK234 hb; replace HB := bs HB hb; (try clear hb); obtain ⟨hcz64_0, hcz64_1⟩ := c2 BK225; have hfz64_0 := blk_frozen BK225.out 0; have hfz64_1 := blk_frozen BK225.out 1))
         refine bodyPost_ret (results_ct rfl _ _ gb225 26 #[.int .i64 0, .slice none 0 0] (0, 0) _ rfl (by (with_reducible repeat (first | refine blk_drewN ?_ _ | refine blk_drew ?_ | refine blk_alloc ?_ _)); refine blk_put (cs := #[.int .i64 0, .slice none 0 0]) ?_ 1 _ rfl; (with_reducible repeat (first | refine blk_drewN ?_ _ | refine blk_drew ?_ | refine blk_alloc ?_ _)); refine blk_put (cs := #[.int .i64 x226000_2, .slice none 0 0]) ?_ 0 _ rfl; (with_reducible repeat (first | refine blk_drewN ?_ _ | refine blk_drew ?_ | refine blk_alloc ?_ _)); exact BK225.out) Tryz.underlying26 rfl (by kernel_rfl)) rfl ?_
         exact ⟨_, by first | rfl | (simp [errW_none, errW_some] <;> rfl) | (simp [*, errW_none, errW_some] <;> rfl), by first | exact Kd.R_nil _ _ _ _ _ | exact Kd.N_nil _ _ _ _ _ | exact Kd.V_nil _ _ _ _ _ | exact Kd.Q_nil _ _ _ _ _ | exact Kd.S_nil _ _ _ _ _, ms HB⟩

/-! ### laws_eqIntS: function 33 -/
def laws_eqIntS.l0 : Nat → List Int → List Int → Int → Option (Bool)
 | 0, _, _, _ => none
 | k + 1, x0, x1, x5 => if x5 < (x0.length : Int) then (if 0 ≤ x5 then (if x5 < (x1.length : Int) then (if (rd x0 x5) = (rd x1 x5) then (laws_eqIntS.l0 k x0 x1 (wrap64 (x5 + 1))) else (some false)) else (none)) else (none)) else (some true)
def laws_eqIntS.f (k : Nat) (l0 : List Int) (l1 : List Int) : Option (Bool) := if (l0.length : Int) = (l1.length : Int) then (laws_eqIntS.l0 k l0 l1 0) else (some false)
theorem laws_eqIntS.mono_l : ∀ k, (∀ y0 y1 y2, LeO (laws_eqIntS.l0 k y0 y1 y2) (laws_eqIntS.l0 (k + 1) y0 y1 y2))
 | 0 => fun _ _ _ r h => by simp [laws_eqIntS.l0] at h
 | k + 1 => by
  have ih0 := laws_eqIntS.mono_l k
  ·intro y0 y1 y2
   unfold laws_eqIntS.l0
   repeat' first
   | (with_reducible exact ih0 _ _ _)
   | (with_reducible exact LeO.refl _)
   | (with_reducible exact LeO.none _)
   | (with_reducible refine LeO.ite ?_ ?_)
   | (with_reducible refine LeO.bind ?_ (fun _ => ?_))
   | exact ih0 _ _ _
   | exact LeO.none _
   | refine LeO.ite ?_ ?_
   | refine LeO.bind ?_ (fun _ => ?_)
theorem laws_eqIntS.mono : ∀ a0 a1 k, LeO (laws_eqIntS.f k a0 a1) (laws_eqIntS.f (k + 1) a0 a1) := by
 intro a0 a1 k
 have ih0 := laws_eqIntS.mono_l k
 unfold laws_eqIntS.f
 repeat' first
   | (with_reducible exact ih0 _ _ _)
   | (with_reducible exact LeO.refl _)
   | (with_reducible exact LeO.none _)
   | (with_reducible refine LeO.ite ?_ ?_)
   | (with_reducible refine LeO.bind ?_ (fun _ => ?_))
   | exact ih0 _ _ _
   | exact LeO.none _
   | refine LeO.ite ?_ ?_
   | refine LeO.bind ?_ (fun _ => ?_)
set_option maxHeartbeats 8000000 in
set_option maxRecDepth 100000 in
theorem laws_eqIntS.calls (k : Nat) (A0 : Option Addr) (c0 : Nat) (l0 : List Int) (A1 : Option Addr) (c1 : Nat) (l1 : List Int) (r : Bool) (w : World) (hr0 : Kd.C (Kd.int .i64) w A0 l0.length l0) (hc0 : l0.length ≤ c0) (hr1 : Kd.C (Kd.int .i64) w A1 l1.length l1) (hc1 : l1.length ≤ c1) (h : laws_eqIntS.f k l0 l1 = some r) :
  Calls Tryz.prog 33 #[.slice A0 l0.length c0, .slice A1 l1.length c1] w fun e w' => e = .returned (.bool r) ∧ Drawn0 w w' := by
 have HR0 := Aside0.mk hr0
 have HC0 := Aside0.mk hc0
 clear hr0 hc0
 have HR1 := Aside0.mk hr1
 have HC1 := Aside0.mk hc1
 clear hr1 hc1
 have H : (if (l0.length : Int) = (l1.length : Int) then (laws_eqIntS.l0 k l0 l1 0) else (some false)) = some r := h
 clear h
 by_cases c3 : (l0.length : Int) = (l1.length : Int)
 ·rw [if_pos c3] at H
  have c3b0 : ((l0.length : Int) == (l1.length : Int)) = true := beq_iff_eq.mpr c3
  have c3b1 : ((l0.length : Int) != (l1.length : Int)) = false := bne_eq_false_iff_eq.mpr c3
  have c3b2 : (l0.length == l1.length) = true := by first | simpa using c3 | (simp at c3 ⊢; omega)
  clear c3
  have H' := Aside0.mk H
  clear H
  go_enter Tryz.func33, Tryz.ntmps33
  go_wp2
  repeat (go_quiet (fail); try go_wp2)
  go_loopg [5] k (fun kq v5 w' => ∃ (x5_1 : Int), v5 = .int .i64 x5_1 ∧ Aside0 (laws_eqIntS.l0 kq l0 l1 x5_1 = some r) ∧ Aside0 (kq ≤ k) ∧ Drawn0 w w')
  case atStart => exact ⟨(0), (by first | rfl | (simp; done) | (simp [*]; done)), H', ⟨Nat.le_refl _⟩, by repeat (first | exact Drawn0.refl _ | apply Drawn0.step)⟩
  case round =>
   clear H'
   try clear c1
   try clear p2
   try clear c3
   try clear c3b0
   try clear c3b1
   try clear c3b2
   obtain ⟨x5_1, rfl, HA, HK1, ⟨m1, rfl⟩⟩ := hrel
   cases gk with
   | zero => exact absurd HA.out (by simp [laws_eqIntS.l0])
   | succ k1 =>
    have H := HA.out
    clear HA
    simp only [laws_eqIntS.l0] at H
    by_cases c4 : x5_1 < (l0.length : Int)
    ·rw [if_pos c4] at H
     have c4b0 : decide (x5_1 < (l0.length : Int)) = true := decide_eq_true c4
     clear c4
     by_cases c5 : 0 ≤ x5_1
     ·rw [if_pos c5] at H
      have c5b0 : decide (0 ≤ x5_1) = true := decide_eq_true c5
      clear c5
      by_cases c6 : x5_1 < (l1.length : Int)
      ·rw [if_pos c6] at H
       have c6b0 : decide (x5_1 < (l1.length : Int)) = true := decide_eq_true c6
       clear c6
       by_cases c7 : (rd l0 x5_1) = (rd l1 x5_1)
       ·rw [if_pos c7] at H
        have c7b0 : ((rd l0 x5_1) == (rd l1 x5_1)) = true := beq_iff_eq.mpr c7
        have c7b1 : ((rd l0 x5_1) != (rd l1 x5_1)) = false := bne_eq_false_iff_eq.mpr c7
        clear c7
        have H' := Aside0.mk H
        clear H
        have p240 : 0 ≤ (x5_1 : Int) := of_decide_eq_true (by first | (with_reducible assumption) | assumption)
        have q240 : x5_1 < (l0.length : Int) := of_decide_eq_true (by first | (with_reducible assumption) | assumption)
        obtain ⟨ad240, e240, hx240_0⟩ := Kd.at_int HR0.out x5_1 p240 q240
        cases e240
        replace p240 := eq_true p240
        replace q240 := eq_true q240
        have p241 : 0 ≤ (x5_1 : Int) := of_decide_eq_true (by first | (with_reducible assumption) | assumption)
        have q241 : x5_1 < (l1.length : Int) := of_decide_eq_true (by first | (with_reducible assumption) | assumption)
        obtain ⟨ad241, e241, hx241_0⟩ := Kd.at_int HR1.out x5_1 p241 q241
        cases e241
        replace p241 := eq_true p241
        replace q241 := eq_true q241
        go_wp2
        repeat (go_quiet (fail); try go_wp2)
        go_roundg k1
        case measure => have := HK1.out; omega
        case rel => exact ⟨(wrap64 (x5_1 + 1)), (by first | rfl | (simp; done) | (simp [*]; done)), H', ⟨by have := HK1.out; omega⟩, by repeat (first | exact Drawn0.refl _ | apply Drawn0.step)⟩
       ·rw [if_neg c7] at H
        have c7b0 : ((rd l0 x5_1) == (rd l1 x5_1)) = false := beq_eq_false_iff_ne.mpr c7
        have c7b1 : ((rd l0 x5_1) != (rd l1 x5_1)) = true := bne_iff_ne.mpr c7
        obtain rfl := Option.some.inj H
        have p240 : 0 ≤ (x5_1 : Int) := of_decide_eq_true (by first | (with_reducible assumption) | assumption)
        have q240 : x5_1 < (l0.length : Int) := of_decide_eq_true (by first | (with_reducible assumption) | assumption)
        obtain ⟨ad240, e240, hx240_0⟩ := Kd.at_int HR0.out x5_1 p240 q240
        cases e240
        replace p240 := eq_true p240
        replace q240 := eq_true q240
        have p241 : 0 ≤ (x5_1 : Int) := of_decide_eq_true (by first | (with_reducible assumption) | assumption)
        have q241 : x5_1 < (l1.length : Int) := of_decide_eq_true (by first | (with_reducible assumption) | assumption)
        obtain ⟨ad241, e241, hx241_0⟩ := Kd.at_int HR1.out x5_1 p241 q241
        cases e241
        replace p241 := eq_true p241
        replace q241 := eq_true q241
        go_wp2
        repeat (go_quiet (fail); try go_wp2)
        go_ret
        exact ⟨by first | rfl | (simp; done) | (simp [*]; done), by repeat (first | exact Drawn0.refl _ | apply Drawn0.step)⟩
      ·rw [if_neg c6] at H
       exact absurd H (by simp)
     ·rw [if_neg c5] at H
      exact absurd H (by simp)
    ·rw [if_neg c4] at H
     have c4b0 : decide (x5_1 < (l0.length : Int)) = false := decide_eq_false c4
     clear c4
     obtain rfl := Option.some.inj H
     go_wp2
     repeat (go_quiet (fail); try go_wp2)
     go_ret
     exact ⟨by first | rfl | (simp; done) | (simp [*]; done), by repeat (first | exact Drawn0.refl _ | apply Drawn0.step)⟩
 ·rw [if_neg c3] at H
  have c3b0 : ((l0.length : Int) == (l1.length : Int)) = false := beq_eq_false_iff_ne.mpr c3
  have c3b1 : ((l0.length : Int) != (l1.length : Int)) = true := bne_iff_ne.mpr c3
  have c3b2 : (l0.length == l1.length) = false := by first | simpa using c3 | (simp at c3 ⊢; omega)
  obtain rfl := Option.some.inj H
  go_enter Tryz.func33, Tryz.ntmps33
  go_wp2
  repeat (go_quiet (fail); try go_wp2)
  go_ret
  exact ⟨by first | rfl | (simp; done) | (simp [*]; done), by repeat (first | exact Drawn0.refl _ | apply Drawn0.step)⟩

/-! ### laws_eqLin: function 10 -/
def laws_eqLin.f (k : Nat) (a0_0 : Int) (l0_1 : List Int) (a1_0 : Int) (l1_1 : List Int) : Option (Bool) := if a0_0 = a1_0 then ((laws_eqIntS.f k l0_1 l1_1).bind fun t244 => (if t244 = true then (some true) else (some false))) else (some false)
theorem laws_eqLin.mono : ∀ a0 a1 a2 a3 k, LeO (laws_eqLin.f k a0 a1 a2 a3) (laws_eqLin.f (k + 1) a0 a1 a2 a3) := by
 intro a0 a1 a2 a3 k
 unfold laws_eqLin.f
 repeat' first
   | (with_reducible exact laws_eqIntS.mono _ _ _)
   | (with_reducible exact LeO.refl _)
   | (with_reducible exact LeO.none _)
   | (with_reducible refine LeO.ite ?_ ?_)
   | (with_reducible refine LeO.bind ?_ (fun _ => ?_))
   | exact laws_eqIntS.mono _ _ _
   | exact LeO.none _
   | refine LeO.ite ?_ ?_
   | refine LeO.bind ?_ (fun _ => ?_)
set_option maxHeartbeats 8000000 in
set_option maxRecDepth 100000 in
theorem laws_eqLin.calls (k : Nat) (a0_0 : Int) (A0_1 : Option Addr) (c0_1 : Nat) (l0_1 : List Int) (a1_0 : Int) (A1_1 : Option Addr) (c1_1 : Nat) (l1_1 : List Int) (r : Bool) (w : World) (hr0_1 : Kd.C (Kd.int .i64) w A0_1 l0_1.length l0_1) (hc0_1 : l0_1.length ≤ c0_1) (hr1_1 : Kd.C (Kd.int .i64) w A1_1 l1_1.length l1_1) (hc1_1 : l1_1.length ≤ c1_1) (h : laws_eqLin.f k a0_0 l0_1 a1_0 l1_1 = some r) :
  Calls Tryz.prog 10 #[.agg #[.int .i64 a0_0, .slice A0_1 l0_1.length c0_1], .agg #[.int .i64 a1_0, .slice A1_1 l1_1.length c1_1]] w fun e w' => e = .returned (.bool r) ∧ Below w.heap.size w w' := by
 have hu26 := Tryz.underlying26
 have HR0_1 := Aside0.mk hr0_1
 have HC0_1 := Aside0.mk hc0_1
 clear hr0_1 hc0_1
 have HR1_1 := Aside0.mk hr1_1
 have HC1_1 := Aside0.mk hc1_1
 clear hr1_1 hc1_1
 have HB := Aside0.mk (Below.refl w.heap.size w)
 have H : (if a0_0 = a1_0 then ((laws_eqIntS.f k l0_1 l1_1).bind fun t244 => (if t244 = true then (some true) else (some false))) else (some false)) = some r := h
 clear h
 by_cases c3 : a0_0 = a1_0
 ·rw [if_pos c3] at H
  have c3b0 : (a0_0 == a1_0) = true := beq_iff_eq.mpr c3
  have c3b1 : (a0_0 != a1_0) = false := bne_eq_false_iff_eq.mpr c3
  clear c3
  replace H := Option.bind_eq_some_iff.mp H
  obtain ⟨t244, A40, H⟩ := H
  replace H : (if t244 = true then (some true) else (some false)) = some r := H
  have A4 := Aside0.mk A40
  clear A40
  by_cases c5 : t244 = true
  ·subst c5
   have H1 : (some true) = some r := by rw [if_pos rfl] at H; exact H
   clear H
   have H := H1
   clear H1
   obtain rfl := Option.some.inj H
   go_enter Tryz.func10, Tryz.ntmps10
   go_wp2_with (first | ((with_reducible refine gate_dst (N := 2) rfl ?_); refine box_event ?hg (N := 2) ?hd (cs := #[.int .i64 a0_0, .slice A0_1 l0_1.length c0_1]) (t := 26) ?hr ?_; (case hd => rfl); (case hg => rfl); (case hr => first | (go_simp; done) | (go_simp; rfl)); intro gb242 hg w6 hbox hb; have BK242 := Aside0.mk (hbox); have GW242 := gw hg HB; have GE242 := gw hg HB; replace HB := bs HB hb; clear hb hbox hg) | ((with_reducible refine gate_dst (N := 3) rfl ?_); refine box_event ?hg (N := 3) ?hd (cs := #[.int .i64 a1_0, .slice A1_1 l1_1.length c1_1]) (t := 26) ?hr ?_; (case hd => rfl); (case hg => rfl); (case hr => first | (go_simp; done) | (go_simp; rfl)); intro gb243 hg w7 hbox hb; have BK243 := Aside0.mk (hbox); have GW243 := gw hg HB; have GE243 := gw hg HB; replace HB := bs HB hb; have NB242_243 := nl hg BK242; have NB243_242 := ng hg BK242; replace BK242 := bb BK242 hb; clear hb hbox hg; have hnb8 := NB242_243.out; have hnc8 := NB243_242.out; obtain ⟨hcz9_0, hcz9_1⟩ := c2 BK242; have hfz9_0 := blk_frozen BK242.out 0; have hfz9_1 := blk_frozen BK242.out 1; obtain ⟨hcz10_0, hcz10_1⟩ := c2 BK243; have hfz10_0 := blk_frozen BK243.out 0; have hfz10_1 := blk_frozen BK243.out 1) | ((with_reducible refine gate_callee (f := 33) rfl ?_); refine gl (some 14) rfl rfl Tryz.func33 (by kernel_rfl) rfl #[.slice A0_1 l0_1.length c0_1, .slice A1_1 l1_1.length c1_1] rfl ?_; (with_reducible refine (laws_eqIntS.calls k _ _ l0_1 _ _ l1_1 true _ ?side1 ?side2 ?side3 ?side4 A4.out).mono ?_); (case side1 => exact mc ((Kd.C_below HR0_1.out HB.out))); (case side2 => exact HC0_1.out); (case side3 => exact mc ((Kd.C_below HR1_1.out HB.out))); (case side4 => exact HC1_1.out); rintro e w' ⟨rfl, ⟨nd, rfl⟩⟩; refine ⟨_, rfl, ?_⟩))
   go_ret
   exact ⟨by first | rfl | (simp [errW_none, errW_some] <;> rfl) | (simp [*, errW_none, errW_some] <;> rfl), ms HB⟩
  ·replace c5 := Bool.eq_false_iff.mpr c5
   subst c5
   have H1 : (some false) = some r := by rw [if_neg (show ¬ (false = true) by decide)] at H; exact H
   clear H
   have H := H1
   clear H1
   obtain rfl := Option.some.inj H
   go_enter Tryz.func10, Tryz.ntmps10
   go_wp2_with (first | ((with_reducible refine gate_dst (N := 2) rfl ?_); refine box_event ?hg (N := 2) ?hd (cs := #[.int .i64 a0_0, .slice A0_1 l0_1.length c0_1]) (t := 26) ?hr ?_; (case hd => rfl); (case hg => rfl); (case hr => first | (go_simp; done) | (go_simp; rfl)); intro gb242 hg w11 hbox hb; have BK242 := Aside0.mk (hbox); have GW242 := gw hg HB; have GE242 := gw hg HB; replace HB := bs HB hb; clear hb hbox hg) | ((with_reducible refine gate_dst (N := 3) rfl ?_); refine box_event ?hg (N := 3) ?hd (cs := #[.int .i64 a1_0, .slice A1_1 l1_1.length c1_1]) (t := 26) ?hr ?_; (case hd => rfl); (case hg => rfl); (case hr => first | (go_simp; done) | (go_simp; rfl)); intro gb243 hg w12 hbox hb; have BK243 := Aside0.mk (hbox); have GW243 := gw hg HB; have GE243 := gw hg HB; replace HB := bs HB hb; have NB242_243 := nl hg BK242; have NB243_242 := ng hg BK242; replace BK242 := bb BK242 hb; clear hb hbox hg; have hnb13 := NB242_243.out; have hnc13 := NB243_242.out; obtain ⟨hcz14_0, hcz14_1⟩ := c2 BK242; have hfz14_0 := blk_frozen BK242.out 0; have hfz14_1 := blk_frozen BK242.out 1; obtain ⟨hcz15_0, hcz15_1⟩ := c2 BK243; have hfz15_0 := blk_frozen BK243.out 0; have hfz15_1 := blk_frozen BK243.out 1) | ((with_reducible refine gate_callee (f := 33) rfl ?_); refine gl (some 14) rfl rfl Tryz.func33 (by kernel_rfl) rfl #[.slice A0_1 l0_1.length c0_1, .slice A1_1 l1_1.length c1_1] rfl ?_; (with_reducible refine (laws_eqIntS.calls k _ _ l0_1 _ _ l1_1 false _ ?side1 ?side2 ?side3 ?side4 A4.out).mono ?_); (case side1 => exact mc ((Kd.C_below HR0_1.out HB.out))); (case side2 => exact HC0_1.out); (case side3 => exact mc ((Kd.C_below HR1_1.out HB.out))); (case side4 => exact HC1_1.out); rintro e w' ⟨rfl, ⟨nd, rfl⟩⟩; refine ⟨_, rfl, ?_⟩))
   go_ret
   exact ⟨by first | rfl | (simp [errW_none, errW_some] <;> rfl) | (simp [*, errW_none, errW_some] <;> rfl), ms HB⟩
 ·rw [if_neg c3] at H
  have c3b0 : (a0_0 == a1_0) = false := beq_eq_false_iff_ne.mpr c3
  have c3b1 : (a0_0 != a1_0) = true := bne_iff_ne.mpr c3
  obtain rfl := Option.some.inj H
  go_enter Tryz.func10, Tryz.ntmps10
  go_wp2_with (first | ((with_reducible refine gate_dst (N := 2) rfl ?_); refine box_event ?hg (N := 2) ?hd (cs := #[.int .i64 a0_0, .slice A0_1 l0_1.length c0_1]) (t := 26) ?hr ?_; (case hd => rfl); (case hg => rfl); (case hr => first | (go_simp; done) | (go_simp; rfl)); intro gb242 hg w16 hbox hb; have BK242 := Aside0.mk (hbox); have GW242 := gw hg HB; have GE242 := gw hg HB; replace HB := bs HB hb; clear hb hbox hg) | ((with_reducible refine gate_dst (N := 3) rfl ?_); refine box_event ?hg (N := 3) ?hd (cs := #[.int .i64 a1_0, .slice A1_1 l1_1.length c1_1]) (t := 26) ?hr ?_; (case hd => rfl); (case hg => rfl); (case hr => first | (go_simp; done) | (go_simp; rfl)); intro gb243 hg w17 hbox hb; have BK243 := Aside0.mk (hbox); have GW243 := gw hg HB; have GE243 := gw hg HB; replace HB := bs HB hb; have NB242_243 := nl hg BK242; have NB243_242 := ng hg BK242; replace BK242 := bb BK242 hb; clear hb hbox hg; have hnb18 := NB242_243.out; have hnc18 := NB243_242.out; obtain ⟨hcz19_0, hcz19_1⟩ := c2 BK242; have hfz19_0 := blk_frozen BK242.out 0; have hfz19_1 := blk_frozen BK242.out 1; obtain ⟨hcz20_0, hcz20_1⟩ := c2 BK243; have hfz20_0 := blk_frozen BK243.out 0; have hfz20_1 := blk_frozen BK243.out 1))
  go_ret
  exact ⟨by first | rfl | (simp [errW_none, errW_some] <;> rfl) | (simp [*, errW_none, errW_some] <;> rfl), ms HB⟩

/-! ### laws_eqStringS: function 11 -/
def laws_eqStringS.l0 : Nat → List ByteArray → List ByteArray → Int → Option (Bool)
 | 0, _, _, _ => none
 | k + 1, x0, x1, x5 => if x5 < (x0.length : Int) then (if 0 ≤ x5 then (if x5 < (x1.length : Int) then (if (rdOf ByteArray.empty x0 x5).toList = (rdOf ByteArray.empty x1 x5).toList then (laws_eqStringS.l0 k x0 x1 (wrap64 (x5 + 1))) else (some false)) else (none)) else (none)) else (some true)
def laws_eqStringS.f (k : Nat) (l0 : List ByteArray) (l1 : List ByteArray) : Option (Bool) := if (l0.length : Int) = (l1.length : Int) then (laws_eqStringS.l0 k l0 l1 0) else (some false)
theorem laws_eqStringS.mono_l : ∀ k, (∀ y0 y1 y2, LeO (laws_eqStringS.l0 k y0 y1 y2) (laws_eqStringS.l0 (k + 1) y0 y1 y2))
 | 0 => fun _ _ _ r h => by simp [laws_eqStringS.l0] at h
 | k + 1 => by
  have ih0 := laws_eqStringS.mono_l k
  ·intro y0 y1 y2
   unfold laws_eqStringS.l0
   repeat' first
   | (with_reducible exact ih0 _ _ _)
   | (with_reducible exact LeO.refl _)
   | (with_reducible exact LeO.none _)
   | (with_reducible refine LeO.ite ?_ ?_)
   | (with_reducible refine LeO.bind ?_ (fun _ => ?_))
   | exact ih0 _ _ _
   | exact LeO.none _
   | refine LeO.ite ?_ ?_
   | refine LeO.bind ?_ (fun _ => ?_)
theorem laws_eqStringS.mono : ∀ a0 a1 k, LeO (laws_eqStringS.f k a0 a1) (laws_eqStringS.f (k + 1) a0 a1) := by
 intro a0 a1 k
 have ih0 := laws_eqStringS.mono_l k
 unfold laws_eqStringS.f
 repeat' first
   | (with_reducible exact ih0 _ _ _)
   | (with_reducible exact LeO.refl _)
   | (with_reducible exact LeO.none _)
   | (with_reducible refine LeO.ite ?_ ?_)
   | (with_reducible refine LeO.bind ?_ (fun _ => ?_))
   | exact ih0 _ _ _
   | exact LeO.none _
   | refine LeO.ite ?_ ?_
   | refine LeO.bind ?_ (fun _ => ?_)
set_option maxHeartbeats 8000000 in
set_option maxRecDepth 100000 in
theorem laws_eqStringS.calls (k : Nat) (A0 : Option Addr) (c0 : Nat) (l0 : List ByteArray) (A1 : Option Addr) (c1 : Nat) (l1 : List ByteArray) (r : Bool) (w : World) (hr0 : Kd.C Kd.string w A0 l0.length l0) (hc0 : l0.length ≤ c0) (hr1 : Kd.C Kd.string w A1 l1.length l1) (hc1 : l1.length ≤ c1) (h : laws_eqStringS.f k l0 l1 = some r) :
  Calls Tryz.prog 11 #[.slice A0 l0.length c0, .slice A1 l1.length c1] w fun e w' => e = .returned (.bool r) ∧ Drawn0 w w' := by
 have HR0 := Aside0.mk hr0
 have HC0 := Aside0.mk hc0
 clear hr0 hc0
 have HR1 := Aside0.mk hr1
 have HC1 := Aside0.mk hc1
 clear hr1 hc1
 have H : (if (l0.length : Int) = (l1.length : Int) then (laws_eqStringS.l0 k l0 l1 0) else (some false)) = some r := h
 clear h
 by_cases c3 : (l0.length : Int) = (l1.length : Int)
 ·rw [if_pos c3] at H
  have c3b0 : ((l0.length : Int) == (l1.length : Int)) = true := beq_iff_eq.mpr c3
  have c3b1 : ((l0.length : Int) != (l1.length : Int)) = false := bne_eq_false_iff_eq.mpr c3
  have c3b2 : (l0.length == l1.length) = true := by first | simpa using c3 | (simp at c3 ⊢; omega)
  clear c3
  have H' := Aside0.mk H
  clear H
  go_enter Tryz.func11, Tryz.ntmps11
  go_wp2
  repeat (go_quiet (fail); try go_wp2)
  go_loopg [5] k (fun kq v5 w' => ∃ (x5_1 : Int), v5 = .int .i64 x5_1 ∧ Aside0 (laws_eqStringS.l0 kq l0 l1 x5_1 = some r) ∧ Aside0 (kq ≤ k) ∧ Drawn0 w w')
  case atStart => exact ⟨(0), (by first | rfl | (simp; done) | (simp [*]; done)), H', ⟨Nat.le_refl _⟩, by repeat (first | exact Drawn0.refl _ | apply Drawn0.step)⟩
  case round =>
   clear H'
   try clear c1
   try clear p2
   try clear c3
   try clear c3b0
   try clear c3b1
   try clear c3b2
   obtain ⟨x5_1, rfl, HA, HK1, ⟨m1, rfl⟩⟩ := hrel
   cases gk with
   | zero => exact absurd HA.out (by simp [laws_eqStringS.l0])
   | succ k1 =>
    have H := HA.out
    clear HA
    simp only [laws_eqStringS.l0] at H
    by_cases c4 : x5_1 < (l0.length : Int)
    ·rw [if_pos c4] at H
     have c4b0 : decide (x5_1 < (l0.length : Int)) = true := decide_eq_true c4
     clear c4
     by_cases c5 : 0 ≤ x5_1
     ·rw [if_pos c5] at H
      have c5b0 : decide (0 ≤ x5_1) = true := decide_eq_true c5
      clear c5
      by_cases c6 : x5_1 < (l1.length : Int)
      ·rw [if_pos c6] at H
       have c6b0 : decide (x5_1 < (l1.length : Int)) = true := decide_eq_true c6
       clear c6
       by_cases c7 : (rdOf ByteArray.empty l0 x5_1).toList = (rdOf ByteArray.empty l1 x5_1).toList
       ·rw [if_pos c7] at H
        have c7b0 : ((rdOf ByteArray.empty l0 x5_1).toList == (rdOf ByteArray.empty l1 x5_1).toList) = true := beq_iff_eq.mpr c7
        have c7b1 : ((rdOf ByteArray.empty l0 x5_1).toList != (rdOf ByteArray.empty l1 x5_1).toList) = false := bne_eq_false_iff_eq.mpr c7
        clear c7
        have H' := Aside0.mk H
        clear H
        have p245 : 0 ≤ (x5_1 : Int) := of_decide_eq_true (by first | (with_reducible assumption) | assumption)
        have q245 : x5_1 < (l0.length : Int) := of_decide_eq_true (by first | (with_reducible assumption) | assumption)
        obtain ⟨ad245, e245, hx245_0⟩ := Kd.at_string HR0.out x5_1 p245 q245
        cases e245
        replace p245 := eq_true p245
        replace q245 := eq_true q245
        have p246 : 0 ≤ (x5_1 : Int) := of_decide_eq_true (by first | (with_reducible assumption) | assumption)
        have q246 : x5_1 < (l1.length : Int) := of_decide_eq_true (by first | (with_reducible assumption) | assumption)
        obtain ⟨ad246, e246, hx246_0⟩ := Kd.at_string HR1.out x5_1 p246 q246
        cases e246
        replace p246 := eq_true p246
        replace q246 := eq_true q246
        go_wp2
        repeat (go_quiet (fail); try go_wp2)
        go_roundg k1
        case measure => have := HK1.out; omega
        case rel => exact ⟨(wrap64 (x5_1 + 1)), (by first | rfl | (simp; done) | (simp [*]; done)), H', ⟨by have := HK1.out; omega⟩, by repeat (first | exact Drawn0.refl _ | apply Drawn0.step)⟩
       ·rw [if_neg c7] at H
        have c7b0 : ((rdOf ByteArray.empty l0 x5_1).toList == (rdOf ByteArray.empty l1 x5_1).toList) = false := beq_eq_false_iff_ne.mpr c7
        have c7b1 : ((rdOf ByteArray.empty l0 x5_1).toList != (rdOf ByteArray.empty l1 x5_1).toList) = true := bne_iff_ne.mpr c7
        obtain rfl := Option.some.inj H
        have p245 : 0 ≤ (x5_1 : Int) := of_decide_eq_true (by first | (with_reducible assumption) | assumption)
        have q245 : x5_1 < (l0.length : Int) := of_decide_eq_true (by first | (with_reducible assumption) | assumption)
        obtain ⟨ad245, e245, hx245_0⟩ := Kd.at_string HR0.out x5_1 p245 q245
        cases e245
        replace p245 := eq_true p245
        replace q245 := eq_true q245
        have p246 : 0 ≤ (x5_1 : Int) := of_decide_eq_true (by first | (with_reducible assumption) | assumption)
        have q246 : x5_1 < (l1.length : Int) := of_decide_eq_true (by first | (with_reducible assumption) | assumption)
        obtain ⟨ad246, e246, hx246_0⟩ := Kd.at_string HR1.out x5_1 p246 q246
        cases e246
        replace p246 := eq_true p246
        replace q246 := eq_true q246
        go_wp2
        repeat (go_quiet (fail); try go_wp2)
        go_ret
        exact ⟨by first | rfl | (simp; done) | (simp [*]; done), by repeat (first | exact Drawn0.refl _ | apply Drawn0.step)⟩
      ·rw [if_neg c6] at H
       exact absurd H (by simp)
     ·rw [if_neg c5] at H
      exact absurd H (by simp)
    ·rw [if_neg c4] at H
     have c4b0 : decide (x5_1 < (l0.length : Int)) = false := decide_eq_false c4
     clear c4
     obtain rfl := Option.some.inj H
     go_wp2
     repeat (go_quiet (fail); try go_wp2)
     go_ret
     exact ⟨by first | rfl | (simp; done) | (simp [*]; done), by repeat (first | exact Drawn0.refl _ | apply Drawn0.step)⟩
 ·rw [if_neg c3] at H
  have c3b0 : ((l0.length : Int) == (l1.length : Int)) = false := beq_eq_false_iff_ne.mpr c3
  have c3b1 : ((l0.length : Int) != (l1.length : Int)) = true := bne_iff_ne.mpr c3
  have c3b2 : (l0.length == l1.length) = false := by first | simpa using c3 | (simp at c3 ⊢; omega)
  obtain rfl := Option.some.inj H
  go_enter Tryz.func11, Tryz.ntmps11
  go_wp2
  repeat (go_quiet (fail); try go_wp2)
  go_ret
  exact ⟨by first | rfl | (simp; done) | (simp [*]; done), by repeat (first | exact Drawn0.refl _ | apply Drawn0.step)⟩

end Go.Proofs.YtmdjhmggogfbdaaGreatDoor.QFnExactParseLin
