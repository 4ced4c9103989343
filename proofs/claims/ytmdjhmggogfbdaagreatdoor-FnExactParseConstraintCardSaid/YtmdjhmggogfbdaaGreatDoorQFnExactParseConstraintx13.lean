-- Made by a program of this claim's own (wip/print): not the kit's print as it stands.
import Derived.Test.YtmdjhmggogfbdaaGreatDoorUFnExactParseConstraintTri
import Derived.Test.YtmdjhmggogfbdaaGreatDoorQFnExactParseConstraintx0
import Derived.Test.YtmdjhmggogfbdaaGreatDoorQFnExactParseConstraintx9
import Derived.Test.YtmdjhmggogfbdaaGreatDoorQFnExactParseConstraintx10
import Derived.Test.YtmdjhmggogfbdaaGreatDoorQFnExactParseConstraintx12
namespace Go.Proofs.YtmdjhmggogfbdaaGreatDoor.QFnExactParseConstraint
open Go.RowKit Go.Proofs.YtmdjhmggogfbdaaGreatDoorV.PrintWords Go.Proofs.YtmdjhmggogfbdaaGreatDoorV.PrintLast Go.Proofs.YtmdjhmggogfbdaaGreatDoorV.PrintMore
attribute [local go_sem] max2_int min2_int max_two min_two max_three min_three max_four min_four   -- for this text's walks alone
set_option linter.unusedVariables false
set_option linter.unusedSimpArgs false

/-! ### impl_ConstLin: function 31 -/
def impl_ConstLin.f (a0 : Int) (a1 : Int) : Option (Int × List Int) := (impl_within.f a1 0 8).bind fun t244 => (if t244 = true then ((impl_coeffOk.f a0).bind fun t245 => (if t245 = true then (if 0 ≤ a1 then (if (a1 : Int).toNat ≤ 35184372088832 then (some (a0, (List.replicate (a1 : Int).toNat 0))) else (none)) else (none)) else (some (0, ([] : List Int))))) else (some (0, ([] : List Int))))
set_option maxHeartbeats 8000000 in
set_option maxRecDepth 100000 in
theorem impl_ConstLin.calls (a0 : Int) (a1 : Int) (r1 : Int) (r2 : List Int) (w : World) (h : impl_ConstLin.f a0 a1 = some (r1, r2)) :
  Calls Tryz.prog 31 #[.int .i64 a0, .int .i64 a1] w fun e w' => ∃ v1_ : Value, e = .returned (.agg #[.int .i64 r1, v1_]) ∧ Kd.R (Kd.int .i64) 3 w' w.heap.size (fun _ => True) v1_ r2 ∧ Below w.heap.size w w' := by
 have hu26 := Tryz.underlying26
 have HB := Aside0.mk (Below.refl w.heap.size w)
 have H : ((impl_within.f a1 0 8).bind fun t244 => (if t244 = true then ((impl_coeffOk.f a0).bind fun t245 => (if t245 = true then (if 0 ≤ a1 then (if (a1 : Int).toNat ≤ 35184372088832 then (some (a0, (List.replicate (a1 : Int).toNat 0))) else (none)) else (none)) else (some (0, ([] : List Int))))) else (some (0, ([] : List Int))))) = some (r1, r2) := h
 clear h
 replace H := Option.bind_eq_some_iff.mp H
 obtain ⟨t244, A30, H⟩ := H
 replace H : (if t244 = true then ((impl_coeffOk.f a0).bind fun t245 => (if t245 = true then (if 0 ≤ a1 then (if (a1 : Int).toNat ≤ 35184372088832 then (some (a0, (List.replicate (a1 : Int).toNat 0))) else (none)) else (none)) else (some (0, ([] : List Int))))) else (some (0, ([] : List Int)))) = some (r1, r2) := H
 have A3 := Aside0.mk A30
 clear A30
 by_cases c4 : t244 = true
 ·subst c4
  have H1 : ((impl_coeffOk.f a0).bind fun t245 => (if t245 = true then (if 0 ≤ a1 then (if (a1 : Int).toNat ≤ 35184372088832 then (some (a0, (List.replicate (a1 : Int).toNat 0))) else (none)) else (none)) else (some (0, ([] : List Int))))) = some (r1, r2) := by rw [if_pos rfl] at H; exact H
  clear H
  have H := H1
  clear H1
  replace H := Option.bind_eq_some_iff.mp H
  obtain ⟨t245, A50, H⟩ := H
  replace H : (if t245 = true then (if 0 ≤ a1 then (if (a1 : Int).toNat ≤ 35184372088832 then (some (a0, (List.replicate (a1 : Int).toNat 0))) else (none)) else (none)) else (some (0, ([] : List Int)))) = some (r1, r2) := H
  have A5 := Aside0.mk A50
  clear A50
  by_cases c6 : t245 = true
  ·subst c6
   have H1 : (if 0 ≤ a1 then (if (a1 : Int).toNat ≤ 35184372088832 then (some (a0, (List.replicate (a1 : Int).toNat 0))) else (none)) else (none)) = some (r1, r2) := by rw [if_pos rfl] at H; exact H
   clear H
   have H := H1
   clear H1
   by_cases c7 : 0 ≤ a1
   ·rw [if_pos c7] at H
    have c7b0 := eq_true c7
    have c7b1 : decide (0 ≤ a1) = true := decide_eq_true c7
    clear c7
    by_cases c8 : (a1 : Int).toNat ≤ 35184372088832
    ·rw [if_pos c8] at H
     have c8b0 := eq_true c8
     have c8b1 : decide ((a1 : Int).toNat ≤ 35184372088832) = true := decide_eq_true c8
     clear c8
     obtain ⟨y246, hy246⟩ : ∃ y_ : List Int, y_ = (List.replicate (a1 : Int).toNat 0) := ⟨_, rfl⟩
     replace H : (some (a0, y246)) = some (r1, r2) := by first | (rw [hy246]; with_reducible exact H) | (have H2_ := (Option.bind_some _ _).symm.trans H; rw [hy246]; with_reducible exact H2_) | (have H2_ := (Option.bind_some _ _).symm.trans H; with_reducible exact H2_) | with_reducible exact H | (rw [hy246]; exact H) | exact H
     have Ny246 := Aside0.mk hy246
     clear hy246
     simp only [Option.some.injEq, Prod.mk.injEq] at H
     obtain ⟨rfl, rfl⟩ := H
     go_enter Tryz.func31, Tryz.ntmps31
     go_wp2_with (first | ((with_reducible refine gate_dst (N := 4) rfl ?_); refine box_event ?hg (N := 4) ?hd (cs := #[.int .i64 0, .slice none 0 0]) (t := 26) ?hr ?_; (case hd => rfl); (case hg => rfl); (case hr => first | (go_simp; done) | (go_simp; rfl)); intro gb243 hg w9 hbox hb; have BK243 := Aside0.mk (hbox); have GW243 := gw hg HB; have GE243 := gw hg HB; replace HB := bs HB hb; clear hb hbox hg) | ((with_reducible refine gate_callee (f := 60) rfl ?_); refine gl (some 6) rfl rfl Tryz.func60 (by kernel_rfl) rfl #[.int .i64 a1, .int .i64 0, .int .i64 8] rfl ?_; (with_reducible refine (impl_within.calls a1 0 8 true _ A3.out).mono ?_); rintro e w' ⟨rfl, ⟨nd, rfl⟩⟩; refine ⟨_, rfl, ?_⟩; (try (rw [drewN_self w9]; generalize hq_ : World.drewN w9 _ = w9; have n0_ : Aside0 (w9.heap[gb243]? = some (.cells #[.int .i64 0, .slice none 0 0] 26 (0, 0))) := ⟨by rw [← hq_]; exact (mb BK243)⟩; have n1_ : Aside0 (Below w.heap.size w w9) := ⟨by rw [← hq_]; exact (ms HB)⟩; clear BK243 HB hq_; have BK243 := n0_; have HB := n1_; clear n0_ n1_))) | (go_at_call 61; (with_reducible refine (impl_coeffOk.calls a0 true _ A5.out).mono ?_); rintro e w' ⟨rfl, ⟨nd, rfl⟩⟩; (try (rw [drewN_self w9]; generalize hq_ : World.drewN w9 _ = w9; have n0_ : Aside0 (w9.heap[gb243]? = some (.cells #[.int .i64 0, .slice none 0 0] 26 (0, 0))) := ⟨by rw [← hq_]; exact (mb BK243)⟩; have n1_ : Aside0 (Below w.heap.size w w9) := ⟨by rw [← hq_]; exact (ms HB)⟩; clear BK243 HB hq_; have BK243 := n0_; have HB := n1_; clear n0_ n1_))) | ((with_reducible refine gate_dst (N := 16) rfl ?_); refine Kd.R_make (Kd.int .i64) _ 3 rfl (N := 16) rfl 24 _ _ rfl a1 rfl rfl Tryz.underlying24 (.int .i64 0) 8 info3 rfl (by decide) (by omega) 0 (ok := fun _ => True) (okp := fun _ => True) rfl (fun _ hk => hk) trivial (of_decide_eq_true (by first | (with_reducible assumption) | assumption)) (Nat.le_trans (Nat.mul_le_mul_right _ (of_decide_eq_true (by first | (with_reducible assumption) | assumption) : a1.toNat ≤ 35184372088832)) (by omega)) (Below.refl _ _) (Nat.le_refl _) ?_; intro v247 w10 ho11 hb hg_ hnew_; clear hg_ hnew_; (first | rw [← Ny246.out] at ho11 | (simp only [Int.reduceToNat] at ho11; rw [← Ny246.out] at ho11)); have HO248 := Aside0.mk (Kd.R_lower ho11 (below_size (ms HB))); replace BK243 := bb BK243 hb; replace HB := bs HB hb; clear hb ho11; obtain ⟨Ao12, co12, eo12⟩ := Kd.R_slice HO248.out; subst eo12; obtain ⟨hcz13_0, hcz13_1⟩ := c2 BK243; have hfz13_0 := blk_frozen BK243.out 0; have hfz13_1 := blk_frozen BK243.out 1))
     refine bodyPost_ret (results_cell_row rfl _ _ gb243 26 #[.int .i64 a0, .slice Ao12 y246.length co12] (0, 0) _ rfl (by (with_reducible repeat (first | refine blk_drewN ?_ _ | refine blk_drew ?_ | refine blk_alloc ?_ _)); refine blk_put (cs := #[.int .i64 a0, .slice none 0 0]) ?_ 1 _ rfl; (with_reducible repeat (first | refine blk_drewN ?_ _ | refine blk_drew ?_ | refine blk_alloc ?_ _)); refine blk_put (cs := #[.int .i64 0, .slice none 0 0]) ?_ 0 _ rfl; (with_reducible repeat (first | refine blk_drewN ?_ _ | refine blk_drew ?_ | refine blk_alloc ?_ _)); exact BK243.out) Tryz.underlying26 rfl (by kernel_rfl)) rfl ?_
     exact ⟨_, by first | rfl | (simp [errW_none, errW_some] <;> rfl) | (simp [*, errW_none, errW_some] <;> rfl), by (with_reducible repeat (first | apply Kd.R_alloc | apply Kd.R_drewN | apply Kd.R_drew)); exact Kd.R_mono (Kd.R_far (p := ⟨gb243, 1, none⟩) (Kd.R_far (p := ⟨gb243, 0, none⟩) (Kd.R_types HO248.out BK243.out (by decide)) (fun _ hk => hk.2) (.int .i64 a0)) (fun _ hk => hk.2) (.slice Ao12 y246.length co12)) (fun _ hk => trivial), ms HB⟩
    ·rw [if_neg c8] at H
     exact absurd H (by simp)
   ·rw [if_neg c7] at H
    exact absurd H (by simp)
  ·replace c6 := Bool.eq_false_iff.mpr c6
   subst c6
   have H1 : (some (0, ([] : List Int))) = some (r1, r2) := by rw [if_neg (show ¬ (false = true) by decide)] at H; exact H
   clear H
   have H := H1
   clear H1
   simp only [Option.some.injEq, Prod.mk.injEq] at H
   obtain ⟨rfl, rfl⟩ := H
   go_enter Tryz.func31, Tryz.ntmps31
   go_wp2_with (first | ((with_reducible refine gate_dst (N := 4) rfl ?_); refine box_event ?hg (N := 4) ?hd (cs := #[.int .i64 0, .slice none 0 0]) (t := 26) ?hr ?_; (case hd => rfl); (case hg => rfl); (case hr => first | (go_simp; done) | (go_simp; rfl)); intro gb243 hg w14 hbox hb; have BK243 := Aside0.mk (hbox); have GW243 := gw hg HB; have GE243 := gw hg HB; replace HB := bs HB hb; clear hb hbox hg) | ((with_reducible refine gate_callee (f := 60) rfl ?_); refine gl (some 6) rfl rfl Tryz.func60 (by kernel_rfl) rfl #[.int .i64 a1, .int .i64 0, .int .i64 8] rfl ?_; (with_reducible refine (impl_within.calls a1 0 8 true _ A3.out).mono ?_); rintro e w' ⟨rfl, ⟨nd, rfl⟩⟩; refine ⟨_, rfl, ?_⟩; (try (rw [drewN_self w14]; generalize hq_ : World.drewN w14 _ = w14; have n0_ : Aside0 (w14.heap[gb243]? = some (.cells #[.int .i64 0, .slice none 0 0] 26 (0, 0))) := ⟨by rw [← hq_]; exact (mb BK243)⟩; have n1_ : Aside0 (Below w.heap.size w w14) := ⟨by rw [← hq_]; exact (ms HB)⟩; clear BK243 HB hq_; have BK243 := n0_; have HB := n1_; clear n0_ n1_))) | (go_at_call 61; (with_reducible refine (impl_coeffOk.calls a0 false _ A5.out).mono ?_); rintro e w' ⟨rfl, ⟨nd, rfl⟩⟩; (try (rw [drewN_self w14]; generalize hq_ : World.drewN w14 _ = w14; have n0_ : Aside0 (w14.heap[gb243]? = some (.cells #[.int .i64 0, .slice none 0 0] 26 (0, 0))) := ⟨by rw [← hq_]; exact (mb BK243)⟩; have n1_ : Aside0 (Below w.heap.size w w14) := ⟨by rw [← hq_]; exact (ms HB)⟩; clear BK243 HB hq_; have BK243 := n0_; have HB := n1_; clear n0_ n1_)); obtain ⟨hcz15_0, hcz15_1⟩ := c2 BK243; have hfz15_0 := blk_frozen BK243.out 0; have hfz15_1 := blk_frozen BK243.out 1))
   refine bodyPost_ret (results_cell_row rfl _ _ gb243 26 #[.int .i64 0, .slice none 0 0] (0, 0) _ rfl (by (with_reducible repeat (first | refine blk_drewN ?_ _ | refine blk_drew ?_ | refine blk_alloc ?_ _)); refine blk_put (cs := #[.int .i64 0, .slice none 0 0]) ?_ 1 _ rfl; (with_reducible repeat (first | refine blk_drewN ?_ _ | refine blk_drew ?_ | refine blk_alloc ?_ _)); refine blk_put (cs := #[.int .i64 0, .slice none 0 0]) ?_ 0 _ rfl; (with_reducible repeat (first | refine blk_drewN ?_ _ | refine blk_drew ?_ | refine blk_alloc ?_ _)); exact BK243.out) Tryz.underlying26 rfl (by kernel_rfl)) rfl ?_
   exact ⟨_, by first | rfl | (simp [errW_none, errW_some] <;> rfl) | (simp [*, errW_none, errW_some] <;> rfl), by first | exact Kd.R_nil _ _ _ _ _ | exact Kd.N_nil _ _ _ _ _ | exact Kd.V_nil _ _ _ _ _ | exact Kd.Q_nil _ _ _ _ _ | exact Kd.S_nil _ _ _ _ _, ms HB⟩
 ·replace c4 := Bool.eq_false_iff.mpr c4
  subst c4
  have H1 : (some (0, ([] : List Int))) = some (r1, r2) := by rw [if_neg (show ¬ (false = true) by decide)] at H; exact H
  clear H
  have H := H1
  clear H1
  simp only [Option.some.injEq, Prod.mk.injEq] at H
  obtain ⟨rfl, rfl⟩ := H
  go_enter Tryz.func31, Tryz.ntmps31
  go_wp2_with (first | ((with_reducible refine gate_dst (N := 4) rfl ?_); refine box_event ?hg (N := 4) ?hd (cs := #[.int .i64 0, .slice none 0 0]) (t := 26) ?hr ?_; (case hd => rfl); (case hg => rfl); (case hr => first | (go_simp; done) | (go_simp; rfl)); intro gb243 hg w16 hbox hb; have BK243 := Aside0.mk (hbox); have GW243 := gw hg HB; have GE243 := gw hg HB; replace HB := bs HB hb; clear hb hbox hg) | ((with_reducible refine gate_callee (f := 60) rfl ?_); refine gl (some 6) rfl rfl Tryz.func60 (by kernel_rfl) rfl #[.int .i64 a1, .int .i64 0, .int .i64 8] rfl ?_; (with_reducible refine (impl_within.calls a1 0 8 false _ A3.out).mono ?_); rintro e w' ⟨rfl, ⟨nd, rfl⟩⟩; refine ⟨_, rfl, ?_⟩; (try (rw [drewN_self w16]; generalize hq_ : World.drewN w16 _ = w16; have n0_ : Aside0 (w16.heap[gb243]? = some (.cells #[.int .i64 0, .slice none 0 0] 26 (0, 0))) := ⟨by rw [← hq_]; exact (mb BK243)⟩; have n1_ : Aside0 (Below w.heap.size w w16) := ⟨by rw [← hq_]; exact (ms HB)⟩; clear BK243 HB hq_; have BK243 := n0_; have HB := n1_; clear n0_ n1_)); obtain ⟨hcz17_0, hcz17_1⟩ := c2 BK243; have hfz17_0 := blk_frozen BK243.out 0; have hfz17_1 := blk_frozen BK243.out 1))
  refine bodyPost_ret (results_cell_row rfl _ _ gb243 26 #[.int .i64 0, .slice none 0 0] (0, 0) _ rfl (by (with_reducible repeat (first | refine blk_drewN ?_ _ | refine blk_drew ?_ | refine blk_alloc ?_ _)); refine blk_put (cs := #[.int .i64 0, .slice none 0 0]) ?_ 1 _ rfl; (with_reducible repeat (first | refine blk_drewN ?_ _ | refine blk_drew ?_ | refine blk_alloc ?_ _)); refine blk_put (cs := #[.int .i64 0, .slice none 0 0]) ?_ 0 _ rfl; (with_reducible repeat (first | refine blk_drewN ?_ _ | refine blk_drew ?_ | refine blk_alloc ?_ _)); exact BK243.out) Tryz.underlying26 rfl (by kernel_rfl)) rfl ?_
  exact ⟨_, by first | rfl | (simp [errW_none, errW_some] <;> rfl) | (simp [*, errW_none, errW_some] <;> rfl), by first | exact Kd.R_nil _ _ _ _ _ | exact Kd.N_nil _ _ _ _ _ | exact Kd.V_nil _ _ _ _ _ | exact Kd.Q_nil _ _ _ _ _ | exact Kd.S_nil _ _ _ _ _, ms HB⟩

/-! ### impl_IndexOf: function 32 -/
def impl_IndexOf.f (k : Nat) (l0 : List ByteArray) (a1 : ByteArray) : Option (Int) := (slices_Index_string_string.f k l0 a1).bind fun t249 => (some t249)
theorem impl_IndexOf.mono : ∀ a0 a1 k, LeO (impl_IndexOf.f k a0 a1) (impl_IndexOf.f (k + 1) a0 a1) := by
 intro a0 a1 k
 unfold impl_IndexOf.f
 repeat' first
   | (with_reducible exact slices_Index_string_string.mono _ _ _)
   | (with_reducible exact LeO.refl _)
   | (with_reducible exact LeO.none _)
   | (with_reducible refine LeO.ite ?_ ?_)
   | (with_reducible refine LeO.bind ?_ (fun _ => ?_))
   | exact slices_Index_string_string.mono _ _ _
   | exact LeO.none _
   | refine LeO.ite ?_ ?_
   | refine LeO.bind ?_ (fun _ => ?_)
set_option maxHeartbeats 8000000 in
set_option maxRecDepth 100000 in
theorem impl_IndexOf.calls (k : Nat) (A0 : Option Addr) (c0 : Nat) (l0 : List ByteArray) (a1 : ByteArray) (r : Int) (w : World) (hr0 : Kd.C Kd.string w A0 l0.length l0) (hc0 : l0.length ≤ c0) (h : impl_IndexOf.f k l0 a1 = some r) :
  Calls Tryz.prog 32 #[.slice A0 l0.length c0, .string a1] w fun e w' => e = .returned (.int .i64 r) ∧ Drawn0 w w' := by
 have HR0 := Aside0.mk hr0
 have HC0 := Aside0.mk hc0
 clear hr0 hc0
 have H : ((slices_Index_string_string.f k l0 a1).bind fun t249 => (some t249)) = some r := h
 clear h
 replace H := Option.bind_eq_some_iff.mp H
 obtain ⟨t249, A30, H⟩ := H
 replace H : (some t249) = some r := H
 have A3 := Aside0.mk A30
 clear A30
 obtain rfl := Option.some.inj H
 go_enter Tryz.func32, Tryz.ntmps32
 go_wp2_with (first | ((with_reducible refine gate_callee (f := 62) rfl ?_); refine gl (some 7) rfl rfl Tryz.func62 (by kernel_rfl) rfl #[.slice A0 l0.length c0, .string a1] rfl ?_; (with_reducible refine (slices_Index_string_string.calls k _ _ l0 a1 t249 _ ?side1 ?side2 A3.out).mono ?_); (case side1 => repeat (first | exact HR0.out | (with_reducible refine Kd.C_alloc ?_ _) | (with_reducible refine Kd.C_drewN ?_ _) | (with_reducible refine Kd.C_drew ?_))); (case side2 => exact HC0.out); rintro e w' ⟨rfl, ⟨nd, rfl⟩⟩; refine ⟨_, rfl, ?_⟩))
 go_ret
 exact ⟨by first | rfl | (simp; done) | (simp [*]; done), by repeat (first | exact Drawn0.refl _ | apply Drawn0.step)⟩

/-! ### impl_ParseLin: function 9 -/
mutual
def impl_ParseLin.j0 : Nat → ByteArray → List ByteArray → List (S52) → Bool → Option (Int × List Int × Bool)
 | 0, _, _, _, _ => none
 | k + 1, x0, x1, x6, x23 => if x23 = true then (some (0, ([] : List Int), false)) else ((impl_ConstLin.f 0 (x1.length : Int)).bind fun bt255 => (impl_ParseLin.l0 k x0 x1 x6 (x6.length : Int) 0 bt255.1 bt255.2))
def impl_ParseLin.l0 : Nat → ByteArray → List ByteArray → List (S52) → Int → Int → Int → List Int → Option (Int × List Int × Bool)
 | 0, _, _, _, _, _, _, _ => none
 | k + 1, x0, x1, x28, x29, x30, x260000, x260001 => if x30 < x29 then (if 0 ≤ x30 then (if x30 < (x28.length : Int) then (if ((rd_T52 x28 x30).f1).toList = ([] : List UInt8) then (impl_ParseLin.l0 k x0 x1 x28 x29 (wrap64 (x30 + 1)) ((rd_T52 x28 x30).f0) x260001) else ((impl_IndexOf.f k x1 ((rd_T52 x28 x30).f1)).bind fun t263 => (if t263 < 0 then (some (0, ([] : List Int), false)) else (if 0 ≤ t263 then (if t263 < (x260001.length : Int) then (impl_ParseLin.l0 k x0 x1 x28 x29 (wrap64 (x30 + 1)) x260000 (x260001.set (t263 : Int).toNat ((rd_T52 x28 x30).f0))) else (none)) else (none))))) else (none)) else (none)) else (if x0.toList = ([] : List UInt8) then (some (0, ([] : List Int), false)) else ((impl_FormatLin.f k x260000 x260001 x1).bind fun t260 => (if t260.toList = x0.toList then (some (x260000, x260001, true)) else (some (0, ([] : List Int), false)))))
end
def impl_ParseLin.f (k : Nat) (a0 : ByteArray) (l1 : List ByteArray) : Option (Int × List Int × Bool) := (impl_partsOf.f k a0).bind fun bt251 => (if bt251.2 = true then (impl_ParseLin.j0 k a0 l1 bt251.1 (decide ((l1.length : Int) > 8))) else (impl_ParseLin.j0 k a0 l1 bt251.1 true))
theorem impl_ParseLin.mono_l : ∀ k, (∀ y0 y1 y2 y3, LeO (impl_ParseLin.j0 k y0 y1 y2 y3) (impl_ParseLin.j0 (k + 1) y0 y1 y2 y3)) ∧ (∀ y0 y1 y2 y3 y4 y5 y6, LeO (impl_ParseLin.l0 k y0 y1 y2 y3 y4 y5 y6) (impl_ParseLin.l0 (k + 1) y0 y1 y2 y3 y4 y5 y6))
 | 0 => ⟨fun _ _ _ _ r h => by simp [impl_ParseLin.j0] at h, fun _ _ _ _ _ _ _ r h => by simp [impl_ParseLin.l0] at h⟩
 | k + 1 => by
  obtain ⟨ih0, ih1⟩ := impl_ParseLin.mono_l k
  refine ⟨?_, ?_⟩
  ·intro y0 y1 y2 y3
   unfold impl_ParseLin.j0
   repeat' first
   | (with_reducible exact ih0 _ _ _ _)
   | (with_reducible exact ih1 _ _ _ _ _ _ _)
   | (with_reducible exact impl_FormatLin.mono _ _ _ _)
   | (with_reducible exact impl_IndexOf.mono _ _ _)
   | (with_reducible exact impl_partsOf.mono _ _)
   | (with_reducible exact LeO.refl _)
   | (with_reducible exact LeO.none _)
   | (with_reducible refine LeO.ite ?_ ?_)
   | (with_reducible refine LeO.bind ?_ (fun _ => ?_))
   | exact ih0 _ _ _ _
   | exact ih1 _ _ _ _ _ _ _
   | exact impl_FormatLin.mono _ _ _ _
   | exact impl_IndexOf.mono _ _ _
   | exact impl_partsOf.mono _ _
   | exact LeO.none _
   | refine LeO.ite ?_ ?_
   | refine LeO.bind ?_ (fun _ => ?_)
  ·intro y0 y1 y2 y3 y4 y5 y6
   unfold impl_ParseLin.l0
   repeat' first
   | (with_reducible exact ih0 _ _ _ _)
   | (with_reducible exact ih1 _ _ _ _ _ _ _)
   | (with_reducible exact impl_FormatLin.mono _ _ _ _)
   | (with_reducible exact impl_IndexOf.mono _ _ _)
   | (with_reducible exact impl_partsOf.mono _ _)
   | (with_reducible exact LeO.refl _)
   | (with_reducible exact LeO.none _)
   | (with_reducible refine LeO.ite ?_ ?_)
   | (with_reducible refine LeO.bind ?_ (fun _ => ?_))
   | exact ih0 _ _ _ _
   | exact ih1 _ _ _ _ _ _ _
   | exact impl_FormatLin.mono _ _ _ _
   | exact impl_IndexOf.mono _ _ _
   | exact impl_partsOf.mono _ _
   | exact LeO.none _
   | refine LeO.ite ?_ ?_
   | refine LeO.bind ?_ (fun _ => ?_)
theorem impl_ParseLin.mono : ∀ a0 a1 k, LeO (impl_ParseLin.f k a0 a1) (impl_ParseLin.f (k + 1) a0 a1) := by
 intro a0 a1 k
 obtain ⟨ih0, ih1⟩ := impl_ParseLin.mono_l k
 unfold impl_ParseLin.f
 repeat' first
   | (with_reducible exact ih0 _ _ _ _)
   | (with_reducible exact ih1 _ _ _ _ _ _ _)
   | (with_reducible exact impl_FormatLin.mono _ _ _ _)
   | (with_reducible exact impl_IndexOf.mono _ _ _)
   | (with_reducible exact impl_partsOf.mono _ _)
   | (with_reducible exact LeO.refl _)
   | (with_reducible exact LeO.none _)
   | (with_reducible refine LeO.ite ?_ ?_)
   | (with_reducible refine LeO.bind ?_ (fun _ => ?_))
   | exact ih0 _ _ _ _
   | exact ih1 _ _ _ _ _ _ _
   | exact impl_FormatLin.mono _ _ _ _
   | exact impl_IndexOf.mono _ _ _
   | exact impl_partsOf.mono _ _
   | exact LeO.none _
   | refine LeO.ite ?_ ?_
   | refine LeO.bind ?_ (fun _ => ?_)
set_option maxHeartbeats 8000000 in
set_option maxRecDepth 100000 in
theorem impl_ParseLin.calls (k : Nat) (a0 : ByteArray) (A1 : Option Addr) (c1 : Nat) (l1 : List ByteArray) (r1 : Int) (r2 : List Int) (r3 : Bool) (w : World) (hr1 : Kd.C Kd.string w A1 l1.length l1) (hc1 : l1.length ≤ c1) (h : impl_ParseLin.f k a0 l1 = some (r1, r2, r3)) (hTb_ : TbL w := by first | assumption | ((with_reducible repeat (first | apply tb_alloc | apply tb_drewN | apply tb_drew)); first | assumption | exact tb_of (by assumption) (by assumption))) :
  Calls Tryz.prog 9 #[.string a0, .slice A1 l1.length c1] w fun e w' => ∃ v1_ : Value, e = .returned (.tuple #[.agg #[.int .i64 r1, v1_], .bool r3]) ∧ Kd.R (Kd.int .i64) 3 w' w.heap.size (fun _ => True) v1_ r2 ∧ Below w.heap.size w w' := by
 have hu26 := Tryz.underlying26
 have hu52 := Tryz.underlying52
 have HR1 := Aside0.mk hr1
 have HC1 := Aside0.mk hc1
 clear hr1 hc1
 have HB := Aside0.mk (Below.refl w.heap.size w)
 have H : ((impl_partsOf.f k a0).bind fun bt251 => (if bt251.2 = true then (impl_ParseLin.j0 k a0 l1 bt251.1 (decide ((l1.length : Int) > 8))) else (impl_ParseLin.j0 k a0 l1 bt251.1 true))) = some (r1, r2, r3) := h
 clear h
 replace H := Option.bind_eq_some_iff.mp H
 obtain ⟨⟨t251, t252⟩, A30, H⟩ := H
 replace H : (if t252 = true then (impl_ParseLin.j0 k a0 l1 t251 (decide ((l1.length : Int) > 8))) else (impl_ParseLin.j0 k a0 l1 t251 true)) = some (r1, r2, r3) := H
 have A3 := Aside0.mk A30
 clear A30
 have HC4 := Aside0.mk H
 clear H
 go_enter Tryz.func9, Tryz.ntmps9
 go_upto_region 2 with (first | ((with_reducible refine gate_dst (N := 4) rfl ?_); refine box_event ?hg (N := 4) ?hd (cs := #[.int .i64 0, .slice none 0 0]) (t := 26) ?hr ?_; (case hd => rfl); (case hg => rfl); (case hr => first | (go_simp; done) | (go_simp; rfl)); intro gb250 hg w5 hbox hb; have BK250 := Aside0.mk (hbox); have GW250 := gw hg HB; have GE250 := gw hg HB; replace HB := bs HB hb; clear hb hbox hg) | ((with_reducible refine gate_callee (f := 30) rfl ?_); refine gl (some 14) rfl rfl Tryz.func30 (by kernel_rfl) rfl #[.string a0] rfl ?_; (with_reducible refine (impl_partsOf.calls k a0 t251 t252 _ A3.out).mono ?_); rintro e w6 ⟨v253, rfl, ho0, hb⟩; refine ⟨_, rfl, ?_⟩; have HO254 := Aside0.mk (Kd.R_lower ho0 (below_size (ms HB))); replace BK250 := bb BK250 hb; replace HB := bs HB hb; (try clear hb); (try clear ho0)))
 (try simp only [Act.put, List.setIfInBounds_toArray, List.set_cons_zero, List.set_cons_succ])
 go_cut [23] (fun v23 wc => ∃ (kq : Nat) (x23_3 : Bool), v23 = .bool x23_3 ∧ Aside0 (impl_ParseLin.j0 kq a0 l1 t251 x23_3 = some (r1, r2, r3)) ∧ Aside0 (kq ≤ k) ∧ Aside0 (Kd.R k52 52 wc w.heap.size (fun _ => True) v253 t251) ∧ Aside0 (wc.heap[gb250]? = some (.cells #[.int .i64 0, (.slice none 0 0)] 26 (0, 0))) ∧ Aside0 (Below w.heap.size w wc))
 case first =>
  have H := HC4.out
  clear HC4
  by_cases c7 : t252 = true
  ·subst c7
   have H1 : (impl_ParseLin.j0 k a0 l1 t251 (decide ((l1.length : Int) > 8))) = some (r1, r2, r3) := by rw [if_pos rfl] at H; exact H
   clear H
   have H := H1
   clear H1
   have H' := Aside0.mk H
   clear H
   go_wp2
   go_meet
   case rel => exact ⟨_, (decide ((l1.length : Int) > 8)), (by first | rfl | (simp; done) | (simp [*]; done)), H', ⟨by first | omega | exact Nat.le_refl _⟩, ⟨by (with_reducible repeat (first | apply Kd.R_alloc | apply Kd.R_drewN | apply Kd.R_drew)); exact HO254.out⟩, ⟨mb BK250⟩, ⟨ms HB⟩⟩
  ·replace c7 := Bool.eq_false_iff.mpr c7
   subst c7
   have H1 : (impl_ParseLin.j0 k a0 l1 t251 true) = some (r1, r2, r3) := by rw [if_neg (show ¬ (false = true) by decide)] at H; exact H
   clear H
   have H := H1
   clear H1
   have H' := Aside0.mk H
   clear H
   go_wp2
   go_meet
   case rel => exact ⟨_, (true), (by first | rfl | (simp; done) | (simp [*]; done)), H', ⟨by first | omega | exact Nat.le_refl _⟩, ⟨by (with_reducible repeat (first | apply Kd.R_alloc | apply Kd.R_drewN | apply Kd.R_drew)); exact HO254.out⟩, ⟨mb BK250⟩, ⟨ms HB⟩⟩
 case rest =>
  clear HC4
  try clear c1
  try clear p2
  try clear c3
  try clear c7
  obtain ⟨kq, x23_3, rfl, HA, HJ3, HO_6, BK250, HB⟩ := hcut
  cases kq with
  | zero => exact absurd HA.out (by simp [impl_ParseLin.j0])
  | succ kj3 =>
   have H := HA.out
   clear HA
   simp only [impl_ParseLin.j0] at H
   by_cases c8 : x23_3 = true
   ·subst c8
    have H1 : (some (0, ([] : List Int), false)) = some (r1, r2, r3) := by rw [if_pos rfl] at H; exact H
    clear H
    have H := H1
    clear H1
    simp only [Option.some.injEq, Prod.mk.injEq] at H
    obtain ⟨rfl, rfl, rfl⟩ := H
    obtain ⟨hcz9_0, hcz9_1⟩ := c2 BK250
    have hfz9_0 := blk_frozen BK250.out 0
    have hfz9_1 := blk_frozen BK250.out 1
    go_wp2
    refine bodyPost_ret (results_ct rfl _ _ gb250 26 #[.int .i64 0, .slice none 0 0] (0, 0) _ rfl (by (with_reducible repeat (first | refine blk_drewN ?_ _ | refine blk_drew ?_ | refine blk_alloc ?_ _)); refine blk_put (cs := #[.int .i64 0, .slice none 0 0]) ?_ 1 _ rfl; (with_reducible repeat (first | refine blk_drewN ?_ _ | refine blk_drew ?_ | refine blk_alloc ?_ _)); refine blk_put (cs := #[.int .i64 0, .slice none 0 0]) ?_ 0 _ rfl; (with_reducible repeat (first | refine blk_drewN ?_ _ | refine blk_drew ?_ | refine blk_alloc ?_ _)); exact BK250.out) Tryz.underlying26 rfl (by kernel_rfl)) rfl ?_
    exact ⟨_, by first | rfl | (simp [errW_none, errW_some] <;> rfl) | (simp [*, errW_none, errW_some] <;> rfl), by first | exact Kd.R_nil _ _ _ _ _ | exact Kd.N_nil _ _ _ _ _ | exact Kd.V_nil _ _ _ _ _ | exact Kd.Q_nil _ _ _ _ _ | exact Kd.S_nil _ _ _ _ _, ms HB⟩
   ·replace c8 := Bool.eq_false_iff.mpr c8
    subst c8
    have H1 : ((impl_ConstLin.f 0 (l1.length : Int)).bind fun bt255 => (impl_ParseLin.l0 kj3 a0 l1 t251 (t251.length : Int) 0 bt255.1 bt255.2)) = some (r1, r2, r3) := by rw [if_neg (show ¬ (false = true) by decide)] at H; exact H
    clear H
    have H := H1
    clear H1
    replace H := Option.bind_eq_some_iff.mp H
    obtain ⟨⟨t255, t256⟩, A100, H⟩ := H
    replace H : (impl_ParseLin.l0 kj3 a0 l1 t251 (t251.length : Int) 0 t255 t256) = some (r1, r2, r3) := H
    have A10 := Aside0.mk A100
    clear A100
    have H' := Aside0.mk H
    clear H
    go_wp2_with (first | ((with_reducible refine gate_callee (f := 31) rfl ?_); refine gl (some 27) rfl rfl Tryz.func31 (by kernel_rfl) rfl #[.int .i64 0, .int .i64 (l1.length : Int)] rfl ?_; (with_reducible refine (impl_ConstLin.calls 0 (l1.length : Int) t255 t256 _ A10.out).mono ?_); rintro e w11 ⟨v257, rfl, ho0, hb⟩; refine ⟨_, rfl, ?_⟩; replace HO_6 := rb HO_6 hb; have HO258 := Aside0.mk (Kd.R_lower ho0 (below_size (ms HB))); replace BK250 := bb BK250 hb; replace HB := bs HB hb; (try clear hb); (try clear ho0)) | ((with_reducible refine gate_dst (N := 8) rfl ?_); refine box_event ?hg (N := 8) ?hd (cs := #[.int .i64 0, .slice none 0 0]) (t := 26) ?hr ?_; (case hd => rfl); (case hg => rfl); (case hr => first | (go_simp; done) | (go_simp; rfl)); intro gb259 hg w12 hbox hb; replace HO_6 := rb HO_6 hb; replace HO258 := rb HO258 hb; have BK259 := Aside0.mk (hbox); have GW259 := gw hg HB; have GE259 := gw hg HB; replace HB := bs HB hb; have NB250_259 := nl hg BK250; have NB259_250 := ng hg BK250; replace BK250 := bb BK250 hb; clear hb hbox hg; have hnb13 := NB259_250.out; have hnc13 := NB250_259.out; obtain ⟨hcz14_0, hcz14_1⟩ := c2 BK259; have hfz14_0 := blk_frozen BK259.out 0; have hfz14_1 := blk_frozen BK259.out 1; obtain ⟨Ao15, co15, eo15⟩ := Kd.R_slice HO258.out; subst eo15; obtain ⟨Ao16, co16, eo16⟩ := Kd.R_slice HO_6.out; subst eo16))
    go_loopg [30] kj3 (fun kq v30 w' => ∃ (x30_2 : Int) (x251000_2 : Int) (x260000_2 : Int) (x260001_2 : List Int) (u260001 : Value), v30 = .int .i64 x30_2 ∧ Aside0 (impl_ParseLin.l0 kq a0 l1 t251 (t251.length : Int) x30_2 x260000_2 x260001_2 = some (r1, r2, r3)) ∧ Aside0 (kq ≤ kj3) ∧ Aside0 (Kd.R k52 52 w' w.heap.size (fun _ => True) (.slice Ao16 t251.length co16) t251) ∧ Aside0 (Kd.R (Kd.int .i64) 3 w' w.heap.size (fun _ => True) u260001 x260001_2) ∧ Aside0 (w'.heap[gb250]? = some (.cells #[.int .i64 x251000_2, (.slice none 0 0)] 26 (0, 0))) ∧ Aside0 (w'.heap[gb259]? = some (.cells #[.int .i64 x260000_2, u260001] 26 (0, 0))) ∧ Aside0 (Below w.heap.size w w'))
    case atStart => exact ⟨(0), (0), (t255), (t256), (.slice Ao15 t256.length co15), (by first | rfl | (simp; done) | (simp [*]; done)), H', ⟨Nat.le_refl _⟩, ⟨by (with_reducible repeat (first | apply Kd.R_alloc | apply Kd.R_drewN | apply Kd.R_drew)); exact Kd.R_mono (Kd.R_far (p := ⟨gb259, 1, none⟩) (Kd.R_far (p := ⟨gb259, 0, none⟩) (Kd.R_types HO_6.out BK259.out (by decide)) (fun _ hk => hk.2) (.int .i64 t255)) (fun _ hk => hk.2) (.slice Ao15 t256.length co15)) (fun _ hk => trivial)⟩, ⟨by (with_reducible repeat (first | apply Kd.R_alloc | apply Kd.R_drewN | apply Kd.R_drew)); exact Kd.R_mono (Kd.R_far (p := ⟨gb259, 1, none⟩) (Kd.R_far (p := ⟨gb259, 0, none⟩) (Kd.R_types HO258.out BK259.out (by decide)) (fun _ hk => hk.2) (.int .i64 t255)) (fun _ hk => hk.2) (.slice Ao15 t256.length co15)) (fun _ hk => trivial)⟩, ⟨by (with_reducible repeat (first | refine blk_drewN ?_ _ | refine blk_drew ?_ | refine blk_alloc ?_ _)); refine blk_far ?_ NB250_259.out _; (with_reducible repeat (first | refine blk_drewN ?_ _ | refine blk_drew ?_ | refine blk_alloc ?_ _)); refine blk_far ?_ NB250_259.out _; (with_reducible repeat (first | refine blk_drewN ?_ _ | refine blk_drew ?_ | refine blk_alloc ?_ _)); exact BK250.out⟩, ⟨by (with_reducible repeat (first | refine blk_drewN ?_ _ | refine blk_drew ?_ | refine blk_alloc ?_ _)); refine blk_put (cs := #[.int .i64 t255, .slice none 0 0]) ?_ 1 _ rfl; (with_reducible repeat (first | refine blk_drewN ?_ _ | refine blk_drew ?_ | refine blk_alloc ?_ _)); refine blk_put (cs := #[.int .i64 0, .slice none 0 0]) ?_ 0 _ rfl; (with_reducible repeat (first | refine blk_drewN ?_ _ | refine blk_drew ?_ | refine blk_alloc ?_ _)); exact BK259.out⟩, ⟨ms HB⟩⟩
    case round =>
     clear H'
     try clear c1
     try clear p2
     try clear c3
     try clear c7
     try clear c8
     try clear c9
     try clear c13
     try clear hcz14_0
     try clear hcz14_1
     try clear hcz9_0
     try clear hcz9_1
     try clear hfz14_0
     try clear hfz14_1
     try clear hfz9_0
     try clear hfz9_1
     try clear p2
     obtain ⟨x30_2, x251000_2, x260000_2, x260001_2, u260001, rfl, HA, HK2, HO_28, HO_260001, BK250, BK259, HB⟩ := hrel
     cases gk with
     | zero => exact absurd HA.out (by simp [impl_ParseLin.l0])
     | succ k2 =>
      have H := HA.out
      clear HA
      simp only [impl_ParseLin.l0] at H
      by_cases c17 : x30_2 < (t251.length : Int)
      ·rw [if_pos c17] at H
       have c17b0 : decide (x30_2 < (t251.length : Int)) = true := decide_eq_true c17
       clear c17
       by_cases c18 : 0 ≤ x30_2
       ·rw [if_pos c18] at H
        have c18b0 : decide (0 ≤ x30_2) = true := decide_eq_true c18
        clear c18
        by_cases c19 : x30_2 < (t251.length : Int)
        ·rw [if_pos c19] at H
         have c19b0 : decide (x30_2 < (t251.length : Int)) = true := decide_eq_true c19
         clear c19
         by_cases c20 : ((rd_T52 t251 x30_2).f1).toList = ([] : List UInt8)
         ·rw [if_pos c20] at H
          have c20b0 : (((rd_T52 t251 x30_2).f1).toList == ([] : List UInt8)) = true := beq_iff_eq.mpr c20
          have c20b1 : (((rd_T52 t251 x30_2).f1).toList != ([] : List UInt8)) = false := bne_eq_false_iff_eq.mpr c20
          clear c20
          have H' := Aside0.mk H
          clear H
          have p261 : 0 ≤ (x30_2 : Int) := of_decide_eq_true (by first | (with_reducible assumption) | assumption)
          have q261 : x30_2 < (t251.length : Int) := of_decide_eq_true (by first | (with_reducible assumption) | assumption)
          obtain ⟨ad261, e261, hx261_0, hx261_1⟩ := at_T52 (Kd.R_reads' HO_28.out).2.2 x30_2 p261 q261
          cases e261
          replace p261 := eq_true p261
          replace q261 := eq_true q261
          go_wp2_with (first | ((with_reducible refine gate_dst (N := 10) rfl ?_); refine box_event ?hg (N := 10) ?hd (cs := #[.int .i64 0, .string (⟨#[]⟩ : ByteArray)]) (t := 52) ?hr ?_; (case hd => rfl); (case hg => rfl); (case hr => first | (go_simp; done) | (go_simp; rfl)); intro gb262 hg w21 hbox hb; replace HO_28 := Aside0.mk (Kd.R_below (Kd.R_elderB (mr HO_28) gb262 (Nat.le_of_eq hg.symm)) hb); replace HO_260001 := rb HO_260001 hb; have BK262 := Aside0.mk (hbox); have GW262 := gw hg HB; have GE262 := gw hg HB; replace HB := bs HB hb; have NB250_262 := nl hg BK250; have NB262_250 := ng hg BK250; replace BK250 := bb BK250 hb; have NB259_262 := nl hg BK259; have NB262_259 := ng hg BK259; replace BK259 := bb BK259 hb; clear hb hbox hg; have hnb22 := NB262_250.out; have hnc22 := NB250_262.out; have hnb23 := NB262_259.out; have hnc23 := NB259_262.out; obtain ⟨hcz24_0, hcz24_1⟩ := c2 BK262; have hfz24_0 := blk_frozen BK262.out 0; have hfz24_1 := blk_frozen BK262.out 1; have hnb25 := NB259_250.out; have hnc25 := NB250_259.out; obtain ⟨hcz26_0, hcz26_1⟩ := c2 BK259; have hfz26_0 := blk_frozen BK259.out 0; have hfz26_1 := blk_frozen BK259.out 1))
          go_roundg k2
          case measure => have := HJ3.out; have := HK2.out; omega
          case rel => exact ⟨(wrap64 (x30_2 + 1)), (x251000_2), ((rd_T52 t251 x30_2).f0), (x260001_2), (u260001), (by first | rfl | (simp; done) | (simp [*]; done)), H', ⟨by have := HJ3.out; have := HK2.out; omega⟩, ⟨by (with_reducible repeat (first | apply Kd.R_alloc | apply Kd.R_drewN | apply Kd.R_drew)); exact Kd.R_mono (Kd.R_far (p := ⟨gb259, 0, none⟩) (Kd.R_far (p := ⟨gb262, 1, none⟩) (Kd.R_far (p := ⟨gb262, 0, none⟩) (Kd.R_types (Kd.R_mono HO_28.out (fun k_ hk => (⟨hk, hk.2⟩ : _ ∧ k_ ≠ gb262))) BK259.out (by decide)) (fun _ hk => hk.1.2) (.int .i64 ((rd_T52 t251 x30_2).f0))) (fun _ hk => hk.1.2) (.string ((rd_T52 t251 x30_2).f1))) (fun _ hk => hk.2) (.int .i64 ((rd_T52 t251 x30_2).f0))) (fun _ hk => trivial)⟩, ⟨by (with_reducible repeat (first | apply Kd.R_alloc | apply Kd.R_drewN | apply Kd.R_drew)); exact Kd.R_mono (Kd.R_far (p := ⟨gb259, 0, none⟩) (Kd.R_far (p := ⟨gb262, 1, none⟩) (Kd.R_far (p := ⟨gb262, 0, none⟩) (Kd.R_types (Kd.R_types HO_260001.out BK262.out (by decide)) BK259.out (by decide)) (fun _ hk => hk.1.2) (.int .i64 ((rd_T52 t251 x30_2).f0))) (fun _ hk => hk.1.2) (.string ((rd_T52 t251 x30_2).f1))) (fun _ hk => hk.2) (.int .i64 ((rd_T52 t251 x30_2).f0))) (fun _ hk => trivial)⟩, ⟨by (with_reducible repeat (first | refine blk_drewN ?_ _ | refine blk_drew ?_ | refine blk_alloc ?_ _)); refine blk_far ?_ NB250_259.out _; (with_reducible repeat (first | refine blk_drewN ?_ _ | refine blk_drew ?_ | refine blk_alloc ?_ _)); refine blk_far ?_ NB250_262.out _; (with_reducible repeat (first | refine blk_drewN ?_ _ | refine blk_drew ?_ | refine blk_alloc ?_ _)); refine blk_far ?_ NB250_262.out _; (with_reducible repeat (first | refine blk_drewN ?_ _ | refine blk_drew ?_ | refine blk_alloc ?_ _)); exact BK250.out⟩, ⟨by (with_reducible repeat (first | refine blk_drewN ?_ _ | refine blk_drew ?_ | refine blk_alloc ?_ _)); refine blk_put (cs := #[.int .i64 x260000_2, u260001]) ?_ 0 _ rfl; (with_reducible repeat (first | refine blk_drewN ?_ _ | refine blk_drew ?_ | refine blk_alloc ?_ _)); refine blk_far ?_ NB259_262.out _; (with_reducible repeat (first | refine blk_drewN ?_ _ | refine blk_drew ?_ | refine blk_alloc ?_ _)); refine blk_far ?_ NB259_262.out _; (with_reducible repeat (first | refine blk_drewN ?_ _ | refine blk_drew ?_ | refine blk_alloc ?_ _)); exact BK259.out⟩, ⟨ms HB⟩⟩
         ·rw [if_neg c20] at H
          have c20b0 : (((rd_T52 t251 x30_2).f1).toList == ([] : List UInt8)) = false := beq_eq_false_iff_ne.mpr c20
          have c20b1 : (((rd_T52 t251 x30_2).f1).toList != ([] : List UInt8)) = true := bne_iff_ne.mpr c20
          replace H := Option.bind_eq_some_iff.mp H
          obtain ⟨t263, A270, H⟩ := H
          replace H : (if t263 < 0 then (some (0, ([] : List Int), false)) else (if 0 ≤ t263 then (if t263 < (x260001_2.length : Int) then (impl_ParseLin.l0 k2 a0 l1 t251 (t251.length : Int) (wrap64 (x30_2 + 1)) x260000_2 (x260001_2.set (t263 : Int).toNat ((rd_T52 t251 x30_2).f0))) else (none)) else (none))) = some (r1, r2, r3) := H
          have A27 := Aside0.mk A270
          clear A270
          by_cases c28 : t263 < 0
          ·rw [if_pos c28] at H
           have c28b0 : decide (t263 < 0) = true := decide_eq_true c28
           clear c28
           simp only [Option.some.injEq, Prod.mk.injEq] at H
           obtain ⟨rfl, rfl, rfl⟩ := H
           have p261 : 0 ≤ (x30_2 : Int) := of_decide_eq_true (by first | (with_reducible assumption) | assumption)
           have q261 : x30_2 < (t251.length : Int) := of_decide_eq_true (by first | (with_reducible assumption) | assumption)
           obtain ⟨ad261, e261, hx261_0, hx261_1⟩ := at_T52 (Kd.R_reads' HO_28.out).2.2 x30_2 p261 q261
           cases e261
           replace p261 := eq_true p261
           replace q261 := eq_true q261
           go_wp2_with (first | ((with_reducible refine gate_dst (N := 10) rfl ?_); refine box_event ?hg (N := 10) ?hd (cs := #[.int .i64 0, .string (⟨#[]⟩ : ByteArray)]) (t := 52) ?hr ?_; (case hd => rfl); (case hg => rfl); (case hr => first | (go_simp; done) | (go_simp; rfl)); intro gb262 hg w29 hbox hb; replace HO_28 := Aside0.mk (Kd.R_below (Kd.R_elderB (mr HO_28) gb262 (Nat.le_of_eq hg.symm)) hb); replace HO_260001 := rb HO_260001 hb; have BK262 := Aside0.mk (hbox); have GW262 := gw hg HB; have GE262 := gw hg HB; replace HB := bs HB hb; have NB250_262 := nl hg BK250; have NB262_250 := ng hg BK250; replace BK250 := bb BK250 hb; have NB259_262 := nl hg BK259; have NB262_259 := ng hg BK259; replace BK259 := bb BK259 hb; clear hb hbox hg; have hnb30 := NB262_250.out; have hnc30 := NB250_262.out; have hnb31 := NB262_259.out; have hnc31 := NB259_262.out; obtain ⟨hcz32_0, hcz32_1⟩ := c2 BK262; have hfz32_0 := blk_frozen BK262.out 0; have hfz32_1 := blk_frozen BK262.out 1) | ((with_reducible refine gate_callee (f := 32) rfl ?_); refine gl (some 43) rfl rfl Tryz.func32 (by kernel_rfl) rfl #[.slice A1 l1.length c1, .string ((rd_T52 t251 x30_2).f1)] rfl ?_; (with_reducible refine (impl_IndexOf.calls k2 _ _ l1 ((rd_T52 t251 x30_2).f1) t263 _ ?side1 ?side2 A27.out).mono ?_); (case side1 => exact Kd.C_below HR1.out (ms HB)); (case side2 => exact HC1.out); rintro e w' ⟨rfl, ⟨nd, rfl⟩⟩; refine ⟨_, rfl, ?_⟩; have hnb33 := NB250_259.out; have hnc33 := NB259_250.out; obtain ⟨hcz34_0, hcz34_1⟩ := c2 BK250; have hfz34_0 := blk_frozen BK250.out 0; have hfz34_1 := blk_frozen BK250.out 1))
           refine bodyPost_ret (results_ct rfl _ _ gb250 26 #[.int .i64 0, .slice none 0 0] (0, 0) _ rfl (by (with_reducible repeat (first | refine blk_drewN ?_ _ | refine blk_drew ?_ | refine blk_alloc ?_ _)); refine blk_put (cs := #[.int .i64 0, .slice none 0 0]) ?_ 1 _ rfl; (with_reducible repeat (first | refine blk_drewN ?_ _ | refine blk_drew ?_ | refine blk_alloc ?_ _)); refine blk_put (cs := #[.int .i64 x251000_2, .slice none 0 0]) ?_ 0 _ rfl; (with_reducible repeat (first | refine blk_drewN ?_ _ | refine blk_drew ?_ | refine blk_alloc ?_ _)); refine blk_far ?_ NB250_262.out _; (with_reducible repeat (first | refine blk_drewN ?_ _ | refine blk_drew ?_ | refine blk_alloc ?_ _)); refine blk_far ?_ NB250_262.out _; (with_reducible repeat (first | refine blk_drewN ?_ _ | refine blk_drew ?_ | refine blk_alloc ?_ _)); exact BK250.out) Tryz.underlying26 rfl (by kernel_rfl)) rfl ?_
           exact ⟨_, by first | rfl | (simp [errW_none, errW_some] <;> rfl) | (simp [*, errW_none, errW_some] <;> rfl), by first | exact Kd.R_nil _ _ _ _ _ | exact Kd.N_nil _ _ _ _ _ | exact Kd.V_nil _ _ _ _ _ | exact Kd.Q_nil _ _ _ _ _ | exact Kd.S_nil _ _ _ _ _, ms HB⟩
          ·rw [if_neg c28] at H
           have c28b0 : decide (t263 < 0) = false := decide_eq_false c28
           clear c28
           by_cases c35 : 0 ≤ t263
           ·rw [if_pos c35] at H
            have c35b0 : decide (0 ≤ t263) = true := decide_eq_true c35
            clear c35
            by_cases c36 : t263 < (x260001_2.length : Int)
            ·rw [if_pos c36] at H
             have c36b0 : decide (t263 < (x260001_2.length : Int)) = true := decide_eq_true c36
             clear c36
             obtain ⟨y264, hy264⟩ : ∃ y_ : List Int, y_ = (x260001_2.set (t263 : Int).toNat ((rd_T52 t251 x30_2).f0)) := ⟨_, rfl⟩
             replace H : (impl_ParseLin.l0 k2 a0 l1 t251 (t251.length : Int) (wrap64 (x30_2 + 1)) x260000_2 y264) = some (r1, r2, r3) := by first | (rw [hy264]; with_reducible exact H) | (have H2_ := (Option.bind_some _ _).symm.trans H; rw [hy264]; with_reducible exact H2_) | (have H2_ := (Option.bind_some _ _).symm.trans H; with_reducible exact H2_) | with_reducible exact H | (rw [hy264]; exact H) | exact H
             have Ny264 := Aside0.mk hy264
             clear hy264
             have H' := Aside0.mk H
             clear H
             have p261 : 0 ≤ (x30_2 : Int) := of_decide_eq_true (by first | (with_reducible assumption) | assumption)
             have q261 : x30_2 < (t251.length : Int) := of_decide_eq_true (by first | (with_reducible assumption) | assumption)
             obtain ⟨ad261, e261, hx261_0, hx261_1⟩ := at_T52 (Kd.R_reads' HO_28.out).2.2 x30_2 p261 q261
             cases e261
             replace p261 := eq_true p261
             replace q261 := eq_true q261
             go_wp2_with (first | ((with_reducible refine gate_dst (N := 10) rfl ?_); refine box_event ?hg (N := 10) ?hd (cs := #[.int .i64 0, .string (⟨#[]⟩ : ByteArray)]) (t := 52) ?hr ?_; (case hd => rfl); (case hg => rfl); (case hr => first | (go_simp; done) | (go_simp; rfl)); intro gb262 hg w38 hbox hb; replace HO_28 := Aside0.mk (Kd.R_below (Kd.R_elderB (mr HO_28) gb262 (Nat.le_of_eq hg.symm)) hb); replace HO_260001 := rb HO_260001 hb; have BK262 := Aside0.mk (hbox); have GW262 := gw hg HB; have GE262 := gw hg HB; replace HB := bs HB hb; have NB250_262 := nl hg BK250; have NB262_250 := ng hg BK250; replace BK250 := bb BK250 hb; have NB259_262 := nl hg BK259; have NB262_259 := ng hg BK259; replace BK259 := bb BK259 hb; clear hb hbox hg; have hnb39 := NB262_250.out; have hnc39 := NB250_262.out; have hnb40 := NB262_259.out; have hnc40 := NB259_262.out; obtain ⟨hcz41_0, hcz41_1⟩ := c2 BK262; have hfz41_0 := blk_frozen BK262.out 0; have hfz41_1 := blk_frozen BK262.out 1) | ((with_reducible refine gate_store (t := 52) (p := 10) rfl ?_); refine store_event (t := 52) (p := 10) (v := ?vo_w42) (w1 := ((w38.setCell ⟨gb262, 0, none⟩ (.int .i64 ((rd_T52 t251 x30_2).f0))).setCell ⟨gb262, 1, none⟩ (.string ((rd_T52 t251 x30_2).f1)))) ?hg ?ho ?hn ?hr ?_; (case ho => rfl); (case hg => rfl); (case hn => rfl); (case hr => first | (go_simp; done) | (go_simp; rfl)); intro w42 hw; have n0_ : Aside0 (Kd.R k52 52 w42 w.heap.size (fun k_ => k_ ≠ gb262) (.slice (some ad261) t251.length co16) t251) := ⟨(by rw [hw]; exact (by (with_reducible repeat (first | apply Kd.R_alloc | apply Kd.R_drewN | apply Kd.R_drew)); exact Kd.R_mono (Kd.R_far (p := ⟨gb262, 1, none⟩) (Kd.R_far (p := ⟨gb262, 0, none⟩) (Kd.R_mono HO_28.out (fun k_ hk => (⟨hk, hk.2⟩ : _ ∧ k_ ≠ gb262))) (fun _ hk => hk.2) (.int .i64 ((rd_T52 t251 x30_2).f0))) (fun _ hk => hk.2) (.string ((rd_T52 t251 x30_2).f1))) (fun _ hk => hk.1.2)))⟩; have n1_ : Aside0 (Kd.R (Kd.int .i64) 3 w42 w.heap.size (fun _ => True) u260001 x260001_2) := ⟨(by rw [hw]; exact (by (with_reducible repeat (first | apply Kd.R_alloc | apply Kd.R_drewN | apply Kd.R_drew)); exact Kd.R_mono (Kd.R_far (p := ⟨gb262, 1, none⟩) (Kd.R_far (p := ⟨gb262, 0, none⟩) (Kd.R_types HO_260001.out BK262.out (by decide)) (fun _ hk => hk.2) (.int .i64 ((rd_T52 t251 x30_2).f0))) (fun _ hk => hk.2) (.string ((rd_T52 t251 x30_2).f1))) (fun _ hk => trivial)))⟩; have n2_ : Aside0 (w42.heap[gb250]? = some (.cells #[.int .i64 x251000_2, .slice none 0 0] 26 (0, 0))) := ⟨(by rw [hw]; exact (mf BK250))⟩; have n3_ : Aside0 (w42.heap[gb259]? = some (.cells #[.int .i64 x260000_2, u260001] 26 (0, 0))) := ⟨(by rw [hw]; exact (mf BK259))⟩; have n4_ : Aside0 (w42.heap[gb262]? = some (.cells #[.int .i64 ((rd_T52 t251 x30_2).f0), .string ((rd_T52 t251 x30_2).f1)] 52 (0, 0))) := ⟨(by rw [hw]; exact (by (with_reducible repeat (first | refine blk_drewN ?_ _ | refine blk_drew ?_ | refine blk_alloc ?_ _)); refine blk_put (cs := #[.int .i64 ((rd_T52 t251 x30_2).f0), .string (⟨#[]⟩ : ByteArray)]) ?_ 1 _ rfl; (with_reducible repeat (first | refine blk_drewN ?_ _ | refine blk_drew ?_ | refine blk_alloc ?_ _)); refine blk_put (cs := #[.int .i64 0, .string (⟨#[]⟩ : ByteArray)]) ?_ 0 _ rfl; (with_reducible repeat (first | refine blk_drewN ?_ _ | refine blk_drew ?_ | refine blk_alloc ?_ _)); exact BK262.out))⟩; have n5_ : Aside0 (Below w.heap.size w w42) := ⟨(by rw [hw]; exact (ms HB))⟩; clear hw HO_28 HO_260001 BK250 BK259 BK262 HB; have HO_28 := n0_; have HO_260001 := n1_; have BK250 := n2_; have BK259 := n3_; have BK262 := n4_; have HB := n5_; clear n0_ n1_ n2_ n3_ n4_ n5_; obtain ⟨hcz43_0, hcz43_1⟩ := c2 BK262; have hfz43_0 := blk_frozen BK262.out 0; have hfz43_1 := blk_frozen BK262.out 1) | ((with_reducible refine gate_callee (f := 32) rfl ?_); refine gl (some 43) rfl rfl Tryz.func32 (by kernel_rfl) rfl #[.slice A1 l1.length c1, .string ((rd_T52 t251 x30_2).f1)] rfl ?_; (with_reducible refine (impl_IndexOf.calls k2 _ _ l1 ((rd_T52 t251 x30_2).f1) t263 _ ?side1 ?side2 A27.out).mono ?_); (case side1 => exact mc ((Kd.C_below HR1.out HB.out))); (case side2 => exact HC1.out); rintro e w' ⟨rfl, ⟨nd, rfl⟩⟩; refine ⟨_, rfl, ?_⟩; (try (rw [drewN_self w42]; generalize hq_ : World.drewN w42 _ = w42; have n0_ : Aside0 (Kd.R (Kd.int .i64) 3 w42 w.heap.size (fun _ => True) u260001 x260001_2) := ⟨by rw [← hq_]; exact (mr HO_260001)⟩; have n1_ : Aside0 (Kd.R k52 52 w42 w.heap.size (fun k_ => k_ ≠ gb262) (.slice (some ad261) t251.length co16) t251) := ⟨by rw [← hq_]; exact (mr HO_28)⟩; have n2_ : Aside0 (w42.heap[gb250]? = some (.cells #[.int .i64 x251000_2, .slice none 0 0] 26 (0, 0))) := ⟨by rw [← hq_]; exact (mb BK250)⟩; have n3_ : Aside0 (w42.heap[gb259]? = some (.cells #[.int .i64 x260000_2, u260001] 26 (0, 0))) := ⟨by rw [← hq_]; exact (mb BK259)⟩; have n4_ : Aside0 (w42.heap[gb262]? = some (.cells #[.int .i64 ((rd_T52 t251 x30_2).f0), .string ((rd_T52 t251 x30_2).f1)] 52 (0, 0))) := ⟨by rw [← hq_]; exact (mb BK262)⟩; have n5_ : Aside0 (Below w.heap.size w w42) := ⟨by rw [← hq_]; exact (ms HB)⟩; clear HO_260001 HO_28 BK250 BK259 BK262 HB hq_; have HO_260001 := n0_; have HO_28 := n1_; have BK250 := n2_; have BK259 := n3_; have BK262 := n4_; have HB := n5_; clear n0_ n1_ n2_ n3_ n4_ n5_)); (try have hcy44_0 : w42.cell? ⟨gb262, 0, none⟩ = some (.int .i64 ((rd_T52 t251 x30_2).f0)) := (blk_cell BK262.out 0).trans rfl); (try have hcy44_1 : w42.cell? ⟨gb262, 1, none⟩ = some (.string ((rd_T52 t251 x30_2).f1)) := (blk_cell BK262.out 1).trans rfl); (try have hfy44_0 := blk_frozen BK262.out 0); (try have hfy44_1 := blk_frozen BK262.out 1); have hnb45 := NB259_250.out; have hnc45 := NB250_259.out; obtain ⟨hcz46_0, hcz46_1⟩ := c2 BK259; have hfz46_0 := blk_frozen BK259.out 0; have hfz46_1 := blk_frozen BK259.out 1; have p37 : 0 ≤ (t263 : Int) := of_decide_eq_true (by first | (with_reducible assumption) | assumption); have q37 : (t263 : Int) < ((x260001_2.length : Int) : Int) := of_decide_eq_true (by first | (with_reducible assumption) | assumption); obtain ⟨go37, co37, eo37, gb37, gl37, cl37, HG37⟩ := Kd.R_form HO_260001.out (by omega); (first | cases eo37 | (injection eo37 with ea_ en_ ec_; (first | subst ea_ | (injection ea_ with ea_; subst ea_)); subst ec_; clear en_)); have GB37 := Aside0.mk gb37; have GG37 := Aside0.mk HG37; clear gb37 gl37 HG37; obtain ⟨hx37_0, hf37_0⟩ := Kd.R_celln 0 HO_260001.out (t263 : Int) p37 q37; replace p37 := eq_true p37; replace q37 := eq_true q37; obtain ⟨hy47_, hz47_⟩ := Kd.R_celln 0 HO_260001.out (t263 : Int) (of_decide_eq_true (by first | (with_reducible assumption) | assumption)) (of_decide_eq_true (by first | (with_reducible assumption) | assumption)); have HP47 := Kd.R_putg HO_260001.out (t263 : Int) ((rd_T52 t251 x30_2).f0)) | ((with_reducible refine gate_store (t := 3) (p := 52) rfl ?_); refine store_event (t := 3) (p := 52) (v := ?vo_w48) (w1 := (w42.setCell ⟨go37, (t263 : Int).toNat, none⟩ (.int .i64 ((rd_T52 t251 x30_2).f0)))) ?hg ?ho ?hn ?hr ?_; (case ho => rfl); (case hg => rfl); (case hn => rfl); (case hr => first | (go_simp; done) | (go_simp; rfl)); intro w48 hw; have hg : w42.grownBy w48 (some go37) := (by rw [hw]; exact HP47.2); have hp_ : Kd.R (Kd.int .i64) 3 w48 w.heap.size (fun _ => True) (.slice (some ⟨go37, 0, none⟩) x260001_2.length co37) y264 := (by rw [hw, Ny264.out]; exact HP47.1); clear HP47; have n0_ := Aside0.mk (Kd.R_over' (v := (.slice (some ⟨go37, 0, none⟩) x260001_2.length co37)) (mr HO_28) (Kd.R_typed HO_260001.out) (by decide) hg); have n1_ := Aside0.mk (hp_); have n2_ := Aside0.mk (blk_grown (g := gb250) (o := .cells #[.int .i64 x251000_2, .slice none 0 0] 26 (0, 0)) (mb BK250) hg (Kd.R_ne HO_260001.out BK250.out (by decide))); have n3_ := Aside0.mk (blk_grown (g := gb259) (o := .cells #[.int .i64 x260000_2, .slice (some ⟨go37, 0, none⟩) x260001_2.length co37] 26 (0, 0)) (mb BK259) hg (Kd.R_ne HO_260001.out BK259.out (by decide))); have n4_ := Aside0.mk (blk_grown (g := gb262) (o := .cells #[.int .i64 ((rd_T52 t251 x30_2).f0), .string ((rd_T52 t251 x30_2).f1)] 52 (0, 0)) (mb BK262) hg (Kd.R_ne HO_260001.out BK262.out (by decide))); have n5_ := Aside0.mk ((by rw [hw]; exact below_set (HB.out) GB37.out : Below w.heap.size w w48)); clear HO_28 HO_260001 BK250 BK259 BK262 HB; have HO_28 := n0_; have HO_260001 := n1_; have BK250 := n2_; have BK259 := n3_; have BK262 := n4_; have HB := n5_; clear n0_ n1_ n2_ n3_ n4_ n5_; clear hg hw hp_))
             go_roundg k2
             case measure => have := HJ3.out; have := HK2.out; omega
             case rel => exact ⟨(wrap64 (x30_2 + 1)), (x251000_2), (x260000_2), (y264), (.slice (some ⟨go37, 0, none⟩) x260001_2.length co37), (by first | rfl | (simp; done) | (simp [*]; done)), H', ⟨by have := HJ3.out; have := HK2.out; omega⟩, ⟨by (with_reducible repeat (first | apply Kd.R_alloc | apply Kd.R_drewN | apply Kd.R_drew)); exact Kd.R_mono HO_28.out (fun _ hk => trivial)⟩, ⟨by (with_reducible repeat (first | apply Kd.R_alloc | apply Kd.R_drewN | apply Kd.R_drew)); exact HO_260001.out⟩, ⟨mb BK250⟩, ⟨mb BK259⟩, ⟨ms HB⟩⟩
            ·rw [if_neg c36] at H
             exact absurd H (by simp)
           ·rw [if_neg c35] at H
            exact absurd H (by simp)
        ·rw [if_neg c19] at H
         exact absurd H (by simp)
       ·rw [if_neg c18] at H
        exact absurd H (by simp)
      ·rw [if_neg c17] at H
       have c17b0 : decide (x30_2 < (t251.length : Int)) = false := decide_eq_false c17
       clear c17
       by_cases c49 : a0.toList = ([] : List UInt8)
       ·rw [if_pos c49] at H
        have c49b0 : (a0.toList == ([] : List UInt8)) = true := beq_iff_eq.mpr c49
        have c49b1 : (a0.toList != ([] : List UInt8)) = false := bne_eq_false_iff_eq.mpr c49
        clear c49
        simp only [Option.some.injEq, Prod.mk.injEq] at H
        obtain ⟨rfl, rfl, rfl⟩ := H
        have hnb50 := NB250_259.out
        have hnc50 := NB259_250.out
        obtain ⟨hcz51_0, hcz51_1⟩ := c2 BK250
        have hfz51_0 := blk_frozen BK250.out 0
        have hfz51_1 := blk_frozen BK250.out 1
        go_wp2
        refine bodyPost_ret (results_ct rfl _ _ gb250 26 #[.int .i64 0, .slice none 0 0] (0, 0) _ rfl (by (with_reducible repeat (first | refine blk_drewN ?_ _ | refine blk_drew ?_ | refine blk_alloc ?_ _)); refine blk_put (cs := #[.int .i64 0, .slice none 0 0]) ?_ 1 _ rfl; (with_reducible repeat (first | refine blk_drewN ?_ _ | refine blk_drew ?_ | refine blk_alloc ?_ _)); refine blk_put (cs := #[.int .i64 x251000_2, .slice none 0 0]) ?_ 0 _ rfl; (with_reducible repeat (first | refine blk_drewN ?_ _ | refine blk_drew ?_ | refine blk_alloc ?_ _)); exact BK250.out) Tryz.underlying26 rfl (by kernel_rfl)) rfl ?_
        exact ⟨_, by first | rfl | (simp [errW_none, errW_some] <;> rfl) | (simp [*, errW_none, errW_some] <;> rfl), by first | exact Kd.R_nil _ _ _ _ _ | exact Kd.N_nil _ _ _ _ _ | exact Kd.V_nil _ _ _ _ _ | exact Kd.Q_nil _ _ _ _ _ | exact Kd.S_nil _ _ _ _ _, ms HB⟩
       ·rw [if_neg c49] at H
        have c49b0 : (a0.toList == ([] : List UInt8)) = false := beq_eq_false_iff_ne.mpr c49
        have c49b1 : (a0.toList != ([] : List UInt8)) = true := bne_iff_ne.mpr c49
        replace H := Option.bind_eq_some_iff.mp H
        obtain ⟨t260, A520, H⟩ := H
        replace H : (if t260.toList = a0.toList then (some (x260000_2, x260001_2, true)) else (some (0, ([] : List Int), false))) = some (r1, r2, r3) := H
        have A52 := Aside0.mk A520
        clear A520
        by_cases c53 : t260.toList = a0.toList
        ·rw [if_pos c53] at H
         have c53b0 : (t260.toList == a0.toList) = true := beq_iff_eq.mpr c53
         have c53b1 : (t260.toList != a0.toList) = false := bne_eq_false_iff_eq.mpr c53
         clear c53
         simp only [Option.some.injEq, Prod.mk.injEq] at H
         obtain ⟨rfl, rfl, rfl⟩ := H
         have hnb54 := NB259_250.out
         have hnc54 := NB250_259.out
         obtain ⟨hcz55_0, hcz55_1⟩ := c2 BK259
         have hfz55_0 := blk_frozen BK259.out 0
         have hfz55_1 := blk_frozen BK259.out 1
         obtain ⟨Ao56, co56, eo56⟩ := Kd.R_slice HO_260001.out
         subst eo56
         go_wp2_with (first | (go_at_call 19; (with_reducible refine (impl_FormatLin.calls k2 x260000_2 _ _ x260001_2 _ _ l1 t260 _ ?side1 ?side2 ?side3 ?side4 A52.out).mono ?_); (case side1 => exact mc ((Kd.R_reads' HO_260001.out).2.2)); (case side2 => exact (Kd.R_reads' HO_260001.out).2.1); (case side3 => exact mc ((Kd.C_below HR1.out HB.out))); (case side4 => exact HC1.out); rintro e w57 ⟨rfl, hb⟩; replace HO_28 := rb HO_28 hb; replace HO_260001 := rb HO_260001 hb; replace BK250 := bb BK250 hb; replace BK259 := bb BK259 hb; replace HB := bs HB hb; (try clear hb); obtain ⟨hcz58_0, hcz58_1⟩ := c2 BK259; have hfz58_0 := blk_frozen BK259.out 0; have hfz58_1 := blk_frozen BK259.out 1; obtain ⟨hcz59_0, hcz59_1⟩ := c2 BK250; have hfz59_0 := blk_frozen BK250.out 0; have hfz59_1 := blk_frozen BK250.out 1))
         refine bodyPost_ret (results_ct rfl _ _ gb250 26 #[.int .i64 x260000_2, .slice Ao56 x260001_2.length co56] (0, 0) _ rfl (by (with_reducible repeat (first | refine blk_drewN ?_ _ | refine blk_drew ?_ | refine blk_alloc ?_ _)); refine blk_put (cs := #[.int .i64 x260000_2, .slice none 0 0]) ?_ 1 _ rfl; (with_reducible repeat (first | refine blk_drewN ?_ _ | refine blk_drew ?_ | refine blk_alloc ?_ _)); refine blk_put (cs := #[.int .i64 x251000_2, .slice none 0 0]) ?_ 0 _ rfl; (with_reducible repeat (first | refine blk_drewN ?_ _ | refine blk_drew ?_ | refine blk_alloc ?_ _)); exact BK250.out) Tryz.underlying26 rfl (by kernel_rfl)) rfl ?_
         exact ⟨_, by first | rfl | (simp [errW_none, errW_some] <;> rfl) | (simp [*, errW_none, errW_some] <;> rfl), by (with_reducible repeat (first | apply Kd.R_alloc | apply Kd.R_drewN | apply Kd.R_drew)); exact Kd.R_mono (Kd.R_far (p := ⟨gb250, 1, none⟩) (Kd.R_far (p := ⟨gb250, 0, none⟩) (Kd.R_types HO_260001.out BK250.out (by decide)) (fun _ hk => hk.2) (.int .i64 x260000_2)) (fun _ hk => hk.2) (.slice Ao56 x260001_2.length co56)) (fun _ hk => trivial), ms HB⟩
        ·rw [if_neg c53] at H
         have c53b0 : (t260.toList == a0.toList) = false := beq_eq_false_iff_ne.mpr c53
         have c53b1 : (t260.toList != a0.toList) = true := bne_iff_ne.mpr c53
         simp only [Option.some.injEq, Prod.mk.injEq] at H
         obtain ⟨rfl, rfl, rfl⟩ := H
         have hnb60 := NB259_250.out
         have hnc60 := NB250_259.out
         obtain ⟨hcz61_0, hcz61_1⟩ := c2 BK259
         have hfz61_0 := blk_frozen BK259.out 0
         have hfz61_1 := blk_frozen BK259.out 1
         obtain ⟨Ao62, co62, eo62⟩ := Kd.R_slice HO_260001.out
         subst eo62
         go_wp2_with (first | (go_at_call 19; (with_reducible refine (impl_FormatLin.calls k2 x260000_2 _ _ x260001_2 _ _ l1 t260 _ ?side1 ?side2 ?side3 ?side4 A52.out).mono ?_); (case side1 => exact mc ((Kd.R_reads' HO_260001.out).2.2)); (case side2 => exact (Kd.R_reads' HO_260001.out).2.1); (case side3 => exact mc ((Kd.C_below HR1.out HB.out))); (case side4 => exact HC1.out); rintro e w63 ⟨rfl, hb⟩; replace HO_28 := rb HO_28 hb; replace HO_260001 := rb HO_260001 hb; replace BK250 := bb BK250 hb; replace BK259 := bb BK259 hb; replace HB := bs HB hb; (try clear hb); obtain ⟨hcz64_0, hcz64_1⟩ := c2 BK250; have hfz64_0 := blk_frozen BK250.out 0; have hfz64_1 := blk_frozen BK250.out 1))
         refine bodyPost_ret (results_ct rfl _ _ gb250 26 #[.int .i64 0, .slice none 0 0] (0, 0) _ rfl (by (with_reducible repeat (first | refine blk_drewN ?_ _ | refine blk_drew ?_ | refine blk_alloc ?_ _)); refine blk_put (cs := #[.int .i64 0, .slice none 0 0]) ?_ 1 _ rfl; (with_reducible repeat (first | refine blk_drewN ?_ _ | refine blk_drew ?_ | refine blk_alloc ?_ _)); refine blk_put (cs := #[.int .i64 x251000_2, .slice none 0 0]) ?_ 0 _ rfl; (with_reducible repeat (first | refine blk_drewN ?_ _ | refine blk_drew ?_ | refine blk_alloc ?_ _)); exact BK250.out) Tryz.underlying26 rfl (by kernel_rfl)) rfl ?_
         exact ⟨_, by first | rfl | (simp [errW_none, errW_some] <;> rfl) | (simp [*, errW_none, errW_some] <;> rfl), by first | exact Kd.R_nil _ _ _ _ _ | exact Kd.N_nil _ _ _ _ _ | exact Kd.V_nil _ _ _ _ _ | exact Kd.Q_nil _ _ _ _ _ | exact Kd.S_nil _ _ _ _ _, ms HB⟩

def strings_CutSuffix.f (a0 : ByteArray) (a1 : ByteArray) : Option (ByteArray × Bool) := if a0.size ≤ 9223372036854775807 then some (⟨(Lib.trimSuffix a0.data.toList a1.data.toList).toArray⟩, Lib.hasSuffix a0.data.toList a1.data.toList) else none
theorem strings_CutSuffix.calls (a0 : ByteArray) (a1 : ByteArray) (r1 : ByteArray) (r2 : Bool) (w : World) (h : strings_CutSuffix.f a0 a1 = some (r1, r2)) :
  Calls Tryz.prog 37 #[.string a0, .string a1] w fun e w' => e = .returned (.tuple #[.string r1, .bool r2]) ∧ Drawn0 w w' := by
 unfold strings_CutSuffix.f at h
 split at h
 ·rename_i hb
  have h' := Option.some.inj h
  simp only [Prod.mk.injEq] at h'
  obtain ⟨rfl, rfl⟩ := h'
  exact (Tryz.strings_CutSuffix a0 a1 w hb).mono fun e w' ⟨he, hw⟩ => ⟨he, hw ▸ Drawn0.refl _⟩
 ·cases h

/-! ### impl_ParseConstraint: function 16 -/
def impl_ParseConstraint.f (k : Nat) (a0 : ByteArray) (l1 : List ByteArray) : Option (Int × List Int × Bool) := (strings_CutSuffix.f a0 (⟨#[32, 62, 61, 32, 48]⟩ : ByteArray)).bind fun bt266 => (if bt266.2 = true then ((impl_ParseLin.f k bt266.1 l1).bind fun bt268 => (some (bt268.1, bt268.2.1, bt268.2.2))) else (some (0, ([] : List Int), false)))
theorem impl_ParseConstraint.mono : ∀ a0 a1 k, LeO (impl_ParseConstraint.f k a0 a1) (impl_ParseConstraint.f (k + 1) a0 a1) := by
 intro a0 a1 k
 unfold impl_ParseConstraint.f
 repeat' first
   | (with_reducible exact impl_ParseLin.mono _ _ _)
   | (with_reducible exact LeO.refl _)
   | (with_reducible exact LeO.none _)
   | (with_reducible refine LeO.ite ?_ ?_)
   | (with_reducible refine LeO.bind ?_ (fun _ => ?_))
   | exact impl_ParseLin.mono _ _ _
   | exact LeO.none _
   | refine LeO.ite ?_ ?_
   | refine LeO.bind ?_ (fun _ => ?_)
set_option maxHeartbeats 8000000 in
set_option maxRecDepth 100000 in
theorem impl_ParseConstraint.calls (k : Nat) (a0 : ByteArray) (A1 : Option Addr) (c1 : Nat) (l1 : List ByteArray) (r1 : Int) (r2 : List Int) (r3 : Bool) (w : World) (hr1 : Kd.C Kd.string w A1 l1.length l1) (hc1 : l1.length ≤ c1) (h : impl_ParseConstraint.f k a0 l1 = some (r1, r2, r3)) (hTb_ : TbL w := by first | assumption | ((with_reducible repeat (first | apply tb_alloc | apply tb_drewN | apply tb_drew)); first | assumption | exact tb_of (by assumption) (by assumption))) :
  Calls Tryz.prog 16 #[.string a0, .slice A1 l1.length c1] w fun e w' => ∃ v1_ : Value, e = .returned (.tuple #[.agg #[.int .i64 r1, v1_], .bool r3]) ∧ Kd.R (Kd.int .i64) 3 w' w.heap.size (fun _ => True) v1_ r2 ∧ Below w.heap.size w w' := by
 have hu26 := Tryz.underlying26
 have HR1 := Aside0.mk hr1
 have HC1 := Aside0.mk hc1
 clear hr1 hc1
 have HB := Aside0.mk (Below.refl w.heap.size w)
 have H : ((strings_CutSuffix.f a0 (⟨#[32, 62, 61, 32, 48]⟩ : ByteArray)).bind fun bt266 => (if bt266.2 = true then ((impl_ParseLin.f k bt266.1 l1).bind fun bt268 => (some (bt268.1, bt268.2.1, bt268.2.2))) else (some (0, ([] : List Int), false)))) = some (r1, r2, r3) := h
 clear h
 replace H := Option.bind_eq_some_iff.mp H
 obtain ⟨⟨t266, t267⟩, A30, H⟩ := H
 replace H : (if t267 = true then ((impl_ParseLin.f k t266 l1).bind fun bt268 => (some (bt268.1, bt268.2.1, bt268.2.2))) else (some (0, ([] : List Int), false))) = some (r1, r2, r3) := H
 have A3 := Aside0.mk A30
 clear A30
 by_cases c4 : t267 = true
 ·subst c4
  have H1 : ((impl_ParseLin.f k t266 l1).bind fun bt268 => (some (bt268.1, bt268.2.1, bt268.2.2))) = some (r1, r2, r3) := by rw [if_pos rfl] at H; exact H
  clear H
  have H := H1
  clear H1
  replace H := Option.bind_eq_some_iff.mp H
  obtain ⟨⟨t268, t269, t272⟩, A50, H⟩ := H
  replace H : (some (t268, t269, t272)) = some (r1, r2, r3) := H
  have A5 := Aside0.mk A50
  clear A50
  simp only [Option.some.injEq, Prod.mk.injEq] at H
  obtain ⟨rfl, rfl, rfl⟩ := H
  go_enter Tryz.func16, Tryz.ntmps16
  go_wp2_with (first | ((with_reducible refine gate_dst (N := 4) rfl ?_); refine box_event ?hg (N := 4) ?hd (cs := #[.int .i64 0, .slice none 0 0]) (t := 26) ?hr ?_; (case hd => rfl); (case hg => rfl); (case hr => first | (go_simp; done) | (go_simp; rfl)); intro gb265 hg w6 hbox hb; have BK265 := Aside0.mk (hbox); have GW265 := gw hg HB; have GE265 := gw hg HB; replace HB := bs HB hb; clear hb hbox hg) | ((with_reducible refine gate_callee (f := 37) rfl ?_); refine gl (some 10) rfl rfl Tryz.func37 (by kernel_rfl) rfl #[.string a0, .string (⟨#[32, 62, 61, 32, 48]⟩ : ByteArray)] rfl ?_; (with_reducible refine (strings_CutSuffix.calls a0 (⟨#[32, 62, 61, 32, 48]⟩ : ByteArray) t266 true _ A3.out).mono ?_); rintro e w' ⟨rfl, ⟨nd, rfl⟩⟩; refine ⟨_, rfl, ?_⟩; (try (rw [drewN_self w6]; generalize hq_ : World.drewN w6 _ = w6; have n0_ : Aside0 (w6.heap[gb265]? = some (.cells #[.int .i64 0, .slice none 0 0] 26 (0, 0))) := ⟨by rw [← hq_]; exact (mb BK265)⟩; have n1_ : Aside0 (Below w.heap.size w w6) := ⟨by rw [← hq_]; exact (ms HB)⟩; clear BK265 HB hq_; have BK265 := n0_; have HB := n1_; clear n0_ n1_))) | ((with_reducible refine gate_callee (f := 9) rfl ?_); refine gl (some 18) rfl rfl Tryz.func9 (by kernel_rfl) rfl #[.string t266, .slice A1 l1.length c1] rfl ?_; (with_reducible refine (impl_ParseLin.calls k t266 _ _ l1 t268 t269 t272 _ ?side1 ?side2 A5.out).mono ?_); (case side1 => exact mc ((Kd.C_below HR1.out HB.out))); (case side2 => exact HC1.out); rintro e w7 ⟨v270, rfl, ho0, hb⟩; refine ⟨_, rfl, ?_⟩; have HO271 := Aside0.mk (Kd.R_lower ho0 (below_size (ms HB))); replace BK265 := bb BK265 hb; replace HB := bs HB hb; (try clear hb); (try clear ho0); obtain ⟨hcz8_0, hcz8_1⟩ := c2 BK265; have hfz8_0 := blk_frozen BK265.out 0; have hfz8_1 := blk_frozen BK265.out 1; obtain ⟨Ao9, co9, eo9⟩ := Kd.R_slice HO271.out; subst eo9))
  refine bodyPost_ret (results_ct rfl _ _ gb265 26 #[.int .i64 t268, .slice Ao9 t269.length co9] (0, 0) _ rfl (by (with_reducible repeat (first | refine blk_drewN ?_ _ | refine blk_drew ?_ | refine blk_alloc ?_ _)); refine blk_put (cs := #[.int .i64 t268, .slice none 0 0]) ?_ 1 _ rfl; (with_reducible repeat (first | refine blk_drewN ?_ _ | refine blk_drew ?_ | refine blk_alloc ?_ _)); refine blk_put (cs := #[.int .i64 0, .slice none 0 0]) ?_ 0 _ rfl; (with_reducible repeat (first | refine blk_drewN ?_ _ | refine blk_drew ?_ | refine blk_alloc ?_ _)); exact BK265.out) Tryz.underlying26 rfl (by kernel_rfl)) rfl ?_
  exact ⟨_, by first | rfl | (simp [errW_none, errW_some] <;> rfl) | (simp [*, errW_none, errW_some] <;> rfl), by (with_reducible repeat (first | apply Kd.R_alloc | apply Kd.R_drewN | apply Kd.R_drew)); exact Kd.R_mono (Kd.R_far (p := ⟨gb265, 1, none⟩) (Kd.R_far (p := ⟨gb265, 0, none⟩) (Kd.R_types HO271.out BK265.out (by decide)) (fun _ hk => hk.2) (.int .i64 t268)) (fun _ hk => hk.2) (.slice Ao9 t269.length co9)) (fun _ hk => trivial), ms HB⟩
 ·replace c4 := Bool.eq_false_iff.mpr c4
  subst c4
  have H1 : (some (0, ([] : List Int), false)) = some (r1, r2, r3) := by rw [if_neg (show ¬ (false = true) by decide)] at H; exact H
  clear H
  have H := H1
  clear H1
  simp only [Option.some.injEq, Prod.mk.injEq] at H
  obtain ⟨rfl, rfl, rfl⟩ := H
  go_enter Tryz.func16, Tryz.ntmps16
  go_wp2_with (first | ((with_reducible refine gate_dst (N := 4) rfl ?_); refine box_event ?hg (N := 4) ?hd (cs := #[.int .i64 0, .slice none 0 0]) (t := 26) ?hr ?_; (case hd => rfl); (case hg => rfl); (case hr => first | (go_simp; done) | (go_simp; rfl)); intro gb265 hg w10 hbox hb; have BK265 := Aside0.mk (hbox); have GW265 := gw hg HB; have GE265 := gw hg HB; replace HB := bs HB hb; clear hb hbox hg) | ((with_reducible refine gate_callee (f := 37) rfl ?_); refine gl (some 10) rfl rfl Tryz.func37 (by kernel_rfl) rfl #[.string a0, .string (⟨#[32, 62, 61, 32, 48]⟩ : ByteArray)] rfl ?_; (with_reducible refine (strings_CutSuffix.calls a0 (⟨#[32, 62, 61, 32, 48]⟩ : ByteArray) t266 false _ A3.out).mono ?_); rintro e w' ⟨rfl, ⟨nd, rfl⟩⟩; refine ⟨_, rfl, ?_⟩; (try (rw [drewN_self w10]; generalize hq_ : World.drewN w10 _ = w10; have n0_ : Aside0 (w10.heap[gb265]? = some (.cells #[.int .i64 0, .slice none 0 0] 26 (0, 0))) := ⟨by rw [← hq_]; exact (mb BK265)⟩; have n1_ : Aside0 (Below w.heap.size w w10) := ⟨by rw [← hq_]; exact (ms HB)⟩; clear BK265 HB hq_; have BK265 := n0_; have HB := n1_; clear n0_ n1_)); obtain ⟨hcz11_0, hcz11_1⟩ := c2 BK265; have hfz11_0 := blk_frozen BK265.out 0; have hfz11_1 := blk_frozen BK265.out 1))
  refine bodyPost_ret (results_ct rfl _ _ gb265 26 #[.int .i64 0, .slice none 0 0] (0, 0) _ rfl (by (with_reducible repeat (first | refine blk_drewN ?_ _ | refine blk_drew ?_ | refine blk_alloc ?_ _)); refine blk_put (cs := #[.int .i64 0, .slice none 0 0]) ?_ 1 _ rfl; (with_reducible repeat (first | refine blk_drewN ?_ _ | refine blk_drew ?_ | refine blk_alloc ?_ _)); refine blk_put (cs := #[.int .i64 0, .slice none 0 0]) ?_ 0 _ rfl; (with_reducible repeat (first | refine blk_drewN ?_ _ | refine blk_drew ?_ | refine blk_alloc ?_ _)); exact BK265.out) Tryz.underlying26 rfl (by kernel_rfl)) rfl ?_
  exact ⟨_, by first | rfl | (simp [errW_none, errW_some] <;> rfl) | (simp [*, errW_none, errW_some] <;> rfl), by first | exact Kd.R_nil _ _ _ _ _ | exact Kd.N_nil _ _ _ _ _ | exact Kd.V_nil _ _ _ _ _ | exact Kd.Q_nil _ _ _ _ _ | exact Kd.S_nil _ _ _ _ _, ms HB⟩

end Go.Proofs.YtmdjhmggogfbdaaGreatDoor.QFnExactParseConstraint
