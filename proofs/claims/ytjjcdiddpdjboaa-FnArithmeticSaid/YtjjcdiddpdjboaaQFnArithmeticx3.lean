-- Made by a program of this claim's own (wip/print): not the kit's print as it stands.
import Derived.Test.YtjjcdiddpdjboaaQFnArithmeticx0
import Derived.Test.YtjjcdiddpdjboaaQFnArithmeticx1
import Derived.Test.YtjjcdiddpdjboaaQFnArithmeticx2
namespace Go.Proofs.Ytjjcdiddpdjboaa.QFnArithmetic
open Go.RowKit Go.Proofs.YtjjcdiddpdjboaaV.PrintWords Go.Proofs.YtjjcdiddpdjboaaV.PrintLast Go.Proofs.YtjjcdiddpdjboaaV.PrintMore
attribute [local go_sem] max2_int min2_int max_two min_two max_three min_three max_four min_four   -- for this text's walks alone
set_option linter.unusedVariables false
set_option linter.unusedSimpArgs false

/-! ### laws_FnArithmetic: function 14 -/
mutual
def laws_FnArithmetic.j0 : Nat → Int → Int → Bool → Option (Bool)
  | 0, _, _, _ => none
  | k + 1, x3, x4, x70 => if x70 = true then (some false) else ((impl_Gcd.f k x3 x4).bind fun t177 => ((spec_Gcd.f k x3 x4).bind fun t178 => (if t177 = t178 then (if t177 > 0 then (if t177 = 0 then (none) else (if (Int.tmod x3 t177) = 0 then (laws_FnArithmetic.j1 k x3 x4 ((Int.tmod x4 t177) != 0)) else (laws_FnArithmetic.j1 k x3 x4 true))) else (laws_FnArithmetic.j1 k x3 x4 false)) else (laws_FnArithmetic.j1 k x3 x4 true))))
def laws_FnArithmetic.j1 : Nat → Int → Int → Bool → Option (Bool)
  | 0, _, _, _ => none
  | k + 1, x3, x4, x94 => if x94 = true then (some false) else ((impl_FloorDiv.f x3 x4).bind fun t179 => ((spec_FloorDiv.f x3 x4).bind fun t180 => (if t179 = t180 then (if x4 ≤ 0 then (if t179 = 0 then (some true) else (if x4 > 0 then (if (wrap64 (x3 - (wrap64 (t179 * x4)))) ≥ 0 then (some (decide ((wrap64 (x3 - (wrap64 (t179 * x4)))) < x4))) else (some false)) else (some false))) else (if x4 > 0 then (if (wrap64 (x3 - (wrap64 (t179 * x4)))) ≥ 0 then (some (decide ((wrap64 (x3 - (wrap64 (t179 * x4)))) < x4))) else (some false)) else (some false))) else (some false))))
end
def laws_FnArithmetic.f (k : Nat) (l0 : List Int) : Option (Bool) := (laws_big.f l0).bind fun t164 => (if t164 = true then (some true) else ((spec_DrawAddLimited.f k l0).bind fun bt165 => ((impl_AddLimited.f bt165.1 bt165.2).bind fun bt167 => ((impl_MulLimited.f bt165.1 bt165.2).bind fun bt169 => ((spec_AddLimited.f bt165.1 bt165.2).bind fun bt171 => ((spec_MulLimited.f bt165.1 bt165.2).bind fun bt173 => (if bt167.1 = bt171.1 then (if bt169.1 = bt173.1 then (if (bt167.2 != bt171.2) = true then (laws_FnArithmetic.j0 k bt165.1 bt165.2 true) else (if (bt169.2 != bt173.2) = true then (laws_FnArithmetic.j0 k bt165.1 bt165.2 true) else ((impl_Fits.f bt165.1).bind fun t175 => ((spec_Fits.f bt165.1).bind fun t176 => (laws_FnArithmetic.j0 k bt165.1 bt165.2 (t175 != t176)))))) else (laws_FnArithmetic.j0 k bt165.1 bt165.2 true)) else (laws_FnArithmetic.j0 k bt165.1 bt165.2 true))))))))
theorem laws_FnArithmetic.mono_l : ∀ k, (∀ y0 y1 y2, LeO (laws_FnArithmetic.j0 k y0 y1 y2) (laws_FnArithmetic.j0 (k + 1) y0 y1 y2)) ∧ (∀ y0 y1 y2, LeO (laws_FnArithmetic.j1 k y0 y1 y2) (laws_FnArithmetic.j1 (k + 1) y0 y1 y2))
  | 0 => ⟨fun _ _ _ r h => by simp [laws_FnArithmetic.j0] at h, fun _ _ _ r h => by simp [laws_FnArithmetic.j1] at h⟩
  | k + 1 => by
    obtain ⟨ih0, ih1⟩ := laws_FnArithmetic.mono_l k
    refine ⟨?_, ?_⟩
    · intro y0 y1 y2
      unfold laws_FnArithmetic.j0
      repeat' first
      | (with_reducible exact ih0 _ _ _)
      | (with_reducible exact ih1 _ _ _)
      | (with_reducible exact impl_Gcd.mono _ _ _)
      | (with_reducible exact spec_DrawAddLimited.mono _ _)
      | (with_reducible exact spec_Gcd.mono _ _ _)
      | (with_reducible exact LeO.refl _)
      | (with_reducible exact LeO.none _)
      | (with_reducible refine LeO.ite ?_ ?_)
      | (with_reducible refine LeO.bind ?_ (fun _ => ?_))
      | exact ih0 _ _ _
      | exact ih1 _ _ _
      | exact impl_Gcd.mono _ _ _
      | exact spec_DrawAddLimited.mono _ _
      | exact spec_Gcd.mono _ _ _
      | exact LeO.none _
      | refine LeO.ite ?_ ?_
      | refine LeO.bind ?_ (fun _ => ?_)
    · intro y0 y1 y2
      unfold laws_FnArithmetic.j1
      repeat' first
      | (with_reducible exact ih0 _ _ _)
      | (with_reducible exact ih1 _ _ _)
      | (with_reducible exact impl_Gcd.mono _ _ _)
      | (with_reducible exact spec_DrawAddLimited.mono _ _)
      | (with_reducible exact spec_Gcd.mono _ _ _)
      | (with_reducible exact LeO.refl _)
      | (with_reducible exact LeO.none _)
      | (with_reducible refine LeO.ite ?_ ?_)
      | (with_reducible refine LeO.bind ?_ (fun _ => ?_))
      | exact ih0 _ _ _
      | exact ih1 _ _ _
      | exact impl_Gcd.mono _ _ _
      | exact spec_DrawAddLimited.mono _ _
      | exact spec_Gcd.mono _ _ _
      | exact LeO.none _
      | refine LeO.ite ?_ ?_
      | refine LeO.bind ?_ (fun _ => ?_)
theorem laws_FnArithmetic.mono : ∀ a0 k, LeO (laws_FnArithmetic.f k a0) (laws_FnArithmetic.f (k + 1) a0) := by
  intro a0 k
  obtain ⟨ih0, ih1⟩ := laws_FnArithmetic.mono_l k
  unfold laws_FnArithmetic.f
  repeat' first
      | (with_reducible exact ih0 _ _ _)
      | (with_reducible exact ih1 _ _ _)
      | (with_reducible exact impl_Gcd.mono _ _ _)
      | (with_reducible exact spec_DrawAddLimited.mono _ _)
      | (with_reducible exact spec_Gcd.mono _ _ _)
      | (with_reducible exact LeO.refl _)
      | (with_reducible exact LeO.none _)
      | (with_reducible refine LeO.ite ?_ ?_)
      | (with_reducible refine LeO.bind ?_ (fun _ => ?_))
      | exact ih0 _ _ _
      | exact ih1 _ _ _
      | exact impl_Gcd.mono _ _ _
      | exact spec_DrawAddLimited.mono _ _
      | exact spec_Gcd.mono _ _ _
      | exact LeO.none _
      | refine LeO.ite ?_ ?_
      | refine LeO.bind ?_ (fun _ => ?_)
set_option maxHeartbeats 8000000 in
set_option maxRecDepth 100000 in
theorem laws_FnArithmetic.calls (k : Nat) (A0 : Option Addr) (c0 : Nat) (l0 : List Int) (r : Bool) (w : World) (hr0 : Kd.C (Kd.int .u8) w A0 l0.length l0) (hc0 : l0.length ≤ c0) (h : laws_FnArithmetic.f k l0 = some r) :
    Calls Try.prog 14 #[.slice A0 l0.length c0] w fun e w' => e = .returned (.bool r) ∧ Below w.heap.size w w' := by
  have HR0 := Aside0.mk hr0
  have HC0 := Aside0.mk hc0
  clear hr0 hc0
  have HB := Aside0.mk (Below.refl w.heap.size w)
  have H : ((laws_big.f l0).bind fun t164 => (if t164 = true then (some true) else ((spec_DrawAddLimited.f k l0).bind fun bt165 => ((impl_AddLimited.f bt165.1 bt165.2).bind fun bt167 => ((impl_MulLimited.f bt165.1 bt165.2).bind fun bt169 => ((spec_AddLimited.f bt165.1 bt165.2).bind fun bt171 => ((spec_MulLimited.f bt165.1 bt165.2).bind fun bt173 => (if bt167.1 = bt171.1 then (if bt169.1 = bt173.1 then (if (bt167.2 != bt171.2) = true then (laws_FnArithmetic.j0 k bt165.1 bt165.2 true) else (if (bt169.2 != bt173.2) = true then (laws_FnArithmetic.j0 k bt165.1 bt165.2 true) else ((impl_Fits.f bt165.1).bind fun t175 => ((spec_Fits.f bt165.1).bind fun t176 => (laws_FnArithmetic.j0 k bt165.1 bt165.2 (t175 != t176)))))) else (laws_FnArithmetic.j0 k bt165.1 bt165.2 true)) else (laws_FnArithmetic.j0 k bt165.1 bt165.2 true))))))))) = some r := h
  clear h
  replace H := Option.bind_eq_some_iff.mp H
  obtain ⟨t164, A20, H⟩ := H
  replace H : (if t164 = true then (some true) else ((spec_DrawAddLimited.f k l0).bind fun bt165 => ((impl_AddLimited.f bt165.1 bt165.2).bind fun bt167 => ((impl_MulLimited.f bt165.1 bt165.2).bind fun bt169 => ((spec_AddLimited.f bt165.1 bt165.2).bind fun bt171 => ((spec_MulLimited.f bt165.1 bt165.2).bind fun bt173 => (if bt167.1 = bt171.1 then (if bt169.1 = bt173.1 then (if (bt167.2 != bt171.2) = true then (laws_FnArithmetic.j0 k bt165.1 bt165.2 true) else (if (bt169.2 != bt173.2) = true then (laws_FnArithmetic.j0 k bt165.1 bt165.2 true) else ((impl_Fits.f bt165.1).bind fun t175 => ((spec_Fits.f bt165.1).bind fun t176 => (laws_FnArithmetic.j0 k bt165.1 bt165.2 (t175 != t176)))))) else (laws_FnArithmetic.j0 k bt165.1 bt165.2 true)) else (laws_FnArithmetic.j0 k bt165.1 bt165.2 true)))))))) = some r := H
  have A2 := Aside0.mk A20
  clear A20
  by_cases c3 : t164 = true
  · subst c3
    have H1 : (some true) = some r := by rw [if_pos rfl] at H; exact H
    clear H
    have H := H1
    clear H1
    obtain rfl := Option.some.inj H
    go_enter Try.func14, Try.ntmps14
    go_wp2_with (first | ((with_reducible refine gate_callee (f := 25) rfl ?_); refine goesL_ (some 16) rfl rfl Try.func25 (by kernel_rfl) rfl #[.slice A0 l0.length c0] rfl (by (try simp only [List.map_toArray, List.map_cons, List.map_nil]); first | done | rfl | (simp only [List.length_drop, List.length_take]; rfl)) ?_; (with_reducible refine (laws_big.calls _ _ l0 true _ ?side1 ?side2 A2.out).mono ?_); (case side1 => repeat (first | exact HR0.out | (with_reducible refine Kd.C_alloc ?_ _) | (with_reducible refine Kd.C_drewN ?_ _) | (with_reducible refine Kd.C_drew ?_))); (case side2 => exact HC0.out); rintro e w' ⟨rfl, ⟨nd, rfl⟩⟩; refine ⟨_, rfl, ?_⟩))
    go_ret
    exact ⟨by first | rfl | (simp [errW_none, errW_some] <;> rfl) | (simp [*, errW_none, errW_some] <;> rfl), by repeat (first | (with_reducible first | exact HB.out | apply below_alloc | apply pw_below_drewN | apply below_drew1) | exact HB.out)⟩
  · replace c3 := Bool.eq_false_iff.mpr c3
    subst c3
    have H1 : ((spec_DrawAddLimited.f k l0).bind fun bt165 => ((impl_AddLimited.f bt165.1 bt165.2).bind fun bt167 => ((impl_MulLimited.f bt165.1 bt165.2).bind fun bt169 => ((spec_AddLimited.f bt165.1 bt165.2).bind fun bt171 => ((spec_MulLimited.f bt165.1 bt165.2).bind fun bt173 => (if bt167.1 = bt171.1 then (if bt169.1 = bt173.1 then (if (bt167.2 != bt171.2) = true then (laws_FnArithmetic.j0 k bt165.1 bt165.2 true) else (if (bt169.2 != bt173.2) = true then (laws_FnArithmetic.j0 k bt165.1 bt165.2 true) else ((impl_Fits.f bt165.1).bind fun t175 => ((spec_Fits.f bt165.1).bind fun t176 => (laws_FnArithmetic.j0 k bt165.1 bt165.2 (t175 != t176)))))) else (laws_FnArithmetic.j0 k bt165.1 bt165.2 true)) else (laws_FnArithmetic.j0 k bt165.1 bt165.2 true))))))) = some r := by rw [if_neg (show ¬ (false = true) by decide)] at H; exact H
    clear H
    have H := H1
    clear H1
    replace H := Option.bind_eq_some_iff.mp H
    obtain ⟨⟨t165, t166⟩, A40, H⟩ := H
    replace H : ((impl_AddLimited.f t165 t166).bind fun bt167 => ((impl_MulLimited.f t165 t166).bind fun bt169 => ((spec_AddLimited.f t165 t166).bind fun bt171 => ((spec_MulLimited.f t165 t166).bind fun bt173 => (if bt167.1 = bt171.1 then (if bt169.1 = bt173.1 then (if (bt167.2 != bt171.2) = true then (laws_FnArithmetic.j0 k t165 t166 true) else (if (bt169.2 != bt173.2) = true then (laws_FnArithmetic.j0 k t165 t166 true) else ((impl_Fits.f t165).bind fun t175 => ((spec_Fits.f t165).bind fun t176 => (laws_FnArithmetic.j0 k t165 t166 (t175 != t176)))))) else (laws_FnArithmetic.j0 k t165 t166 true)) else (laws_FnArithmetic.j0 k t165 t166 true)))))) = some r := H
    have A4 := Aside0.mk A40
    clear A40
    replace H := Option.bind_eq_some_iff.mp H
    obtain ⟨⟨t167, t168⟩, A50, H⟩ := H
    replace H : ((impl_MulLimited.f t165 t166).bind fun bt169 => ((spec_AddLimited.f t165 t166).bind fun bt171 => ((spec_MulLimited.f t165 t166).bind fun bt173 => (if t167 = bt171.1 then (if bt169.1 = bt173.1 then (if (t168 != bt171.2) = true then (laws_FnArithmetic.j0 k t165 t166 true) else (if (bt169.2 != bt173.2) = true then (laws_FnArithmetic.j0 k t165 t166 true) else ((impl_Fits.f t165).bind fun t175 => ((spec_Fits.f t165).bind fun t176 => (laws_FnArithmetic.j0 k t165 t166 (t175 != t176)))))) else (laws_FnArithmetic.j0 k t165 t166 true)) else (laws_FnArithmetic.j0 k t165 t166 true))))) = some r := H
    have A5 := Aside0.mk A50
    clear A50
    replace H := Option.bind_eq_some_iff.mp H
    obtain ⟨⟨t169, t170⟩, A60, H⟩ := H
    replace H : ((spec_AddLimited.f t165 t166).bind fun bt171 => ((spec_MulLimited.f t165 t166).bind fun bt173 => (if t167 = bt171.1 then (if t169 = bt173.1 then (if (t168 != bt171.2) = true then (laws_FnArithmetic.j0 k t165 t166 true) else (if (t170 != bt173.2) = true then (laws_FnArithmetic.j0 k t165 t166 true) else ((impl_Fits.f t165).bind fun t175 => ((spec_Fits.f t165).bind fun t176 => (laws_FnArithmetic.j0 k t165 t166 (t175 != t176)))))) else (laws_FnArithmetic.j0 k t165 t166 true)) else (laws_FnArithmetic.j0 k t165 t166 true)))) = some r := H
    have A6 := Aside0.mk A60
    clear A60
    replace H := Option.bind_eq_some_iff.mp H
    obtain ⟨⟨t171, t172⟩, A70, H⟩ := H
    replace H : ((spec_MulLimited.f t165 t166).bind fun bt173 => (if t167 = t171 then (if t169 = bt173.1 then (if (t168 != t172) = true then (laws_FnArithmetic.j0 k t165 t166 true) else (if (t170 != bt173.2) = true then (laws_FnArithmetic.j0 k t165 t166 true) else ((impl_Fits.f t165).bind fun t175 => ((spec_Fits.f t165).bind fun t176 => (laws_FnArithmetic.j0 k t165 t166 (t175 != t176)))))) else (laws_FnArithmetic.j0 k t165 t166 true)) else (laws_FnArithmetic.j0 k t165 t166 true))) = some r := H
    have A7 := Aside0.mk A70
    clear A70
    replace H := Option.bind_eq_some_iff.mp H
    obtain ⟨⟨t173, t174⟩, A80, H⟩ := H
    replace H : (if t167 = t171 then (if t169 = t173 then (if (t168 != t172) = true then (laws_FnArithmetic.j0 k t165 t166 true) else (if (t170 != t174) = true then (laws_FnArithmetic.j0 k t165 t166 true) else ((impl_Fits.f t165).bind fun t175 => ((spec_Fits.f t165).bind fun t176 => (laws_FnArithmetic.j0 k t165 t166 (t175 != t176)))))) else (laws_FnArithmetic.j0 k t165 t166 true)) else (laws_FnArithmetic.j0 k t165 t166 true)) = some r := H
    have A8 := Aside0.mk A80
    clear A80
    have HC9 := Aside0.mk H
    clear H
    go_enter Try.func14, Try.ntmps14
    go_upto_region 8 with (first | ((with_reducible refine gate_callee (f := 25) rfl ?_); refine goesL_ (some 16) rfl rfl Try.func25 (by kernel_rfl) rfl #[.slice A0 l0.length c0] rfl (by (try simp only [List.map_toArray, List.map_cons, List.map_nil]); first | done | rfl | (simp only [List.length_drop, List.length_take]; rfl)) ?_; (with_reducible refine (laws_big.calls _ _ l0 false _ ?side1 ?side2 A2.out).mono ?_); (case side1 => repeat (first | exact HR0.out | (with_reducible refine Kd.C_alloc ?_ _) | (with_reducible refine Kd.C_drewN ?_ _) | (with_reducible refine Kd.C_drew ?_))); (case side2 => exact HC0.out); rintro e w' ⟨rfl, ⟨nd, rfl⟩⟩; refine ⟨_, rfl, ?_⟩) | ((with_reducible refine gate_callee (f := 61) rfl ?_); refine goesL_ (some 19) rfl rfl Try.func61 (by kernel_rfl) rfl #[.slice A0 l0.length c0] rfl (by (try simp only [List.map_toArray, List.map_cons, List.map_nil]); first | done | rfl | (simp only [List.length_drop, List.length_take]; rfl)) ?_; (with_reducible refine (spec_DrawAddLimited.calls k _ _ l0 t165 t166 _ ?side1 ?side2 A4.out).mono ?_); (case side1 => repeat (first | exact HR0.out | (with_reducible refine Kd.C_alloc ?_ _) | (with_reducible refine Kd.C_drewN ?_ _) | (with_reducible refine Kd.C_drew ?_))); (case side2 => exact HC0.out); rintro e w10 ⟨rfl, hb⟩; refine ⟨_, rfl, ?_⟩; have n0_ := Aside0.mk (below_step (by repeat (first | (with_reducible first | exact HB.out | apply below_alloc | apply pw_below_drewN | apply below_drew1) | exact HB.out)) hb); clear HB; have HB := n0_; clear n0_; (try clear hb); (try clear hb2); (try clear hk); (try clear hi)) | ((with_reducible refine gate_callee (f := 62) rfl ?_); refine goesL_ (some 25) rfl rfl Try.func62 (by kernel_rfl) rfl #[.int .i64 t165, .int .i64 t166] rfl (by (try simp only [List.map_toArray, List.map_cons, List.map_nil]); first | done | rfl | (simp only [List.length_drop, List.length_take]; rfl)) ?_; (with_reducible refine (impl_AddLimited.calls t165 t166 t167 t168 _ A5.out).mono ?_); rintro e w' ⟨rfl, ⟨nd, rfl⟩⟩; refine ⟨_, rfl, ?_⟩) | ((with_reducible refine gate_callee (f := 63) rfl ?_); refine goesL_ (some 31) rfl rfl Try.func63 (by kernel_rfl) rfl #[.int .i64 t165, .int .i64 t166] rfl (by (try simp only [List.map_toArray, List.map_cons, List.map_nil]); first | done | rfl | (simp only [List.length_drop, List.length_take]; rfl)) ?_; (with_reducible refine (impl_MulLimited.calls t165 t166 t169 t170 _ A6.out).mono ?_); rintro e w' ⟨rfl, ⟨nd, rfl⟩⟩; refine ⟨_, rfl, ?_⟩) | ((with_reducible refine gate_callee (f := 64) rfl ?_); refine goesL_ (some 37) rfl rfl Try.func64 (by kernel_rfl) rfl #[.int .i64 t165, .int .i64 t166] rfl (by (try simp only [List.map_toArray, List.map_cons, List.map_nil]); first | done | rfl | (simp only [List.length_drop, List.length_take]; rfl)) ?_; (with_reducible refine (spec_AddLimited.calls t165 t166 t171 t172 _ A7.out).mono ?_); rintro e w' ⟨rfl, ⟨nd, rfl⟩⟩; refine ⟨_, rfl, ?_⟩) | ((with_reducible refine gate_callee (f := 65) rfl ?_); refine goesL_ (some 43) rfl rfl Try.func65 (by kernel_rfl) rfl #[.int .i64 t165, .int .i64 t166] rfl (by (try simp only [List.map_toArray, List.map_cons, List.map_nil]); first | done | rfl | (simp only [List.length_drop, List.length_take]; rfl)) ?_; (with_reducible refine (spec_MulLimited.calls t165 t166 t173 t174 _ A8.out).mono ?_); rintro e w' ⟨rfl, ⟨nd, rfl⟩⟩; refine ⟨_, rfl, ?_⟩))
    (try simp only [Act.put, List.setIfInBounds_toArray, List.set_cons_zero, List.set_cons_succ])
    go_cut [70] (fun v70 wc => ∃ (kq : Nat) (x70_8 : Bool), v70 = .bool x70_8 ∧ Aside0 (laws_FnArithmetic.j0 kq t165 t166 x70_8 = some r) ∧ Aside0 (kq ≤ k) ∧ Aside0 (Below w.heap.size w wc))
    case first =>
      have H := HC9.out
      clear HC9
      by_cases c11 : t167 = t171
      · rw [if_pos c11] at H
        have c11b0 : (t167 == t171) = true := beq_iff_eq.mpr c11
        have c11b1 : (t167 != t171) = false := bne_eq_false_iff_eq.mpr c11
        clear c11
        (first | rw [c11b0] | (simp only [i64_w, i32_w]; rw [c11b0]) | skip)
        by_cases c12 : t169 = t173
        · rw [if_pos c12] at H
          have c12b0 : (t169 == t173) = true := beq_iff_eq.mpr c12
          have c12b1 : (t169 != t173) = false := bne_eq_false_iff_eq.mpr c12
          clear c12
          by_cases c13 : (t168 != t172) = true
          · rw [if_pos c13] at H
            have c13b0 : (t168 != t172) = true := c13
            (try (have c13b1 : decide (t168 = t172) = false := by simpa using c13))
            (try (have c13b2 : (t168 == t172) = false := by simpa using c13))
            (try (have c13b3 : ¬ (t168 = t172) := by simpa using c13))
            clear c13
            have H' := Aside0.mk H
            clear H
            go_wp2
            go_meet
            case rel => exact ⟨_, (true), (by first | rfl | (simp; done) | (simp [*]; done)), H', ⟨by first | omega | exact Nat.le_refl _⟩, ⟨by repeat (first | (with_reducible first | exact HB.out | apply below_alloc | apply pw_below_drewN | apply below_drew1) | exact HB.out)⟩⟩
          · rw [if_neg c13] at H
            have c13b0 : (t168 != t172) = false := by simpa using c13
            (try (have c13b1 : decide (t168 = t172) = true := by simpa using c13))
            (try (have c13b2 : (t168 == t172) = true := by simpa using c13))
            clear c13
            by_cases c14 : (t170 != t174) = true
            · rw [if_pos c14] at H
              have c14b0 : (t170 != t174) = true := c14
              (try (have c14b1 : decide (t170 = t174) = false := by simpa using c14))
              (try (have c14b2 : (t170 == t174) = false := by simpa using c14))
              (try (have c14b3 : ¬ (t170 = t174) := by simpa using c14))
              clear c14
              have H' := Aside0.mk H
              clear H
              go_wp2
              go_meet
              case rel => exact ⟨_, (true), (by first | rfl | (simp; done) | (simp [*]; done)), H', ⟨by first | omega | exact Nat.le_refl _⟩, ⟨by repeat (first | (with_reducible first | exact HB.out | apply below_alloc | apply pw_below_drewN | apply below_drew1) | exact HB.out)⟩⟩
            · rw [if_neg c14] at H
              have c14b0 : (t170 != t174) = false := by simpa using c14
              (try (have c14b1 : decide (t170 = t174) = true := by simpa using c14))
              (try (have c14b2 : (t170 == t174) = true := by simpa using c14))
              clear c14
              replace H := Option.bind_eq_some_iff.mp H
              obtain ⟨t175, A150, H⟩ := H
              replace H : ((spec_Fits.f t165).bind fun t176 => (laws_FnArithmetic.j0 k t165 t166 (t175 != t176))) = some r := H
              have A15 := Aside0.mk A150
              clear A150
              replace H := Option.bind_eq_some_iff.mp H
              obtain ⟨t176, A160, H⟩ := H
              replace H : (laws_FnArithmetic.j0 k t165 t166 (t175 != t176)) = some r := H
              have A16 := Aside0.mk A160
              clear A160
              have H' := Aside0.mk H
              clear H
              go_wp2_with (first | (go_at_call 66; (with_reducible refine (impl_Fits.calls t165 t175 _ A15.out).mono ?_); rintro e w' ⟨rfl, ⟨nd, rfl⟩⟩) | (go_at_call 67; (with_reducible refine (spec_Fits.calls t165 t176 _ A16.out).mono ?_); rintro e w' ⟨rfl, ⟨nd, rfl⟩⟩))
              go_meet
              case rel => exact ⟨_, ((t175 != t176)), (by first | rfl | (simp; done) | (simp [*]; done)), H', ⟨by first | omega | exact Nat.le_refl _⟩, ⟨by repeat (first | (with_reducible first | exact HB.out | apply below_alloc | apply pw_below_drewN | apply below_drew1) | exact HB.out)⟩⟩
        · rw [if_neg c12] at H
          have c12b0 : (t169 == t173) = false := beq_eq_false_iff_ne.mpr c12
          have c12b1 : (t169 != t173) = true := bne_iff_ne.mpr c12
          have H' := Aside0.mk H
          clear H
          go_wp2
          go_meet
          case rel => exact ⟨_, (true), (by first | rfl | (simp; done) | (simp [*]; done)), H', ⟨by first | omega | exact Nat.le_refl _⟩, ⟨by repeat (first | (with_reducible first | exact HB.out | apply below_alloc | apply pw_below_drewN | apply below_drew1) | exact HB.out)⟩⟩
      · rw [if_neg c11] at H
        have c11b0 : (t167 == t171) = false := beq_eq_false_iff_ne.mpr c11
        have c11b1 : (t167 != t171) = true := bne_iff_ne.mpr c11
        (first | rw [c11b0] | (simp only [i64_w, i32_w]; rw [c11b0]) | skip)
        have H' := Aside0.mk H
        clear H
        go_wp2
        go_meet
        case rel => exact ⟨_, (true), (by first | rfl | (simp; done) | (simp [*]; done)), H', ⟨by first | omega | exact Nat.le_refl _⟩, ⟨by repeat (first | (with_reducible first | exact HB.out | apply below_alloc | apply pw_below_drewN | apply below_drew1) | exact HB.out)⟩⟩
    case rest =>
      clear HC9
      try clear c1
      try clear c2
      try clear p2
      try clear c3
      try clear c6
      try clear c11
      try clear c11b0
      try clear c11b1
      try clear c12
      try clear c12b0
      try clear c12b1
      try clear c13
      try clear c13b0
      try clear c13b1
      try clear c13b2
      try clear c14
      try clear c14b0
      try clear c14b1
      try clear c14b2
      obtain ⟨kq, x70_8, rfl, HA, HJ8, HB⟩ := hcut
      cases kq with
      | zero => exact absurd HA.out (by simp [laws_FnArithmetic.j0])
      | succ kj8 =>
        have H := HA.out
        clear HA
        simp only [laws_FnArithmetic.j0] at H
        by_cases c17 : x70_8 = true
        · subst c17
          have H1 : (some false) = some r := by rw [if_pos rfl] at H; exact H
          clear H
          have H := H1
          clear H1
          obtain rfl := Option.some.inj H
          go_wp2
          go_ret
          exact ⟨by first | rfl | (simp [errW_none, errW_some] <;> rfl) | (simp [*, errW_none, errW_some] <;> rfl), by repeat (first | (with_reducible first | exact HB.out | apply below_alloc | apply pw_below_drewN | apply below_drew1) | exact HB.out)⟩
        · replace c17 := Bool.eq_false_iff.mpr c17
          subst c17
          have H1 : ((impl_Gcd.f kj8 t165 t166).bind fun t177 => ((spec_Gcd.f kj8 t165 t166).bind fun t178 => (if t177 = t178 then (if t177 > 0 then (if t177 = 0 then (none) else (if (Int.tmod t165 t177) = 0 then (laws_FnArithmetic.j1 kj8 t165 t166 ((Int.tmod t166 t177) != 0)) else (laws_FnArithmetic.j1 kj8 t165 t166 true))) else (laws_FnArithmetic.j1 kj8 t165 t166 false)) else (laws_FnArithmetic.j1 kj8 t165 t166 true)))) = some r := by rw [if_neg (show ¬ (false = true) by decide)] at H; exact H
          clear H
          have H := H1
          clear H1
          replace H := Option.bind_eq_some_iff.mp H
          obtain ⟨t177, A180, H⟩ := H
          replace H : ((spec_Gcd.f kj8 t165 t166).bind fun t178 => (if t177 = t178 then (if t177 > 0 then (if t177 = 0 then (none) else (if (Int.tmod t165 t177) = 0 then (laws_FnArithmetic.j1 kj8 t165 t166 ((Int.tmod t166 t177) != 0)) else (laws_FnArithmetic.j1 kj8 t165 t166 true))) else (laws_FnArithmetic.j1 kj8 t165 t166 false)) else (laws_FnArithmetic.j1 kj8 t165 t166 true))) = some r := H
          have A18 := Aside0.mk A180
          clear A180
          have HC19 := Aside0.mk H
          clear H
          go_upto_region 11 with (first | ((with_reducible refine gate_callee (f := 68) rfl ?_); refine goesL_ (some 73) rfl rfl Try.func68 (by kernel_rfl) rfl #[.int .i64 t165, .int .i64 t166] rfl (by (try simp only [List.map_toArray, List.map_cons, List.map_nil]); first | done | rfl | (simp only [List.length_drop, List.length_take]; rfl)) ?_; (with_reducible refine (impl_Gcd.calls kj8 t165 t166 t177 _ A18.out).mono ?_); rintro e w20 ⟨rfl, hb⟩; refine ⟨_, rfl, ?_⟩; have n0_ := Aside0.mk (below_step (by repeat (first | (with_reducible first | exact HB.out | apply below_alloc | apply pw_below_drewN | apply below_drew1) | exact HB.out)) hb); clear HB; have HB := n0_; clear n0_; (try clear hb); (try clear hb2); (try clear hk); (try clear hi)))
          (try simp only [Act.put, List.setIfInBounds_toArray, List.set_cons_zero, List.set_cons_succ])
          go_cut [94] (fun v94 wc => ∃ (kq : Nat) (x94_18 : Bool), v94 = .bool x94_18 ∧ Aside0 (laws_FnArithmetic.j1 kq t165 t166 x94_18 = some r) ∧ Aside0 (kq ≤ kj8) ∧ Aside0 (Below w.heap.size w wc))
          case first =>
            have H := HC19.out
            clear HC19
            replace H := Option.bind_eq_some_iff.mp H
            obtain ⟨t178, A210, H⟩ := H
            replace H : (if t177 = t178 then (if t177 > 0 then (if t177 = 0 then (none) else (if (Int.tmod t165 t177) = 0 then (laws_FnArithmetic.j1 kj8 t165 t166 ((Int.tmod t166 t177) != 0)) else (laws_FnArithmetic.j1 kj8 t165 t166 true))) else (laws_FnArithmetic.j1 kj8 t165 t166 false)) else (laws_FnArithmetic.j1 kj8 t165 t166 true)) = some r := H
            have A21 := Aside0.mk A210
            clear A210
            by_cases c22 : t177 = t178
            · rw [if_pos c22] at H
              have c22b0 : (t177 == t178) = true := beq_iff_eq.mpr c22
              have c22b1 : (t177 != t178) = false := bne_eq_false_iff_eq.mpr c22
              clear c22
              (first | rw [c22b0] | (simp only [i64_w, i32_w]; rw [c22b0]) | skip)
              by_cases c23 : t177 > 0
              · rw [if_pos c23] at H
                have c23b0 : decide (0 < t177) = true := decide_eq_true c23
                clear c23
                by_cases c24 : t177 = 0
                · rw [if_pos c24] at H
                  exact absurd H (by simp)
                · rw [if_neg c24] at H
                  have c24b0 : (t177 == 0) = false := beq_eq_false_iff_ne.mpr c24
                  have c24b1 : (t177 != 0) = true := bne_iff_ne.mpr c24
                  by_cases c25 : (Int.tmod t165 t177) = 0
                  · rw [if_pos c25] at H
                    have c25b0 : ((Int.tmod t165 t177) == 0) = true := beq_iff_eq.mpr c25
                    have c25b1 : ((Int.tmod t165 t177) != 0) = false := bne_eq_false_iff_eq.mpr c25
                    clear c25
                    have H' := Aside0.mk H
                    clear H
                    go_wp2_with (first | ((with_reducible refine gate_callee (f := 69) rfl ?_); refine goesL_ (some 77) rfl rfl Try.func69 (by kernel_rfl) rfl #[.int .i64 t165, .int .i64 t166] rfl (by (try simp only [List.map_toArray, List.map_cons, List.map_nil]); first | done | rfl | (simp only [List.length_drop, List.length_take]; rfl)) ?_; (with_reducible refine (spec_Gcd.calls kj8 t165 t166 t178 _ A21.out).mono ?_); rintro e w' ⟨rfl, ⟨nd, rfl⟩⟩; refine ⟨_, rfl, ?_⟩))
                    go_meet
                    case rel => exact ⟨_, (((Int.tmod t166 t177) != 0)), (by first | rfl | (simp; done) | (simp [*]; done)), H', ⟨by have := HJ8.out; first | omega | exact Nat.le_refl _⟩, ⟨by repeat (first | (with_reducible first | exact HB.out | apply below_alloc | apply pw_below_drewN | apply below_drew1) | exact HB.out)⟩⟩
                  · rw [if_neg c25] at H
                    have c25b0 : ((Int.tmod t165 t177) == 0) = false := beq_eq_false_iff_ne.mpr c25
                    have c25b1 : ((Int.tmod t165 t177) != 0) = true := bne_iff_ne.mpr c25
                    have H' := Aside0.mk H
                    clear H
                    go_wp2_with (first | ((with_reducible refine gate_callee (f := 69) rfl ?_); refine goesL_ (some 77) rfl rfl Try.func69 (by kernel_rfl) rfl #[.int .i64 t165, .int .i64 t166] rfl (by (try simp only [List.map_toArray, List.map_cons, List.map_nil]); first | done | rfl | (simp only [List.length_drop, List.length_take]; rfl)) ?_; (with_reducible refine (spec_Gcd.calls kj8 t165 t166 t178 _ A21.out).mono ?_); rintro e w' ⟨rfl, ⟨nd, rfl⟩⟩; refine ⟨_, rfl, ?_⟩))
                    go_meet
                    case rel => exact ⟨_, (true), (by first | rfl | (simp; done) | (simp [*]; done)), H', ⟨by have := HJ8.out; first | omega | exact Nat.le_refl _⟩, ⟨by repeat (first | (with_reducible first | exact HB.out | apply below_alloc | apply pw_below_drewN | apply below_drew1) | exact HB.out)⟩⟩
              · rw [if_neg c23] at H
                have c23b0 : decide (0 < t177) = false := decide_eq_false c23
                clear c23
                have H' := Aside0.mk H
                clear H
                go_wp2_with (first | ((with_reducible refine gate_callee (f := 69) rfl ?_); refine goesL_ (some 77) rfl rfl Try.func69 (by kernel_rfl) rfl #[.int .i64 t165, .int .i64 t166] rfl (by (try simp only [List.map_toArray, List.map_cons, List.map_nil]); first | done | rfl | (simp only [List.length_drop, List.length_take]; rfl)) ?_; (with_reducible refine (spec_Gcd.calls kj8 t165 t166 t178 _ A21.out).mono ?_); rintro e w' ⟨rfl, ⟨nd, rfl⟩⟩; refine ⟨_, rfl, ?_⟩))
                go_meet
                case rel => exact ⟨_, (false), (by first | rfl | (simp; done) | (simp [*]; done)), H', ⟨by have := HJ8.out; first | omega | exact Nat.le_refl _⟩, ⟨by repeat (first | (with_reducible first | exact HB.out | apply below_alloc | apply pw_below_drewN | apply below_drew1) | exact HB.out)⟩⟩
            · rw [if_neg c22] at H
              have c22b0 : (t177 == t178) = false := beq_eq_false_iff_ne.mpr c22
              have c22b1 : (t177 != t178) = true := bne_iff_ne.mpr c22
              (first | rw [c22b0] | (simp only [i64_w, i32_w]; rw [c22b0]) | skip)
              have H' := Aside0.mk H
              clear H
              go_wp2_with (first | ((with_reducible refine gate_callee (f := 69) rfl ?_); refine goesL_ (some 77) rfl rfl Try.func69 (by kernel_rfl) rfl #[.int .i64 t165, .int .i64 t166] rfl (by (try simp only [List.map_toArray, List.map_cons, List.map_nil]); first | done | rfl | (simp only [List.length_drop, List.length_take]; rfl)) ?_; (with_reducible refine (spec_Gcd.calls kj8 t165 t166 t178 _ A21.out).mono ?_); rintro e w' ⟨rfl, ⟨nd, rfl⟩⟩; refine ⟨_, rfl, ?_⟩))
              go_meet
              case rel => exact ⟨_, (true), (by first | rfl | (simp; done) | (simp [*]; done)), H', ⟨by have := HJ8.out; first | omega | exact Nat.le_refl _⟩, ⟨by repeat (first | (with_reducible first | exact HB.out | apply below_alloc | apply pw_below_drewN | apply below_drew1) | exact HB.out)⟩⟩
          case rest =>
            clear HC19
            try clear c1
            try clear c2
            try clear p2
            try clear c3
            try clear c6
            try clear c11
            try clear c11b0
            try clear c11b1
            try clear c12
            try clear c12b0
            try clear c12b1
            try clear c13
            try clear c13b0
            try clear c13b1
            try clear c13b2
            try clear c14
            try clear c14b0
            try clear c14b1
            try clear c14b2
            try clear c17
            try clear c22
            try clear c22b0
            try clear c22b1
            try clear c23
            try clear c23b0
            try clear c24
            try clear c24b0
            try clear c24b1
            try clear c25
            try clear c25b0
            try clear c25b1
            try clear p2
            obtain ⟨kq, x94_18, rfl, HA, HJ18, HB⟩ := hcut
            cases kq with
            | zero => exact absurd HA.out (by simp [laws_FnArithmetic.j1])
            | succ kj18 =>
              have H := HA.out
              clear HA
              simp only [laws_FnArithmetic.j1] at H
              by_cases c26 : x94_18 = true
              · subst c26
                have H1 : (some false) = some r := by rw [if_pos rfl] at H; exact H
                clear H
                have H := H1
                clear H1
                obtain rfl := Option.some.inj H
                go_wp2
                go_ret
                exact ⟨by first | rfl | (simp [errW_none, errW_some] <;> rfl) | (simp [*, errW_none, errW_some] <;> rfl), by repeat (first | (with_reducible first | exact HB.out | apply below_alloc | apply pw_below_drewN | apply below_drew1) | exact HB.out)⟩
              · replace c26 := Bool.eq_false_iff.mpr c26
                subst c26
                have H1 : ((impl_FloorDiv.f t165 t166).bind fun t179 => ((spec_FloorDiv.f t165 t166).bind fun t180 => (if t179 = t180 then (if t166 ≤ 0 then (if t179 = 0 then (some true) else (if t166 > 0 then (if (wrap64 (t165 - (wrap64 (t179 * t166)))) ≥ 0 then (some (decide ((wrap64 (t165 - (wrap64 (t179 * t166)))) < t166))) else (some false)) else (some false))) else (if t166 > 0 then (if (wrap64 (t165 - (wrap64 (t179 * t166)))) ≥ 0 then (some (decide ((wrap64 (t165 - (wrap64 (t179 * t166)))) < t166))) else (some false)) else (some false))) else (some false)))) = some r := by rw [if_neg (show ¬ (false = true) by decide)] at H; exact H
                clear H
                have H := H1
                clear H1
                replace H := Option.bind_eq_some_iff.mp H
                obtain ⟨t179, A270, H⟩ := H
                replace H : ((spec_FloorDiv.f t165 t166).bind fun t180 => (if t179 = t180 then (if t166 ≤ 0 then (if t179 = 0 then (some true) else (if t166 > 0 then (if (wrap64 (t165 - (wrap64 (t179 * t166)))) ≥ 0 then (some (decide ((wrap64 (t165 - (wrap64 (t179 * t166)))) < t166))) else (some false)) else (some false))) else (if t166 > 0 then (if (wrap64 (t165 - (wrap64 (t179 * t166)))) ≥ 0 then (some (decide ((wrap64 (t165 - (wrap64 (t179 * t166)))) < t166))) else (some false)) else (some false))) else (some false))) = some r := H
                have A27 := Aside0.mk A270
                clear A270
                replace H := Option.bind_eq_some_iff.mp H
                obtain ⟨t180, A280, H⟩ := H
                replace H : (if t179 = t180 then (if t166 ≤ 0 then (if t179 = 0 then (some true) else (if t166 > 0 then (if (wrap64 (t165 - (wrap64 (t179 * t166)))) ≥ 0 then (some (decide ((wrap64 (t165 - (wrap64 (t179 * t166)))) < t166))) else (some false)) else (some false))) else (if t166 > 0 then (if (wrap64 (t165 - (wrap64 (t179 * t166)))) ≥ 0 then (some (decide ((wrap64 (t165 - (wrap64 (t179 * t166)))) < t166))) else (some false)) else (some false))) else (some false)) = some r := H
                have A28 := Aside0.mk A280
                clear A280
                by_cases c29 : t179 = t180
                · rw [if_pos c29] at H
                  have c29b0 : (t179 == t180) = true := beq_iff_eq.mpr c29
                  have c29b1 : (t179 != t180) = false := bne_eq_false_iff_eq.mpr c29
                  clear c29
                  by_cases c30 : t166 ≤ 0
                  · rw [if_pos c30] at H
                    have c30b0 : decide (t166 ≤ 0) = true := decide_eq_true c30
                    clear c30
                    by_cases c31 : t179 = 0
                    · rw [if_pos c31] at H
                      have c31b0 : (t179 == 0) = true := beq_iff_eq.mpr c31
                      have c31b1 : (t179 != 0) = false := bne_eq_false_iff_eq.mpr c31
                      clear c31
                      obtain rfl := Option.some.inj H
                      go_wp2_with (first | ((with_reducible refine gate_callee (f := 70) rfl ?_); refine goesL_ (some 97) rfl rfl Try.func70 (by kernel_rfl) rfl #[.int .i64 t165, .int .i64 t166] rfl (by (try simp only [List.map_toArray, List.map_cons, List.map_nil]); first | done | rfl | (simp only [List.length_drop, List.length_take]; rfl)) ?_; (with_reducible refine (impl_FloorDiv.calls t165 t166 t179 _ A27.out).mono ?_); rintro e w' ⟨rfl, ⟨nd, rfl⟩⟩; refine ⟨_, rfl, ?_⟩) | ((with_reducible refine gate_callee (f := 71) rfl ?_); refine goesL_ (some 101) rfl rfl Try.func71 (by kernel_rfl) rfl #[.int .i64 t165, .int .i64 t166] rfl (by (try simp only [List.map_toArray, List.map_cons, List.map_nil]); first | done | rfl | (simp only [List.length_drop, List.length_take]; rfl)) ?_; (with_reducible refine (spec_FloorDiv.calls t165 t166 t180 _ A28.out).mono ?_); rintro e w' ⟨rfl, ⟨nd, rfl⟩⟩; refine ⟨_, rfl, ?_⟩))
                      go_ret
                      exact ⟨by first | rfl | (simp [errW_none, errW_some] <;> rfl) | (simp [*, errW_none, errW_some] <;> rfl), by repeat (first | (with_reducible first | exact HB.out | apply below_alloc | apply pw_below_drewN | apply below_drew1) | exact HB.out)⟩
                    · rw [if_neg c31] at H
                      have c31b0 : (t179 == 0) = false := beq_eq_false_iff_ne.mpr c31
                      have c31b1 : (t179 != 0) = true := bne_iff_ne.mpr c31
                      by_cases c32 : t166 > 0
                      · rw [if_pos c32] at H
                        have c32b0 : decide (0 < t166) = true := decide_eq_true c32
                        clear c32
                        by_cases c33 : (wrap64 (t165 - (wrap64 (t179 * t166)))) ≥ 0
                        · rw [if_pos c33] at H
                          have c33b0 : decide (0 ≤ (wrap64 (t165 - (wrap64 (t179 * t166))))) = true := decide_eq_true c33
                          clear c33
                          obtain rfl := Option.some.inj H
                          go_wp2_with (first | ((with_reducible refine gate_callee (f := 70) rfl ?_); refine goesL_ (some 97) rfl rfl Try.func70 (by kernel_rfl) rfl #[.int .i64 t165, .int .i64 t166] rfl (by (try simp only [List.map_toArray, List.map_cons, List.map_nil]); first | done | rfl | (simp only [List.length_drop, List.length_take]; rfl)) ?_; (with_reducible refine (impl_FloorDiv.calls t165 t166 t179 _ A27.out).mono ?_); rintro e w' ⟨rfl, ⟨nd, rfl⟩⟩; refine ⟨_, rfl, ?_⟩) | ((with_reducible refine gate_callee (f := 71) rfl ?_); refine goesL_ (some 101) rfl rfl Try.func71 (by kernel_rfl) rfl #[.int .i64 t165, .int .i64 t166] rfl (by (try simp only [List.map_toArray, List.map_cons, List.map_nil]); first | done | rfl | (simp only [List.length_drop, List.length_take]; rfl)) ?_; (with_reducible refine (spec_FloorDiv.calls t165 t166 t180 _ A28.out).mono ?_); rintro e w' ⟨rfl, ⟨nd, rfl⟩⟩; refine ⟨_, rfl, ?_⟩))
                          go_ret
                          exact ⟨by first | rfl | (simp [errW_none, errW_some] <;> rfl) | (simp [*, errW_none, errW_some] <;> rfl), by repeat (first | (with_reducible first | exact HB.out | apply below_alloc | apply pw_below_drewN | apply below_drew1) | exact HB.out)⟩
                        · rw [if_neg c33] at H
                          have c33b0 : decide (0 ≤ (wrap64 (t165 - (wrap64 (t179 * t166))))) = false := decide_eq_false c33
                          clear c33
                          obtain rfl := Option.some.inj H
                          go_wp2_with (first | ((with_reducible refine gate_callee (f := 70) rfl ?_); refine goesL_ (some 97) rfl rfl Try.func70 (by kernel_rfl) rfl #[.int .i64 t165, .int .i64 t166] rfl (by (try simp only [List.map_toArray, List.map_cons, List.map_nil]); first | done | rfl | (simp only [List.length_drop, List.length_take]; rfl)) ?_; (with_reducible refine (impl_FloorDiv.calls t165 t166 t179 _ A27.out).mono ?_); rintro e w' ⟨rfl, ⟨nd, rfl⟩⟩; refine ⟨_, rfl, ?_⟩) | ((with_reducible refine gate_callee (f := 71) rfl ?_); refine goesL_ (some 101) rfl rfl Try.func71 (by kernel_rfl) rfl #[.int .i64 t165, .int .i64 t166] rfl (by (try simp only [List.map_toArray, List.map_cons, List.map_nil]); first | done | rfl | (simp only [List.length_drop, List.length_take]; rfl)) ?_; (with_reducible refine (spec_FloorDiv.calls t165 t166 t180 _ A28.out).mono ?_); rintro e w' ⟨rfl, ⟨nd, rfl⟩⟩; refine ⟨_, rfl, ?_⟩))
                          go_ret
                          exact ⟨by first | rfl | (simp [errW_none, errW_some] <;> rfl) | (simp [*, errW_none, errW_some] <;> rfl), by repeat (first | (with_reducible first | exact HB.out | apply below_alloc | apply pw_below_drewN | apply below_drew1) | exact HB.out)⟩
                      · rw [if_neg c32] at H
                        have c32b0 : decide (0 < t166) = false := decide_eq_false c32
                        clear c32
                        obtain rfl := Option.some.inj H
                        go_wp2_with (first | ((with_reducible refine gate_callee (f := 70) rfl ?_); refine goesL_ (some 97) rfl rfl Try.func70 (by kernel_rfl) rfl #[.int .i64 t165, .int .i64 t166] rfl (by (try simp only [List.map_toArray, List.map_cons, List.map_nil]); first | done | rfl | (simp only [List.length_drop, List.length_take]; rfl)) ?_; (with_reducible refine (impl_FloorDiv.calls t165 t166 t179 _ A27.out).mono ?_); rintro e w' ⟨rfl, ⟨nd, rfl⟩⟩; refine ⟨_, rfl, ?_⟩) | ((with_reducible refine gate_callee (f := 71) rfl ?_); refine goesL_ (some 101) rfl rfl Try.func71 (by kernel_rfl) rfl #[.int .i64 t165, .int .i64 t166] rfl (by (try simp only [List.map_toArray, List.map_cons, List.map_nil]); first | done | rfl | (simp only [List.length_drop, List.length_take]; rfl)) ?_; (with_reducible refine (spec_FloorDiv.calls t165 t166 t180 _ A28.out).mono ?_); rintro e w' ⟨rfl, ⟨nd, rfl⟩⟩; refine ⟨_, rfl, ?_⟩))
                        go_ret
                        exact ⟨by first | rfl | (simp [errW_none, errW_some] <;> rfl) | (simp [*, errW_none, errW_some] <;> rfl), by repeat (first | (with_reducible first | exact HB.out | apply below_alloc | apply pw_below_drewN | apply below_drew1) | exact HB.out)⟩
                  · rw [if_neg c30] at H
                    have c30b0 : decide (t166 ≤ 0) = false := decide_eq_false c30
                    clear c30
                    by_cases c34 : t166 > 0
                    · rw [if_pos c34] at H
                      have c34b0 : decide (0 < t166) = true := decide_eq_true c34
                      clear c34
                      by_cases c35 : (wrap64 (t165 - (wrap64 (t179 * t166)))) ≥ 0
                      · rw [if_pos c35] at H
                        have c35b0 : decide (0 ≤ (wrap64 (t165 - (wrap64 (t179 * t166))))) = true := decide_eq_true c35
                        clear c35
                        obtain rfl := Option.some.inj H
                        go_wp2_with (first | ((with_reducible refine gate_callee (f := 70) rfl ?_); refine goesL_ (some 97) rfl rfl Try.func70 (by kernel_rfl) rfl #[.int .i64 t165, .int .i64 t166] rfl (by (try simp only [List.map_toArray, List.map_cons, List.map_nil]); first | done | rfl | (simp only [List.length_drop, List.length_take]; rfl)) ?_; (with_reducible refine (impl_FloorDiv.calls t165 t166 t179 _ A27.out).mono ?_); rintro e w' ⟨rfl, ⟨nd, rfl⟩⟩; refine ⟨_, rfl, ?_⟩) | ((with_reducible refine gate_callee (f := 71) rfl ?_); refine goesL_ (some 101) rfl rfl Try.func71 (by kernel_rfl) rfl #[.int .i64 t165, .int .i64 t166] rfl (by (try simp only [List.map_toArray, List.map_cons, List.map_nil]); first | done | rfl | (simp only [List.length_drop, List.length_take]; rfl)) ?_; (with_reducible refine (spec_FloorDiv.calls t165 t166 t180 _ A28.out).mono ?_); rintro e w' ⟨rfl, ⟨nd, rfl⟩⟩; refine ⟨_, rfl, ?_⟩))
                        go_ret
                        exact ⟨by first | rfl | (simp [errW_none, errW_some] <;> rfl) | (simp [*, errW_none, errW_some] <;> rfl), by repeat (first | (with_reducible first | exact HB.out | apply below_alloc | apply pw_below_drewN | apply below_drew1) | exact HB.out)⟩
                      · rw [if_neg c35] at H
                        have c35b0 : decide (0 ≤ (wrap64 (t165 - (wrap64 (t179 * t166))))) = false := decide_eq_false c35
                        clear c35
                        obtain rfl := Option.some.inj H
                        go_wp2_with (first | ((with_reducible refine gate_callee (f := 70) rfl ?_); refine goesL_ (some 97) rfl rfl Try.func70 (by kernel_rfl) rfl #[.int .i64 t165, .int .i64 t166] rfl (by (try simp only [List.map_toArray, List.map_cons, List.map_nil]); first | done | rfl | (simp only [List.length_drop, List.length_take]; rfl)) ?_; (with_reducible refine (impl_FloorDiv.calls t165 t166 t179 _ A27.out).mono ?_); rintro e w' ⟨rfl, ⟨nd, rfl⟩⟩; refine ⟨_, rfl, ?_⟩) | ((with_reducible refine gate_callee (f := 71) rfl ?_); refine goesL_ (some 101) rfl rfl Try.func71 (by kernel_rfl) rfl #[.int .i64 t165, .int .i64 t166] rfl (by (try simp only [List.map_toArray, List.map_cons, List.map_nil]); first | done | rfl | (simp only [List.length_drop, List.length_take]; rfl)) ?_; (with_reducible refine (spec_FloorDiv.calls t165 t166 t180 _ A28.out).mono ?_); rintro e w' ⟨rfl, ⟨nd, rfl⟩⟩; refine ⟨_, rfl, ?_⟩))
                        go_ret
                        exact ⟨by first | rfl | (simp [errW_none, errW_some] <;> rfl) | (simp [*, errW_none, errW_some] <;> rfl), by repeat (first | (with_reducible first | exact HB.out | apply below_alloc | apply pw_below_drewN | apply below_drew1) | exact HB.out)⟩
                    · rw [if_neg c34] at H
                      have c34b0 : decide (0 < t166) = false := decide_eq_false c34
                      clear c34
                      obtain rfl := Option.some.inj H
                      go_wp2_with (first | ((with_reducible refine gate_callee (f := 70) rfl ?_); refine goesL_ (some 97) rfl rfl Try.func70 (by kernel_rfl) rfl #[.int .i64 t165, .int .i64 t166] rfl (by (try simp only [List.map_toArray, List.map_cons, List.map_nil]); first | done | rfl | (simp only [List.length_drop, List.length_take]; rfl)) ?_; (with_reducible refine (impl_FloorDiv.calls t165 t166 t179 _ A27.out).mono ?_); rintro e w' ⟨rfl, ⟨nd, rfl⟩⟩; refine ⟨_, rfl, ?_⟩) | ((with_reducible refine gate_callee (f := 71) rfl ?_); refine goesL_ (some 101) rfl rfl Try.func71 (by kernel_rfl) rfl #[.int .i64 t165, .int .i64 t166] rfl (by (try simp only [List.map_toArray, List.map_cons, List.map_nil]); first | done | rfl | (simp only [List.length_drop, List.length_take]; rfl)) ?_; (with_reducible refine (spec_FloorDiv.calls t165 t166 t180 _ A28.out).mono ?_); rintro e w' ⟨rfl, ⟨nd, rfl⟩⟩; refine ⟨_, rfl, ?_⟩))
                      go_ret
                      exact ⟨by first | rfl | (simp [errW_none, errW_some] <;> rfl) | (simp [*, errW_none, errW_some] <;> rfl), by repeat (first | (with_reducible first | exact HB.out | apply below_alloc | apply pw_below_drewN | apply below_drew1) | exact HB.out)⟩
                · rw [if_neg c29] at H
                  have c29b0 : (t179 == t180) = false := beq_eq_false_iff_ne.mpr c29
                  have c29b1 : (t179 != t180) = true := bne_iff_ne.mpr c29
                  obtain rfl := Option.some.inj H
                  go_wp2_with (first | ((with_reducible refine gate_callee (f := 70) rfl ?_); refine goesL_ (some 97) rfl rfl Try.func70 (by kernel_rfl) rfl #[.int .i64 t165, .int .i64 t166] rfl (by (try simp only [List.map_toArray, List.map_cons, List.map_nil]); first | done | rfl | (simp only [List.length_drop, List.length_take]; rfl)) ?_; (with_reducible refine (impl_FloorDiv.calls t165 t166 t179 _ A27.out).mono ?_); rintro e w' ⟨rfl, ⟨nd, rfl⟩⟩; refine ⟨_, rfl, ?_⟩) | ((with_reducible refine gate_callee (f := 71) rfl ?_); refine goesL_ (some 101) rfl rfl Try.func71 (by kernel_rfl) rfl #[.int .i64 t165, .int .i64 t166] rfl (by (try simp only [List.map_toArray, List.map_cons, List.map_nil]); first | done | rfl | (simp only [List.length_drop, List.length_take]; rfl)) ?_; (with_reducible refine (spec_FloorDiv.calls t165 t166 t180 _ A28.out).mono ?_); rintro e w' ⟨rfl, ⟨nd, rfl⟩⟩; refine ⟨_, rfl, ?_⟩))
                  go_ret
                  exact ⟨by first | rfl | (simp [errW_none, errW_some] <;> rfl) | (simp [*, errW_none, errW_some] <;> rfl), by repeat (first | (with_reducible first | exact HB.out | apply below_alloc | apply pw_below_drewN | apply below_drew1) | exact HB.out)⟩

/-- THE ONE PURE STATEMENT of laws_FnArithmetic: yours. -/
def laws_FnArithmetic.Pure : Prop := ∀ (l0 : List Int), l0.length ≤ maxLen → l0.length * 1 ≤ 140737488351232 → (∀ x ∈ l0, (Lit.int .u8 x).wf = true) → ∃ k, laws_FnArithmetic.f k l0 = some true
theorem laws_FnArithmetic.walk (P : laws_FnArithmetic.Pure) (a0 : Option Addr) (len0 cap0 : Nat) (z0 : List Int) (w : World) (w0 : (a0 = none ∧ len0 = 0 ∧ cap0 = 0 ∧ z0 = []) ∨ ∃ x, a0 = some x ∧ len0 ≤ cap0 ∧ cap0 ≤ maxLen ∧ z0.length = cap0 ∧ (∀ i, i < z0.length → w.cell? (x.add i) = some (.int .u8 (z0.getD i 0))) ∧ ∀ n ∈ z0, (Lit.int .u8 n).wf = true) (y0 : len0 * 1 ≤ 140737488351232) :
    Calls Try.prog 14 #[.slice a0 len0 cap0] w fun e w' => e = .returned (.bool true) ∧ Below w.heap.size w w' := by
  obtain ⟨l0, rfl, hr0, hm0, hw0, hc0⟩ := ReadsInt.ofRowC w0
  obtain ⟨k, h⟩ := P l0 hm0 y0 hw0
  refine (laws_FnArithmetic.calls k _ _ l0 true w (Kd.C_of_reads (d := (0 : Int)) (h1 := fun _ => rfl) hr0) hc0 h).mono ?_
  rintro e w' ⟨rfl, hd⟩
  exact ⟨rfl, hd⟩

end Go.Proofs.Ytjjcdiddpdjboaa.QFnArithmetic
