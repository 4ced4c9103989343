-- Made by a program of this claim's own (wip/print): not the kit's print as it stands.
import Derived.Test.YtelgmnlkkhikfaaUFnFarkasTri
import Derived.Test.YtelgmnlkkhikfaaQFnFarkasx0
import Derived.Test.YtelgmnlkkhikfaaQFnFarkasx1
import Derived.Test.YtelgmnlkkhikfaaQFnFarkasx5
namespace Go.Proofs.Ytelgmnlkkhikfaa.QFnFarkas
open Go.RowKit Go.Proofs.YtelgmnlkkhikfaaV.PrintWords Go.Proofs.YtelgmnlkkhikfaaV.PrintLast Go.Proofs.YtelgmnlkkhikfaaV.PrintMore
attribute [local go_sem] max2_int min2_int max_two min_two max_three min_three max_four min_four   -- for this text's walks alone
set_option linter.unusedVariables false
set_option linter.unusedSimpArgs false

/-! ### spec_AddScaled: function 69 -/
mutual
def spec_AddScaled.j0 : Nat → Int → Int → Bool → Int → List Int → Int → List Int → Option (Int × List Int × Bool)
 | 0, _, _, _, _, _, _, _ => none
 | k + 1, x1, x8, x33, x272000, x272001, x273000, x273001 => if x33 = true then (some (0, ([] : List Int), false)) else (if 0 ≤ x8 then (if (x8 : Int).toNat ≤ 35184372088832 then (spec_AddScaled.l0 k x1 x8 true 0 x272000 x272001 x273000 x273001 0 (List.replicate (x8 : Int).toNat 0)) else (none)) else (none))
def spec_AddScaled.l0 : Nat → Int → Int → Bool → Int → Int → List Int → Int → List Int → Int → List Int → Option (Int × List Int × Bool)
 | 0, _, _, _, _, _, _, _, _, _, _ => none
 | k + 1, x1, x8, x10, x11, x272000, x272001, x273000, x273001, x281000, x281001 => if x11 < x8 then (if 0 ≤ x11 then (if x11 < (x272001.length : Int) then (if x11 < (x273001.length : Int) then ((spec_l4Sum.f (rd x272001 x11) x1 (rd x273001 x11)).bind fun bt283 => (if x11 < (x281001.length : Int) then ((some (x281001.set (x11 : Int).toNat bt283.1 : List Int)).bind fun y285 => (if x10 = true then (spec_AddScaled.l0 k x1 x8 bt283.2 (wrap64 (x11 + 1)) x272000 x272001 x273000 x273001 x281000 y285) else (spec_AddScaled.l0 k x1 x8 false (wrap64 (x11 + 1)) x272000 x272001 x273000 x273001 x281000 y285))) else (none))) else (none)) else (none)) else (none)) else ((spec_l4Sum.f x272000 x1 x273000).bind fun bt286 => (if x10 = true then (if bt286.2 = true then (some (bt286.1, x281001, true)) else (some (0, ([] : List Int), false))) else (some (0, ([] : List Int), false))))
end
def spec_AddScaled.f (k : Nat) (a0_0 : Int) (l0_1 : List Int) (a1 : Int) (a2_0 : Int) (l2_1 : List Int) : Option (Int × List Int × Bool) := (spec_IsValidLin.f k a0_0 l0_1 (l0_1.length : Int)).bind fun t274 => (if t274 = true then ((spec_IsValidLin.f k a2_0 l2_1 (l0_1.length : Int)).bind fun t275 => (if t275 = true then ((spec_l3In.f a1).bind fun t276 => (spec_AddScaled.j0 k a1 (l0_1.length : Int) (!t276) a0_0 l0_1 a2_0 l2_1)) else (spec_AddScaled.j0 k a1 (l0_1.length : Int) true a0_0 l0_1 a2_0 l2_1))) else (spec_AddScaled.j0 k a1 (l0_1.length : Int) true a0_0 l0_1 a2_0 l2_1))
theorem spec_AddScaled.mono_l : ∀ k, (∀ y0 y1 y2 y3 y4 y5 y6, LeO (spec_AddScaled.j0 k y0 y1 y2 y3 y4 y5 y6) (spec_AddScaled.j0 (k + 1) y0 y1 y2 y3 y4 y5 y6)) ∧ (∀ y0 y1 y2 y3 y4 y5 y6 y7 y8 y9, LeO (spec_AddScaled.l0 k y0 y1 y2 y3 y4 y5 y6 y7 y8 y9) (spec_AddScaled.l0 (k + 1) y0 y1 y2 y3 y4 y5 y6 y7 y8 y9))
 | 0 => ⟨fun _ _ _ _ _ _ _ r h => by simp [spec_AddScaled.j0] at h, fun _ _ _ _ _ _ _ _ _ _ r h => by simp [spec_AddScaled.l0] at h⟩
 | k + 1 => by
  obtain ⟨ih0, ih1⟩ := spec_AddScaled.mono_l k
  refine ⟨?_, ?_⟩
  ·intro y0 y1 y2 y3 y4 y5 y6
   unfold spec_AddScaled.j0
   repeat' with_reducible first
   | exact ih0 _ _ _ _ _ _ _
   | exact ih1 _ _ _ _ _ _ _ _ _ _
   | exact spec_IsValidLin.mono _ _ _ _
   | exact LeO.refl _
   | exact LeO.none _
   | refine LeO.ite ?_ ?_
   | refine LeO.bind ?_ (fun _ => ?_)
  intro y0 y1 y2 y3 y4 y5 y6 y7 y8 y9
  unfold spec_AddScaled.l0
  repeat' with_reducible first
  | exact ih0 _ _ _ _ _ _ _
  | exact ih1 _ _ _ _ _ _ _ _ _ _
  | exact spec_IsValidLin.mono _ _ _ _
  | exact LeO.refl _
  | exact LeO.none _
  | refine LeO.ite ?_ ?_
  | refine LeO.bind ?_ (fun _ => ?_)
theorem spec_AddScaled.mono : ∀ a0 a1 a2 a3 a4 k, LeO (spec_AddScaled.f k a0 a1 a2 a3 a4) (spec_AddScaled.f (k + 1) a0 a1 a2 a3 a4) := by
 intro a0 a1 a2 a3 a4 k
 obtain ⟨ih0, ih1⟩ := spec_AddScaled.mono_l k
 unfold spec_AddScaled.f
 repeat' with_reducible first
 | exact ih0 _ _ _ _ _ _ _
 | exact ih1 _ _ _ _ _ _ _ _ _ _
 | exact spec_IsValidLin.mono _ _ _ _
 | exact LeO.refl _
 | exact LeO.none _
 | refine LeO.ite ?_ ?_
 | refine LeO.bind ?_ (fun _ => ?_)
set_option maxHeartbeats 8000000 in
set_option maxRecDepth 100000 in
theorem spec_AddScaled.calls (k : Nat) (a0_0 : Int) (A0_1 : Option Addr) (c0_1 : Nat) (l0_1 : List Int) (a1 : Int) (a2_0 : Int) (A2_1 : Option Addr) (c2_1 : Nat) (l2_1 : List Int) (r1 : Int) (r2 : List Int) (r3 : Bool) (w : World) (hr0_1 : Kd.C (Kd.int .i64) w A0_1 l0_1.length l0_1) (hc0_1 : l0_1.length ≤ c0_1) (hr2_1 : Kd.C (Kd.int .i64) w A2_1 l2_1.length l2_1) (hc2_1 : l2_1.length ≤ c2_1) (h : spec_AddScaled.f k a0_0 l0_1 a1 a2_0 l2_1 = some (r1, r2, r3)) :
  Calls Try.prog 69 #[.agg #[.int .i64 a0_0, .slice A0_1 l0_1.length c0_1], .int .i64 a1, .agg #[.int .i64 a2_0, .slice A2_1 l2_1.length c2_1]] w fun e w' => ∃ v1_ : Value, e = .returned (.tuple #[.agg #[.int .i64 r1, v1_], .bool r3]) ∧ Kd.R (Kd.int .i64) 3 w' w.heap.size (fun _ => True) v1_ r2 ∧ Below w.heap.size w w' := by
 have hu36 := Try.underlying36
 have HR0_1 := Aside0.mk hr0_1
 have HC0_1 := Aside0.mk hc0_1
 clear hr0_1 hc0_1
 have HR2_1 := Aside0.mk hr2_1
 have HC2_1 := Aside0.mk hc2_1
 clear hr2_1 hc2_1
 have HB := Aside0.mk (Below.refl w.heap.size w)
 have H : ((spec_IsValidLin.f k a0_0 l0_1 (l0_1.length : Int)).bind fun t274 => (if t274 = true then ((spec_IsValidLin.f k a2_0 l2_1 (l0_1.length : Int)).bind fun t275 => (if t275 = true then ((spec_l3In.f a1).bind fun t276 => (spec_AddScaled.j0 k a1 (l0_1.length : Int) (!t276) a0_0 l0_1 a2_0 l2_1)) else (spec_AddScaled.j0 k a1 (l0_1.length : Int) true a0_0 l0_1 a2_0 l2_1))) else (spec_AddScaled.j0 k a1 (l0_1.length : Int) true a0_0 l0_1 a2_0 l2_1))) = some (r1, r2, r3) := h
 clear h
 have HC4 := Aside0.mk H
 clear H
 go_enter Try.func69, Try.ntmps69
 go_upto_region 2 with (first | ((with_reducible refine gate_dst (N := 3) rfl ?_); refine box_event ?hg (N := 3) ?hd (cs := #[.int .i64 a0_0, .slice A0_1 l0_1.length c0_1]) (t := 36) ?hr ?_; (case hd => rfl); (case hg => rfl); (case hr => first | (go_simp; done) | (go_simp; rfl)); intro gb271 hg w5 hbox hb; have BK271 := Aside0.mk (hbox); have GW271 := gw hg HB; have GE271 := gw hg HB; replace HB := bs HB hb; clear hb hbox hg) | ((with_reducible refine gate_dst (N := 5) rfl ?_); refine box_event ?hg (N := 5) ?hd (cs := #[.int .i64 a2_0, .slice A2_1 l2_1.length c2_1]) (t := 36) ?hr ?_; (case hd => rfl); (case hg => rfl); (case hr => first | (go_simp; done) | (go_simp; rfl)); intro gb272 hg w6 hbox hb; have BK272 := Aside0.mk (hbox); have GW272 := gw hg HB; have GE272 := gw hg HB; replace HB := bs HB hb; have NB271_272 := nl hg BK271; have NB272_271 := ng hg BK271; replace BK271 := bb BK271 hb; clear hb hbox hg) | ((with_reducible refine gate_dst (N := 6) rfl ?_); refine box_event ?hg (N := 6) ?hd (cs := #[.int .i64 0, .slice none 0 0]) (t := 36) ?hr ?_; (case hd => rfl); (case hg => rfl); (case hr => first | (go_simp; done) | (go_simp; rfl)); intro gb273 hg w7 hbox hb; have BK273 := Aside0.mk (hbox); have GW273 := gw hg HB; have GE273 := gw hg HB; replace HB := bs HB hb; have NB271_273 := nl hg BK271; have NB273_271 := ng hg BK271; replace BK271 := bb BK271 hb; have NB272_273 := nl hg BK272; have NB273_272 := ng hg BK272; replace BK272 := bb BK272 hb; clear hb hbox hg; have := NB271_272.out; have := NB272_271.out; have := NB271_273.out; have := NB273_271.out; obtain ⟨hcz10_0, hcz10_1, hfz10_0, hfz10_1⟩ := cFour BK271))
 repeat (go_quiet (first | ((with_reducible refine gate_dst (N := 3) rfl ?_); refine box_event ?hg (N := 3) ?hd (cs := #[.int .i64 a0_0, .slice A0_1 l0_1.length c0_1]) (t := 36) ?hr ?_; (case hd => rfl); (case hg => rfl); (case hr => first | (go_simp; done) | (go_simp; rfl)); intro gb271 hg w5 hbox hb; have BK271 := Aside0.mk (hbox); have GW271 := gw hg HB; have GE271 := gw hg HB; replace HB := bs HB hb; clear hb hbox hg) | ((with_reducible refine gate_dst (N := 5) rfl ?_); refine box_event ?hg (N := 5) ?hd (cs := #[.int .i64 a2_0, .slice A2_1 l2_1.length c2_1]) (t := 36) ?hr ?_; (case hd => rfl); (case hg => rfl); (case hr => first | (go_simp; done) | (go_simp; rfl)); intro gb272 hg w6 hbox hb; have BK272 := Aside0.mk (hbox); have GW272 := gw hg HB; have GE272 := gw hg HB; replace HB := bs HB hb; have NB271_272 := nl hg BK271; have NB272_271 := ng hg BK271; replace BK271 := bb BK271 hb; clear hb hbox hg) | ((with_reducible refine gate_dst (N := 6) rfl ?_); refine box_event ?hg (N := 6) ?hd (cs := #[.int .i64 0, .slice none 0 0]) (t := 36) ?hr ?_; (case hd => rfl); (case hg => rfl); (case hr => first | (go_simp; done) | (go_simp; rfl)); intro gb273 hg w7 hbox hb; have BK273 := Aside0.mk (hbox); have GW273 := gw hg HB; have GE273 := gw hg HB; replace HB := bs HB hb; have NB271_273 := nl hg BK271; have NB273_271 := ng hg BK271; replace BK271 := bb BK271 hb; have NB272_273 := nl hg BK272; have NB273_272 := ng hg BK272; replace BK272 := bb BK272 hb; clear hb hbox hg; have := NB271_272.out; have := NB272_271.out; have := NB271_273.out; have := NB273_271.out; obtain ⟨hcz10_0, hcz10_1, hfz10_0, hfz10_1⟩ := cFour BK271)); go_upto_region 2 with (first | ((with_reducible refine gate_dst (N := 3) rfl ?_); refine box_event ?hg (N := 3) ?hd (cs := #[.int .i64 a0_0, .slice A0_1 l0_1.length c0_1]) (t := 36) ?hr ?_; (case hd => rfl); (case hg => rfl); (case hr => first | (go_simp; done) | (go_simp; rfl)); intro gb271 hg w5 hbox hb; have BK271 := Aside0.mk (hbox); have GW271 := gw hg HB; have GE271 := gw hg HB; replace HB := bs HB hb; clear hb hbox hg) | ((with_reducible refine gate_dst (N := 5) rfl ?_); refine box_event ?hg (N := 5) ?hd (cs := #[.int .i64 a2_0, .slice A2_1 l2_1.length c2_1]) (t := 36) ?hr ?_; (case hd => rfl); (case hg => rfl); (case hr => first | (go_simp; done) | (go_simp; rfl)); intro gb272 hg w6 hbox hb; have BK272 := Aside0.mk (hbox); have GW272 := gw hg HB; have GE272 := gw hg HB; replace HB := bs HB hb; have NB271_272 := nl hg BK271; have NB272_271 := ng hg BK271; replace BK271 := bb BK271 hb; clear hb hbox hg) | ((with_reducible refine gate_dst (N := 6) rfl ?_); refine box_event ?hg (N := 6) ?hd (cs := #[.int .i64 0, .slice none 0 0]) (t := 36) ?hr ?_; (case hd => rfl); (case hg => rfl); (case hr => first | (go_simp; done) | (go_simp; rfl)); intro gb273 hg w7 hbox hb; have BK273 := Aside0.mk (hbox); have GW273 := gw hg HB; have GE273 := gw hg HB; replace HB := bs HB hb; have NB271_273 := nl hg BK271; have NB273_271 := ng hg BK271; replace BK271 := bb BK271 hb; have NB272_273 := nl hg BK272; have NB273_272 := ng hg BK272; replace BK272 := bb BK272 hb; clear hb hbox hg; have := NB271_272.out; have := NB272_271.out; have := NB271_273.out; have := NB273_271.out; obtain ⟨hcz10_0, hcz10_1, hfz10_0, hfz10_1⟩ := cFour BK271)))
 (try simp only [Act.put, List.setIfInBounds_toArray, List.set_cons_zero, List.set_cons_succ])
 go_cut [33] (fun v33 wc => ∃ (kq : Nat) (x33_3 : Bool), v33 = .bool x33_3 ∧ Aside0 (spec_AddScaled.j0 kq a1 (l0_1.length : Int) x33_3 a0_0 l0_1 a2_0 l2_1 = some (r1, r2, r3)) ∧ Aside0 (kq ≤ k) ∧ Aside0 (wc.heap[gb271]? = some (.cells #[.int .i64 a0_0, (.slice A0_1 l0_1.length c0_1)] 36 (0, 0))) ∧ Aside0 (wc.heap[gb272]? = some (.cells #[.int .i64 a2_0, (.slice A2_1 l2_1.length c2_1)] 36 (0, 0))) ∧ Aside0 (wc.heap[gb273]? = some (.cells #[.int .i64 0, (.slice none 0 0)] 36 (0, 0))) ∧ Aside0 (Below w.heap.size w wc))
 case first =>
  have H := HC4.out
  clear HC4
  replace H := Option.bind_eq_some_iff.mp H
  obtain ⟨t274, A110, H⟩ := H
  replace H : (if t274 = true then ((spec_IsValidLin.f k a2_0 l2_1 (l0_1.length : Int)).bind fun t275 => (if t275 = true then ((spec_l3In.f a1).bind fun t276 => (spec_AddScaled.j0 k a1 (l0_1.length : Int) (!t276) a0_0 l0_1 a2_0 l2_1)) else (spec_AddScaled.j0 k a1 (l0_1.length : Int) true a0_0 l0_1 a2_0 l2_1))) else (spec_AddScaled.j0 k a1 (l0_1.length : Int) true a0_0 l0_1 a2_0 l2_1)) = some (r1, r2, r3) := H
  have A11 := Aside0.mk A110
  clear A110
  by_cases c12 : t274 = true
  ·subst c12
   have H1 : ((spec_IsValidLin.f k a2_0 l2_1 (l0_1.length : Int)).bind fun t275 => (if t275 = true then ((spec_l3In.f a1).bind fun t276 => (spec_AddScaled.j0 k a1 (l0_1.length : Int) (!t276) a0_0 l0_1 a2_0 l2_1)) else (spec_AddScaled.j0 k a1 (l0_1.length : Int) true a0_0 l0_1 a2_0 l2_1))) = some (r1, r2, r3) := by rw [if_pos rfl] at H; exact H
   clear H
   have H := H1
   clear H1
   replace H := Option.bind_eq_some_iff.mp H
   obtain ⟨t275, A130, H⟩ := H
   replace H : (if t275 = true then ((spec_l3In.f a1).bind fun t276 => (spec_AddScaled.j0 k a1 (l0_1.length : Int) (!t276) a0_0 l0_1 a2_0 l2_1)) else (spec_AddScaled.j0 k a1 (l0_1.length : Int) true a0_0 l0_1 a2_0 l2_1)) = some (r1, r2, r3) := H
   have A13 := Aside0.mk A130
   clear A130
   by_cases c14 : t275 = true
   ·subst c14
    have H1 : ((spec_l3In.f a1).bind fun t276 => (spec_AddScaled.j0 k a1 (l0_1.length : Int) (!t276) a0_0 l0_1 a2_0 l2_1)) = some (r1, r2, r3) := by rw [if_pos rfl] at H; exact H
    clear H
    have H := H1
    clear H1
    replace H := Option.bind_eq_some_iff.mp H
    obtain ⟨t276, A150, H⟩ := H
    replace H : (spec_AddScaled.j0 k a1 (l0_1.length : Int) (!t276) a0_0 l0_1 a2_0 l2_1) = some (r1, r2, r3) := H
    have A15 := Aside0.mk A150
    clear A150
    have H' := Aside0.mk H
    clear H
    have := NB271_272.out
    have := NB272_271.out
    have := NB271_273.out
    have := NB273_271.out
    obtain ⟨hcz18_0, hcz18_1, hfz18_0, hfz18_1⟩ := cFour BK271
    go_wp2_with (first | (go_at_call 68; (with_reducible refine (spec_IsValidLin.calls k a0_0 _ _ l0_1 (l0_1.length : Int) true _ ?side1 ?side2 A11.out).mono ?_); (case side1 => exact mc ((Kd.C_below HR0_1.out HB.out))); (case side2 => exact HC0_1.out); rintro e w19 ⟨rfl, hb⟩; replace BK271 := bb BK271 hb; replace BK272 := bb BK272 hb; replace BK273 := bb BK273 hb; replace HB := bs HB hb; (try clear hb); have := NB272_273.out; have := NB273_272.out; obtain ⟨hcz21_0, hcz21_1, hfz21_0, hfz21_1⟩ := cFour BK272) | (go_at_call 68; (with_reducible refine (spec_IsValidLin.calls k a2_0 _ _ l2_1 (l0_1.length : Int) true _ ?side1 ?side2 A13.out).mono ?_); (case side1 => exact mc ((Kd.C_below HR2_1.out HB.out))); (case side2 => exact HC2_1.out); rintro e w22 ⟨rfl, hb⟩; replace BK271 := bb BK271 hb; replace BK272 := bb BK272 hb; replace BK273 := bb BK273 hb; replace HB := bs HB hb; (try clear hb)) | (go_at_call 51; (with_reducible refine (spec_l3In.calls a1 t276 _ A15.out).mono ?_); rintro e w' ⟨rfl, ⟨nd, rfl⟩⟩; (try first | exact ⟨rfl, _, World.drewN_drewN _ _ _⟩ | exact ⟨rfl, _, Eq.trans (World.drewN_drewN _ _ _) (congrArg (World.drewN _) (Nat.add_assoc _ _ _))⟩)))
    repeat (go_quiet (first | (go_at_call 68; (with_reducible refine (spec_IsValidLin.calls k a0_0 _ _ l0_1 (l0_1.length : Int) true _ ?side1 ?side2 A11.out).mono ?_); (case side1 => exact mc ((Kd.C_below HR0_1.out HB.out))); (case side2 => exact HC0_1.out); rintro e w19 ⟨rfl, hb⟩; replace BK271 := bb BK271 hb; replace BK272 := bb BK272 hb; replace BK273 := bb BK273 hb; replace HB := bs HB hb; (try clear hb); have := NB272_273.out; have := NB273_272.out; obtain ⟨hcz21_0, hcz21_1, hfz21_0, hfz21_1⟩ := cFour BK272) | (go_at_call 68; (with_reducible refine (spec_IsValidLin.calls k a2_0 _ _ l2_1 (l0_1.length : Int) true _ ?side1 ?side2 A13.out).mono ?_); (case side1 => exact mc ((Kd.C_below HR2_1.out HB.out))); (case side2 => exact HC2_1.out); rintro e w22 ⟨rfl, hb⟩; replace BK271 := bb BK271 hb; replace BK272 := bb BK272 hb; replace BK273 := bb BK273 hb; replace HB := bs HB hb; (try clear hb)) | (go_at_call 51; (with_reducible refine (spec_l3In.calls a1 t276 _ A15.out).mono ?_); rintro e w' ⟨rfl, ⟨nd, rfl⟩⟩; (try first | exact ⟨rfl, _, World.drewN_drewN _ _ _⟩ | exact ⟨rfl, _, Eq.trans (World.drewN_drewN _ _ _) (congrArg (World.drewN _) (Nat.add_assoc _ _ _))⟩))); try go_wp2_with (first | (go_at_call 68; (with_reducible refine (spec_IsValidLin.calls k a0_0 _ _ l0_1 (l0_1.length : Int) true _ ?side1 ?side2 A11.out).mono ?_); (case side1 => exact mc ((Kd.C_below HR0_1.out HB.out))); (case side2 => exact HC0_1.out); rintro e w19 ⟨rfl, hb⟩; replace BK271 := bb BK271 hb; replace BK272 := bb BK272 hb; replace BK273 := bb BK273 hb; replace HB := bs HB hb; (try clear hb); have := NB272_273.out; have := NB273_272.out; obtain ⟨hcz21_0, hcz21_1, hfz21_0, hfz21_1⟩ := cFour BK272) | (go_at_call 68; (with_reducible refine (spec_IsValidLin.calls k a2_0 _ _ l2_1 (l0_1.length : Int) true _ ?side1 ?side2 A13.out).mono ?_); (case side1 => exact mc ((Kd.C_below HR2_1.out HB.out))); (case side2 => exact HC2_1.out); rintro e w22 ⟨rfl, hb⟩; replace BK271 := bb BK271 hb; replace BK272 := bb BK272 hb; replace BK273 := bb BK273 hb; replace HB := bs HB hb; (try clear hb)) | (go_at_call 51; (with_reducible refine (spec_l3In.calls a1 t276 _ A15.out).mono ?_); rintro e w' ⟨rfl, ⟨nd, rfl⟩⟩; (try first | exact ⟨rfl, _, World.drewN_drewN _ _ _⟩ | exact ⟨rfl, _, Eq.trans (World.drewN_drewN _ _ _) (congrArg (World.drewN _) (Nat.add_assoc _ _ _))⟩))))
    go_meet
    case rel => exact ⟨_, (!t276), (by first | rfl | (simp; done) | (simp [*]; done)), H', ⟨by first | omega | exact Nat.le_refl _⟩, ⟨mb BK271⟩, ⟨mb BK272⟩, ⟨mb BK273⟩, ⟨ms HB⟩⟩
   replace c14 := Bool.eq_false_iff.mpr c14
   subst c14
   have H1 : (spec_AddScaled.j0 k a1 (l0_1.length : Int) true a0_0 l0_1 a2_0 l2_1) = some (r1, r2, r3) := by rw [if_neg (show ¬ (false = true) by decide)] at H; exact H
   clear H
   have H := H1
   clear H1
   have H' := Aside0.mk H
   clear H
   have := NB271_272.out
   have := NB272_271.out
   have := NB271_273.out
   have := NB273_271.out
   obtain ⟨hcz25_0, hcz25_1, hfz25_0, hfz25_1⟩ := cFour BK271
   go_wp2_with (first | (go_at_call 68; (with_reducible refine (spec_IsValidLin.calls k a0_0 _ _ l0_1 (l0_1.length : Int) true _ ?side1 ?side2 A11.out).mono ?_); (case side1 => exact mc ((Kd.C_below HR0_1.out HB.out))); (case side2 => exact HC0_1.out); rintro e w26 ⟨rfl, hb⟩; replace BK271 := bb BK271 hb; replace BK272 := bb BK272 hb; replace BK273 := bb BK273 hb; replace HB := bs HB hb; (try clear hb); have := NB272_273.out; have := NB273_272.out; obtain ⟨hcz28_0, hcz28_1, hfz28_0, hfz28_1⟩ := cFour BK272) | (go_at_call 68; (with_reducible refine (spec_IsValidLin.calls k a2_0 _ _ l2_1 (l0_1.length : Int) false _ ?side1 ?side2 A13.out).mono ?_); (case side1 => exact mc ((Kd.C_below HR2_1.out HB.out))); (case side2 => exact HC2_1.out); rintro e w29 ⟨rfl, hb⟩; replace BK271 := bb BK271 hb; replace BK272 := bb BK272 hb; replace BK273 := bb BK273 hb; replace HB := bs HB hb; (try clear hb)))
   repeat (go_quiet (first | (go_at_call 68; (with_reducible refine (spec_IsValidLin.calls k a0_0 _ _ l0_1 (l0_1.length : Int) true _ ?side1 ?side2 A11.out).mono ?_); (case side1 => exact mc ((Kd.C_below HR0_1.out HB.out))); (case side2 => exact HC0_1.out); rintro e w26 ⟨rfl, hb⟩; replace BK271 := bb BK271 hb; replace BK272 := bb BK272 hb; replace BK273 := bb BK273 hb; replace HB := bs HB hb; (try clear hb); have := NB272_273.out; have := NB273_272.out; obtain ⟨hcz28_0, hcz28_1, hfz28_0, hfz28_1⟩ := cFour BK272) | (go_at_call 68; (with_reducible refine (spec_IsValidLin.calls k a2_0 _ _ l2_1 (l0_1.length : Int) false _ ?side1 ?side2 A13.out).mono ?_); (case side1 => exact mc ((Kd.C_below HR2_1.out HB.out))); (case side2 => exact HC2_1.out); rintro e w29 ⟨rfl, hb⟩; replace BK271 := bb BK271 hb; replace BK272 := bb BK272 hb; replace BK273 := bb BK273 hb; replace HB := bs HB hb; (try clear hb))); try go_wp2_with (first | (go_at_call 68; (with_reducible refine (spec_IsValidLin.calls k a0_0 _ _ l0_1 (l0_1.length : Int) true _ ?side1 ?side2 A11.out).mono ?_); (case side1 => exact mc ((Kd.C_below HR0_1.out HB.out))); (case side2 => exact HC0_1.out); rintro e w26 ⟨rfl, hb⟩; replace BK271 := bb BK271 hb; replace BK272 := bb BK272 hb; replace BK273 := bb BK273 hb; replace HB := bs HB hb; (try clear hb); have := NB272_273.out; have := NB273_272.out; obtain ⟨hcz28_0, hcz28_1, hfz28_0, hfz28_1⟩ := cFour BK272) | (go_at_call 68; (with_reducible refine (spec_IsValidLin.calls k a2_0 _ _ l2_1 (l0_1.length : Int) false _ ?side1 ?side2 A13.out).mono ?_); (case side1 => exact mc ((Kd.C_below HR2_1.out HB.out))); (case side2 => exact HC2_1.out); rintro e w29 ⟨rfl, hb⟩; replace BK271 := bb BK271 hb; replace BK272 := bb BK272 hb; replace BK273 := bb BK273 hb; replace HB := bs HB hb; (try clear hb))))
   go_meet
   case rel => exact ⟨_, (true), (by first | rfl | (simp; done) | (simp [*]; done)), H', ⟨by first | omega | exact Nat.le_refl _⟩, ⟨mb BK271⟩, ⟨mb BK272⟩, ⟨mb BK273⟩, ⟨ms HB⟩⟩
  replace c12 := Bool.eq_false_iff.mpr c12
  subst c12
  have H1 : (spec_AddScaled.j0 k a1 (l0_1.length : Int) true a0_0 l0_1 a2_0 l2_1) = some (r1, r2, r3) := by rw [if_neg (show ¬ (false = true) by decide)] at H; exact H
  clear H
  have H := H1
  clear H1
  have H' := Aside0.mk H
  clear H
  have := NB271_272.out
  have := NB272_271.out
  have := NB271_273.out
  have := NB273_271.out
  obtain ⟨hcz32_0, hcz32_1, hfz32_0, hfz32_1⟩ := cFour BK271
  go_wp2_with (first | (go_at_call 68; (with_reducible refine (spec_IsValidLin.calls k a0_0 _ _ l0_1 (l0_1.length : Int) false _ ?side1 ?side2 A11.out).mono ?_); (case side1 => exact mc ((Kd.C_below HR0_1.out HB.out))); (case side2 => exact HC0_1.out); rintro e w33 ⟨rfl, hb⟩; replace BK271 := bb BK271 hb; replace BK272 := bb BK272 hb; replace BK273 := bb BK273 hb; replace HB := bs HB hb; (try clear hb)))
  repeat (go_quiet (first | (go_at_call 68; (with_reducible refine (spec_IsValidLin.calls k a0_0 _ _ l0_1 (l0_1.length : Int) false _ ?side1 ?side2 A11.out).mono ?_); (case side1 => exact mc ((Kd.C_below HR0_1.out HB.out))); (case side2 => exact HC0_1.out); rintro e w33 ⟨rfl, hb⟩; replace BK271 := bb BK271 hb; replace BK272 := bb BK272 hb; replace BK273 := bb BK273 hb; replace HB := bs HB hb; (try clear hb))); try go_wp2_with (first | (go_at_call 68; (with_reducible refine (spec_IsValidLin.calls k a0_0 _ _ l0_1 (l0_1.length : Int) false _ ?side1 ?side2 A11.out).mono ?_); (case side1 => exact mc ((Kd.C_below HR0_1.out HB.out))); (case side2 => exact HC0_1.out); rintro e w33 ⟨rfl, hb⟩; replace BK271 := bb BK271 hb; replace BK272 := bb BK272 hb; replace BK273 := bb BK273 hb; replace HB := bs HB hb; (try clear hb))))
  go_meet
  case rel => exact ⟨_, (true), (by first | rfl | (simp; done) | (simp [*]; done)), H', ⟨by first | omega | exact Nat.le_refl _⟩, ⟨mb BK271⟩, ⟨mb BK272⟩, ⟨mb BK273⟩, ⟨ms HB⟩⟩
 case rest =>
  clear HC4
  try clear c1
  try clear c2
  try clear p2
  try clear c3
  try clear c6
  try clear c8
  try clear c9
  try clear c12
  try clear c14
  try clear c16
  try clear c17
  try clear c20
  try clear c23
  try clear c24
  try clear c27
  try clear c30
  try clear c31
  try clear hcz10_0
  try clear hcz10_1
  try clear hcz18_0
  try clear hcz18_1
  try clear hcz21_0
  try clear hcz21_1
  try clear hcz25_0
  try clear hcz25_1
  try clear hcz28_0
  try clear hcz28_1
  try clear hcz32_0
  try clear hcz32_1
  try clear hfz10_0
  try clear hfz10_1
  try clear hfz18_0
  try clear hfz18_1
  try clear hfz21_0
  try clear hfz21_1
  try clear hfz25_0
  try clear hfz25_1
  try clear hfz28_0
  try clear hfz28_1
  try clear hfz32_0
  try clear hfz32_1
  obtain ⟨kq, x33_3, rfl, HA, HJ3, BK271, BK272, BK273, HB⟩ := hcut
  cases kq with
  | zero => exact absurd HA.out (by simp [spec_AddScaled.j0])
  | succ kj3 =>
   have H := HA.out
   clear HA
   simp only [spec_AddScaled.j0] at H
   by_cases c34 : x33_3 = true
   ·subst c34
    have H1 : (some (0, ([] : List Int), false)) = some (r1, r2, r3) := by rw [if_pos rfl] at H; exact H
    clear H
    have H := H1
    clear H1
    simp only [Option.some.injEq, Prod.mk.injEq] at H
    obtain ⟨rfl, rfl, rfl⟩ := H
    have := NB273_271.out
    have := NB271_273.out
    have := NB273_272.out
    have := NB272_273.out
    obtain ⟨hcz37_0, hcz37_1, hfz37_0, hfz37_1⟩ := cFour BK273
    go_wp2
    repeat (go_quiet (fail); try go_wp2)
    refine bodyPost_ret (results_ct rfl _ _ gb273 36 #[.int .i64 0, .slice none 0 0] (0, 0) _ rfl (mq BK273) Try.underlying36 rfl (by kernel_rfl)) rfl ?_
    exact ⟨_, by first | rfl | (simp [errW_none, errW_some] <;> rfl) | (simp [*, errW_none, errW_some] <;> rfl), by first | exact Kd.R_nil _ _ _ _ _ | exact Kd.N_nil _ _ _ _ _ | exact Kd.V_nil _ _ _ _ _ | exact Kd.Q_nil _ _ _ _ _ | exact Kd.S_nil _ _ _ _ _, ms HB⟩
   replace c34 := Bool.eq_false_iff.mpr c34
   subst c34
   have H1 : (if 0 ≤ (l0_1.length : Int) then (if ((l0_1.length : Int) : Int).toNat ≤ 35184372088832 then (spec_AddScaled.l0 kj3 a1 (l0_1.length : Int) true 0 a0_0 l0_1 a2_0 l2_1 0 (List.replicate ((l0_1.length : Int) : Int).toNat 0)) else (none)) else (none)) = some (r1, r2, r3) := by rw [if_neg (show ¬ (false = true) by decide)] at H; exact H
   clear H
   have H := H1
   clear H1
   by_cases c38 : 0 ≤ (l0_1.length : Int)
   ·rw [if_pos c38] at H
    have c38b0 := eq_true c38
    have c38b1 : decide (0 ≤ (l0_1.length : Int)) = true := decide_eq_true c38
    clear c38
    by_cases c39 : ((l0_1.length : Int) : Int).toNat ≤ 35184372088832
    ·rw [if_pos c39] at H
     have c39b0 := eq_true c39
     have c39b1 : decide (((l0_1.length : Int) : Int).toNat ≤ 35184372088832) = true := decide_eq_true c39
     clear c39
     obtain ⟨y277, hy277⟩ : ∃ y_ : List Int, y_ = (List.replicate ((l0_1.length : Int) : Int).toNat 0) := ⟨_, rfl⟩
     replace H : (spec_AddScaled.l0 kj3 a1 (l0_1.length : Int) true 0 a0_0 l0_1 a2_0 l2_1 0 y277) = some (r1, r2, r3) := by first | (rw [hy277]; with_reducible exact H) | (have H2_ := (Option.bind_some _ _).symm.trans H; rw [hy277]; with_reducible exact H2_) | (have H2_ := (Option.bind_some _ _).symm.trans H; with_reducible exact H2_) | with_reducible exact H | (rw [hy277]; exact H) | exact H
     have Ny277 := Aside0.mk hy277
     clear hy277
     have H' := Aside0.mk H
     clear H
     go_wp2_with (first | ((with_reducible refine gate_dst (N := 36) rfl ?_); refine Kd.R_make (Kd.int .i64) _ 3 rfl (N := 36) rfl 34 _ _ rfl (l0_1.length : Int) rfl rfl Try.underlying34 (.int .i64 0) 8 info3 rfl (by decide) (by omega) 0 (ok := fun _ => True) (okp := fun _ => True) rfl (fun _ hk => hk) trivial (of_decide_eq_true (by first | (with_reducible assumption) | assumption)) (Nat.le_trans (Nat.mul_le_mul_right _ (of_decide_eq_true (by first | (with_reducible assumption) | assumption) : (l0_1.length : Int).toNat ≤ 35184372088832)) (by omega)) (Below.refl _ _) (Nat.le_refl _) ?_; intro v278 w40 ho41 hb hg_ hnew_; clear hg_ hnew_; (first | rw [← Ny277.out] at ho41 | (simp only [Int.reduceToNat] at ho41; rw [← Ny277.out] at ho41)); have HO279 := Aside0.mk (Kd.R_lower ho41 (below_size (ms HB))); replace BK271 := bb BK271 hb; replace BK272 := bb BK272 hb; replace BK273 := bb BK273 hb; replace HB := bs HB hb; clear hb ho41; obtain ⟨Ao42, co42, eo42⟩ := Kd.R_slice HO279.out; subst eo42) | ((with_reducible refine gate_dst (N := 9) rfl ?_); refine box_event ?hg (N := 9) ?hd (cs := #[.int .i64 0, .slice none 0 0]) (t := 36) ?hr ?_; (case hd => rfl); (case hg => rfl); (case hr => first | (go_simp; done) | (go_simp; rfl)); intro gb280 hg w43 hbox hb; replace HO279 := rb HO279 hb; have BK280 := Aside0.mk (hbox); have GW280 := gw hg HB; have GE280 := gw hg HB; replace HB := bs HB hb; have NB271_280 := nl hg BK271; have NB280_271 := ng hg BK271; replace BK271 := bb BK271 hb; have NB272_280 := nl hg BK272; have NB280_272 := ng hg BK272; replace BK272 := bb BK272 hb; have NB273_280 := nl hg BK273; have NB280_273 := ng hg BK273; replace BK273 := bb BK273 hb; clear hb hbox hg; have := NB280_271.out; have := NB271_280.out; have := NB280_272.out; have := NB272_280.out; have := NB280_273.out; have := NB273_280.out; obtain ⟨hcz47_0, hcz47_1, hfz47_0, hfz47_1⟩ := cFour BK280))
     repeat (go_quiet (first | ((with_reducible refine gate_dst (N := 36) rfl ?_); refine Kd.R_make (Kd.int .i64) _ 3 rfl (N := 36) rfl 34 _ _ rfl (l0_1.length : Int) rfl rfl Try.underlying34 (.int .i64 0) 8 info3 rfl (by decide) (by omega) 0 (ok := fun _ => True) (okp := fun _ => True) rfl (fun _ hk => hk) trivial (of_decide_eq_true (by first | (with_reducible assumption) | assumption)) (Nat.le_trans (Nat.mul_le_mul_right _ (of_decide_eq_true (by first | (with_reducible assumption) | assumption) : (l0_1.length : Int).toNat ≤ 35184372088832)) (by omega)) (Below.refl _ _) (Nat.le_refl _) ?_; intro v278 w40 ho41 hb hg_ hnew_; clear hg_ hnew_; (first | rw [← Ny277.out] at ho41 | (simp only [Int.reduceToNat] at ho41; rw [← Ny277.out] at ho41)); have HO279 := Aside0.mk (Kd.R_lower ho41 (below_size (ms HB))); replace BK271 := bb BK271 hb; replace BK272 := bb BK272 hb; replace BK273 := bb BK273 hb; replace HB := bs HB hb; clear hb ho41; obtain ⟨Ao42, co42, eo42⟩ := Kd.R_slice HO279.out; subst eo42) | ((with_reducible refine gate_dst (N := 9) rfl ?_); refine box_event ?hg (N := 9) ?hd (cs := #[.int .i64 0, .slice none 0 0]) (t := 36) ?hr ?_; (case hd => rfl); (case hg => rfl); (case hr => first | (go_simp; done) | (go_simp; rfl)); intro gb280 hg w43 hbox hb; replace HO279 := rb HO279 hb; have BK280 := Aside0.mk (hbox); have GW280 := gw hg HB; have GE280 := gw hg HB; replace HB := bs HB hb; have NB271_280 := nl hg BK271; have NB280_271 := ng hg BK271; replace BK271 := bb BK271 hb; have NB272_280 := nl hg BK272; have NB280_272 := ng hg BK272; replace BK272 := bb BK272 hb; have NB273_280 := nl hg BK273; have NB280_273 := ng hg BK273; replace BK273 := bb BK273 hb; clear hb hbox hg; have := NB280_271.out; have := NB271_280.out; have := NB280_272.out; have := NB272_280.out; have := NB280_273.out; have := NB273_280.out; obtain ⟨hcz47_0, hcz47_1, hfz47_0, hfz47_1⟩ := cFour BK280)); try go_wp2_with (first | ((with_reducible refine gate_dst (N := 36) rfl ?_); refine Kd.R_make (Kd.int .i64) _ 3 rfl (N := 36) rfl 34 _ _ rfl (l0_1.length : Int) rfl rfl Try.underlying34 (.int .i64 0) 8 info3 rfl (by decide) (by omega) 0 (ok := fun _ => True) (okp := fun _ => True) rfl (fun _ hk => hk) trivial (of_decide_eq_true (by first | (with_reducible assumption) | assumption)) (Nat.le_trans (Nat.mul_le_mul_right _ (of_decide_eq_true (by first | (with_reducible assumption) | assumption) : (l0_1.length : Int).toNat ≤ 35184372088832)) (by omega)) (Below.refl _ _) (Nat.le_refl _) ?_; intro v278 w40 ho41 hb hg_ hnew_; clear hg_ hnew_; (first | rw [← Ny277.out] at ho41 | (simp only [Int.reduceToNat] at ho41; rw [← Ny277.out] at ho41)); have HO279 := Aside0.mk (Kd.R_lower ho41 (below_size (ms HB))); replace BK271 := bb BK271 hb; replace BK272 := bb BK272 hb; replace BK273 := bb BK273 hb; replace HB := bs HB hb; clear hb ho41; obtain ⟨Ao42, co42, eo42⟩ := Kd.R_slice HO279.out; subst eo42) | ((with_reducible refine gate_dst (N := 9) rfl ?_); refine box_event ?hg (N := 9) ?hd (cs := #[.int .i64 0, .slice none 0 0]) (t := 36) ?hr ?_; (case hd => rfl); (case hg => rfl); (case hr => first | (go_simp; done) | (go_simp; rfl)); intro gb280 hg w43 hbox hb; replace HO279 := rb HO279 hb; have BK280 := Aside0.mk (hbox); have GW280 := gw hg HB; have GE280 := gw hg HB; replace HB := bs HB hb; have NB271_280 := nl hg BK271; have NB280_271 := ng hg BK271; replace BK271 := bb BK271 hb; have NB272_280 := nl hg BK272; have NB280_272 := ng hg BK272; replace BK272 := bb BK272 hb; have NB273_280 := nl hg BK273; have NB280_273 := ng hg BK273; replace BK273 := bb BK273 hb; clear hb hbox hg; have := NB280_271.out; have := NB271_280.out; have := NB280_272.out; have := NB272_280.out; have := NB280_273.out; have := NB273_280.out; obtain ⟨hcz47_0, hcz47_1, hfz47_0, hfz47_1⟩ := cFour BK280)))
     go_loopg [10, 11] kj3 (fun kq v10 v11 w' => ∃ (x10_2 : Bool) (x11_2 : Int) (x281001_2 : List Int) (u281001 : Value), v10 = .bool x10_2 ∧ v11 = .int .i64 x11_2 ∧ Aside0 (spec_AddScaled.l0 kq a1 (l0_1.length : Int) x10_2 x11_2 a0_0 l0_1 a2_0 l2_1 0 x281001_2 = some (r1, r2, r3)) ∧ Aside0 (kq ≤ kj3) ∧ Aside0 (Kd.R (Kd.int .i64) 3 w' w.heap.size (fun _ => True) u281001 x281001_2) ∧ Aside0 (w'.heap[gb271]? = some (.cells #[.int .i64 a0_0, (.slice A0_1 l0_1.length c0_1)] 36 (0, 0))) ∧ Aside0 (w'.heap[gb272]? = some (.cells #[.int .i64 a2_0, (.slice A2_1 l2_1.length c2_1)] 36 (0, 0))) ∧ Aside0 (w'.heap[gb273]? = some (.cells #[.int .i64 0, (.slice none 0 0)] 36 (0, 0))) ∧ Aside0 (w'.heap[gb280]? = some (.cells #[.int .i64 0, u281001] 36 (0, 0))) ∧ Aside0 (Below w.heap.size w w'))
     case atStart => exact ⟨(true), (0), (y277), (.slice Ao42 y277.length co42), (by first | rfl | (simp; done) | (simp [*]; done)), (by first | rfl | (simp; done) | (simp [*]; done)), H', ⟨Nat.le_refl _⟩, ⟨by (with_reducible repeat (first | apply Kd.R_alloc | apply Kd.R_drewN | apply Kd.R_drew)); exact Kd.R_mono (Kd.R_far (p := ⟨gb280, 1, none⟩) (Kd.R_far (p := ⟨gb280, 0, none⟩) (Kd.R_types HO279.out BK280.out (by decide)) (fun _ hk => hk.2) (.int .i64 0)) (fun _ hk => hk.2) (.slice Ao42 y277.length co42)) (fun _ hk => trivial)⟩, ⟨mf BK271⟩, ⟨mf BK272⟩, ⟨mf BK273⟩, ⟨mq BK280⟩, ⟨ms HB⟩⟩
     case round =>
      clear H'
      try clear c1
      try clear c2
      try clear p2
      try clear c3
      try clear c4
      try clear c6
      try clear c8
      try clear c9
      try clear c12
      try clear c14
      try clear c16
      try clear c17
      try clear c20
      try clear c23
      try clear c24
      try clear c27
      try clear c30
      try clear c31
      try clear c34
      try clear c35
      try clear c36
      try clear c38
      try clear c38b0
      try clear c38b1
      try clear c39
      try clear c39b0
      try clear c39b1
      try clear c44
      try clear c45
      try clear c46
      try clear hcz10_0
      try clear hcz10_1
      try clear hcz18_0
      try clear hcz18_1
      try clear hcz21_0
      try clear hcz21_1
      try clear hcz25_0
      try clear hcz25_1
      try clear hcz28_0
      try clear hcz28_1
      try clear hcz32_0
      try clear hcz32_1
      try clear hcz37_0
      try clear hcz37_1
      try clear hcz47_0
      try clear hcz47_1
      try clear hfz10_0
      try clear hfz10_1
      try clear hfz18_0
      try clear hfz18_1
      try clear hfz21_0
      try clear hfz21_1
      try clear hfz25_0
      try clear hfz25_1
      try clear hfz28_0
      try clear hfz28_1
      try clear hfz32_0
      try clear hfz32_1
      try clear hfz37_0
      try clear hfz37_1
      try clear hfz47_0
      try clear hfz47_1
      try clear p2
      obtain ⟨x10_2, x11_2, x281001_2, u281001, rfl, rfl, HA, HK2, HO_281001, BK271, BK272, BK273, BK280, HB⟩ := hrel
      cases gk with
      | zero => exact absurd HA.out (by simp [spec_AddScaled.l0])
      | succ k2 =>
       have H := HA.out
       clear HA
       simp only [spec_AddScaled.l0] at H
       by_cases c48 : x11_2 < (l0_1.length : Int)
       ·rw [if_pos c48] at H
        have c48b0 : decide (x11_2 < (l0_1.length : Int)) = true := decide_eq_true c48
        clear c48
        by_cases c49 : 0 ≤ x11_2
        ·rw [if_pos c49] at H
         have c49b0 : decide (0 ≤ x11_2) = true := decide_eq_true c49
         clear c49
         by_cases c50 : x11_2 < (l0_1.length : Int)
         ·rw [if_pos c50] at H
          have c50b0 : decide (x11_2 < (l0_1.length : Int)) = true := decide_eq_true c50
          clear c50
          by_cases c51 : x11_2 < (l2_1.length : Int)
          ·rw [if_pos c51] at H
           have c51b0 : decide (x11_2 < (l2_1.length : Int)) = true := decide_eq_true c51
           clear c51
           replace H := Option.bind_eq_some_iff.mp H
           obtain ⟨⟨t283, t284⟩, A520, H⟩ := H
           replace H : (if x11_2 < (x281001_2.length : Int) then ((some (x281001_2.set (x11_2 : Int).toNat t283 : List Int)).bind fun y285 => (if x10_2 = true then (spec_AddScaled.l0 k2 a1 (l0_1.length : Int) t284 (wrap64 (x11_2 + 1)) a0_0 l0_1 a2_0 l2_1 0 y285) else (spec_AddScaled.l0 k2 a1 (l0_1.length : Int) false (wrap64 (x11_2 + 1)) a0_0 l0_1 a2_0 l2_1 0 y285))) else (none)) = some (r1, r2, r3) := H
           have A52 := Aside0.mk A520
           clear A520
           by_cases c53 : x11_2 < (x281001_2.length : Int)
           ·rw [if_pos c53] at H
            have c53b0 : decide (x11_2 < (x281001_2.length : Int)) = true := decide_eq_true c53
            clear c53
            obtain ⟨y285, hy285⟩ : ∃ y_ : List Int, y_ = (x281001_2.set (x11_2 : Int).toNat t283) := ⟨_, rfl⟩
            replace H : (if x10_2 = true then (spec_AddScaled.l0 k2 a1 (l0_1.length : Int) t284 (wrap64 (x11_2 + 1)) a0_0 l0_1 a2_0 l2_1 0 y285) else (spec_AddScaled.l0 k2 a1 (l0_1.length : Int) false (wrap64 (x11_2 + 1)) a0_0 l0_1 a2_0 l2_1 0 y285)) = some (r1, r2, r3) := by first | (rw [hy285]; with_reducible exact H) | (have H2_ := (Option.bind_some _ _).symm.trans H; rw [hy285]; with_reducible exact H2_) | (have H2_ := (Option.bind_some _ _).symm.trans H; with_reducible exact H2_) | with_reducible exact H | (rw [hy285]; exact H) | exact H
            have Ny285 := Aside0.mk hy285
            clear hy285
            by_cases c55 : x10_2 = true
            ·subst c55
             have H1 : (spec_AddScaled.l0 k2 a1 (l0_1.length : Int) t284 (wrap64 (x11_2 + 1)) a0_0 l0_1 a2_0 l2_1 0 y285) = some (r1, r2, r3) := by rw [if_pos rfl] at H; exact H
             clear H
             have H := H1
             clear H1
             have H' := Aside0.mk H
             clear H
             have := NB271_272.out
             have := NB272_271.out
             have := NB271_273.out
             have := NB273_271.out
             have := NB271_280.out
             have := NB280_271.out
             obtain ⟨_, _, _, _⟩ := cFour BK271
             have p281 : 0 ≤ (x11_2 : Int) := of_decide_eq_true (by first | (with_reducible assumption) | assumption)
             have q281 : x11_2 < (l0_1.length : Int) := of_decide_eq_true (by first | (with_reducible assumption) | assumption)
             obtain ⟨ad281, e281, hx281_0⟩ := Kd.at_int HR0_1.out x11_2 p281 q281
             cases e281
             replace hx281_0 := (HB.out.cell (World.block_lt_of_cell? w _ hx281_0)).trans hx281_0
             replace p281 := eq_true p281
             replace q281 := eq_true q281
             have := NB272_273.out
             have := NB273_272.out
             have := NB272_280.out
             have := NB280_272.out
             obtain ⟨_, _, _, _⟩ := cFour BK272
             have p282 : 0 ≤ (x11_2 : Int) := of_decide_eq_true (by first | (with_reducible assumption) | assumption)
             have q282 : x11_2 < (l2_1.length : Int) := of_decide_eq_true (by first | (with_reducible assumption) | assumption)
             obtain ⟨ad282, e282, hx282_0⟩ := Kd.at_int HR2_1.out x11_2 p282 q282
             cases e282
             replace hx282_0 := (HB.out.cell (World.block_lt_of_cell? w _ hx282_0)).trans hx282_0
             replace p282 := eq_true p282
             replace q282 := eq_true q282
             go_wp2_with (first | (go_at_call 92; (with_reducible refine (spec_l4Sum.calls (rd l0_1 x11_2) a1 (rd l2_1 x11_2) t283 t284 _ A52.out).mono ?_); rintro e w' ⟨rfl, ⟨nd, rfl⟩⟩; (try first | exact ⟨rfl, _, World.drewN_drewN _ _ _⟩ | exact ⟨rfl, _, Eq.trans (World.drewN_drewN _ _ _) (congrArg (World.drewN _) (Nat.add_assoc _ _ _))⟩); have := NB280_273.out; have := NB273_280.out; obtain ⟨_, _, _, _⟩ := cFour BK280; have p54 : 0 ≤ (x11_2 : Int) := of_decide_eq_true (by first | (with_reducible assumption) | assumption); have q54 : (x11_2 : Int) < ((x281001_2.length : Int) : Int) := of_decide_eq_true (by first | (with_reducible assumption) | assumption); obtain ⟨go54, co54, eo54, gb54, gl54, cl54, HG54⟩ := Kd.R_form HO_281001.out (by omega); (first | cases eo54 | (injection eo54 with ea_ en_ ec_; (first | subst ea_ | (injection ea_ with ea_; subst ea_)); subst ec_; clear en_)); have GB54 := Aside0.mk gb54; have GG54 := Aside0.mk HG54; clear gb54 gl54 HG54; obtain ⟨hx54_0, hf54_0⟩ := Kd.R_celln 0 HO_281001.out (x11_2 : Int) p54 q54; replace p54 := eq_true p54; replace q54 := eq_true q54; obtain ⟨hy65_, hz65_⟩ := Kd.R_celln 0 HO_281001.out (x11_2 : Int) (of_decide_eq_true (by first | (with_reducible assumption) | assumption)) (of_decide_eq_true (by first | (with_reducible assumption) | assumption)); have HP65 := Kd.R_putg HO_281001.out (x11_2 : Int) t283) | ((with_reducible refine gate_store (t := 3) (p := 62) rfl ?_); (try (rw [drewN_self wr]; generalize hq_ : World.drewN wr _ = wr; have n0_ := Aside0.mk (Kd.R_at hq_ HO_281001.out); have n1_ := Aside0.mk (blk_at hq_ BK271.out); have n2_ := Aside0.mk (blk_at hq_ BK272.out); have n3_ := Aside0.mk (blk_at hq_ BK273.out); have n4_ := Aside0.mk (blk_at hq_ BK280.out); have n5_ := Aside0.mk (below_at hq_ HB.out); clear hq_ HO_281001 BK271 BK272 BK273 BK280 HB; have HO_281001 := n0_; have BK271 := n1_; have BK272 := n2_; have BK273 := n3_; have BK280 := n4_; have HB := n5_; clear n0_ n1_ n2_ n3_ n4_ n5_; (try (obtain ⟨hy65_, hz65_⟩ := Kd.R_celln 0 HO_281001.out (x11_2 : Int) (of_decide_eq_true (by first | (with_reducible assumption) | assumption)) (of_decide_eq_true (by first | (with_reducible assumption) | assumption)))); (try (have HP65 := Kd.R_putg HO_281001.out (x11_2 : Int) t283)))); refine store_event (t := 3) (p := 62) (v := ?vo_w66) (w1 := (wr.setCell ⟨go54, (x11_2 : Int).toNat, none⟩ (.int .i64 t283))) ?hg ?ho ?hn ?hr ?_; (case ho => rfl); (case hg => rfl); (case hn => rfl); (case hr => first | (go_simp; done) | (go_simp; rfl)); intro w66 hw; have hg : wr.grownBy w66 (some go54) := (by rw [hw]; exact HP65.2); have hp_ : Kd.R (Kd.int .i64) 3 w66 w.heap.size (fun _ => True) (.slice (some ⟨go54, 0, none⟩) x281001_2.length co54) y285 := (by rw [hw, Ny285.out]; exact HP65.1); clear HP65; have n0_ := Aside0.mk (hp_); have n1_ := Aside0.mk (blk_grown (g := gb271) (o := .cells #[.int .i64 a0_0, .slice (some ad281) l0_1.length c0_1] 36 (0, 0)) (mb BK271) hg (Kd.R_ne HO_281001.out BK271.out (by decide))); have n2_ := Aside0.mk (blk_grown (g := gb272) (o := .cells #[.int .i64 a2_0, .slice (some ad282) l2_1.length c2_1] 36 (0, 0)) (mb BK272) hg (Kd.R_ne HO_281001.out BK272.out (by decide))); have n3_ := Aside0.mk (blk_grown (g := gb273) (o := .cells #[.int .i64 0, .slice none 0 0] 36 (0, 0)) (mb BK273) hg (Kd.R_ne HO_281001.out BK273.out (by decide))); have n4_ := Aside0.mk (blk_grown (g := gb280) (o := .cells #[.int .i64 0, .slice (some ⟨go54, 0, none⟩) x281001_2.length co54] 36 (0, 0)) (mb BK280) hg (Kd.R_ne HO_281001.out BK280.out (by decide))); have n5_ := Aside0.mk ((by rw [hw]; exact below_set (HB.out) GB54.out : Below w.heap.size w w66)); clear HO_281001 BK271 BK272 BK273 BK280 HB; have HO_281001 := n0_; have BK271 := n1_; have BK272 := n2_; have BK273 := n3_; have BK280 := n4_; have HB := n5_; clear n0_ n1_ n2_ n3_ n4_ n5_; clear hg hw hp_))
             repeat (go_quiet (first | (go_at_call 92; (with_reducible refine (spec_l4Sum.calls (rd l0_1 x11_2) a1 (rd l2_1 x11_2) t283 t284 _ A52.out).mono ?_); rintro e w' ⟨rfl, ⟨nd, rfl⟩⟩; (try first | exact ⟨rfl, _, World.drewN_drewN _ _ _⟩ | exact ⟨rfl, _, Eq.trans (World.drewN_drewN _ _ _) (congrArg (World.drewN _) (Nat.add_assoc _ _ _))⟩); have := NB280_273.out; have := NB273_280.out; obtain ⟨_, _, _, _⟩ := cFour BK280; have p54 : 0 ≤ (x11_2 : Int) := of_decide_eq_true (by first | (with_reducible assumption) | assumption); have q54 : (x11_2 : Int) < ((x281001_2.length : Int) : Int) := of_decide_eq_true (by first | (with_reducible assumption) | assumption); obtain ⟨go54, co54, eo54, gb54, gl54, cl54, HG54⟩ := Kd.R_form HO_281001.out (by omega); (first | cases eo54 | (injection eo54 with ea_ en_ ec_; (first | subst ea_ | (injection ea_ with ea_; subst ea_)); subst ec_; clear en_)); have GB54 := Aside0.mk gb54; have GG54 := Aside0.mk HG54; clear gb54 gl54 HG54; obtain ⟨hx54_0, hf54_0⟩ := Kd.R_celln 0 HO_281001.out (x11_2 : Int) p54 q54; replace p54 := eq_true p54; replace q54 := eq_true q54; obtain ⟨hy65_, hz65_⟩ := Kd.R_celln 0 HO_281001.out (x11_2 : Int) (of_decide_eq_true (by first | (with_reducible assumption) | assumption)) (of_decide_eq_true (by first | (with_reducible assumption) | assumption)); have HP65 := Kd.R_putg HO_281001.out (x11_2 : Int) t283) | ((with_reducible refine gate_store (t := 3) (p := 62) rfl ?_); (try (rw [drewN_self wr]; generalize hq_ : World.drewN wr _ = wr; have n0_ := Aside0.mk (Kd.R_at hq_ HO_281001.out); have n1_ := Aside0.mk (blk_at hq_ BK271.out); have n2_ := Aside0.mk (blk_at hq_ BK272.out); have n3_ := Aside0.mk (blk_at hq_ BK273.out); have n4_ := Aside0.mk (blk_at hq_ BK280.out); have n5_ := Aside0.mk (below_at hq_ HB.out); clear hq_ HO_281001 BK271 BK272 BK273 BK280 HB; have HO_281001 := n0_; have BK271 := n1_; have BK272 := n2_; have BK273 := n3_; have BK280 := n4_; have HB := n5_; clear n0_ n1_ n2_ n3_ n4_ n5_; (try (obtain ⟨hy65_, hz65_⟩ := Kd.R_celln 0 HO_281001.out (x11_2 : Int) (of_decide_eq_true (by first | (with_reducible assumption) | assumption)) (of_decide_eq_true (by first | (with_reducible assumption) | assumption)))); (try (have HP65 := Kd.R_putg HO_281001.out (x11_2 : Int) t283)))); refine store_event (t := 3) (p := 62) (v := ?vo_w66) (w1 := (wr.setCell ⟨go54, (x11_2 : Int).toNat, none⟩ (.int .i64 t283))) ?hg ?ho ?hn ?hr ?_; (case ho => rfl); (case hg => rfl); (case hn => rfl); (case hr => first | (go_simp; done) | (go_simp; rfl)); intro w66 hw; have hg : wr.grownBy w66 (some go54) := (by rw [hw]; exact HP65.2); have hp_ : Kd.R (Kd.int .i64) 3 w66 w.heap.size (fun _ => True) (.slice (some ⟨go54, 0, none⟩) x281001_2.length co54) y285 := (by rw [hw, Ny285.out]; exact HP65.1); clear HP65; have n0_ := Aside0.mk (hp_); have n1_ := Aside0.mk (blk_grown (g := gb271) (o := .cells #[.int .i64 a0_0, .slice (some ad281) l0_1.length c0_1] 36 (0, 0)) (mb BK271) hg (Kd.R_ne HO_281001.out BK271.out (by decide))); have n2_ := Aside0.mk (blk_grown (g := gb272) (o := .cells #[.int .i64 a2_0, .slice (some ad282) l2_1.length c2_1] 36 (0, 0)) (mb BK272) hg (Kd.R_ne HO_281001.out BK272.out (by decide))); have n3_ := Aside0.mk (blk_grown (g := gb273) (o := .cells #[.int .i64 0, .slice none 0 0] 36 (0, 0)) (mb BK273) hg (Kd.R_ne HO_281001.out BK273.out (by decide))); have n4_ := Aside0.mk (blk_grown (g := gb280) (o := .cells #[.int .i64 0, .slice (some ⟨go54, 0, none⟩) x281001_2.length co54] 36 (0, 0)) (mb BK280) hg (Kd.R_ne HO_281001.out BK280.out (by decide))); have n5_ := Aside0.mk ((by rw [hw]; exact below_set (HB.out) GB54.out : Below w.heap.size w w66)); clear HO_281001 BK271 BK272 BK273 BK280 HB; have HO_281001 := n0_; have BK271 := n1_; have BK272 := n2_; have BK273 := n3_; have BK280 := n4_; have HB := n5_; clear n0_ n1_ n2_ n3_ n4_ n5_; clear hg hw hp_)); try go_wp2_with (first | (go_at_call 92; (with_reducible refine (spec_l4Sum.calls (rd l0_1 x11_2) a1 (rd l2_1 x11_2) t283 t284 _ A52.out).mono ?_); rintro e w' ⟨rfl, ⟨nd, rfl⟩⟩; (try first | exact ⟨rfl, _, World.drewN_drewN _ _ _⟩ | exact ⟨rfl, _, Eq.trans (World.drewN_drewN _ _ _) (congrArg (World.drewN _) (Nat.add_assoc _ _ _))⟩); have := NB280_273.out; have := NB273_280.out; obtain ⟨_, _, _, _⟩ := cFour BK280; have p54 : 0 ≤ (x11_2 : Int) := of_decide_eq_true (by first | (with_reducible assumption) | assumption); have q54 : (x11_2 : Int) < ((x281001_2.length : Int) : Int) := of_decide_eq_true (by first | (with_reducible assumption) | assumption); obtain ⟨go54, co54, eo54, gb54, gl54, cl54, HG54⟩ := Kd.R_form HO_281001.out (by omega); (first | cases eo54 | (injection eo54 with ea_ en_ ec_; (first | subst ea_ | (injection ea_ with ea_; subst ea_)); subst ec_; clear en_)); have GB54 := Aside0.mk gb54; have GG54 := Aside0.mk HG54; clear gb54 gl54 HG54; obtain ⟨hx54_0, hf54_0⟩ := Kd.R_celln 0 HO_281001.out (x11_2 : Int) p54 q54; replace p54 := eq_true p54; replace q54 := eq_true q54; obtain ⟨hy65_, hz65_⟩ := Kd.R_celln 0 HO_281001.out (x11_2 : Int) (of_decide_eq_true (by first | (with_reducible assumption) | assumption)) (of_decide_eq_true (by first | (with_reducible assumption) | assumption)); have HP65 := Kd.R_putg HO_281001.out (x11_2 : Int) t283) | ((with_reducible refine gate_store (t := 3) (p := 62) rfl ?_); (try (rw [drewN_self wr]; generalize hq_ : World.drewN wr _ = wr; have n0_ := Aside0.mk (Kd.R_at hq_ HO_281001.out); have n1_ := Aside0.mk (blk_at hq_ BK271.out); have n2_ := Aside0.mk (blk_at hq_ BK272.out); have n3_ := Aside0.mk (blk_at hq_ BK273.out); have n4_ := Aside0.mk (blk_at hq_ BK280.out); have n5_ := Aside0.mk (below_at hq_ HB.out); clear hq_ HO_281001 BK271 BK272 BK273 BK280 HB; have HO_281001 := n0_; have BK271 := n1_; have BK272 := n2_; have BK273 := n3_; have BK280 := n4_; have HB := n5_; clear n0_ n1_ n2_ n3_ n4_ n5_; (try (obtain ⟨hy65_, hz65_⟩ := Kd.R_celln 0 HO_281001.out (x11_2 : Int) (of_decide_eq_true (by first | (with_reducible assumption) | assumption)) (of_decide_eq_true (by first | (with_reducible assumption) | assumption)))); (try (have HP65 := Kd.R_putg HO_281001.out (x11_2 : Int) t283)))); refine store_event (t := 3) (p := 62) (v := ?vo_w66) (w1 := (wr.setCell ⟨go54, (x11_2 : Int).toNat, none⟩ (.int .i64 t283))) ?hg ?ho ?hn ?hr ?_; (case ho => rfl); (case hg => rfl); (case hn => rfl); (case hr => first | (go_simp; done) | (go_simp; rfl)); intro w66 hw; have hg : wr.grownBy w66 (some go54) := (by rw [hw]; exact HP65.2); have hp_ : Kd.R (Kd.int .i64) 3 w66 w.heap.size (fun _ => True) (.slice (some ⟨go54, 0, none⟩) x281001_2.length co54) y285 := (by rw [hw, Ny285.out]; exact HP65.1); clear HP65; have n0_ := Aside0.mk (hp_); have n1_ := Aside0.mk (blk_grown (g := gb271) (o := .cells #[.int .i64 a0_0, .slice (some ad281) l0_1.length c0_1] 36 (0, 0)) (mb BK271) hg (Kd.R_ne HO_281001.out BK271.out (by decide))); have n2_ := Aside0.mk (blk_grown (g := gb272) (o := .cells #[.int .i64 a2_0, .slice (some ad282) l2_1.length c2_1] 36 (0, 0)) (mb BK272) hg (Kd.R_ne HO_281001.out BK272.out (by decide))); have n3_ := Aside0.mk (blk_grown (g := gb273) (o := .cells #[.int .i64 0, .slice none 0 0] 36 (0, 0)) (mb BK273) hg (Kd.R_ne HO_281001.out BK273.out (by decide))); have n4_ := Aside0.mk (blk_grown (g := gb280) (o := .cells #[.int .i64 0, .slice (some ⟨go54, 0, none⟩) x281001_2.length co54] 36 (0, 0)) (mb BK280) hg (Kd.R_ne HO_281001.out BK280.out (by decide))); have n5_ := Aside0.mk ((by rw [hw]; exact below_set (HB.out) GB54.out : Below w.heap.size w w66)); clear HO_281001 BK271 BK272 BK273 BK280 HB; have HO_281001 := n0_; have BK271 := n1_; have BK272 := n2_; have BK273 := n3_; have BK280 := n4_; have HB := n5_; clear n0_ n1_ n2_ n3_ n4_ n5_; clear hg hw hp_)))
             go_roundg k2
             case measure => have := HJ3.out; have := HK2.out; omega
             case rel => exact ⟨(t284), (wrap64 (x11_2 + 1)), (y285), (.slice (some ⟨go54, 0, none⟩) x281001_2.length co54), (by first | rfl | (simp; done) | (simp [*]; done)), (by first | rfl | (simp; done) | (simp [*]; done)), H', ⟨by have := HJ3.out; have := HK2.out; omega⟩, ⟨by (with_reducible repeat (first | apply Kd.R_alloc | apply Kd.R_drewN | apply Kd.R_drew)); exact HO_281001.out⟩, ⟨mb BK271⟩, ⟨mb BK272⟩, ⟨mb BK273⟩, ⟨mb BK280⟩, ⟨ms HB⟩⟩
            replace c55 := Bool.eq_false_iff.mpr c55
            subst c55
            have H1 : (spec_AddScaled.l0 k2 a1 (l0_1.length : Int) false (wrap64 (x11_2 + 1)) a0_0 l0_1 a2_0 l2_1 0 y285) = some (r1, r2, r3) := by rw [if_neg (show ¬ (false = true) by decide)] at H; exact H
            clear H
            have H := H1
            clear H1
            have H' := Aside0.mk H
            clear H
            have := NB271_272.out
            have := NB272_271.out
            have := NB271_273.out
            have := NB273_271.out
            have := NB271_280.out
            have := NB280_271.out
            obtain ⟨_, _, _, _⟩ := cFour BK271
            have p281 : 0 ≤ (x11_2 : Int) := of_decide_eq_true (by first | (with_reducible assumption) | assumption)
            have q281 : x11_2 < (l0_1.length : Int) := of_decide_eq_true (by first | (with_reducible assumption) | assumption)
            obtain ⟨ad281, e281, hx281_0⟩ := Kd.at_int HR0_1.out x11_2 p281 q281
            cases e281
            replace hx281_0 := (HB.out.cell (World.block_lt_of_cell? w _ hx281_0)).trans hx281_0
            replace p281 := eq_true p281
            replace q281 := eq_true q281
            have := NB272_273.out
            have := NB273_272.out
            have := NB272_280.out
            have := NB280_272.out
            obtain ⟨_, _, _, _⟩ := cFour BK272
            have p282 : 0 ≤ (x11_2 : Int) := of_decide_eq_true (by first | (with_reducible assumption) | assumption)
            have q282 : x11_2 < (l2_1.length : Int) := of_decide_eq_true (by first | (with_reducible assumption) | assumption)
            obtain ⟨ad282, e282, hx282_0⟩ := Kd.at_int HR2_1.out x11_2 p282 q282
            cases e282
            replace hx282_0 := (HB.out.cell (World.block_lt_of_cell? w _ hx282_0)).trans hx282_0
            replace p282 := eq_true p282
            replace q282 := eq_true q282
            go_wp2_with (first | (go_at_call 92; (with_reducible refine (spec_l4Sum.calls (rd l0_1 x11_2) a1 (rd l2_1 x11_2) t283 t284 _ A52.out).mono ?_); rintro e w' ⟨rfl, ⟨nd, rfl⟩⟩; (try first | exact ⟨rfl, _, World.drewN_drewN _ _ _⟩ | exact ⟨rfl, _, Eq.trans (World.drewN_drewN _ _ _) (congrArg (World.drewN _) (Nat.add_assoc _ _ _))⟩); have := NB280_273.out; have := NB273_280.out; obtain ⟨_, _, _, _⟩ := cFour BK280; have p54 : 0 ≤ (x11_2 : Int) := of_decide_eq_true (by first | (with_reducible assumption) | assumption); have q54 : (x11_2 : Int) < ((x281001_2.length : Int) : Int) := of_decide_eq_true (by first | (with_reducible assumption) | assumption); obtain ⟨go54, co54, eo54, gb54, gl54, cl54, HG54⟩ := Kd.R_form HO_281001.out (by omega); (first | cases eo54 | (injection eo54 with ea_ en_ ec_; (first | subst ea_ | (injection ea_ with ea_; subst ea_)); subst ec_; clear en_)); have GB54 := Aside0.mk gb54; have GG54 := Aside0.mk HG54; clear gb54 gl54 HG54; obtain ⟨hx54_0, hf54_0⟩ := Kd.R_celln 0 HO_281001.out (x11_2 : Int) p54 q54; replace p54 := eq_true p54; replace q54 := eq_true q54; obtain ⟨hy76_, hz76_⟩ := Kd.R_celln 0 HO_281001.out (x11_2 : Int) (of_decide_eq_true (by first | (with_reducible assumption) | assumption)) (of_decide_eq_true (by first | (with_reducible assumption) | assumption)); have HP76 := Kd.R_putg HO_281001.out (x11_2 : Int) t283) | ((with_reducible refine gate_store (t := 3) (p := 62) rfl ?_); (try (rw [drewN_self wr]; generalize hq_ : World.drewN wr _ = wr; have n0_ := Aside0.mk (Kd.R_at hq_ HO_281001.out); have n1_ := Aside0.mk (blk_at hq_ BK271.out); have n2_ := Aside0.mk (blk_at hq_ BK272.out); have n3_ := Aside0.mk (blk_at hq_ BK273.out); have n4_ := Aside0.mk (blk_at hq_ BK280.out); have n5_ := Aside0.mk (below_at hq_ HB.out); clear hq_ HO_281001 BK271 BK272 BK273 BK280 HB; have HO_281001 := n0_; have BK271 := n1_; have BK272 := n2_; have BK273 := n3_; have BK280 := n4_; have HB := n5_; clear n0_ n1_ n2_ n3_ n4_ n5_; (try (obtain ⟨hy76_, hz76_⟩ := Kd.R_celln 0 HO_281001.out (x11_2 : Int) (of_decide_eq_true (by first | (with_reducible assumption) | assumption)) (of_decide_eq_true (by first | (with_reducible assumption) | assumption)))); (try (have HP76 := Kd.R_putg HO_281001.out (x11_2 : Int) t283)))); refine store_event (t := 3) (p := 62) (v := ?vo_w77) (w1 := (wr.setCell ⟨go54, (x11_2 : Int).toNat, none⟩ (.int .i64 t283))) ?hg ?ho ?hn ?hr ?_; (case ho => rfl); (case hg => rfl); (case hn => rfl); (case hr => first | (go_simp; done) | (go_simp; rfl)); intro w77 hw; have hg : wr.grownBy w77 (some go54) := (by rw [hw]; exact HP76.2); have hp_ : Kd.R (Kd.int .i64) 3 w77 w.heap.size (fun _ => True) (.slice (some ⟨go54, 0, none⟩) x281001_2.length co54) y285 := (by rw [hw, Ny285.out]; exact HP76.1); clear HP76; have n0_ := Aside0.mk (hp_); have n1_ := Aside0.mk (blk_grown (g := gb271) (o := .cells #[.int .i64 a0_0, .slice (some ad281) l0_1.length c0_1] 36 (0, 0)) (mb BK271) hg (Kd.R_ne HO_281001.out BK271.out (by decide))); have n2_ := Aside0.mk (blk_grown (g := gb272) (o := .cells #[.int .i64 a2_0, .slice (some ad282) l2_1.length c2_1] 36 (0, 0)) (mb BK272) hg (Kd.R_ne HO_281001.out BK272.out (by decide))); have n3_ := Aside0.mk (blk_grown (g := gb273) (o := .cells #[.int .i64 0, .slice none 0 0] 36 (0, 0)) (mb BK273) hg (Kd.R_ne HO_281001.out BK273.out (by decide))); have n4_ := Aside0.mk (blk_grown (g := gb280) (o := .cells #[.int .i64 0, .slice (some ⟨go54, 0, none⟩) x281001_2.length co54] 36 (0, 0)) (mb BK280) hg (Kd.R_ne HO_281001.out BK280.out (by decide))); have n5_ := Aside0.mk ((by rw [hw]; exact below_set (HB.out) GB54.out : Below w.heap.size w w77)); clear HO_281001 BK271 BK272 BK273 BK280 HB; have HO_281001 := n0_; have BK271 := n1_; have BK272 := n2_; have BK273 := n3_; have BK280 := n4_; have HB := n5_; clear n0_ n1_ n2_ n3_ n4_ n5_; clear hg hw hp_))
            repeat (go_quiet (first | (go_at_call 92; (with_reducible refine (spec_l4Sum.calls (rd l0_1 x11_2) a1 (rd l2_1 x11_2) t283 t284 _ A52.out).mono ?_); rintro e w' ⟨rfl, ⟨nd, rfl⟩⟩; (try first | exact ⟨rfl, _, World.drewN_drewN _ _ _⟩ | exact ⟨rfl, _, Eq.trans (World.drewN_drewN _ _ _) (congrArg (World.drewN _) (Nat.add_assoc _ _ _))⟩); have := NB280_273.out; have := NB273_280.out; obtain ⟨_, _, _, _⟩ := cFour BK280; have p54 : 0 ≤ (x11_2 : Int) := of_decide_eq_true (by first | (with_reducible assumption) | assumption); have q54 : (x11_2 : Int) < ((x281001_2.length : Int) : Int) := of_decide_eq_true (by first | (with_reducible assumption) | assumption); obtain ⟨go54, co54, eo54, gb54, gl54, cl54, HG54⟩ := Kd.R_form HO_281001.out (by omega); (first | cases eo54 | (injection eo54 with ea_ en_ ec_; (first | subst ea_ | (injection ea_ with ea_; subst ea_)); subst ec_; clear en_)); have GB54 := Aside0.mk gb54; have GG54 := Aside0.mk HG54; clear gb54 gl54 HG54; obtain ⟨hx54_0, hf54_0⟩ := Kd.R_celln 0 HO_281001.out (x11_2 : Int) p54 q54; replace p54 := eq_true p54; replace q54 := eq_true q54; obtain ⟨hy76_, hz76_⟩ := Kd.R_celln 0 HO_281001.out (x11_2 : Int) (of_decide_eq_true (by first | (with_reducible assumption) | assumption)) (of_decide_eq_true (by first | (with_reducible assumption) | assumption)); have HP76 := Kd.R_putg HO_281001.out (x11_2 : Int) t283) | ((with_reducible refine gate_store (t := 3) (p := 62) rfl ?_); (try (rw [drewN_self wr]; generalize hq_ : World.drewN wr _ = wr; have n0_ := Aside0.mk (Kd.R_at hq_ HO_281001.out); have n1_ := Aside0.mk (blk_at hq_ BK271.out); have n2_ := Aside0.mk (blk_at hq_ BK272.out); have n3_ := Aside0.mk (blk_at hq_ BK273.out); have n4_ := Aside0.mk (blk_at hq_ BK280.out); have n5_ := Aside0.mk (below_at hq_ HB.out); clear hq_ HO_281001 BK271 BK272 BK273 BK280 HB; have HO_281001 := n0_; have BK271 := n1_; have BK272 := n2_; have BK273 := n3_; have BK280 := n4_; have HB := n5_; clear n0_ n1_ n2_ n3_ n4_ n5_; (try (obtain ⟨hy76_, hz76_⟩ := Kd.R_celln 0 HO_281001.out (x11_2 : Int) (of_decide_eq_true (by first | (with_reducible assumption) | assumption)) (of_decide_eq_true (by first | (with_reducible assumption) | assumption)))); (try (have HP76 := Kd.R_putg HO_281001.out (x11_2 : Int) t283)))); refine store_event (t := 3) (p := 62) (v := ?vo_w77) (w1 := (wr.setCell ⟨go54, (x11_2 : Int).toNat, none⟩ (.int .i64 t283))) ?hg ?ho ?hn ?hr ?_; (case ho => rfl); (case hg => rfl); (case hn => rfl); (case hr => first | (go_simp; done) | (go_simp; rfl)); intro w77 hw; have hg : wr.grownBy w77 (some go54) := (by rw [hw]; exact HP76.2); have hp_ : Kd.R (Kd.int .i64) 3 w77 w.heap.size (fun _ => True) (.slice (some ⟨go54, 0, none⟩) x281001_2.length co54) y285 := (by rw [hw, Ny285.out]; exact HP76.1); clear HP76; have n0_ := Aside0.mk (hp_); have n1_ := Aside0.mk (blk_grown (g := gb271) (o := .cells #[.int .i64 a0_0, .slice (some ad281) l0_1.length c0_1] 36 (0, 0)) (mb BK271) hg (Kd.R_ne HO_281001.out BK271.out (by decide))); have n2_ := Aside0.mk (blk_grown (g := gb272) (o := .cells #[.int .i64 a2_0, .slice (some ad282) l2_1.length c2_1] 36 (0, 0)) (mb BK272) hg (Kd.R_ne HO_281001.out BK272.out (by decide))); have n3_ := Aside0.mk (blk_grown (g := gb273) (o := .cells #[.int .i64 0, .slice none 0 0] 36 (0, 0)) (mb BK273) hg (Kd.R_ne HO_281001.out BK273.out (by decide))); have n4_ := Aside0.mk (blk_grown (g := gb280) (o := .cells #[.int .i64 0, .slice (some ⟨go54, 0, none⟩) x281001_2.length co54] 36 (0, 0)) (mb BK280) hg (Kd.R_ne HO_281001.out BK280.out (by decide))); have n5_ := Aside0.mk ((by rw [hw]; exact below_set (HB.out) GB54.out : Below w.heap.size w w77)); clear HO_281001 BK271 BK272 BK273 BK280 HB; have HO_281001 := n0_; have BK271 := n1_; have BK272 := n2_; have BK273 := n3_; have BK280 := n4_; have HB := n5_; clear n0_ n1_ n2_ n3_ n4_ n5_; clear hg hw hp_)); try go_wp2_with (first | (go_at_call 92; (with_reducible refine (spec_l4Sum.calls (rd l0_1 x11_2) a1 (rd l2_1 x11_2) t283 t284 _ A52.out).mono ?_); rintro e w' ⟨rfl, ⟨nd, rfl⟩⟩; (try first | exact ⟨rfl, _, World.drewN_drewN _ _ _⟩ | exact ⟨rfl, _, Eq.trans (World.drewN_drewN _ _ _) (congrArg (World.drewN _) (Nat.add_assoc _ _ _))⟩); have := NB280_273.out; have := NB273_280.out; obtain ⟨_, _, _, _⟩ := cFour BK280; have p54 : 0 ≤ (x11_2 : Int) := of_decide_eq_true (by first | (with_reducible assumption) | assumption); have q54 : (x11_2 : Int) < ((x281001_2.length : Int) : Int) := of_decide_eq_true (by first | (with_reducible assumption) | assumption); obtain ⟨go54, co54, eo54, gb54, gl54, cl54, HG54⟩ := Kd.R_form HO_281001.out (by omega); (first | cases eo54 | (injection eo54 with ea_ en_ ec_; (first | subst ea_ | (injection ea_ with ea_; subst ea_)); subst ec_; clear en_)); have GB54 := Aside0.mk gb54; have GG54 := Aside0.mk HG54; clear gb54 gl54 HG54; obtain ⟨hx54_0, hf54_0⟩ := Kd.R_celln 0 HO_281001.out (x11_2 : Int) p54 q54; replace p54 := eq_true p54; replace q54 := eq_true q54; obtain ⟨hy76_, hz76_⟩ := Kd.R_celln 0 HO_281001.out (x11_2 : Int) (of_decide_eq_true (by first | (with_reducible assumption) | assumption)) (of_decide_eq_true (by first | (with_reducible assumption) | assumption)); have HP76 := Kd.R_putg HO_281001.out (x11_2 : Int) t283) | ((with_reducible refine gate_store (t := 3) (p := 62) rfl ?_); (try (rw [drewN_self wr]; generalize hq_ : World.drewN wr _ = wr; have n0_ := Aside0.mk (Kd.R_at hq_ HO_281001.out); have n1_ := Aside0.mk (blk_at hq_ BK271.out); have n2_ := Aside0.mk (blk_at hq_ BK272.out); have n3_ := Aside0.mk (blk_at hq_ BK273.out); have n4_ := Aside0.mk (blk_at hq_ BK280.out); have n5_ := Aside0.mk (below_at hq_ HB.out); clear hq_ HO_281001 BK271 BK272 BK273 BK280 HB; have HO_281001 := n0_; have BK271 := n1_; have BK272 := n2_; have BK273 := n3_; have BK280 := n4_; have HB := n5_; clear n0_ n1_ n2_ n3_ n4_ n5_; (try (obtain ⟨hy76_, hz76_⟩ := Kd.R_celln 0 HO_281001.out (x11_2 : Int) (of_decide_eq_true (by first | (with_reducible assumption) | assumption)) (of_decide_eq_true (by first | (with_reducible assumption) | assumption)))); (try (have HP76 := Kd.R_putg HO_281001.out (x11_2 : Int) t283)))); refine store_event (t := 3) (p := 62) (v := ?vo_w77) (w1 := (wr.setCell ⟨go54, (x11_2 : Int).toNat, none⟩ (.int .i64 t283))) ?hg ?ho ?hn ?hr ?_; (case ho => rfl); (case hg => rfl); (case hn => rfl); (case hr => first | (go_simp; done) | (go_simp; rfl)); intro w77 hw; have hg : wr.grownBy w77 (some go54) := (by rw [hw]; exact HP76.2); have hp_ : Kd.R (Kd.int .i64) 3 w77 w.heap.size (fun _ => True) (.slice (some ⟨go54, 0, none⟩) x281001_2.length co54) y285 := (by rw [hw, Ny285.out]; exact HP76.1); clear HP76; have n0_ := Aside0.mk (hp_); have n1_ := Aside0.mk (blk_grown (g := gb271) (o := .cells #[.int .i64 a0_0, .slice (some ad281) l0_1.length c0_1] 36 (0, 0)) (mb BK271) hg (Kd.R_ne HO_281001.out BK271.out (by decide))); have n2_ := Aside0.mk (blk_grown (g := gb272) (o := .cells #[.int .i64 a2_0, .slice (some ad282) l2_1.length c2_1] 36 (0, 0)) (mb BK272) hg (Kd.R_ne HO_281001.out BK272.out (by decide))); have n3_ := Aside0.mk (blk_grown (g := gb273) (o := .cells #[.int .i64 0, .slice none 0 0] 36 (0, 0)) (mb BK273) hg (Kd.R_ne HO_281001.out BK273.out (by decide))); have n4_ := Aside0.mk (blk_grown (g := gb280) (o := .cells #[.int .i64 0, .slice (some ⟨go54, 0, none⟩) x281001_2.length co54] 36 (0, 0)) (mb BK280) hg (Kd.R_ne HO_281001.out BK280.out (by decide))); have n5_ := Aside0.mk ((by rw [hw]; exact below_set (HB.out) GB54.out : Below w.heap.size w w77)); clear HO_281001 BK271 BK272 BK273 BK280 HB; have HO_281001 := n0_; have BK271 := n1_; have BK272 := n2_; have BK273 := n3_; have BK280 := n4_; have HB := n5_; clear n0_ n1_ n2_ n3_ n4_ n5_; clear hg hw hp_)))
            go_roundg k2
            case measure => have := HJ3.out; have := HK2.out; omega
            case rel => exact ⟨(false), (wrap64 (x11_2 + 1)), (y285), (.slice (some ⟨go54, 0, none⟩) x281001_2.length co54), (by first | rfl | (simp; done) | (simp [*]; done)), (by first | rfl | (simp; done) | (simp [*]; done)), H', ⟨by have := HJ3.out; have := HK2.out; omega⟩, ⟨by (with_reducible repeat (first | apply Kd.R_alloc | apply Kd.R_drewN | apply Kd.R_drew)); exact HO_281001.out⟩, ⟨mb BK271⟩, ⟨mb BK272⟩, ⟨mb BK273⟩, ⟨mb BK280⟩, ⟨ms HB⟩⟩
           rw [if_neg c53] at H
           exact absurd H (by simp)
          rw [if_neg c51] at H
          exact absurd H (by simp)
         rw [if_neg c50] at H
         exact absurd H (by simp)
        rw [if_neg c49] at H
        exact absurd H (by simp)
       rw [if_neg c48] at H
       have c48b0 : decide (x11_2 < (l0_1.length : Int)) = false := decide_eq_false c48
       clear c48
       replace H := Option.bind_eq_some_iff.mp H
       obtain ⟨⟨t286, t287⟩, A780, H⟩ := H
       replace H : (if x10_2 = true then (if t287 = true then (some (t286, x281001_2, true)) else (some (0, ([] : List Int), false))) else (some (0, ([] : List Int), false))) = some (r1, r2, r3) := H
       have A78 := Aside0.mk A780
       clear A780
       by_cases c79 : x10_2 = true
       ·subst c79
        have H1 : (if t287 = true then (some (t286, x281001_2, true)) else (some (0, ([] : List Int), false))) = some (r1, r2, r3) := by rw [if_pos rfl] at H; exact H
        clear H
        have H := H1
        clear H1
        by_cases c80 : t287 = true
        ·subst c80
         have H1 : (some (t286, x281001_2, true)) = some (r1, r2, r3) := by rw [if_pos rfl] at H; exact H
         clear H
         have H := H1
         clear H1
         simp only [Option.some.injEq, Prod.mk.injEq] at H
         obtain ⟨rfl, rfl, rfl⟩ := H
         have := NB271_272.out
         have := NB272_271.out
         have := NB271_273.out
         have := NB273_271.out
         have := NB271_280.out
         have := NB280_271.out
         obtain ⟨_, _, _, _⟩ := cFour BK271
         have := NB272_273.out
         have := NB273_272.out
         have := NB272_280.out
         have := NB280_272.out
         obtain ⟨_, _, _, _⟩ := cFour BK272
         go_wp2_with (first | (go_at_call 92; (with_reducible refine (spec_l4Sum.calls a0_0 a1 a2_0 t286 true _ A78.out).mono ?_); rintro e w' ⟨rfl, ⟨nd, rfl⟩⟩; (try first | exact ⟨rfl, _, World.drewN_drewN _ _ _⟩ | exact ⟨rfl, _, Eq.trans (World.drewN_drewN _ _ _) (congrArg (World.drewN _) (Nat.add_assoc _ _ _))⟩); have := NB280_273.out; have := NB273_280.out; obtain ⟨_, _, _, _⟩ := cFour BK280; obtain ⟨_, _, _, _⟩ := cFour BK273; obtain ⟨Ao91, co91, eo91⟩ := Kd.R_slice HO_281001.out; subst eo91))
         repeat (go_quiet (first | (go_at_call 92; (with_reducible refine (spec_l4Sum.calls a0_0 a1 a2_0 t286 true _ A78.out).mono ?_); rintro e w' ⟨rfl, ⟨nd, rfl⟩⟩; (try first | exact ⟨rfl, _, World.drewN_drewN _ _ _⟩ | exact ⟨rfl, _, Eq.trans (World.drewN_drewN _ _ _) (congrArg (World.drewN _) (Nat.add_assoc _ _ _))⟩); have := NB280_273.out; have := NB273_280.out; obtain ⟨_, _, _, _⟩ := cFour BK280; obtain ⟨_, _, _, _⟩ := cFour BK273; obtain ⟨Ao91, co91, eo91⟩ := Kd.R_slice HO_281001.out; subst eo91)); try go_wp2_with (first | (go_at_call 92; (with_reducible refine (spec_l4Sum.calls a0_0 a1 a2_0 t286 true _ A78.out).mono ?_); rintro e w' ⟨rfl, ⟨nd, rfl⟩⟩; (try first | exact ⟨rfl, _, World.drewN_drewN _ _ _⟩ | exact ⟨rfl, _, Eq.trans (World.drewN_drewN _ _ _) (congrArg (World.drewN _) (Nat.add_assoc _ _ _))⟩); have := NB280_273.out; have := NB273_280.out; obtain ⟨_, _, _, _⟩ := cFour BK280; obtain ⟨_, _, _, _⟩ := cFour BK273; obtain ⟨Ao91, co91, eo91⟩ := Kd.R_slice HO_281001.out; subst eo91)))
         refine bodyPost_ret (results_ct rfl _ _ gb273 36 #[.int .i64 t286, .slice Ao91 x281001_2.length co91] (0, 0) _ rfl (by (with_reducible repeat (first | refine blk_drewN ?_ _ | refine blk_drew ?_ | refine blk_alloc ?_ _)); refine blk_put (cs := #[.int .i64 t286, .slice none 0 0]) ?_ 1 _ rfl; (with_reducible repeat (first | refine blk_drewN ?_ _ | refine blk_drew ?_ | refine blk_alloc ?_ _)); refine blk_put (cs := #[.int .i64 0, .slice none 0 0]) ?_ 0 _ rfl; (with_reducible repeat (first | refine blk_drewN ?_ _ | refine blk_drew ?_ | refine blk_alloc ?_ _)); refine blk_far ?_ NB273_280.out _; (with_reducible repeat (first | refine blk_drewN ?_ _ | refine blk_drew ?_ | refine blk_alloc ?_ _)); exact BK273.out) Try.underlying36 rfl (by kernel_rfl)) rfl ?_
         exact ⟨_, by first | rfl | (simp [errW_none, errW_some] <;> rfl) | (simp [*, errW_none, errW_some] <;> rfl), by (with_reducible repeat (first | apply Kd.R_alloc | apply Kd.R_drewN | apply Kd.R_drew)); exact Kd.R_mono (Kd.R_far (p := ⟨gb273, 1, none⟩) (Kd.R_far (p := ⟨gb273, 0, none⟩) (Kd.R_far (p := ⟨gb280, 0, none⟩) (Kd.R_types (Kd.R_types HO_281001.out BK280.out (by decide)) BK273.out (by decide)) (fun _ hk => hk.1.2) (.int .i64 t286)) (fun _ hk => hk.2) (.int .i64 t286)) (fun _ hk => hk.2) (.slice Ao91 x281001_2.length co91)) (fun _ hk => trivial), ms HB⟩
        replace c80 := Bool.eq_false_iff.mpr c80
        subst c80
        have H1 : (some (0, ([] : List Int), false)) = some (r1, r2, r3) := by rw [if_neg (show ¬ (false = true) by decide)] at H; exact H
        clear H
        have H := H1
        clear H1
        simp only [Option.some.injEq, Prod.mk.injEq] at H
        obtain ⟨rfl, rfl, rfl⟩ := H
        have := NB271_272.out
        have := NB272_271.out
        have := NB271_273.out
        have := NB273_271.out
        have := NB271_280.out
        have := NB280_271.out
        obtain ⟨_, _, _, _⟩ := cFour BK271
        have := NB272_273.out
        have := NB273_272.out
        have := NB272_280.out
        have := NB280_272.out
        obtain ⟨_, _, _, _⟩ := cFour BK272
        go_wp2_with (first | (go_at_call 92; (with_reducible refine (spec_l4Sum.calls a0_0 a1 a2_0 t286 false _ A78.out).mono ?_); rintro e w' ⟨rfl, ⟨nd, rfl⟩⟩; (try first | exact ⟨rfl, _, World.drewN_drewN _ _ _⟩ | exact ⟨rfl, _, Eq.trans (World.drewN_drewN _ _ _) (congrArg (World.drewN _) (Nat.add_assoc _ _ _))⟩); have := NB273_280.out; have := NB280_273.out; obtain ⟨_, _, _, _⟩ := cFour BK273))
        repeat (go_quiet (first | (go_at_call 92; (with_reducible refine (spec_l4Sum.calls a0_0 a1 a2_0 t286 false _ A78.out).mono ?_); rintro e w' ⟨rfl, ⟨nd, rfl⟩⟩; (try first | exact ⟨rfl, _, World.drewN_drewN _ _ _⟩ | exact ⟨rfl, _, Eq.trans (World.drewN_drewN _ _ _) (congrArg (World.drewN _) (Nat.add_assoc _ _ _))⟩); have := NB273_280.out; have := NB280_273.out; obtain ⟨_, _, _, _⟩ := cFour BK273)); try go_wp2_with (first | (go_at_call 92; (with_reducible refine (spec_l4Sum.calls a0_0 a1 a2_0 t286 false _ A78.out).mono ?_); rintro e w' ⟨rfl, ⟨nd, rfl⟩⟩; (try first | exact ⟨rfl, _, World.drewN_drewN _ _ _⟩ | exact ⟨rfl, _, Eq.trans (World.drewN_drewN _ _ _) (congrArg (World.drewN _) (Nat.add_assoc _ _ _))⟩); have := NB273_280.out; have := NB280_273.out; obtain ⟨_, _, _, _⟩ := cFour BK273)))
        refine bodyPost_ret (results_ct rfl _ _ gb273 36 #[.int .i64 0, .slice none 0 0] (0, 0) _ rfl (mq BK273) Try.underlying36 rfl (by kernel_rfl)) rfl ?_
        exact ⟨_, by first | rfl | (simp [errW_none, errW_some] <;> rfl) | (simp [*, errW_none, errW_some] <;> rfl), by first | exact Kd.R_nil _ _ _ _ _ | exact Kd.N_nil _ _ _ _ _ | exact Kd.V_nil _ _ _ _ _ | exact Kd.Q_nil _ _ _ _ _ | exact Kd.S_nil _ _ _ _ _, ms HB⟩
       replace c79 := Bool.eq_false_iff.mpr c79
       subst c79
       have H1 : (some (0, ([] : List Int), false)) = some (r1, r2, r3) := by rw [if_neg (show ¬ (false = true) by decide)] at H; exact H
       clear H
       have H := H1
       clear H1
       simp only [Option.some.injEq, Prod.mk.injEq] at H
       obtain ⟨rfl, rfl, rfl⟩ := H
       have := NB271_272.out
       have := NB272_271.out
       have := NB271_273.out
       have := NB273_271.out
       have := NB271_280.out
       have := NB280_271.out
       obtain ⟨_, _, _, _⟩ := cFour BK271
       have := NB272_273.out
       have := NB273_272.out
       have := NB272_280.out
       have := NB280_272.out
       obtain ⟨_, _, _, _⟩ := cFour BK272
       go_wp2_with (first | (go_at_call 92; (with_reducible refine (spec_l4Sum.calls a0_0 a1 a2_0 t286 t287 _ A78.out).mono ?_); rintro e w' ⟨rfl, ⟨nd, rfl⟩⟩; (try first | exact ⟨rfl, _, World.drewN_drewN _ _ _⟩ | exact ⟨rfl, _, Eq.trans (World.drewN_drewN _ _ _) (congrArg (World.drewN _) (Nat.add_assoc _ _ _))⟩); have := NB273_280.out; have := NB280_273.out; obtain ⟨_, _, _, _⟩ := cFour BK273))
       repeat (go_quiet (first | (go_at_call 92; (with_reducible refine (spec_l4Sum.calls a0_0 a1 a2_0 t286 t287 _ A78.out).mono ?_); rintro e w' ⟨rfl, ⟨nd, rfl⟩⟩; (try first | exact ⟨rfl, _, World.drewN_drewN _ _ _⟩ | exact ⟨rfl, _, Eq.trans (World.drewN_drewN _ _ _) (congrArg (World.drewN _) (Nat.add_assoc _ _ _))⟩); have := NB273_280.out; have := NB280_273.out; obtain ⟨_, _, _, _⟩ := cFour BK273)); try go_wp2_with (first | (go_at_call 92; (with_reducible refine (spec_l4Sum.calls a0_0 a1 a2_0 t286 t287 _ A78.out).mono ?_); rintro e w' ⟨rfl, ⟨nd, rfl⟩⟩; (try first | exact ⟨rfl, _, World.drewN_drewN _ _ _⟩ | exact ⟨rfl, _, Eq.trans (World.drewN_drewN _ _ _) (congrArg (World.drewN _) (Nat.add_assoc _ _ _))⟩); have := NB273_280.out; have := NB280_273.out; obtain ⟨_, _, _, _⟩ := cFour BK273)))
       refine bodyPost_ret (results_ct rfl _ _ gb273 36 #[.int .i64 0, .slice none 0 0] (0, 0) _ rfl (mq BK273) Try.underlying36 rfl (by kernel_rfl)) rfl ?_
       exact ⟨_, by first | rfl | (simp [errW_none, errW_some] <;> rfl) | (simp [*, errW_none, errW_some] <;> rfl), by first | exact Kd.R_nil _ _ _ _ _ | exact Kd.N_nil _ _ _ _ _ | exact Kd.V_nil _ _ _ _ _ | exact Kd.Q_nil _ _ _ _ _ | exact Kd.S_nil _ _ _ _ _, ms HB⟩
    rw [if_neg c39] at H
    exact absurd H (by simp)
   rw [if_neg c38] at H
   exact absurd H (by simp)

end Go.Proofs.Ytelgmnlkkhikfaa.QFnFarkas
