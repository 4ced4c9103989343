-- Made by a program of this claim's own (wip/print): not the kit's print as it stands.
import Derived.Test.YtelgmnlkkhikfaaUFnFarkasTri
import Derived.Test.YtelgmnlkkhikfaaQFnFarkasx0
import Derived.Test.YtelgmnlkkhikfaaQFnFarkasx1
import Derived.Test.YtelgmnlkkhikfaaQFnFarkasx11
import Derived.Test.YtelgmnlkkhikfaaQFnFarkasx16
import Derived.Test.YtelgmnlkkhikfaaQFnFarkasx17
import Derived.Test.YtelgmnlkkhikfaaQFnFarkasx18
namespace Go.Proofs.Ytelgmnlkkhikfaa.QFnFarkas
open Go.RowKit Go.Proofs.YtelgmnlkkhikfaaV.PrintWords Go.Proofs.YtelgmnlkkhikfaaV.PrintLast Go.Proofs.YtelgmnlkkhikfaaV.PrintMore
attribute [local go_sem] max2_int min2_int max_two min_two max_three min_three max_four min_four   -- for this text's walks alone
set_option linter.unusedVariables false
set_option linter.unusedSimpArgs false

/-! ### laws_FnFarkas: function 9 -/
mutual
def laws_FnFarkas.j0 : Nat → List Int → Bool → Bool → Int → List (S36) → Int → List Int → Option (Bool)
 | 0, _, _, _, _, _, _, _ => none
 | k + 1, x0, x6, x35, x559000, x559001, x560000, x560001 => if x35 = true then (some false) else (laws_FnFarkas.l0 k x0 x6 0 x559000 x559001 x560000 x560001)
def laws_FnFarkas.l0 : Nat → List Int → Bool → Int → Int → List (S36) → Int → List Int → Option (Bool)
 | 0, _, _, _, _, _, _, _ => none
 | k + 1, x0, x6, x7, x559000, x559001, x560000, x560001 => if x7 < 8 then (laws_FnFarkas.j2 k x0 x6 x7 x6 x559000 x559001 x560000 x560001) else (laws_FnFarkas.j2 k x0 x6 x7 false x559000 x559001 x560000 x560001)
def laws_FnFarkas.j2 : Nat → List Int → Bool → Int → Bool → Int → List (S36) → Int → List Int → Option (Bool)
 | 0, _, _, _, _, _, _, _, _ => none
 | k + 1, x0, x6, x7, x40, x559000, x559001, x560000, x560001 => if x40 = true then (laws_FnFarkas.l1 k x0 x6 x7 (([] : List Int)) 0 x559000 x559001 x560000 x560001) else (some true)
def laws_FnFarkas.l1 : Nat → List Int → Bool → Int → List Int → Int → Int → List (S36) → Int → List Int → Option (Bool)
 | 0, _, _, _, _, _, _, _, _, _ => none
 | k + 1, x0, x6, x7, x8, x9, x559000, x559001, x560000, x560001 => if x9 < x559000 then ((laws_at0.f x0 (wrap64 (x7 + x9))).bind fun t567 => (if x8.length < 17592186044416 then (laws_FnFarkas.l1 k x0 x6 x7 (x8 ++ [wrap64 ((Int.tmod t567 14) - 4)]) (wrap64 (x9 + 1)) x559000 x559001 x560000 x560001) else (none))) else ((spec_EvalLin.f k x560000 x560001 x8).bind fun bt571 => ((spec_Satisfies.f k x559000 x559001 x8).bind fun t573 => (if t573 = true then (if bt571.1 < 0 then (some false) else (laws_FnFarkas.l0 k x0 x6 (wrap64 (x7 + 1)) x559000 x559001 x560000 x560001)) else (laws_FnFarkas.l0 k x0 x6 (wrap64 (x7 + 1)) x559000 x559001 x560000 x560001))))
end
def laws_FnFarkas.f (k : Nat) (l0 : List Int) : Option (Bool) := (laws_big.f l0).bind fun t545 => (if t545 = true then (some true) else ((spec_DrawCheckFarkas.f k l0).bind fun bt546 => ((impl_CheckFarkas.f k bt546.1 bt546.2.1 bt546.2.2.1 bt546.2.2.2.1 bt546.2.2.2.2.1 bt546.2.2.2.2.2).bind fun t561 => ((spec_CheckFarkas.f k bt546.1 bt546.2.1 bt546.2.2.1 bt546.2.2.2.1 bt546.2.2.2.2.1 bt546.2.2.2.2.2).bind fun t562 => (if (t561 != t562) = true then (laws_FnFarkas.j0 k l0 t561 true bt546.1 bt546.2.1 bt546.2.2.1 bt546.2.2.2.1) else ((impl_EqualFarkas.f k bt546.2.2.2.2.1 bt546.2.2.2.2.2 bt546.2.2.2.2.1 bt546.2.2.2.2.2).bind fun t563 => (laws_FnFarkas.j0 k l0 t561 (!t563) bt546.1 bt546.2.1 bt546.2.2.1 bt546.2.2.2.1)))))))
theorem laws_FnFarkas.mono_l : ∀ k, (∀ y0 y1 y2 y3 y4 y5 y6, LeO (laws_FnFarkas.j0 k y0 y1 y2 y3 y4 y5 y6) (laws_FnFarkas.j0 (k + 1) y0 y1 y2 y3 y4 y5 y6)) ∧ (∀ y0 y1 y2 y3 y4 y5 y6, LeO (laws_FnFarkas.l0 k y0 y1 y2 y3 y4 y5 y6) (laws_FnFarkas.l0 (k + 1) y0 y1 y2 y3 y4 y5 y6)) ∧ (∀ y0 y1 y2 y3 y4 y5 y6 y7, LeO (laws_FnFarkas.j2 k y0 y1 y2 y3 y4 y5 y6 y7) (laws_FnFarkas.j2 (k + 1) y0 y1 y2 y3 y4 y5 y6 y7)) ∧ (∀ y0 y1 y2 y3 y4 y5 y6 y7 y8, LeO (laws_FnFarkas.l1 k y0 y1 y2 y3 y4 y5 y6 y7 y8) (laws_FnFarkas.l1 (k + 1) y0 y1 y2 y3 y4 y5 y6 y7 y8))
 | 0 => ⟨fun _ _ _ _ _ _ _ r h => by simp [laws_FnFarkas.j0] at h, fun _ _ _ _ _ _ _ r h => by simp [laws_FnFarkas.l0] at h, fun _ _ _ _ _ _ _ _ r h => by simp [laws_FnFarkas.j2] at h, fun _ _ _ _ _ _ _ _ _ r h => by simp [laws_FnFarkas.l1] at h⟩
 | k + 1 => by
  obtain ⟨ih0, ih1, ih2, ih3⟩ := laws_FnFarkas.mono_l k
  refine ⟨?_, ?_, ?_, ?_⟩
  ·intro y0 y1 y2 y3 y4 y5 y6
   unfold laws_FnFarkas.j0
   repeat' with_reducible first
   | exact ih0 _ _ _ _ _ _ _
   | exact ih1 _ _ _ _ _ _ _
   | exact ih2 _ _ _ _ _ _ _ _
   | exact ih3 _ _ _ _ _ _ _ _ _
   | exact impl_CheckFarkas.mono _ _ _ _ _ _ _
   | exact impl_EqualFarkas.mono _ _ _ _ _
   | exact spec_CheckFarkas.mono _ _ _ _ _ _ _
   | exact spec_DrawCheckFarkas.mono _ _
   | exact spec_EvalLin.mono _ _ _ _
   | exact spec_Satisfies.mono _ _ _ _
   | exact LeO.refl _
   | exact LeO.none _
   | refine LeO.ite ?_ ?_
   | refine LeO.bind ?_ (fun _ => ?_)
  ·intro y0 y1 y2 y3 y4 y5 y6
   unfold laws_FnFarkas.l0
   repeat' with_reducible first
   | exact ih0 _ _ _ _ _ _ _
   | exact ih1 _ _ _ _ _ _ _
   | exact ih2 _ _ _ _ _ _ _ _
   | exact ih3 _ _ _ _ _ _ _ _ _
   | exact impl_CheckFarkas.mono _ _ _ _ _ _ _
   | exact impl_EqualFarkas.mono _ _ _ _ _
   | exact spec_CheckFarkas.mono _ _ _ _ _ _ _
   | exact spec_DrawCheckFarkas.mono _ _
   | exact spec_EvalLin.mono _ _ _ _
   | exact spec_Satisfies.mono _ _ _ _
   | exact LeO.refl _
   | exact LeO.none _
   | refine LeO.ite ?_ ?_
   | refine LeO.bind ?_ (fun _ => ?_)
  ·intro y0 y1 y2 y3 y4 y5 y6 y7
   unfold laws_FnFarkas.j2
   repeat' with_reducible first
   | exact ih0 _ _ _ _ _ _ _
   | exact ih1 _ _ _ _ _ _ _
   | exact ih2 _ _ _ _ _ _ _ _
   | exact ih3 _ _ _ _ _ _ _ _ _
   | exact impl_CheckFarkas.mono _ _ _ _ _ _ _
   | exact impl_EqualFarkas.mono _ _ _ _ _
   | exact spec_CheckFarkas.mono _ _ _ _ _ _ _
   | exact spec_DrawCheckFarkas.mono _ _
   | exact spec_EvalLin.mono _ _ _ _
   | exact spec_Satisfies.mono _ _ _ _
   | exact LeO.refl _
   | exact LeO.none _
   | refine LeO.ite ?_ ?_
   | refine LeO.bind ?_ (fun _ => ?_)
  intro y0 y1 y2 y3 y4 y5 y6 y7 y8
  unfold laws_FnFarkas.l1
  repeat' with_reducible first
  | exact ih0 _ _ _ _ _ _ _
  | exact ih1 _ _ _ _ _ _ _
  | exact ih2 _ _ _ _ _ _ _ _
  | exact ih3 _ _ _ _ _ _ _ _ _
  | exact impl_CheckFarkas.mono _ _ _ _ _ _ _
  | exact impl_EqualFarkas.mono _ _ _ _ _
  | exact spec_CheckFarkas.mono _ _ _ _ _ _ _
  | exact spec_DrawCheckFarkas.mono _ _
  | exact spec_EvalLin.mono _ _ _ _
  | exact spec_Satisfies.mono _ _ _ _
  | exact LeO.refl _
  | exact LeO.none _
  | refine LeO.ite ?_ ?_
  | refine LeO.bind ?_ (fun _ => ?_)
theorem laws_FnFarkas.mono : ∀ a0 k, LeO (laws_FnFarkas.f k a0) (laws_FnFarkas.f (k + 1) a0) := by
 intro a0 k
 obtain ⟨ih0, ih1, ih2, ih3⟩ := laws_FnFarkas.mono_l k
 unfold laws_FnFarkas.f
 repeat' with_reducible first
 | exact ih0 _ _ _ _ _ _ _
 | exact ih1 _ _ _ _ _ _ _
 | exact ih2 _ _ _ _ _ _ _ _
 | exact ih3 _ _ _ _ _ _ _ _ _
 | exact impl_CheckFarkas.mono _ _ _ _ _ _ _
 | exact impl_EqualFarkas.mono _ _ _ _ _
 | exact spec_CheckFarkas.mono _ _ _ _ _ _ _
 | exact spec_DrawCheckFarkas.mono _ _
 | exact spec_EvalLin.mono _ _ _ _
 | exact spec_Satisfies.mono _ _ _ _
 | exact LeO.refl _
 | exact LeO.none _
 | refine LeO.ite ?_ ?_
 | refine LeO.bind ?_ (fun _ => ?_)
set_option maxHeartbeats 8000000 in
set_option maxRecDepth 100000 in
theorem laws_FnFarkas.calls (k : Nat) (A0 : Option Addr) (c0 : Nat) (l0 : List Int) (r : Bool) (w : World) (hr0 : Kd.C (Kd.int .u8) w A0 l0.length l0) (hc0 : l0.length ≤ c0) (h : laws_FnFarkas.f k l0 = some r) :
  Calls Try.prog 9 #[.slice A0 l0.length c0] w fun e w' => e = .returned (.bool r) ∧ Below w.heap.size w w' := by
 have hu33 := Try.underlying33
 have hu36 := Try.underlying36
 have hu38 := Try.underlying38
 have HR0 := Aside0.mk hr0
 have HC0 := Aside0.mk hc0
 clear hr0 hc0
 have HB := Aside0.mk (Below.refl w.heap.size w)
 have H : ((laws_big.f l0).bind fun t545 => (if t545 = true then (some true) else ((spec_DrawCheckFarkas.f k l0).bind fun bt546 => ((impl_CheckFarkas.f k bt546.1 bt546.2.1 bt546.2.2.1 bt546.2.2.2.1 bt546.2.2.2.2.1 bt546.2.2.2.2.2).bind fun t561 => ((spec_CheckFarkas.f k bt546.1 bt546.2.1 bt546.2.2.1 bt546.2.2.2.1 bt546.2.2.2.2.1 bt546.2.2.2.2.2).bind fun t562 => (if (t561 != t562) = true then (laws_FnFarkas.j0 k l0 t561 true bt546.1 bt546.2.1 bt546.2.2.1 bt546.2.2.2.1) else ((impl_EqualFarkas.f k bt546.2.2.2.2.1 bt546.2.2.2.2.2 bt546.2.2.2.2.1 bt546.2.2.2.2.2).bind fun t563 => (laws_FnFarkas.j0 k l0 t561 (!t563) bt546.1 bt546.2.1 bt546.2.2.1 bt546.2.2.2.1)))))))) = some r := h
 clear h
 replace H := Option.bind_eq_some_iff.mp H
 obtain ⟨t545, A20, H⟩ := H
 replace H : (if t545 = true then (some true) else ((spec_DrawCheckFarkas.f k l0).bind fun bt546 => ((impl_CheckFarkas.f k bt546.1 bt546.2.1 bt546.2.2.1 bt546.2.2.2.1 bt546.2.2.2.2.1 bt546.2.2.2.2.2).bind fun t561 => ((spec_CheckFarkas.f k bt546.1 bt546.2.1 bt546.2.2.1 bt546.2.2.2.1 bt546.2.2.2.2.1 bt546.2.2.2.2.2).bind fun t562 => (if (t561 != t562) = true then (laws_FnFarkas.j0 k l0 t561 true bt546.1 bt546.2.1 bt546.2.2.1 bt546.2.2.2.1) else ((impl_EqualFarkas.f k bt546.2.2.2.2.1 bt546.2.2.2.2.2 bt546.2.2.2.2.1 bt546.2.2.2.2.2).bind fun t563 => (laws_FnFarkas.j0 k l0 t561 (!t563) bt546.1 bt546.2.1 bt546.2.2.1 bt546.2.2.2.1))))))) = some r := H
 have A2 := Aside0.mk A20
 clear A20
 by_cases c3 : t545 = true
 ·subst c3
  have H1 : (some true) = some r := by rw [if_pos rfl] at H; exact H
  clear H
  have H := H1
  clear H1
  obtain rfl := Option.some.inj H
  go_enter Try.func9, Try.ntmps9
  go_wp2_with (first | ((with_reducible refine gate_callee (f := 25) rfl ?_); refine gl (some 13) rfl rfl Try.func25 (by kernel_rfl) rfl #[.slice A0 l0.length c0] rfl ?_; (with_reducible refine (laws_big.calls _ _ l0 true _ ?side1 ?side2 A2.out).mono ?_); (case side1 => repeat (first | exact HR0.out | (with_reducible refine Kd.C_alloc ?_ _) | (with_reducible refine Kd.C_drewN ?_ _) | (with_reducible refine Kd.C_drew ?_))); (case side2 => exact HC0.out); rintro e w' ⟨rfl, ⟨nd, rfl⟩⟩; refine ⟨_, rfl, ?_⟩))
  go_ret
  exact ⟨by first | rfl | (simp [errW_none, errW_some] <;> rfl) | (simp [*, errW_none, errW_some] <;> rfl), ms HB⟩
 replace c3 := Bool.eq_false_iff.mpr c3
 subst c3
 have H1 : ((spec_DrawCheckFarkas.f k l0).bind fun bt546 => ((impl_CheckFarkas.f k bt546.1 bt546.2.1 bt546.2.2.1 bt546.2.2.2.1 bt546.2.2.2.2.1 bt546.2.2.2.2.2).bind fun t561 => ((spec_CheckFarkas.f k bt546.1 bt546.2.1 bt546.2.2.1 bt546.2.2.2.1 bt546.2.2.2.2.1 bt546.2.2.2.2.2).bind fun t562 => (if (t561 != t562) = true then (laws_FnFarkas.j0 k l0 t561 true bt546.1 bt546.2.1 bt546.2.2.1 bt546.2.2.2.1) else ((impl_EqualFarkas.f k bt546.2.2.2.2.1 bt546.2.2.2.2.2 bt546.2.2.2.2.1 bt546.2.2.2.2.2).bind fun t563 => (laws_FnFarkas.j0 k l0 t561 (!t563) bt546.1 bt546.2.1 bt546.2.2.1 bt546.2.2.2.1)))))) = some r := by rw [if_neg (show ¬ (false = true) by decide)] at H; exact H
 clear H
 have H := H1
 clear H1
 replace H := Option.bind_eq_some_iff.mp H
 obtain ⟨⟨t546, t547, t550, t551, t554, t555⟩, A40, H⟩ := H
 replace H : ((impl_CheckFarkas.f k t546 t547 t550 t551 t554 t555).bind fun t561 => ((spec_CheckFarkas.f k t546 t547 t550 t551 t554 t555).bind fun t562 => (if (t561 != t562) = true then (laws_FnFarkas.j0 k l0 t561 true t546 t547 t550 t551) else ((impl_EqualFarkas.f k t554 t555 t554 t555).bind fun t563 => (laws_FnFarkas.j0 k l0 t561 (!t563) t546 t547 t550 t551))))) = some r := H
 have A4 := Aside0.mk A40
 clear A40
 replace H := Option.bind_eq_some_iff.mp H
 obtain ⟨t561, A50, H⟩ := H
 replace H : ((spec_CheckFarkas.f k t546 t547 t550 t551 t554 t555).bind fun t562 => (if (t561 != t562) = true then (laws_FnFarkas.j0 k l0 t561 true t546 t547 t550 t551) else ((impl_EqualFarkas.f k t554 t555 t554 t555).bind fun t563 => (laws_FnFarkas.j0 k l0 t561 (!t563) t546 t547 t550 t551)))) = some r := H
 have A5 := Aside0.mk A50
 clear A50
 have HC6 := Aside0.mk H
 clear H
 go_enter Try.func9, Try.ntmps9
 go_upto_region 5 with (first | ((with_reducible refine gate_callee (f := 25) rfl ?_); refine gl (some 13) rfl rfl Try.func25 (by kernel_rfl) rfl #[.slice A0 l0.length c0] rfl ?_; (with_reducible refine (laws_big.calls _ _ l0 false _ ?side1 ?side2 A2.out).mono ?_); (case side1 => repeat (first | exact HR0.out | (with_reducible refine Kd.C_alloc ?_ _) | (with_reducible refine Kd.C_drewN ?_ _) | (with_reducible refine Kd.C_drew ?_))); (case side2 => exact HC0.out); rintro e w' ⟨rfl, ⟨nd, rfl⟩⟩; refine ⟨_, rfl, ?_⟩) | ((with_reducible refine gate_callee (f := 26) rfl ?_); refine gl (some 16) rfl rfl Try.func26 (by kernel_rfl) rfl #[.slice A0 l0.length c0] rfl ?_; (with_reducible refine (spec_DrawCheckFarkas.calls k _ _ l0 t546 t547 t550 t551 t554 t555 _ ?side1 ?side2 A4.out).mono ?_); (case side1 => repeat (first | exact HR0.out | (with_reducible refine Kd.C_alloc ?_ _) | (with_reducible refine Kd.C_drewN ?_ _) | (with_reducible refine Kd.C_drew ?_))); (case side2 => exact HC0.out); rintro e w7 ⟨v548, v552, v556, rfl, ho0, ho1, ho2, hb⟩; refine ⟨_, rfl, ?_⟩; have HO549 := Aside0.mk (Kd.S_lower ho0 (below_size (ms HB))); have HO553 := Aside0.mk (Kd.R_lower ho1 (below_size (ms HB))); have HO557 := Aside0.mk (Kd.R_lower ho2 (below_size (ms HB))); replace HB := bs HB hb; (try clear hb); (try clear ho0); (try clear ho1); (try clear ho2)) | ((with_reducible refine gate_dst (N := 3) rfl ?_); refine box_event ?hg (N := 3) ?hd (cs := #[.int .i64 0, .slice none 0 0]) (t := 33) ?hr ?_; (case hd => rfl); (case hg => rfl); (case hr => first | (go_simp; done) | (go_simp; rfl)); intro gb558 hg w8 hbox hb; replace HO549 := bS HO549 hb; replace HO553 := rb HO553 hb; replace HO557 := rb HO557 hb; have BK558 := Aside0.mk (hbox); have GW558 := gw hg HB; have GE558 := gw hg HB; replace HB := bs HB hb; clear hb hbox hg) | ((with_reducible refine gate_dst (N := 4) rfl ?_); refine box_event ?hg (N := 4) ?hd (cs := #[.int .i64 0, .slice none 0 0]) (t := 36) ?hr ?_; (case hd => rfl); (case hg => rfl); (case hr => first | (go_simp; done) | (go_simp; rfl)); intro gb559 hg w9 hbox hb; replace HO549 := Aside0.mk (Kd.S_below (Kd.S_elderB (mS HO549) gb559 (Nat.le_of_eq hg.symm)) hb); replace HO553 := rb HO553 hb; replace HO557 := rb HO557 hb; have BK559 := Aside0.mk (hbox); have GW559 := gw hg HB; have GE559 := gw hg HB; replace HB := bs HB hb; have NB558_559 := nl hg BK558; have NB559_558 := ng hg BK558; replace BK558 := bb BK558 hb; clear hb hbox hg) | ((with_reducible refine gate_dst (N := 5) rfl ?_); refine box_event ?hg (N := 5) ?hd (cs := #[.int .i64 0, .slice none 0 0]) (t := 38) ?hr ?_; (case hd => rfl); (case hg => rfl); (case hr => first | (go_simp; done) | (go_simp; rfl)); intro gb560 hg w10 hbox hb; replace HO549 := bS HO549 hb; replace HO553 := rb HO553 hb; replace HO557 := rb HO557 hb; have BK560 := Aside0.mk (hbox); have GW560 := gw hg HB; have GE560 := gw hg HB; replace HB := bs HB hb; have NB558_560 := nl hg BK558; have NB560_558 := ng hg BK558; replace BK558 := bb BK558 hb; have NB559_560 := nl hg BK559; have NB560_559 := ng hg BK559; replace BK559 := bb BK559 hb; clear hb hbox hg; have := NB558_559.out; have := NB559_558.out; have := NB558_560.out; have := NB560_558.out; obtain ⟨hcz13_0, hcz13_1, hfz13_0, hfz13_1⟩ := cFour BK558; obtain ⟨Ao14, co14, eo14⟩ := Kd.S_slice HO549.out; subst eo14; have := NB559_560.out; have := NB560_559.out; obtain ⟨hcz16_0, hcz16_1, hfz16_0, hfz16_1⟩ := cFour BK559; obtain ⟨Ao17, co17, eo17⟩ := Kd.R_slice HO553.out; subst eo17; obtain ⟨hcz18_0, hcz18_1, hfz18_0, hfz18_1⟩ := cFour BK560; obtain ⟨Ao19, co19, eo19⟩ := Kd.R_slice HO557.out; subst eo19) | ((with_reducible refine gate_callee (f := 27) rfl ?_); refine gl (some 23) rfl rfl Try.func27 (by kernel_rfl) rfl #[.agg #[.int .i64 t546, .slice Ao14 t547.length co14], .agg #[.int .i64 t550, .slice Ao17 t551.length co17], .agg #[.int .i64 t554, .slice Ao19 t555.length co19]] rfl ?_; (with_reducible refine (impl_CheckFarkas.calls k t546 _ _ t547 t550 _ _ t551 t554 _ _ t555 t561 _ ?side1 ?side2 ?side3 ?side4 ?side5 ?side6 A5.out).mono ?_); (case side1 => refine (Kd.S_reads' (e := 36) (base := w.heap.size) (ok := fun k_ => ((some k_ ≠ (.slice Ao17 t551.length co17 : Value).ownBlock ∧ some k_ ≠ (.slice Ao19 t555.length co19 : Value).ownBlock) ∧ k_ ≠ gb559)) (n := t547.length) (c := co14) ?_).2.2; exact (by (with_reducible repeat (first | apply Kd.S_alloc | apply Kd.S_drewN | apply Kd.S_drew)); exact (Kd.S_mono (Kd.S_mono (Kd.S_mono (Kd.S_far (p := ⟨gb560, 1, none⟩) (Kd.S_far (p := ⟨gb560, 0, none⟩) (Kd.S_far (p := ⟨gb559, 1, none⟩) (Kd.S_far (p := ⟨gb559, 0, none⟩) (Kd.S_far (p := ⟨gb558, 1, none⟩) (Kd.S_far (p := ⟨gb558, 0, none⟩) (Kd.S_types (Kd.S_mono (Kd.S_types HO549.out BK558.out (by decide)) (fun k_ hk => (⟨hk, hk.1.2⟩ : _ ∧ k_ ≠ gb559))) BK560.out (by decide)) (fun _ hk => hk.1.1.2) (.int .i64 t546)) (fun _ hk => hk.1.1.2) (.slice Ao14 t547.length co14)) (fun _ hk => hk.1.2) (.int .i64 t550)) (fun _ hk => hk.1.2) (.slice Ao17 t551.length co17)) (fun _ hk => hk.2) (.int .i64 t554)) (fun _ hk => hk.2) (.slice Ao19 t555.length co19)) (fun _ h_ => h_.1)) (fun _ h_ => h_.1)) (fun _ h_ => h_.1)))); (case side2 => exact (Kd.S_reads' HO549.out).2.1); (case side3 => refine (Kd.R_reads' (e := 3) (base := w.heap.size) (ok := fun k_ => some k_ ≠ (.slice Ao19 t555.length co19 : Value).ownBlock) (n := t551.length) (c := co17) ?_).2.2; exact (by (with_reducible repeat (first | apply Kd.R_alloc | apply Kd.R_drewN | apply Kd.R_drew)); exact (Kd.R_mono (Kd.R_mono (Kd.R_mono (Kd.R_far (p := ⟨gb560, 1, none⟩) (Kd.R_far (p := ⟨gb560, 0, none⟩) (Kd.R_far (p := ⟨gb559, 1, none⟩) (Kd.R_far (p := ⟨gb559, 0, none⟩) (Kd.R_far (p := ⟨gb558, 1, none⟩) (Kd.R_far (p := ⟨gb558, 0, none⟩) (Kd.R_types (Kd.R_types (Kd.R_types HO553.out BK558.out (by decide)) BK559.out (by decide)) BK560.out (by decide)) (fun _ hk => hk.1.1.2) (.int .i64 t546)) (fun _ hk => hk.1.1.2) (.slice Ao14 t547.length co14)) (fun _ hk => hk.1.2) (.int .i64 t550)) (fun _ hk => hk.1.2) (.slice Ao17 t551.length co17)) (fun _ hk => hk.2) (.int .i64 t554)) (fun _ hk => hk.2) (.slice Ao19 t555.length co19)) (fun _ h_ => h_.1)) (fun _ h_ => h_.1)) (fun _ h_ => h_.1)))); (case side4 => exact (Kd.R_reads' HO553.out).2.1); (case side5 => refine (Kd.R_reads' (e := 3) (base := w.heap.size) (ok := fun k_ => some k_ ≠ (.slice Ao17 t551.length co17 : Value).ownBlock) (n := t555.length) (c := co19) ?_).2.2; exact (by (with_reducible repeat (first | apply Kd.R_alloc | apply Kd.R_drewN | apply Kd.R_drew)); exact (Kd.R_mono (Kd.R_mono (Kd.R_mono (Kd.R_far (p := ⟨gb560, 1, none⟩) (Kd.R_far (p := ⟨gb560, 0, none⟩) (Kd.R_far (p := ⟨gb559, 1, none⟩) (Kd.R_far (p := ⟨gb559, 0, none⟩) (Kd.R_far (p := ⟨gb558, 1, none⟩) (Kd.R_far (p := ⟨gb558, 0, none⟩) (Kd.R_types (Kd.R_types (Kd.R_types HO557.out BK558.out (by decide)) BK559.out (by decide)) BK560.out (by decide)) (fun _ hk => hk.1.1.2) (.int .i64 t546)) (fun _ hk => hk.1.1.2) (.slice Ao14 t547.length co14)) (fun _ hk => hk.1.2) (.int .i64 t550)) (fun _ hk => hk.1.2) (.slice Ao17 t551.length co17)) (fun _ hk => hk.2) (.int .i64 t554)) (fun _ hk => hk.2) (.slice Ao19 t555.length co19)) (fun _ h_ => h_.1)) (fun _ h_ => h_.1)) (fun _ h_ => h_.1)))); (case side6 => exact (Kd.R_reads' HO557.out).2.1); rintro e w20 ⟨rfl, hb⟩; refine ⟨_, rfl, ?_⟩; have n0_ := Aside0.mk (Kd.S_below (by (with_reducible repeat (first | apply Kd.S_alloc | apply Kd.S_drewN | apply Kd.S_drew)); exact (Kd.S_mono (Kd.S_mono (Kd.S_mono (Kd.S_far (p := ⟨gb560, 1, none⟩) (Kd.S_far (p := ⟨gb560, 0, none⟩) (Kd.S_far (p := ⟨gb559, 1, none⟩) (Kd.S_far (p := ⟨gb559, 0, none⟩) (Kd.S_far (p := ⟨gb558, 1, none⟩) (Kd.S_far (p := ⟨gb558, 0, none⟩) (Kd.S_types (Kd.S_mono (Kd.S_types HO549.out BK558.out (by decide)) (fun k_ hk => (⟨hk, hk.1.2⟩ : _ ∧ k_ ≠ gb559))) BK560.out (by decide)) (fun _ hk => hk.1.1.2) (.int .i64 t546)) (fun _ hk => hk.1.1.2) (.slice Ao14 t547.length co14)) (fun _ hk => hk.1.2) (.int .i64 t550)) (fun _ hk => hk.1.2) (.slice Ao17 t551.length co17)) (fun _ hk => hk.2) (.int .i64 t554)) (fun _ hk => hk.2) (.slice Ao19 t555.length co19)) (fun _ h_ => h_.1)) (fun _ h_ => h_.1)) (fun _ h_ => h_.1))) hb); have n1_ := Aside0.mk (Kd.R_below (by (with_reducible repeat (first | apply Kd.R_alloc | apply Kd.R_drewN | apply Kd.R_drew)); exact (Kd.R_mono (Kd.R_mono (Kd.R_mono (Kd.R_far (p := ⟨gb560, 1, none⟩) (Kd.R_far (p := ⟨gb560, 0, none⟩) (Kd.R_far (p := ⟨gb559, 1, none⟩) (Kd.R_far (p := ⟨gb559, 0, none⟩) (Kd.R_far (p := ⟨gb558, 1, none⟩) (Kd.R_far (p := ⟨gb558, 0, none⟩) (Kd.R_types (Kd.R_types (Kd.R_types HO553.out BK558.out (by decide)) BK559.out (by decide)) BK560.out (by decide)) (fun _ hk => hk.1.1.2) (.int .i64 t546)) (fun _ hk => hk.1.1.2) (.slice Ao14 t547.length co14)) (fun _ hk => hk.1.2) (.int .i64 t550)) (fun _ hk => hk.1.2) (.slice Ao17 t551.length co17)) (fun _ hk => hk.2) (.int .i64 t554)) (fun _ hk => hk.2) (.slice Ao19 t555.length co19)) (fun _ h_ => h_.1)) (fun _ h_ => h_.1)) (fun _ h_ => h_.1))) hb); have n2_ := Aside0.mk (Kd.R_below (by (with_reducible repeat (first | apply Kd.R_alloc | apply Kd.R_drewN | apply Kd.R_drew)); exact (Kd.R_mono (Kd.R_mono (Kd.R_mono (Kd.R_far (p := ⟨gb560, 1, none⟩) (Kd.R_far (p := ⟨gb560, 0, none⟩) (Kd.R_far (p := ⟨gb559, 1, none⟩) (Kd.R_far (p := ⟨gb559, 0, none⟩) (Kd.R_far (p := ⟨gb558, 1, none⟩) (Kd.R_far (p := ⟨gb558, 0, none⟩) (Kd.R_types (Kd.R_types (Kd.R_types HO557.out BK558.out (by decide)) BK559.out (by decide)) BK560.out (by decide)) (fun _ hk => hk.1.1.2) (.int .i64 t546)) (fun _ hk => hk.1.1.2) (.slice Ao14 t547.length co14)) (fun _ hk => hk.1.2) (.int .i64 t550)) (fun _ hk => hk.1.2) (.slice Ao17 t551.length co17)) (fun _ hk => hk.2) (.int .i64 t554)) (fun _ hk => hk.2) (.slice Ao19 t555.length co19)) (fun _ h_ => h_.1)) (fun _ h_ => h_.1)) (fun _ h_ => h_.1))) hb); have n3_ := Aside0.mk (blk_below (g := gb558) (o := .cells #[.int .i64 t546, .slice Ao14 t547.length co14] 33 (0, 0)) (by (with_reducible repeat (first | refine blk_drewN ?_ _ | refine blk_drew ?_ | refine blk_alloc ?_ _)); refine blk_far ?_ NB558_560.out _; (with_reducible repeat (first | refine blk_drewN ?_ _ | refine blk_drew ?_ | refine blk_alloc ?_ _)); refine blk_far ?_ NB558_560.out _; (with_reducible repeat (first | refine blk_drewN ?_ _ | refine blk_drew ?_ | refine blk_alloc ?_ _)); refine blk_far ?_ NB558_559.out _; (with_reducible repeat (first | refine blk_drewN ?_ _ | refine blk_drew ?_ | refine blk_alloc ?_ _)); refine blk_far ?_ NB558_559.out _; (with_reducible repeat (first | refine blk_drewN ?_ _ | refine blk_drew ?_ | refine blk_alloc ?_ _)); refine blk_put (cs := #[.int .i64 t546, .slice none 0 0]) ?_ 1 _ rfl; (with_reducible repeat (first | refine blk_drewN ?_ _ | refine blk_drew ?_ | refine blk_alloc ?_ _)); refine blk_put (cs := #[.int .i64 0, .slice none 0 0]) ?_ 0 _ rfl; (with_reducible repeat (first | refine blk_drewN ?_ _ | refine blk_drew ?_ | refine blk_alloc ?_ _)); exact BK558.out) hb); have n4_ := Aside0.mk (blk_below (g := gb559) (o := .cells #[.int .i64 t550, .slice Ao17 t551.length co17] 36 (0, 0)) (by (with_reducible repeat (first | refine blk_drewN ?_ _ | refine blk_drew ?_ | refine blk_alloc ?_ _)); refine blk_far ?_ NB559_560.out _; (with_reducible repeat (first | refine blk_drewN ?_ _ | refine blk_drew ?_ | refine blk_alloc ?_ _)); refine blk_far ?_ NB559_560.out _; (with_reducible repeat (first | refine blk_drewN ?_ _ | refine blk_drew ?_ | refine blk_alloc ?_ _)); refine blk_put (cs := #[.int .i64 t550, .slice none 0 0]) ?_ 1 _ rfl; (with_reducible repeat (first | refine blk_drewN ?_ _ | refine blk_drew ?_ | refine blk_alloc ?_ _)); refine blk_put (cs := #[.int .i64 0, .slice none 0 0]) ?_ 0 _ rfl; (with_reducible repeat (first | refine blk_drewN ?_ _ | refine blk_drew ?_ | refine blk_alloc ?_ _)); refine blk_far ?_ NB559_558.out _; (with_reducible repeat (first | refine blk_drewN ?_ _ | refine blk_drew ?_ | refine blk_alloc ?_ _)); refine blk_far ?_ NB559_558.out _; (with_reducible repeat (first | refine blk_drewN ?_ _ | refine blk_drew ?_ | refine blk_alloc ?_ _)); exact BK559.out) hb); have n5_ := Aside0.mk (blk_below (g := gb560) (o := .cells #[.int .i64 t554, .slice Ao19 t555.length co19] 38 (0, 0)) (by (with_reducible repeat (first | refine blk_drewN ?_ _ | refine blk_drew ?_ | refine blk_alloc ?_ _)); refine blk_put (cs := #[.int .i64 t554, .slice none 0 0]) ?_ 1 _ rfl; (with_reducible repeat (first | refine blk_drewN ?_ _ | refine blk_drew ?_ | refine blk_alloc ?_ _)); refine blk_put (cs := #[.int .i64 0, .slice none 0 0]) ?_ 0 _ rfl; (with_reducible repeat (first | refine blk_drewN ?_ _ | refine blk_drew ?_ | refine blk_alloc ?_ _)); refine blk_far ?_ NB560_559.out _; (with_reducible repeat (first | refine blk_drewN ?_ _ | refine blk_drew ?_ | refine blk_alloc ?_ _)); refine blk_far ?_ NB560_559.out _; (with_reducible repeat (first | refine blk_drewN ?_ _ | refine blk_drew ?_ | refine blk_alloc ?_ _)); refine blk_far ?_ NB560_558.out _; (with_reducible repeat (first | refine blk_drewN ?_ _ | refine blk_drew ?_ | refine blk_alloc ?_ _)); refine blk_far ?_ NB560_558.out _; (with_reducible repeat (first | refine blk_drewN ?_ _ | refine blk_drew ?_ | refine blk_alloc ?_ _)); exact BK560.out) hb); have n6_ := bs HB hb; clear HO549 HO553 HO557 BK558 BK559 BK560 HB; have HO549 := n0_; have HO553 := n1_; have HO557 := n2_; have BK558 := n3_; have BK559 := n4_; have BK560 := n5_; have HB := n6_; clear n0_ n1_ n2_ n3_ n4_ n5_ n6_; (try clear hb)))
 (try simp only [Act.put, List.setIfInBounds_toArray, List.set_cons_zero, List.set_cons_succ])
 go_cut [35] (fun v35 wc => ∃ (kq : Nat) (x35_5 : Bool), v35 = .bool x35_5 ∧ Aside0 (laws_FnFarkas.j0 kq l0 t561 x35_5 t546 t547 t550 t551 = some r) ∧ Aside0 (kq ≤ k) ∧ Aside0 (Kd.S k36 36 wc w.heap.size (fun k_ => some k_ ≠ ((.slice Ao17 t551.length co17) : Value).ownBlock ∧ some k_ ≠ ((.slice Ao19 t555.length co19) : Value).ownBlock ∧ k_ ≠ gb559) (.slice Ao14 t547.length co14) t547) ∧ Aside0 (Kd.R (Kd.int .i64) 3 wc w.heap.size (fun k_ => some k_ ≠ ((.slice Ao19 t555.length co19) : Value).ownBlock) (.slice Ao17 t551.length co17) t551) ∧ Aside0 (Kd.R (Kd.int .i64) 3 wc w.heap.size (fun k_ => some k_ ≠ ((.slice Ao17 t551.length co17) : Value).ownBlock) (.slice Ao19 t555.length co19) t555) ∧ Aside0 (wc.heap[gb558]? = some (.cells #[.int .i64 t546, (.slice Ao14 t547.length co14)] 33 (0, 0))) ∧ Aside0 (wc.heap[gb559]? = some (.cells #[.int .i64 t550, (.slice Ao17 t551.length co17)] 36 (0, 0))) ∧ Aside0 (wc.heap[gb560]? = some (.cells #[.int .i64 t554, (.slice Ao19 t555.length co19)] 38 (0, 0))) ∧ Aside0 (Below w.heap.size w wc))
 case first =>
  have H := HC6.out
  clear HC6
  replace H := Option.bind_eq_some_iff.mp H
  obtain ⟨t562, A210, H⟩ := H
  replace H : (if (t561 != t562) = true then (laws_FnFarkas.j0 k l0 t561 true t546 t547 t550 t551) else ((impl_EqualFarkas.f k t554 t555 t554 t555).bind fun t563 => (laws_FnFarkas.j0 k l0 t561 (!t563) t546 t547 t550 t551))) = some r := H
  have A21 := Aside0.mk A210
  clear A210
  by_cases c22 : (t561 != t562) = true
  ·rw [if_pos c22] at H
   have c22b0 : (t561 != t562) = true := c22
   (try (have c22b1 : decide (t561 = t562) = false := by simpa using c22))
   (try (have c22b2 : (t561 == t562) = false := by simpa using c22))
   (try (have c22b3 : ¬ (t561 = t562) := by simpa using c22))
   clear c22
   (first | rw [c22b0] | (simp only [i64_w, i32_w]; rw [c22b0]) | skip)
   have H' := Aside0.mk H
   clear H
   have := NB558_559.out
   have := NB559_558.out
   have := NB558_560.out
   have := NB560_558.out
   obtain ⟨hcz25_0, hcz25_1, hfz25_0, hfz25_1⟩ := cFour BK558
   have := NB559_560.out
   have := NB560_559.out
   obtain ⟨hcz27_0, hcz27_1, hfz27_0, hfz27_1⟩ := cFour BK559
   obtain ⟨hcz28_0, hcz28_1, hfz28_0, hfz28_1⟩ := cFour BK560
   go_wp2_with (first | ((with_reducible refine gate_callee (f := 28) rfl ?_); refine gl (some 28) rfl rfl Try.func28 (by kernel_rfl) rfl #[.agg #[.int .i64 t546, .slice Ao14 t547.length co14], .agg #[.int .i64 t550, .slice Ao17 t551.length co17], .agg #[.int .i64 t554, .slice Ao19 t555.length co19]] rfl ?_; (with_reducible refine (spec_CheckFarkas.calls k t546 _ _ t547 t550 _ _ t551 t554 _ _ t555 t562 _ ?side1 ?side2 ?side3 ?side4 ?side5 ?side6 A21.out).mono ?_); (case side1 => exact mc ((Kd.S_reads' HO549.out).2.2)); (case side2 => exact (Kd.S_reads' HO549.out).2.1); (case side3 => exact mc ((Kd.R_reads' HO553.out).2.2)); (case side4 => exact (Kd.R_reads' HO553.out).2.1); (case side5 => exact mc ((Kd.R_reads' HO557.out).2.2)); (case side6 => exact (Kd.R_reads' HO557.out).2.1); rintro e w29 ⟨rfl, hb⟩; refine ⟨_, rfl, ?_⟩; replace HO549 := bS HO549 hb; replace HO553 := rb HO553 hb; replace HO557 := rb HO557 hb; replace BK558 := bb BK558 hb; replace BK559 := bb BK559 hb; replace BK560 := bb BK560 hb; replace HB := bs HB hb; (try clear hb)))
   go_meet
   case rel => exact ⟨_, (true), (by first | rfl | (simp; done) | (simp [*]; done)), H', ⟨by first | omega | exact Nat.le_refl _⟩, ⟨by (with_reducible repeat (first | apply Kd.S_alloc | apply Kd.S_drewN | apply Kd.S_drew)); exact Kd.S_mono HO549.out (fun _ hk => ⟨hk.1.1, ⟨hk.1.2, hk.2⟩⟩)⟩, ⟨by (with_reducible repeat (first | apply Kd.R_alloc | apply Kd.R_drewN | apply Kd.R_drew)); exact HO553.out⟩, ⟨by (with_reducible repeat (first | apply Kd.R_alloc | apply Kd.R_drewN | apply Kd.R_drew)); exact HO557.out⟩, ⟨mb BK558⟩, ⟨mb BK559⟩, ⟨mb BK560⟩, ⟨ms HB⟩⟩
  rw [if_neg c22] at H
  have c22b0 : (t561 != t562) = false := by simpa using c22
  (try (have c22b1 : decide (t561 = t562) = true := by simpa using c22))
  (try (have c22b2 : (t561 == t562) = true := by simpa using c22))
  clear c22
  (first | rw [c22b0] | (simp only [i64_w, i32_w]; rw [c22b0]) | skip)
  replace H := Option.bind_eq_some_iff.mp H
  obtain ⟨t563, A300, H⟩ := H
  replace H : (laws_FnFarkas.j0 k l0 t561 (!t563) t546 t547 t550 t551) = some r := H
  have A30 := Aside0.mk A300
  clear A300
  have H' := Aside0.mk H
  clear H
  have := NB558_559.out
  have := NB559_558.out
  have := NB558_560.out
  have := NB560_558.out
  obtain ⟨hcz33_0, hcz33_1, hfz33_0, hfz33_1⟩ := cFour BK558
  have := NB559_560.out
  have := NB560_559.out
  obtain ⟨hcz35_0, hcz35_1, hfz35_0, hfz35_1⟩ := cFour BK559
  obtain ⟨hcz36_0, hcz36_1, hfz36_0, hfz36_1⟩ := cFour BK560
  go_wp2_with (first | ((with_reducible refine gate_callee (f := 28) rfl ?_); refine gl (some 28) rfl rfl Try.func28 (by kernel_rfl) rfl #[.agg #[.int .i64 t546, .slice Ao14 t547.length co14], .agg #[.int .i64 t550, .slice Ao17 t551.length co17], .agg #[.int .i64 t554, .slice Ao19 t555.length co19]] rfl ?_; (with_reducible refine (spec_CheckFarkas.calls k t546 _ _ t547 t550 _ _ t551 t554 _ _ t555 t562 _ ?side1 ?side2 ?side3 ?side4 ?side5 ?side6 A21.out).mono ?_); (case side1 => exact mc ((Kd.S_reads' HO549.out).2.2)); (case side2 => exact (Kd.S_reads' HO549.out).2.1); (case side3 => exact mc ((Kd.R_reads' HO553.out).2.2)); (case side4 => exact (Kd.R_reads' HO553.out).2.1); (case side5 => exact mc ((Kd.R_reads' HO557.out).2.2)); (case side6 => exact (Kd.R_reads' HO557.out).2.1); rintro e w37 ⟨rfl, hb⟩; refine ⟨_, rfl, ?_⟩; replace HO549 := bS HO549 hb; replace HO553 := rb HO553 hb; replace HO557 := rb HO557 hb; replace BK558 := bb BK558 hb; replace BK559 := bb BK559 hb; replace BK560 := bb BK560 hb; replace HB := bs HB hb; (try clear hb); obtain ⟨hcz38_0, hcz38_1, hfz38_0, hfz38_1⟩ := cFour BK560) | (go_at_call 29; (with_reducible refine (impl_EqualFarkas.calls k t554 _ _ t555 t554 _ _ t555 t563 _ ?side1 ?side2 ?side3 ?side4 A30.out).mono ?_); (case side1 => exact mc ((Kd.R_reads' HO557.out).2.2)); (case side2 => exact (Kd.R_reads' HO557.out).2.1); (case side3 => exact mc ((Kd.R_reads' HO557.out).2.2)); (case side4 => exact (Kd.R_reads' HO557.out).2.1); rintro e w39 ⟨rfl, hb⟩; replace HO549 := bS HO549 hb; replace HO553 := rb HO553 hb; replace HO557 := rb HO557 hb; replace BK558 := bb BK558 hb; replace BK559 := bb BK559 hb; replace BK560 := bb BK560 hb; replace HB := bs HB hb; (try clear hb)))
  go_meet
  case rel => exact ⟨_, (!t563), (by first | rfl | (simp; done) | (simp [*]; done)), H', ⟨by first | omega | exact Nat.le_refl _⟩, ⟨by (with_reducible repeat (first | apply Kd.S_alloc | apply Kd.S_drewN | apply Kd.S_drew)); exact Kd.S_mono HO549.out (fun _ hk => ⟨hk.1.1, ⟨hk.1.2, hk.2⟩⟩)⟩, ⟨by (with_reducible repeat (first | apply Kd.R_alloc | apply Kd.R_drewN | apply Kd.R_drew)); exact HO553.out⟩, ⟨by (with_reducible repeat (first | apply Kd.R_alloc | apply Kd.R_drewN | apply Kd.R_drew)); exact HO557.out⟩, ⟨mb BK558⟩, ⟨mb BK559⟩, ⟨mb BK560⟩, ⟨ms HB⟩⟩
 case rest =>
  clear HC6
  try clear c1
  try clear c2
  try clear p2
  try clear c3
  try clear c9
  try clear c11
  try clear c12
  try clear c15
  try clear c22
  try clear c22b0
  try clear c22b1
  try clear c22b2
  try clear c23
  try clear c24
  try clear c25
  try clear c26
  try clear c27
  try clear c28
  try clear c31
  try clear c32
  try clear c34
  try clear hcz13_0
  try clear hcz13_1
  try clear hcz16_0
  try clear hcz16_1
  try clear hcz18_0
  try clear hcz18_1
  try clear hcz25_0
  try clear hcz25_1
  try clear hcz27_0
  try clear hcz27_1
  try clear hcz28_0
  try clear hcz28_1
  try clear hcz33_0
  try clear hcz33_1
  try clear hcz35_0
  try clear hcz35_1
  try clear hcz36_0
  try clear hcz36_1
  try clear hcz38_0
  try clear hcz38_1
  try clear hfz13_0
  try clear hfz13_1
  try clear hfz16_0
  try clear hfz16_1
  try clear hfz18_0
  try clear hfz18_1
  try clear hfz25_0
  try clear hfz25_1
  try clear hfz27_0
  try clear hfz27_1
  try clear hfz28_0
  try clear hfz28_1
  try clear hfz33_0
  try clear hfz33_1
  try clear hfz35_0
  try clear hfz35_1
  try clear hfz36_0
  try clear hfz36_1
  try clear hfz38_0
  try clear hfz38_1
  obtain ⟨kq, x35_5, rfl, HA, HJ5, HO_559001, HO_560001, HO_561001, BK558, BK559, BK560, HB⟩ := hcut
  cases kq with
  | zero => exact absurd HA.out (by simp [laws_FnFarkas.j0])
  | succ kj5 =>
   have H := HA.out
   clear HA
   simp only [laws_FnFarkas.j0] at H
   by_cases c40 : x35_5 = true
   ·subst c40
    have H1 : (some false) = some r := by rw [if_pos rfl] at H; exact H
    clear H
    have H := H1
    clear H1
    obtain rfl := Option.some.inj H
    go_wp2
    go_ret
    exact ⟨by first | rfl | (simp [errW_none, errW_some] <;> rfl) | (simp [*, errW_none, errW_some] <;> rfl), ms HB⟩
   replace c40 := Bool.eq_false_iff.mpr c40
   subst c40
   have H1 : (laws_FnFarkas.l0 kj5 l0 t561 0 t546 t547 t550 t551) = some r := by rw [if_neg (show ¬ (false = true) by decide)] at H; exact H
   clear H
   have H := H1
   clear H1
   have H' := Aside0.mk H
   clear H
   go_wp2
   go_loopg [7] kj5 (fun kq v7 w' => ∃ (x7_2 : Int), v7 = .int .i64 x7_2 ∧ Aside0 (laws_FnFarkas.l0 kq l0 t561 x7_2 t546 t547 t550 t551 = some r) ∧ Aside0 (kq ≤ kj5) ∧ Aside0 (Kd.S k36 36 w' w.heap.size (fun k_ => some k_ ≠ ((.slice Ao17 t551.length co17) : Value).ownBlock ∧ some k_ ≠ ((.slice Ao19 t555.length co19) : Value).ownBlock ∧ k_ ≠ gb559) (.slice Ao14 t547.length co14) t547) ∧ Aside0 (Kd.R (Kd.int .i64) 3 w' w.heap.size (fun k_ => some k_ ≠ ((.slice Ao19 t555.length co19) : Value).ownBlock) (.slice Ao17 t551.length co17) t551) ∧ Aside0 (Kd.R (Kd.int .i64) 3 w' w.heap.size (fun k_ => some k_ ≠ ((.slice Ao17 t551.length co17) : Value).ownBlock) (.slice Ao19 t555.length co19) t555) ∧ Aside0 (w'.heap[gb558]? = some (.cells #[.int .i64 t546, (.slice Ao14 t547.length co14)] 33 (0, 0))) ∧ Aside0 (w'.heap[gb559]? = some (.cells #[.int .i64 t550, (.slice Ao17 t551.length co17)] 36 (0, 0))) ∧ Aside0 (w'.heap[gb560]? = some (.cells #[.int .i64 t554, (.slice Ao19 t555.length co19)] 38 (0, 0))) ∧ Aside0 (Below w.heap.size w w'))
   case atStart => exact ⟨(0), (by first | rfl | (simp; done) | (simp [*]; done)), H', ⟨Nat.le_refl _⟩, ⟨by (with_reducible repeat (first | apply Kd.S_alloc | apply Kd.S_drewN | apply Kd.S_drew)); exact HO_559001.out⟩, ⟨by (with_reducible repeat (first | apply Kd.R_alloc | apply Kd.R_drewN | apply Kd.R_drew)); exact HO_560001.out⟩, ⟨by (with_reducible repeat (first | apply Kd.R_alloc | apply Kd.R_drewN | apply Kd.R_drew)); exact HO_561001.out⟩, ⟨mb BK558⟩, ⟨mb BK559⟩, ⟨mb BK560⟩, ⟨ms HB⟩⟩
   case round =>
    clear H'
    try clear c1
    try clear c2
    try clear p2
    try clear c3
    try clear c4
    try clear c9
    try clear c11
    try clear c12
    try clear c15
    try clear c22
    try clear c22b0
    try clear c22b1
    try clear c22b2
    try clear c23
    try clear c24
    try clear c25
    try clear c26
    try clear c27
    try clear c28
    try clear c31
    try clear c32
    try clear c34
    try clear c40
    try clear hcz13_0
    try clear hcz13_1
    try clear hcz16_0
    try clear hcz16_1
    try clear hcz18_0
    try clear hcz18_1
    try clear hcz25_0
    try clear hcz25_1
    try clear hcz27_0
    try clear hcz27_1
    try clear hcz28_0
    try clear hcz28_1
    try clear hcz33_0
    try clear hcz33_1
    try clear hcz35_0
    try clear hcz35_1
    try clear hcz36_0
    try clear hcz36_1
    try clear hcz38_0
    try clear hcz38_1
    try clear hfz13_0
    try clear hfz13_1
    try clear hfz16_0
    try clear hfz16_1
    try clear hfz18_0
    try clear hfz18_1
    try clear hfz25_0
    try clear hfz25_1
    try clear hfz27_0
    try clear hfz27_1
    try clear hfz28_0
    try clear hfz28_1
    try clear hfz33_0
    try clear hfz33_1
    try clear hfz35_0
    try clear hfz35_1
    try clear hfz36_0
    try clear hfz36_1
    try clear hfz38_0
    try clear hfz38_1
    try clear p2
    obtain ⟨x7_2, rfl, HA, HK2, HO_559001, HO_560001, HO_561001, BK558, BK559, BK560, HB⟩ := hrel
    cases gk with
    | zero => exact absurd HA.out (by simp [laws_FnFarkas.l0])
    | succ k2 =>
     have H := HA.out
     clear HA
     simp only [laws_FnFarkas.l0] at H
     have HC41 := Aside0.mk H
     clear H
     go_upto_region 8 with (fail)
     go_cut [40] (fun v40 wc => ∃ (kq : Nat) (x40_40 : Bool), v40 = .bool x40_40 ∧ Aside0 (laws_FnFarkas.j2 kq l0 t561 x7_2 x40_40 t546 t547 t550 t551 = some r) ∧ Aside0 (kq ≤ k2) ∧ Aside0 (Kd.S k36 36 wc w.heap.size (fun k_ => some k_ ≠ ((.slice Ao17 t551.length co17) : Value).ownBlock ∧ some k_ ≠ ((.slice Ao19 t555.length co19) : Value).ownBlock ∧ k_ ≠ gb559) (.slice Ao14 t547.length co14) t547) ∧ Aside0 (Kd.R (Kd.int .i64) 3 wc w.heap.size (fun k_ => some k_ ≠ ((.slice Ao19 t555.length co19) : Value).ownBlock) (.slice Ao17 t551.length co17) t551) ∧ Aside0 (Kd.R (Kd.int .i64) 3 wc w.heap.size (fun k_ => some k_ ≠ ((.slice Ao17 t551.length co17) : Value).ownBlock) (.slice Ao19 t555.length co19) t555) ∧ Aside0 (wc.heap[gb558]? = some (.cells #[.int .i64 t546, (.slice Ao14 t547.length co14)] 33 (0, 0))) ∧ Aside0 (wc.heap[gb559]? = some (.cells #[.int .i64 t550, (.slice Ao17 t551.length co17)] 36 (0, 0))) ∧ Aside0 (wc.heap[gb560]? = some (.cells #[.int .i64 t554, (.slice Ao19 t555.length co19)] 38 (0, 0))) ∧ Aside0 (Below w.heap.size w wc))
     case first =>
      have H := HC41.out
      clear HC41
      by_cases c42 : x7_2 < 8
      ·rw [if_pos c42] at H
       have c42b0 : decide (x7_2 < 8) = true := decide_eq_true c42
       clear c42
       (first | rw [c42b0] | (simp only [i64_w, i32_w]; rw [c42b0]) | skip)
       have H' := Aside0.mk H
       clear H
       go_wp2
       go_meet
       case rel => exact ⟨_, (t561), (by first | rfl | (simp; done) | (simp [*]; done)), H', ⟨by have := HJ5.out; have := HK2.out; first | omega | exact Nat.le_refl _⟩, ⟨by (with_reducible repeat (first | apply Kd.S_alloc | apply Kd.S_drewN | apply Kd.S_drew)); exact HO_559001.out⟩, ⟨by (with_reducible repeat (first | apply Kd.R_alloc | apply Kd.R_drewN | apply Kd.R_drew)); exact HO_560001.out⟩, ⟨by (with_reducible repeat (first | apply Kd.R_alloc | apply Kd.R_drewN | apply Kd.R_drew)); exact HO_561001.out⟩, ⟨mb BK558⟩, ⟨mb BK559⟩, ⟨mb BK560⟩, ⟨ms HB⟩⟩
      rw [if_neg c42] at H
      have c42b0 : decide (x7_2 < 8) = false := decide_eq_false c42
      clear c42
      (first | rw [c42b0] | (simp only [i64_w, i32_w]; rw [c42b0]) | skip)
      have H' := Aside0.mk H
      clear H
      go_wp2
      go_meet
      case rel => exact ⟨_, (false), (by first | rfl | (simp; done) | (simp [*]; done)), H', ⟨by have := HJ5.out; have := HK2.out; first | omega | exact Nat.le_refl _⟩, ⟨by (with_reducible repeat (first | apply Kd.S_alloc | apply Kd.S_drewN | apply Kd.S_drew)); exact HO_559001.out⟩, ⟨by (with_reducible repeat (first | apply Kd.R_alloc | apply Kd.R_drewN | apply Kd.R_drew)); exact HO_560001.out⟩, ⟨by (with_reducible repeat (first | apply Kd.R_alloc | apply Kd.R_drewN | apply Kd.R_drew)); exact HO_561001.out⟩, ⟨mb BK558⟩, ⟨mb BK559⟩, ⟨mb BK560⟩, ⟨ms HB⟩⟩
     case rest =>
      clear HC41
      try clear c1
      try clear c2
      try clear p2
      try clear c3
      try clear c4
      try clear c9
      try clear c11
      try clear c12
      try clear c15
      try clear c22
      try clear c22b0
      try clear c22b1
      try clear c22b2
      try clear c23
      try clear c24
      try clear c25
      try clear c26
      try clear c27
      try clear c28
      try clear c31
      try clear c32
      try clear c34
      try clear c40
      try clear c42
      try clear c42b0
      try clear hcz13_0
      try clear hcz13_1
      try clear hcz16_0
      try clear hcz16_1
      try clear hcz18_0
      try clear hcz18_1
      try clear hcz25_0
      try clear hcz25_1
      try clear hcz27_0
      try clear hcz27_1
      try clear hcz28_0
      try clear hcz28_1
      try clear hcz33_0
      try clear hcz33_1
      try clear hcz35_0
      try clear hcz35_1
      try clear hcz36_0
      try clear hcz36_1
      try clear hcz38_0
      try clear hcz38_1
      try clear hfz13_0
      try clear hfz13_1
      try clear hfz16_0
      try clear hfz16_1
      try clear hfz18_0
      try clear hfz18_1
      try clear hfz25_0
      try clear hfz25_1
      try clear hfz27_0
      try clear hfz27_1
      try clear hfz28_0
      try clear hfz28_1
      try clear hfz33_0
      try clear hfz33_1
      try clear hfz35_0
      try clear hfz35_1
      try clear hfz36_0
      try clear hfz36_1
      try clear hfz38_0
      try clear hfz38_1
      try clear p2
      obtain ⟨kq, x40_40, rfl, HA, HJ40, HO_559001, HO_560001, HO_561001, BK558, BK559, BK560, HB⟩ := hcut
      cases kq with
      | zero => exact absurd HA.out (by simp [laws_FnFarkas.j2])
      | succ kj40 =>
       have H := HA.out
       clear HA
       simp only [laws_FnFarkas.j2] at H
       by_cases c43 : x40_40 = true
       ·subst c43
        have H1 : (laws_FnFarkas.l1 kj40 l0 t561 x7_2 (([] : List Int)) 0 t546 t547 t550 t551) = some r := by rw [if_pos rfl] at H; exact H
        clear H
        have H := H1
        clear H1
        obtain ⟨y564, hy564⟩ : ∃ y_ : List Int, y_ = (([] : List Int)) := ⟨_, rfl⟩
        replace H : (laws_FnFarkas.l1 kj40 l0 t561 x7_2 y564 0 t546 t547 t550 t551) = some r := by first | (rw [hy564]; with_reducible exact H) | (have H2_ := (Option.bind_some _ _).symm.trans H; rw [hy564]; with_reducible exact H2_) | (have H2_ := (Option.bind_some _ _).symm.trans H; with_reducible exact H2_) | with_reducible exact H | (rw [hy564]; exact H) | exact H
        have Ny564 := Aside0.mk hy564
        clear hy564
        have H' := Aside0.mk H
        clear H
        go_wp2_with (first | ((with_reducible refine gate_dst (N := 43) rfl ?_); refine Kd.R_lit (Kd.int .i64) _ 3 ?hg (N := 43) ?hd (xs := ([] : List Int)) (inner := []) (ok := fun _ => True) (okp := fun _ => True) ?hr ?hp (fun _ hk => hk) trivial (Below.refl _ _) (Nat.le_refl _) (by simp) ?_; (case hd => rfl); (case hg => rfl); (case hr => first | (go_simp; done) | (go_simp; rfl)); (case hp => exact (Reps.none _ _)); intro v565 w44 ho45 hb hg_ hnew_; clear hg_ hnew_; (first | rw [← Ny564.out] at ho45 | (simp only [Int.reduceToNat] at ho45; rw [← Ny564.out] at ho45)); replace HO_559001 := lS HO_559001 ho45 hb; have HO566 := Aside0.mk (Kd.R_lower (Kd.R_new' (Kd.R_new' ho45 (Kd.R_lt (mr HO_560001))) (Kd.R_lt (mr HO_561001))) (below_size (ms HB))); replace HO_560001 := rl HO_560001 ho45 hb; replace HO_561001 := rl HO_561001 ho45 hb; replace BK558 := bb BK558 hb; replace BK559 := bb BK559 hb; replace BK560 := bb BK560 hb; replace HB := bs HB hb; clear hb ho45))
        go_loopg [8, 9] kj40 (fun kq v8 v9 w' => ∃ (x8_4 : List Int) (x9_4 : Int), v9 = .int .i64 x9_4 ∧ Aside0 (laws_FnFarkas.l1 kq l0 t561 x7_2 x8_4 x9_4 t546 t547 t550 t551 = some r) ∧ Aside0 (kq ≤ kj40) ∧ Aside0 (Kd.R (Kd.int .i64) 3 w' w.heap.size (fun k_ => some k_ ≠ ((.slice Ao17 t551.length co17) : Value).ownBlock ∧ some k_ ≠ ((.slice Ao19 t555.length co19) : Value).ownBlock) v8 x8_4) ∧ Aside0 (Kd.S k36 36 w' w.heap.size (fun k_ => some k_ ≠ (v8 : Value).ownBlock ∧ some k_ ≠ ((.slice Ao17 t551.length co17) : Value).ownBlock ∧ some k_ ≠ ((.slice Ao19 t555.length co19) : Value).ownBlock ∧ k_ ≠ gb559) (.slice Ao14 t547.length co14) t547) ∧ Aside0 (Kd.R (Kd.int .i64) 3 w' w.heap.size (fun k_ => some k_ ≠ (v8 : Value).ownBlock ∧ some k_ ≠ ((.slice Ao19 t555.length co19) : Value).ownBlock) (.slice Ao17 t551.length co17) t551) ∧ Aside0 (Kd.R (Kd.int .i64) 3 w' w.heap.size (fun k_ => some k_ ≠ (v8 : Value).ownBlock ∧ some k_ ≠ ((.slice Ao17 t551.length co17) : Value).ownBlock) (.slice Ao19 t555.length co19) t555) ∧ Aside0 (w'.heap[gb558]? = some (.cells #[.int .i64 t546, (.slice Ao14 t547.length co14)] 33 (0, 0))) ∧ Aside0 (w'.heap[gb559]? = some (.cells #[.int .i64 t550, (.slice Ao17 t551.length co17)] 36 (0, 0))) ∧ Aside0 (w'.heap[gb560]? = some (.cells #[.int .i64 t554, (.slice Ao19 t555.length co19)] 38 (0, 0))) ∧ Aside0 (Below w.heap.size w w'))
        case atStart => exact ⟨(y564), (0), (by first | rfl | (simp; done) | (simp [*]; done)), H', ⟨Nat.le_refl _⟩, ⟨by (with_reducible repeat (first | apply Kd.R_alloc | apply Kd.R_drewN | apply Kd.R_drew)); exact Kd.R_mono HO566.out (fun _ hk => ⟨hk.1.2, hk.2⟩)⟩, ⟨by (with_reducible repeat (first | apply Kd.S_alloc | apply Kd.S_drewN | apply Kd.S_drew)); exact Kd.S_mono HO_559001.out (fun _ hk => ⟨hk.2, ⟨hk.1.1, ⟨hk.1.2.1, hk.1.2.2⟩⟩⟩)⟩, ⟨by (with_reducible repeat (first | apply Kd.R_alloc | apply Kd.R_drewN | apply Kd.R_drew)); exact Kd.R_mono HO_560001.out (fun _ hk => ⟨hk.2, hk.1⟩)⟩, ⟨by (with_reducible repeat (first | apply Kd.R_alloc | apply Kd.R_drewN | apply Kd.R_drew)); exact Kd.R_mono HO_561001.out (fun _ hk => ⟨hk.2, hk.1⟩)⟩, ⟨mb BK558⟩, ⟨mb BK559⟩, ⟨mb BK560⟩, ⟨ms HB⟩⟩
        case round =>
         clear H'
         try clear c1
         try clear c2
         try clear p2
         try clear c3
         try clear c4
         try clear c9
         try clear c11
         try clear c12
         try clear c15
         try clear c22
         try clear c22b0
         try clear c22b1
         try clear c22b2
         try clear c23
         try clear c24
         try clear c25
         try clear c26
         try clear c27
         try clear c28
         try clear c31
         try clear c32
         try clear c34
         try clear c40
         try clear c42
         try clear c42b0
         try clear c43
         try clear hcz13_0
         try clear hcz13_1
         try clear hcz16_0
         try clear hcz16_1
         try clear hcz18_0
         try clear hcz18_1
         try clear hcz25_0
         try clear hcz25_1
         try clear hcz27_0
         try clear hcz27_1
         try clear hcz28_0
         try clear hcz28_1
         try clear hcz33_0
         try clear hcz33_1
         try clear hcz35_0
         try clear hcz35_1
         try clear hcz36_0
         try clear hcz36_1
         try clear hcz38_0
         try clear hcz38_1
         try clear hfz13_0
         try clear hfz13_1
         try clear hfz16_0
         try clear hfz16_1
         try clear hfz18_0
         try clear hfz18_1
         try clear hfz25_0
         try clear hfz25_1
         try clear hfz27_0
         try clear hfz27_1
         try clear hfz28_0
         try clear hfz28_1
         try clear hfz33_0
         try clear hfz33_1
         try clear hfz35_0
         try clear hfz35_1
         try clear hfz36_0
         try clear hfz36_1
         try clear hfz38_0
         try clear hfz38_1
         try clear p2
         obtain ⟨x8_4, x9_4, rfl, HA, HK4, HO_8, HO_559001, HO_560001, HO_561001, BK558, BK559, BK560, HB⟩ := hrel
         cases gk with
         | zero => exact absurd HA.out (by simp [laws_FnFarkas.l1])
         | succ k4 =>
          have H := HA.out
          clear HA
          simp only [laws_FnFarkas.l1] at H
          by_cases c46 : x9_4 < t546
          ·rw [if_pos c46] at H
           have c46b0 : decide (x9_4 < t546) = true := decide_eq_true c46
           clear c46
           replace H := Option.bind_eq_some_iff.mp H
           obtain ⟨t567, A470, H⟩ := H
           replace H : (if x8_4.length < 17592186044416 then (laws_FnFarkas.l1 k4 l0 t561 x7_2 (x8_4 ++ [wrap64 ((Int.tmod t567 14) - 4)]) (wrap64 (x9_4 + 1)) t546 t547 t550 t551) else (none)) = some r := H
           have A47 := Aside0.mk A470
           clear A470
           by_cases c48 : x8_4.length < 17592186044416
           ·rw [if_pos c48] at H
            have LMc48 := Aside0.mk c48
            clear c48
            obtain ⟨y568, hy568⟩ : ∃ y_ : List Int, y_ = (x8_4 ++ [wrap64 ((Int.tmod t567 14) - 4)]) := ⟨_, rfl⟩
            replace H : (laws_FnFarkas.l1 k4 l0 t561 x7_2 y568 (wrap64 (x9_4 + 1)) t546 t547 t550 t551) = some r := by first | (rw [hy568]; with_reducible exact H) | (have H2_ := (Option.bind_some _ _).symm.trans H; rw [hy568]; with_reducible exact H2_) | (have H2_ := (Option.bind_some _ _).symm.trans H; with_reducible exact H2_) | with_reducible exact H | (rw [hy568]; exact H) | exact H
            have Ny568 := Aside0.mk hy568
            clear hy568
            have H' := Aside0.mk H
            clear H
            have := NB558_559.out
            have := NB559_558.out
            have := NB558_560.out
            have := NB560_558.out
            obtain ⟨_, _, _, _⟩ := cFour BK558
            go_wp2_with (first | ((with_reducible refine gate_callee (f := 30) rfl ?_); refine gl (some 55) rfl rfl Try.func30 (by kernel_rfl) rfl #[.slice A0 l0.length c0, .int .i64 (wrap64 (x7_2 + x9_4))] rfl ?_; (with_reducible refine (laws_at0.calls _ _ l0 (wrap64 (x7_2 + x9_4)) t567 _ ?side1 ?side2 A47.out).mono ?_); (case side1 => exact mc ((Kd.C_below HR0.out HB.out))); (case side2 => exact HC0.out); rintro e w' ⟨rfl, ⟨nd, rfl⟩⟩; refine ⟨_, rfl, ?_⟩) | ((with_reducible refine gate_builtin (b := .append) (xs := #[.tmp 50, .tmp 58]) rfl ?_); at_builtin; refine Kd.R_append (Kd.int .i64) (w0 := w) w.heap.size rfl (.tmp 50) (.tmp 58) 34 3 (.int .i64 0) 8 rfl Try.underlying34 info3 rfl (by decide) (by omega) u8 x8_4 (wrap64 ((Int.tmod t567 14) - 4)) [.int .i64 (wrap64 ((Int.tmod t567 14) - 4))] (fun k_ => some k_ ≠ (.slice Ao17 t551.length co17 : Value).ownBlock ∧ some k_ ≠ (.slice Ao19 t555.length co19 : Value).ownBlock) (fun _ => False) rfl rfl ?aP (fun _ hk => hk.elim) ?aF ?aO ?aB ?aS ?aL ?_; (case aP => exact rfl); (case aB => exact (ms HB)); (case aF => exact (fun k_ hk => ⟨Kd.fresh' (Kd.R_lt (mr HO_560001)) k_ hk, Kd.fresh' (Kd.R_lt (mr HO_561001)) k_ hk⟩)); (case aO => exact (mr HO_8)); (case aS => exact (below_size (ms HB))); (case aL => have := LMc48.out; omega); intro v569 w52 ho hb hg hat; rw [← Ny568.out] at ho; have n0_ := Aside0.mk (Kd.S_after (ok := (fun k_ => some k_ ≠ (.slice Ao17 t551.length co17 : Value).ownBlock ∧ some k_ ≠ (.slice Ao19 t555.length co19 : Value).ownBlock ∧ k_ ≠ gb559)) (by (with_reducible repeat (first | apply Kd.S_alloc | apply Kd.S_drewN | apply Kd.S_drew)); exact Kd.S_mono HO_559001.out (fun _ hk => ⟨⟨hk.2.1, ⟨hk.2.2.1, hk.2.2.2⟩⟩, hk.1⟩)) hg hat); have n1_ := Aside0.mk (Kd.R_after (ok := (fun k_ => some k_ ≠ (.slice Ao19 t555.length co19 : Value).ownBlock)) (by (with_reducible repeat (first | apply Kd.R_alloc | apply Kd.R_drewN | apply Kd.R_drew)); exact Kd.R_mono HO_560001.out (fun _ hk => ⟨hk.2, hk.1⟩)) hg hat); have n2_ := Aside0.mk (Kd.R_after (ok := (fun k_ => some k_ ≠ (.slice Ao17 t551.length co17 : Value).ownBlock)) (by (with_reducible repeat (first | apply Kd.R_alloc | apply Kd.R_drewN | apply Kd.R_drew)); exact Kd.R_mono HO_561001.out (fun _ hk => ⟨hk.2, hk.1⟩)) hg hat); have n3_ := Aside0.mk (blk_grown (g := gb558) (o := .cells #[.int .i64 t546, .slice Ao14 t547.length co14] 33 (0, 0)) (mb BK558) hg (Kd.R_ne HO_8.out BK558.out (by decide))); have n4_ := Aside0.mk (blk_grown (g := gb559) (o := .cells #[.int .i64 t550, .slice Ao17 t551.length co17] 36 (0, 0)) (mb BK559) hg (Kd.R_ne HO_8.out BK559.out (by decide))); have n5_ := Aside0.mk (blk_grown (g := gb560) (o := .cells #[.int .i64 t554, .slice Ao19 t555.length co19] 38 (0, 0)) (mb BK560) hg (Kd.R_ne HO_8.out BK560.out (by decide))); have n6_ := Aside0.mk (hb); have n7_ := Aside0.mk (ho); clear HO_559001 HO_560001 HO_561001 BK558 BK559 BK560 HB HO_8; have HO_559001 := n0_; have HO_560001 := n1_; have HO_561001 := n2_; have BK558 := n3_; have BK559 := n4_; have BK560 := n5_; have HB := n6_; have HO570 := n7_; clear n0_ n1_ n2_ n3_ n4_ n5_ n6_ n7_; clear ho hb hg hat))
            go_roundg k4
            case measure => have := HJ5.out; have := HK2.out; have := HJ40.out; have := HK4.out; omega
            case rel => exact ⟨(y568), (wrap64 (x9_4 + 1)), (by first | rfl | (simp; done) | (simp [*]; done)), H', ⟨by have := HJ5.out; have := HK2.out; have := HJ40.out; have := HK4.out; omega⟩, ⟨by (with_reducible repeat (first | apply Kd.R_alloc | apply Kd.R_drewN | apply Kd.R_drew)); exact HO570.out⟩, ⟨by (with_reducible repeat (first | apply Kd.S_alloc | apply Kd.S_drewN | apply Kd.S_drew)); exact Kd.S_mono HO_559001.out (fun _ hk => ⟨hk.2, ⟨hk.1.1, ⟨hk.1.2.1, hk.1.2.2⟩⟩⟩)⟩, ⟨by (with_reducible repeat (first | apply Kd.R_alloc | apply Kd.R_drewN | apply Kd.R_drew)); exact Kd.R_mono HO_560001.out (fun _ hk => ⟨hk.2, hk.1⟩)⟩, ⟨by (with_reducible repeat (first | apply Kd.R_alloc | apply Kd.R_drewN | apply Kd.R_drew)); exact Kd.R_mono HO_561001.out (fun _ hk => ⟨hk.2, hk.1⟩)⟩, ⟨mb BK558⟩, ⟨mb BK559⟩, ⟨mb BK560⟩, ⟨ms HB⟩⟩
           rw [if_neg c48] at H
           exact absurd H (by simp)
          rw [if_neg c46] at H
          have c46b0 : decide (x9_4 < t546) = false := decide_eq_false c46
          clear c46
          replace H := Option.bind_eq_some_iff.mp H
          obtain ⟨⟨t571, t572⟩, A530, H⟩ := H
          replace H : ((spec_Satisfies.f k4 t546 t547 x8_4).bind fun t573 => (if t573 = true then (if t571 < 0 then (some false) else (laws_FnFarkas.l0 k4 l0 t561 (wrap64 (x7_2 + 1)) t546 t547 t550 t551)) else (laws_FnFarkas.l0 k4 l0 t561 (wrap64 (x7_2 + 1)) t546 t547 t550 t551))) = some r := H
          have A53 := Aside0.mk A530
          clear A530
          replace H := Option.bind_eq_some_iff.mp H
          obtain ⟨t573, A540, H⟩ := H
          replace H : (if t573 = true then (if t571 < 0 then (some false) else (laws_FnFarkas.l0 k4 l0 t561 (wrap64 (x7_2 + 1)) t546 t547 t550 t551)) else (laws_FnFarkas.l0 k4 l0 t561 (wrap64 (x7_2 + 1)) t546 t547 t550 t551)) = some r := H
          have A54 := Aside0.mk A540
          clear A540
          by_cases c55 : t573 = true
          ·subst c55
           have H1 : (if t571 < 0 then (some false) else (laws_FnFarkas.l0 k4 l0 t561 (wrap64 (x7_2 + 1)) t546 t547 t550 t551)) = some r := by rw [if_pos rfl] at H; exact H
           clear H
           have H := H1
           clear H1
           by_cases c56 : t571 < 0
           ·rw [if_pos c56] at H
            have c56b0 : decide (t571 < 0) = true := decide_eq_true c56
            clear c56
            obtain rfl := Option.some.inj H
            have := NB558_559.out
            have := NB559_558.out
            have := NB558_560.out
            have := NB560_558.out
            obtain ⟨_, _, _, _⟩ := cFour BK558
            have := NB559_560.out
            have := NB560_559.out
            obtain ⟨_, _, _, _⟩ := cFour BK559
            obtain ⟨Ao62, co62, eo62⟩ := Kd.R_slice HO_8.out
            subst eo62
            go_wp2_with (first | ((with_reducible refine gate_callee (f := 31) rfl ?_); refine gl (some 63) rfl rfl Try.func31 (by kernel_rfl) rfl #[.agg #[.int .i64 t550, .slice Ao17 t551.length co17], .slice Ao62 x8_4.length co62] rfl ?_; (with_reducible refine (spec_EvalLin.calls k4 t550 _ _ t551 _ _ x8_4 t571 t572 _ ?side1 ?side2 ?side3 ?side4 A53.out).mono ?_); (case side1 => exact mc ((Kd.R_reads' HO_560001.out).2.2)); (case side2 => exact (Kd.R_reads' HO_560001.out).2.1); (case side3 => exact mc ((Kd.R_reads' HO_8.out).2.2)); (case side4 => exact (Kd.R_reads' HO_8.out).2.1); rintro e w63 ⟨rfl, hb⟩; refine ⟨_, rfl, ?_⟩; replace HO_8 := rb HO_8 hb; replace HO_559001 := bS HO_559001 hb; replace HO_560001 := rb HO_560001 hb; replace HO_561001 := rb HO_561001 hb; replace BK558 := bb BK558 hb; replace BK559 := bb BK559 hb; replace BK560 := bb BK560 hb; replace HB := bs HB hb; (try clear hb); obtain ⟨_, _, _, _⟩ := cFour BK558) | ((with_reducible refine gate_callee (f := 32) rfl ?_); refine gl (some 68) rfl rfl Try.func32 (by kernel_rfl) rfl #[.agg #[.int .i64 t546, .slice Ao14 t547.length co14], .slice Ao62 x8_4.length co62] rfl ?_; (with_reducible refine (spec_Satisfies.calls k4 t546 _ _ t547 _ _ x8_4 true _ ?side1 ?side2 ?side3 ?side4 A54.out).mono ?_); (case side1 => exact mc ((Kd.S_reads' HO_559001.out).2.2)); (case side2 => exact (Kd.S_reads' HO_559001.out).2.1); (case side3 => exact mc ((Kd.R_reads' HO_8.out).2.2)); (case side4 => exact (Kd.R_reads' HO_8.out).2.1); rintro e w65 ⟨rfl, hb⟩; refine ⟨_, rfl, ?_⟩; replace HO_8 := rb HO_8 hb; replace HO_559001 := bS HO_559001 hb; replace HO_560001 := rb HO_560001 hb; replace HO_561001 := rb HO_561001 hb; replace BK558 := bb BK558 hb; replace BK559 := bb BK559 hb; replace BK560 := bb BK560 hb; replace HB := bs HB hb; (try clear hb)))
            go_ret
            exact ⟨by first | rfl | (simp [errW_none, errW_some] <;> rfl) | (simp [*, errW_none, errW_some] <;> rfl), ms HB⟩
           rw [if_neg c56] at H
           have c56b0 : decide (t571 < 0) = false := decide_eq_false c56
           clear c56
           have H' := Aside0.mk H
           clear H
           have := NB558_559.out
           have := NB559_558.out
           have := NB558_560.out
           have := NB560_558.out
           obtain ⟨_, _, _, _⟩ := cFour BK558
           have := NB559_560.out
           have := NB560_559.out
           obtain ⟨_, _, _, _⟩ := cFour BK559
           obtain ⟨Ao71, co71, eo71⟩ := Kd.R_slice HO_8.out
           subst eo71
           go_wp2_with (first | ((with_reducible refine gate_callee (f := 31) rfl ?_); refine gl (some 63) rfl rfl Try.func31 (by kernel_rfl) rfl #[.agg #[.int .i64 t550, .slice Ao17 t551.length co17], .slice Ao71 x8_4.length co71] rfl ?_; (with_reducible refine (spec_EvalLin.calls k4 t550 _ _ t551 _ _ x8_4 t571 t572 _ ?side1 ?side2 ?side3 ?side4 A53.out).mono ?_); (case side1 => exact mc ((Kd.R_reads' HO_560001.out).2.2)); (case side2 => exact (Kd.R_reads' HO_560001.out).2.1); (case side3 => exact mc ((Kd.R_reads' HO_8.out).2.2)); (case side4 => exact (Kd.R_reads' HO_8.out).2.1); rintro e w72 ⟨rfl, hb⟩; refine ⟨_, rfl, ?_⟩; replace HO_8 := rb HO_8 hb; replace HO_559001 := bS HO_559001 hb; replace HO_560001 := rb HO_560001 hb; replace HO_561001 := rb HO_561001 hb; replace BK558 := bb BK558 hb; replace BK559 := bb BK559 hb; replace BK560 := bb BK560 hb; replace HB := bs HB hb; (try clear hb); obtain ⟨_, _, _, _⟩ := cFour BK558) | ((with_reducible refine gate_callee (f := 32) rfl ?_); refine gl (some 68) rfl rfl Try.func32 (by kernel_rfl) rfl #[.agg #[.int .i64 t546, .slice Ao14 t547.length co14], .slice Ao71 x8_4.length co71] rfl ?_; (with_reducible refine (spec_Satisfies.calls k4 t546 _ _ t547 _ _ x8_4 true _ ?side1 ?side2 ?side3 ?side4 A54.out).mono ?_); (case side1 => exact mc ((Kd.S_reads' HO_559001.out).2.2)); (case side2 => exact (Kd.S_reads' HO_559001.out).2.1); (case side3 => exact mc ((Kd.R_reads' HO_8.out).2.2)); (case side4 => exact (Kd.R_reads' HO_8.out).2.1); rintro e w74 ⟨rfl, hb⟩; refine ⟨_, rfl, ?_⟩; replace HO_8 := rb HO_8 hb; replace HO_559001 := bS HO_559001 hb; replace HO_560001 := rb HO_560001 hb; replace HO_561001 := rb HO_561001 hb; replace BK558 := bb BK558 hb; replace BK559 := bb BK559 hb; replace BK560 := bb BK560 hb; replace HB := bs HB hb; (try clear hb)))
           go_roundg k4
           case measure => have := HJ5.out; have := HK2.out; have := HJ40.out; have := HK4.out; omega
           case rel => exact ⟨(wrap64 (x7_2 + 1)), (by first | rfl | (simp; done) | (simp [*]; done)), H', ⟨by have := HJ5.out; have := HK2.out; have := HJ40.out; have := HK4.out; omega⟩, ⟨by (with_reducible repeat (first | apply Kd.S_alloc | apply Kd.S_drewN | apply Kd.S_drew)); exact Kd.S_mono HO_559001.out (fun _ hk => ⟨hk.2.1, ⟨hk.2.2.1, hk.2.2.2⟩⟩)⟩, ⟨by (with_reducible repeat (first | apply Kd.R_alloc | apply Kd.R_drewN | apply Kd.R_drew)); exact Kd.R_mono HO_560001.out (fun _ hk => hk.2)⟩, ⟨by (with_reducible repeat (first | apply Kd.R_alloc | apply Kd.R_drewN | apply Kd.R_drew)); exact Kd.R_mono HO_561001.out (fun _ hk => hk.2)⟩, ⟨mb BK558⟩, ⟨mb BK559⟩, ⟨mb BK560⟩, ⟨ms HB⟩⟩
          replace c55 := Bool.eq_false_iff.mpr c55
          subst c55
          have H1 : (laws_FnFarkas.l0 k4 l0 t561 (wrap64 (x7_2 + 1)) t546 t547 t550 t551) = some r := by rw [if_neg (show ¬ (false = true) by decide)] at H; exact H
          clear H
          have H := H1
          clear H1
          have H' := Aside0.mk H
          clear H
          have := NB558_559.out
          have := NB559_558.out
          have := NB558_560.out
          have := NB560_558.out
          obtain ⟨_, _, _, _⟩ := cFour BK558
          have := NB559_560.out
          have := NB560_559.out
          obtain ⟨_, _, _, _⟩ := cFour BK559
          obtain ⟨Ao80, co80, eo80⟩ := Kd.R_slice HO_8.out
          subst eo80
          go_wp2_with (first | ((with_reducible refine gate_callee (f := 31) rfl ?_); refine gl (some 63) rfl rfl Try.func31 (by kernel_rfl) rfl #[.agg #[.int .i64 t550, .slice Ao17 t551.length co17], .slice Ao80 x8_4.length co80] rfl ?_; (with_reducible refine (spec_EvalLin.calls k4 t550 _ _ t551 _ _ x8_4 t571 t572 _ ?side1 ?side2 ?side3 ?side4 A53.out).mono ?_); (case side1 => exact mc ((Kd.R_reads' HO_560001.out).2.2)); (case side2 => exact (Kd.R_reads' HO_560001.out).2.1); (case side3 => exact mc ((Kd.R_reads' HO_8.out).2.2)); (case side4 => exact (Kd.R_reads' HO_8.out).2.1); rintro e w81 ⟨rfl, hb⟩; refine ⟨_, rfl, ?_⟩; replace HO_8 := rb HO_8 hb; replace HO_559001 := bS HO_559001 hb; replace HO_560001 := rb HO_560001 hb; replace HO_561001 := rb HO_561001 hb; replace BK558 := bb BK558 hb; replace BK559 := bb BK559 hb; replace BK560 := bb BK560 hb; replace HB := bs HB hb; (try clear hb); obtain ⟨_, _, _, _⟩ := cFour BK558) | ((with_reducible refine gate_callee (f := 32) rfl ?_); refine gl (some 68) rfl rfl Try.func32 (by kernel_rfl) rfl #[.agg #[.int .i64 t546, .slice Ao14 t547.length co14], .slice Ao80 x8_4.length co80] rfl ?_; (with_reducible refine (spec_Satisfies.calls k4 t546 _ _ t547 _ _ x8_4 false _ ?side1 ?side2 ?side3 ?side4 A54.out).mono ?_); (case side1 => exact mc ((Kd.S_reads' HO_559001.out).2.2)); (case side2 => exact (Kd.S_reads' HO_559001.out).2.1); (case side3 => exact mc ((Kd.R_reads' HO_8.out).2.2)); (case side4 => exact (Kd.R_reads' HO_8.out).2.1); rintro e w83 ⟨rfl, hb⟩; refine ⟨_, rfl, ?_⟩; replace HO_8 := rb HO_8 hb; replace HO_559001 := bS HO_559001 hb; replace HO_560001 := rb HO_560001 hb; replace HO_561001 := rb HO_561001 hb; replace BK558 := bb BK558 hb; replace BK559 := bb BK559 hb; replace BK560 := bb BK560 hb; replace HB := bs HB hb; (try clear hb)))
          go_roundg k4
          case measure => have := HJ5.out; have := HK2.out; have := HJ40.out; have := HK4.out; omega
          case rel => exact ⟨(wrap64 (x7_2 + 1)), (by first | rfl | (simp; done) | (simp [*]; done)), H', ⟨by have := HJ5.out; have := HK2.out; have := HJ40.out; have := HK4.out; omega⟩, ⟨by (with_reducible repeat (first | apply Kd.S_alloc | apply Kd.S_drewN | apply Kd.S_drew)); exact Kd.S_mono HO_559001.out (fun _ hk => ⟨hk.2.1, ⟨hk.2.2.1, hk.2.2.2⟩⟩)⟩, ⟨by (with_reducible repeat (first | apply Kd.R_alloc | apply Kd.R_drewN | apply Kd.R_drew)); exact Kd.R_mono HO_560001.out (fun _ hk => hk.2)⟩, ⟨by (with_reducible repeat (first | apply Kd.R_alloc | apply Kd.R_drewN | apply Kd.R_drew)); exact Kd.R_mono HO_561001.out (fun _ hk => hk.2)⟩, ⟨mb BK558⟩, ⟨mb BK559⟩, ⟨mb BK560⟩, ⟨ms HB⟩⟩
       replace c43 := Bool.eq_false_iff.mpr c43
       subst c43
       have H1 : (some true) = some r := by rw [if_neg (show ¬ (false = true) by decide)] at H; exact H
       clear H
       have H := H1
       clear H1
       obtain rfl := Option.some.inj H
       go_wp2
       go_ret
       exact ⟨by first | rfl | (simp [errW_none, errW_some] <;> rfl) | (simp [*, errW_none, errW_some] <;> rfl), ms HB⟩

/-- THE ONE PURE STATEMENT of laws_FnFarkas: yours. -/
def laws_FnFarkas.Pure : Prop := ∀ (l0 : List Int), l0.length ≤ maxLen → l0.length * 1 ≤ 140737488351232 → (∀ x ∈ l0, (Lit.int .u8 x).wf = true) → ∃ k, laws_FnFarkas.f k l0 = some true
theorem laws_FnFarkas.walk (P : laws_FnFarkas.Pure) (a0 : Option Addr) (len0 cap0 : Nat) (z0 : List Int) (w : World) (w0 : (a0 = none ∧ len0 = 0 ∧ cap0 = 0 ∧ z0 = []) ∨ ∃ x, a0 = some x ∧ len0 ≤ cap0 ∧ cap0 ≤ maxLen ∧ z0.length = cap0 ∧ (∀ i, i < z0.length → w.cell? (x.add i) = some (.int .u8 (z0.getD i 0))) ∧ ∀ n ∈ z0, (Lit.int .u8 n).wf = true) (y0 : len0 * 1 ≤ 140737488351232) :
  Calls Try.prog 9 #[.slice a0 len0 cap0] w fun e w' => e = .returned (.bool true) ∧ Below w.heap.size w w' := by
 obtain ⟨l0, rfl, hr0, hm0, hw0, hc0⟩ := ReadsInt.ofRowC w0
 obtain ⟨k, h⟩ := P l0 hm0 y0 hw0
 refine (laws_FnFarkas.calls k _ _ l0 true w (Kd.C_of_reads (d := (0 : Int)) (h1 := fun _ => rfl) hr0) hc0 h).mono ?_
 rintro e w' ⟨rfl, hd⟩
 exact ⟨rfl, hd⟩

end Go.Proofs.Ytelgmnlkkhikfaa.QFnFarkas
