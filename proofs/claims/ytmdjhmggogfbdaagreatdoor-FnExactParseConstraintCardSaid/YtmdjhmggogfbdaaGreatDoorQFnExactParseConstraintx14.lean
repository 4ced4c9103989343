-- Made by a program of this claim's own (wip/print): not the kit's print as it stands.
import Derived.Test.YtmdjhmggogfbdaaGreatDoorUFnExactParseConstraintTri
import Derived.Test.YtmdjhmggogfbdaaGreatDoorQFnExactParseConstraintx0
import Derived.Test.YtmdjhmggogfbdaaGreatDoorQFnExactParseConstraintx1
import Derived.Test.YtmdjhmggogfbdaaGreatDoorQFnExactParseConstraintx2
import Derived.Test.YtmdjhmggogfbdaaGreatDoorQFnExactParseConstraintx9
import Derived.Test.YtmdjhmggogfbdaaGreatDoorQFnExactParseConstraintx13
namespace Go.Proofs.YtmdjhmggogfbdaaGreatDoor.QFnExactParseConstraint
open Go.RowKit Go.Proofs.YtmdjhmggogfbdaaGreatDoorV.PrintWords Go.Proofs.YtmdjhmggogfbdaaGreatDoorV.PrintLast Go.Proofs.YtmdjhmggogfbdaaGreatDoorV.PrintMore
attribute [local go_sem] max2_int min2_int max_two min_two max_three min_three max_four min_four   -- for this text's walks alone
set_option linter.unusedVariables false
set_option linter.unusedSimpArgs false

/-! ### laws_FnExactParseConstraint: function 4 -/
mutual
def laws_FnExactParseConstraint.j0 : Nat → ByteArray → List ByteArray → Bool → List ByteArray → Bool → Bool → Int → List Int → Int → List Int → Option (Bool)
 | 0, _, _, _, _, _, _, _, _, _, _ => none
 | k + 1, x0, x1, x7, x8, x10, x47, x283000, x283001, x292000, x292001 => if x47 = true then (some false) else ((laws_toStringS.f k x1).bind fun t293 => ((laws_eqStringS.f k x8 t293).bind fun t296 => (if t296 = true then ((laws_markStringS.f k x8 1).bind fun bt297 => (if bt297.1 < 0 then (laws_FnExactParseConstraint.j1 k x0 x1 x7 true x283000 x283001 x292000 x292001) else ((laws_eqLin.f k x292000 x292001 x283000 x283001).bind fun t299 => (if t299 = true then (laws_FnExactParseConstraint.j1 k x0 x1 x7 (x10 != x7) x283000 x283001 x292000 x292001) else (laws_FnExactParseConstraint.j1 k x0 x1 x7 true x283000 x283001 x292000 x292001))))) else (some false))))
def laws_FnExactParseConstraint.j1 : Nat → ByteArray → List ByteArray → Bool → Bool → Int → List Int → Int → List Int → Option (Bool)
 | 0, _, _, _, _, _, _, _, _ => none
 | k + 1, x0, x1, x7, x68, x283000, x283001, x292000, x292001 => if x68 = true then (some false) else ((laws_markLin.f k x292000 x292001 1).bind fun bt300 => ((laws_heldLin.f k x292000 bt300.2 1).bind fun t302 => (if t302 < 0 then (some false) else (if t302 = bt300.1 then ((laws_toStringS.f k x1).bind fun t303 => ((impl_ParseConstraint.f k x0 t303).bind fun bt306 => ((laws_eqLin.f k bt306.1 bt306.2.1 x283000 x283001).bind fun t312 => (if t312 = true then (laws_FnExactParseConstraint.j2 k bt300.1 (bt306.2.2 != x7) x292000 bt300.2) else (laws_FnExactParseConstraint.j2 k bt300.1 true x292000 bt300.2))))) else (some false)))))
def laws_FnExactParseConstraint.j2 : Nat → Int → Bool → Int → List Int → Option (Bool)
 | 0, _, _, _, _ => none
 | k + 1, x12, x95, x292000, x292001 => if x95 = true then (some false) else ((laws_heldLin.f k x292000 x292001 1).bind fun t313 => (if t313 < 0 then (some false) else (if t313 = x12 then (some true) else (some false))))
end
def laws_FnExactParseConstraint.f (k : Nat) (a0 : ByteArray) (l1 : List ByteArray) : Option (Bool) := if (a0.size : Int) > 1048576 then (some true) else ((laws_szStringS.f k l1 1048576).bind fun t273 => (if t273 < 0 then (some true) else ((laws_toStringS.f k l1).bind fun t274 => ((spec_ParseConstraint.f k a0 t274).bind fun bt277 => ((laws_toStringS.f k l1).bind fun t283 => ((impl_ParseConstraint.f k a0 t283).bind fun bt286 => ((laws_eqLin.f k bt286.1 bt286.2.1 bt277.1 bt277.2.1).bind fun t292 => (if t292 = true then (laws_FnExactParseConstraint.j0 k a0 l1 bt277.2.2 t283 bt286.2.2 (bt286.2.2 != bt277.2.2) bt277.1 bt277.2.1 bt286.1 bt286.2.1) else (laws_FnExactParseConstraint.j0 k a0 l1 bt277.2.2 t283 bt286.2.2 true bt277.1 bt277.2.1 bt286.1 bt286.2.1)))))))))
theorem laws_FnExactParseConstraint.mono_l : ∀ k, (∀ y0 y1 y2 y3 y4 y5 y6 y7 y8 y9, LeO (laws_FnExactParseConstraint.j0 k y0 y1 y2 y3 y4 y5 y6 y7 y8 y9) (laws_FnExactParseConstraint.j0 (k + 1) y0 y1 y2 y3 y4 y5 y6 y7 y8 y9)) ∧ (∀ y0 y1 y2 y3 y4 y5 y6 y7, LeO (laws_FnExactParseConstraint.j1 k y0 y1 y2 y3 y4 y5 y6 y7) (laws_FnExactParseConstraint.j1 (k + 1) y0 y1 y2 y3 y4 y5 y6 y7)) ∧ (∀ y0 y1 y2 y3, LeO (laws_FnExactParseConstraint.j2 k y0 y1 y2 y3) (laws_FnExactParseConstraint.j2 (k + 1) y0 y1 y2 y3))
 | 0 => ⟨fun _ _ _ _ _ _ _ _ _ _ r h => by simp [laws_FnExactParseConstraint.j0] at h, fun _ _ _ _ _ _ _ _ r h => by simp [laws_FnExactParseConstraint.j1] at h, fun _ _ _ _ r h => by simp [laws_FnExactParseConstraint.j2] at h⟩
 | k + 1 => by
  obtain ⟨ih0, ih1, ih2⟩ := laws_FnExactParseConstraint.mono_l k
  refine ⟨?_, ?_, ?_⟩
  ·intro y0 y1 y2 y3 y4 y5 y6 y7 y8 y9
   unfold laws_FnExactParseConstraint.j0
   repeat' first
   | (with_reducible exact ih0 _ _ _ _ _ _ _ _ _ _)
   | (with_reducible exact ih1 _ _ _ _ _ _ _ _)
   | (with_reducible exact ih2 _ _ _ _)
   | (with_reducible exact impl_ParseConstraint.mono _ _ _)
   | (with_reducible exact laws_eqLin.mono _ _ _ _ _)
   | (with_reducible exact laws_eqStringS.mono _ _ _)
   | (with_reducible exact laws_heldLin.mono _ _ _ _)
   | (with_reducible exact laws_markLin.mono _ _ _ _)
   | (with_reducible exact laws_markStringS.mono _ _ _)
   | (with_reducible exact laws_szStringS.mono _ _ _)
   | (with_reducible exact laws_toStringS.mono _ _)
   | (with_reducible exact spec_ParseConstraint.mono _ _ _)
   | (with_reducible exact LeO.refl _)
   | (with_reducible exact LeO.none _)
   | (with_reducible refine LeO.ite ?_ ?_)
   | (with_reducible refine LeO.bind ?_ (fun _ => ?_))
   | exact ih0 _ _ _ _ _ _ _ _ _ _
   | exact ih1 _ _ _ _ _ _ _ _
   | exact ih2 _ _ _ _
   | exact impl_ParseConstraint.mono _ _ _
   | exact laws_eqLin.mono _ _ _ _ _
   | exact laws_eqStringS.mono _ _ _
   | exact laws_heldLin.mono _ _ _ _
   | exact laws_markLin.mono _ _ _ _
   | exact laws_markStringS.mono _ _ _
   | exact laws_szStringS.mono _ _ _
   | exact laws_toStringS.mono _ _
   | exact spec_ParseConstraint.mono _ _ _
   | exact LeO.none _
   | refine LeO.ite ?_ ?_
   | refine LeO.bind ?_ (fun _ => ?_)
  ·intro y0 y1 y2 y3 y4 y5 y6 y7
   unfold laws_FnExactParseConstraint.j1
   repeat' first
   | (with_reducible exact ih0 _ _ _ _ _ _ _ _ _ _)
   | (with_reducible exact ih1 _ _ _ _ _ _ _ _)
   | (with_reducible exact ih2 _ _ _ _)
   | (with_reducible exact impl_ParseConstraint.mono _ _ _)
   | (with_reducible exact laws_eqLin.mono _ _ _ _ _)
   | (with_reducible exact laws_eqStringS.mono _ _ _)
   | (with_reducible exact laws_heldLin.mono _ _ _ _)
   | (with_reducible exact laws_markLin.mono _ _ _ _)
   | (with_reducible exact laws_markStringS.mono _ _ _)
   | (with_reducible exact laws_szStringS.mono _ _ _)
   | (with_reducible exact laws_toStringS.mono _ _)
   | (with_reducible exact spec_ParseConstraint.mono _ _ _)
   | (with_reducible exact LeO.refl _)
   | (with_reducible exact LeO.none _)
   | (with_reducible refine LeO.ite ?_ ?_)
   | (with_reducible refine LeO.bind ?_ (fun _ => ?_))
   | exact ih0 _ _ _ _ _ _ _ _ _ _
   | exact ih1 _ _ _ _ _ _ _ _
   | exact ih2 _ _ _ _
   | exact impl_ParseConstraint.mono _ _ _
   | exact laws_eqLin.mono _ _ _ _ _
   | exact laws_eqStringS.mono _ _ _
   | exact laws_heldLin.mono _ _ _ _
   | exact laws_markLin.mono _ _ _ _
   | exact laws_markStringS.mono _ _ _
   | exact laws_szStringS.mono _ _ _
   | exact laws_toStringS.mono _ _
   | exact spec_ParseConstraint.mono _ _ _
   | exact LeO.none _
   | refine LeO.ite ?_ ?_
   | refine LeO.bind ?_ (fun _ => ?_)
  ·intro y0 y1 y2 y3
   unfold laws_FnExactParseConstraint.j2
   repeat' first
   | (with_reducible exact ih0 _ _ _ _ _ _ _ _ _ _)
   | (with_reducible exact ih1 _ _ _ _ _ _ _ _)
   | (with_reducible exact ih2 _ _ _ _)
   | (with_reducible exact impl_ParseConstraint.mono _ _ _)
   | (with_reducible exact laws_eqLin.mono _ _ _ _ _)
   | (with_reducible exact laws_eqStringS.mono _ _ _)
   | (with_reducible exact laws_heldLin.mono _ _ _ _)
   | (with_reducible exact laws_markLin.mono _ _ _ _)
   | (with_reducible exact laws_markStringS.mono _ _ _)
   | (with_reducible exact laws_szStringS.mono _ _ _)
   | (with_reducible exact laws_toStringS.mono _ _)
   | (with_reducible exact spec_ParseConstraint.mono _ _ _)
   | (with_reducible exact LeO.refl _)
   | (with_reducible exact LeO.none _)
   | (with_reducible refine LeO.ite ?_ ?_)
   | (with_reducible refine LeO.bind ?_ (fun _ => ?_))
   | exact ih0 _ _ _ _ _ _ _ _ _ _
   | exact ih1 _ _ _ _ _ _ _ _
   | exact ih2 _ _ _ _
   | exact impl_ParseConstraint.mono _ _ _
   | exact laws_eqLin.mono _ _ _ _ _
   | exact laws_eqStringS.mono _ _ _
   | exact laws_heldLin.mono _ _ _ _
   | exact laws_markLin.mono _ _ _ _
   | exact laws_markStringS.mono _ _ _
   | exact laws_szStringS.mono _ _ _
   | exact laws_toStringS.mono _ _
   | exact spec_ParseConstraint.mono _ _ _
   | exact LeO.none _
   | refine LeO.ite ?_ ?_
   | refine LeO.bind ?_ (fun _ => ?_)
theorem laws_FnExactParseConstraint.mono : ∀ a0 a1 k, LeO (laws_FnExactParseConstraint.f k a0 a1) (laws_FnExactParseConstraint.f (k + 1) a0 a1) := by
 intro a0 a1 k
 obtain ⟨ih0, ih1, ih2⟩ := laws_FnExactParseConstraint.mono_l k
 unfold laws_FnExactParseConstraint.f
 repeat' first
   | (with_reducible exact ih0 _ _ _ _ _ _ _ _ _ _)
   | (with_reducible exact ih1 _ _ _ _ _ _ _ _)
   | (with_reducible exact ih2 _ _ _ _)
   | (with_reducible exact impl_ParseConstraint.mono _ _ _)
   | (with_reducible exact laws_eqLin.mono _ _ _ _ _)
   | (with_reducible exact laws_eqStringS.mono _ _ _)
   | (with_reducible exact laws_heldLin.mono _ _ _ _)
   | (with_reducible exact laws_markLin.mono _ _ _ _)
   | (with_reducible exact laws_markStringS.mono _ _ _)
   | (with_reducible exact laws_szStringS.mono _ _ _)
   | (with_reducible exact laws_toStringS.mono _ _)
   | (with_reducible exact spec_ParseConstraint.mono _ _ _)
   | (with_reducible exact LeO.refl _)
   | (with_reducible exact LeO.none _)
   | (with_reducible refine LeO.ite ?_ ?_)
   | (with_reducible refine LeO.bind ?_ (fun _ => ?_))
   | exact ih0 _ _ _ _ _ _ _ _ _ _
   | exact ih1 _ _ _ _ _ _ _ _
   | exact ih2 _ _ _ _
   | exact impl_ParseConstraint.mono _ _ _
   | exact laws_eqLin.mono _ _ _ _ _
   | exact laws_eqStringS.mono _ _ _
   | exact laws_heldLin.mono _ _ _ _
   | exact laws_markLin.mono _ _ _ _
   | exact laws_markStringS.mono _ _ _
   | exact laws_szStringS.mono _ _ _
   | exact laws_toStringS.mono _ _
   | exact spec_ParseConstraint.mono _ _ _
   | exact LeO.none _
   | refine LeO.ite ?_ ?_
   | refine LeO.bind ?_ (fun _ => ?_)
set_option maxHeartbeats 8000000 in
set_option maxRecDepth 100000 in
theorem laws_FnExactParseConstraint.calls (k : Nat) (a0 : ByteArray) (A1 : Option Addr) (c1 : Nat) (l1 : List ByteArray) (r : Bool) (w : World) (hr1 : Kd.C Kd.string w A1 l1.length l1) (hc1 : l1.length ≤ c1) (hT_ : r = true) (h : laws_FnExactParseConstraint.f k a0 l1 = some r) (hTb_ : TbL w := by first | assumption | ((with_reducible repeat (first | apply tb_alloc | apply tb_drewN | apply tb_drew)); first | assumption | exact tb_of (by assumption) (by assumption))) :
  Calls Tryz.prog 4 #[.string a0, .slice A1 l1.length c1] w fun e w' => e = .returned (.bool r) ∧ Below w.heap.size w w' := by
 have hu26 := Tryz.underlying26
 have HR1 := Aside0.mk hr1
 have HC1 := Aside0.mk hc1
 clear hr1 hc1
 have HB := Aside0.mk (Below.refl w.heap.size w)
 have H : (if (a0.size : Int) > 1048576 then (some true) else ((laws_szStringS.f k l1 1048576).bind fun t273 => (if t273 < 0 then (some true) else ((laws_toStringS.f k l1).bind fun t274 => ((spec_ParseConstraint.f k a0 t274).bind fun bt277 => ((laws_toStringS.f k l1).bind fun t283 => ((impl_ParseConstraint.f k a0 t283).bind fun bt286 => ((laws_eqLin.f k bt286.1 bt286.2.1 bt277.1 bt277.2.1).bind fun t292 => (if t292 = true then (laws_FnExactParseConstraint.j0 k a0 l1 bt277.2.2 t283 bt286.2.2 (bt286.2.2 != bt277.2.2) bt277.1 bt277.2.1 bt286.1 bt286.2.1) else (laws_FnExactParseConstraint.j0 k a0 l1 bt277.2.2 t283 bt286.2.2 true bt277.1 bt277.2.1 bt286.1 bt286.2.1)))))))))) = some r := h
 clear h
 by_cases c3 : (a0.size : Int) > 1048576
 ·rw [if_pos c3] at H
  have c3b0 : decide (1048576 < (a0.size : Int)) = true := decide_eq_true c3
  have c3b1 : decide (1048576 < a0.size) = true := decide_eq_true (by omega)
  clear c3
  obtain rfl := Option.some.inj H
  go_enter Tryz.func4, Tryz.ntmps4
  go_wp2
  go_ret
  exact ⟨by first | rfl | (simp [errW_none, errW_some] <;> rfl) | (simp [*, errW_none, errW_some] <;> rfl), ms HB⟩
 ·rw [if_neg c3] at H
  have c3b0 : decide (1048576 < (a0.size : Int)) = false := decide_eq_false c3
  have c3b1 : decide (1048576 < a0.size) = false := decide_eq_false (by omega)
  clear c3
  replace H := Option.bind_eq_some_iff.mp H
  obtain ⟨t273, A40, H⟩ := H
  replace H : (if t273 < 0 then (some true) else ((laws_toStringS.f k l1).bind fun t274 => ((spec_ParseConstraint.f k a0 t274).bind fun bt277 => ((laws_toStringS.f k l1).bind fun t283 => ((impl_ParseConstraint.f k a0 t283).bind fun bt286 => ((laws_eqLin.f k bt286.1 bt286.2.1 bt277.1 bt277.2.1).bind fun t292 => (if t292 = true then (laws_FnExactParseConstraint.j0 k a0 l1 bt277.2.2 t283 bt286.2.2 (bt286.2.2 != bt277.2.2) bt277.1 bt277.2.1 bt286.1 bt286.2.1) else (laws_FnExactParseConstraint.j0 k a0 l1 bt277.2.2 t283 bt286.2.2 true bt277.1 bt277.2.1 bt286.1 bt286.2.1)))))))) = some r := H
  have A4 := Aside0.mk A40
  clear A40
  by_cases c5 : t273 < 0
  ·rw [if_pos c5] at H
   have c5b0 : decide (t273 < 0) = true := decide_eq_true c5
   clear c5
   obtain rfl := Option.some.inj H
   go_enter Tryz.func4, Tryz.ntmps4
   go_wp2_with (first | ((with_reducible refine gate_callee (f := 6) rfl ?_); refine gl (some 21) rfl rfl Tryz.func6 (by kernel_rfl) rfl #[.slice A1 l1.length c1, .int .i64 1048576] rfl ?_; (with_reducible refine (laws_szStringS.calls k _ _ l1 1048576 t273 _ ?side1 ?side2 A4.out).mono ?_); (case side1 => repeat (first | exact HR1.out | (with_reducible refine Kd.C_alloc ?_ _) | (with_reducible refine Kd.C_drewN ?_ _) | (with_reducible refine Kd.C_drew ?_))); (case side2 => exact HC1.out); rintro e w' ⟨rfl, ⟨nd, rfl⟩⟩; refine ⟨_, rfl, ?_⟩))
   go_ret
   exact ⟨by first | rfl | (simp [errW_none, errW_some] <;> rfl) | (simp [*, errW_none, errW_some] <;> rfl), ms HB⟩
  ·rw [if_neg c5] at H
   have c5b0 : decide (t273 < 0) = false := decide_eq_false c5
   clear c5
   replace H := Option.bind_eq_some_iff.mp H
   obtain ⟨t274, A60, H⟩ := H
   replace H : ((spec_ParseConstraint.f k a0 t274).bind fun bt277 => ((laws_toStringS.f k l1).bind fun t283 => ((impl_ParseConstraint.f k a0 t283).bind fun bt286 => ((laws_eqLin.f k bt286.1 bt286.2.1 bt277.1 bt277.2.1).bind fun t292 => (if t292 = true then (laws_FnExactParseConstraint.j0 k a0 l1 bt277.2.2 t283 bt286.2.2 (bt286.2.2 != bt277.2.2) bt277.1 bt277.2.1 bt286.1 bt286.2.1) else (laws_FnExactParseConstraint.j0 k a0 l1 bt277.2.2 t283 bt286.2.2 true bt277.1 bt277.2.1 bt286.1 bt286.2.1)))))) = some r := H
   have A6 := Aside0.mk A60
   clear A60
   replace H := Option.bind_eq_some_iff.mp H
   obtain ⟨⟨t277, t278, t281⟩, A70, H⟩ := H
   replace H : ((laws_toStringS.f k l1).bind fun t283 => ((impl_ParseConstraint.f k a0 t283).bind fun bt286 => ((laws_eqLin.f k bt286.1 bt286.2.1 t277 t278).bind fun t292 => (if t292 = true then (laws_FnExactParseConstraint.j0 k a0 l1 t281 t283 bt286.2.2 (bt286.2.2 != t281) t277 t278 bt286.1 bt286.2.1) else (laws_FnExactParseConstraint.j0 k a0 l1 t281 t283 bt286.2.2 true t277 t278 bt286.1 bt286.2.1))))) = some r := H
   have A7 := Aside0.mk A70
   clear A70
   replace H := Option.bind_eq_some_iff.mp H
   obtain ⟨t283, A80, H⟩ := H
   replace H : ((impl_ParseConstraint.f k a0 t283).bind fun bt286 => ((laws_eqLin.f k bt286.1 bt286.2.1 t277 t278).bind fun t292 => (if t292 = true then (laws_FnExactParseConstraint.j0 k a0 l1 t281 t283 bt286.2.2 (bt286.2.2 != t281) t277 t278 bt286.1 bt286.2.1) else (laws_FnExactParseConstraint.j0 k a0 l1 t281 t283 bt286.2.2 true t277 t278 bt286.1 bt286.2.1)))) = some r := H
   have A8 := Aside0.mk A80
   clear A80
   replace H := Option.bind_eq_some_iff.mp H
   obtain ⟨⟨t286, t287, t290⟩, A90, H⟩ := H
   replace H : ((laws_eqLin.f k t286 t287 t277 t278).bind fun t292 => (if t292 = true then (laws_FnExactParseConstraint.j0 k a0 l1 t281 t283 t290 (t290 != t281) t277 t278 t286 t287) else (laws_FnExactParseConstraint.j0 k a0 l1 t281 t283 t290 true t277 t278 t286 t287))) = some r := H
   have A9 := Aside0.mk A90
   clear A90
   have HC10 := Aside0.mk H
   clear H
   go_enter Tryz.func4, Tryz.ntmps4
   go_upto_region 10 with (first | ((with_reducible refine gate_callee (f := 6) rfl ?_); refine gl (some 21) rfl rfl Tryz.func6 (by kernel_rfl) rfl #[.slice A1 l1.length c1, .int .i64 1048576] rfl ?_; (with_reducible refine (laws_szStringS.calls k _ _ l1 1048576 t273 _ ?side1 ?side2 A4.out).mono ?_); (case side1 => repeat (first | exact HR1.out | (with_reducible refine Kd.C_alloc ?_ _) | (with_reducible refine Kd.C_drewN ?_ _) | (with_reducible refine Kd.C_drew ?_))); (case side2 => exact HC1.out); rintro e w' ⟨rfl, ⟨nd, rfl⟩⟩; refine ⟨_, rfl, ?_⟩) | ((with_reducible refine gate_callee (f := 8) rfl ?_); refine gl (some 27) rfl rfl Tryz.func8 (by kernel_rfl) rfl #[.slice A1 l1.length c1] rfl ?_; (with_reducible refine (laws_toStringS.calls k _ _ l1 t274 _ ?side1 ?side2 A6.out).mono ?_); (case side1 => repeat (first | exact HR1.out | (with_reducible refine Kd.C_alloc ?_ _) | (with_reducible refine Kd.C_drewN ?_ _) | (with_reducible refine Kd.C_drew ?_))); (case side2 => exact HC1.out); rintro e w11 ⟨v275, rfl, ho0, hb⟩; refine ⟨_, rfl, ?_⟩; have HO276 := Aside0.mk (Kd.R_lower ho0 (below_size (ms HB))); replace HB := bs HB hb; (try clear hb); (try clear ho0); obtain ⟨Ao12, co12, eo12⟩ := Kd.R_slice HO276.out; subst eo12) | ((with_reducible refine gate_callee (f := 15) rfl ?_); refine gl (some 28) rfl rfl Tryz.func15 (by kernel_rfl) rfl #[.string a0, .slice Ao12 t274.length co12] rfl ?_; (with_reducible refine (spec_ParseConstraint.calls k a0 _ _ t274 t277 t278 t281 _ ?side1 ?side2 A7.out).mono ?_); (case side1 => exact mc ((Kd.R_reads' HO276.out).2.2)); (case side2 => exact (Kd.R_reads' HO276.out).2.1); rintro e w13 ⟨v279, rfl, ho0, hb⟩; refine ⟨_, rfl, ?_⟩; replace HO276 := rb HO276 hb; have HO280 := Aside0.mk (Kd.R_lower ho0 (below_size (ms HB))); replace HB := bs HB hb; (try clear hb); (try clear ho0)) | ((with_reducible refine gate_dst (N := 6) rfl ?_); refine box_event ?hg (N := 6) ?hd (cs := #[.int .i64 0, .slice none 0 0]) (t := 26) ?hr ?_; (case hd => rfl); (case hg => rfl); (case hr => first | (go_simp; done) | (go_simp; rfl)); intro gb282 hg w14 hbox hb; replace HO276 := rb HO276 hb; replace HO280 := rb HO280 hb; have BK282 := Aside0.mk (hbox); have GW282 := gw hg HB; have GE282 := gw hg HB; replace HB := bs HB hb; clear hb hbox hg; obtain ⟨hcz15_0, hcz15_1⟩ := c2 BK282; have hfz15_0 := blk_frozen BK282.out 0; have hfz15_1 := blk_frozen BK282.out 1; obtain ⟨Ao16, co16, eo16⟩ := Kd.R_slice HO280.out; subst eo16) | ((with_reducible refine gate_callee (f := 8) rfl ?_); refine gl (some 32) rfl rfl Tryz.func8 (by kernel_rfl) rfl #[.slice A1 l1.length c1] rfl ?_; (with_reducible refine (laws_toStringS.calls k _ _ l1 t283 _ ?side1 ?side2 A8.out).mono ?_); (case side1 => exact Kd.C_below HR1.out (ms HB)); (case side2 => exact HC1.out); rintro e w17 ⟨v284, rfl, ho0, hb⟩; refine ⟨_, rfl, ?_⟩; have n0_ := Aside0.mk (Kd.R_elder' (by (with_reducible repeat (first | apply Kd.R_alloc | apply Kd.R_drewN | apply Kd.R_drew)); exact (Kd.R_mono (Kd.R_far (p := ⟨gb282, 1, none⟩) (Kd.R_far (p := ⟨gb282, 0, none⟩) (Kd.R_types HO276.out BK282.out (by decide)) (fun _ hk => hk.2) (.int .i64 t277)) (fun _ hk => hk.2) (.slice Ao16 t278.length co16)) (fun _ h_ => h_.1))) (Kd.R_base ho0) hb); have n1_ := Aside0.mk (Kd.R_below (by (with_reducible repeat (first | apply Kd.R_alloc | apply Kd.R_drewN | apply Kd.R_drew)); exact (Kd.R_mono (Kd.R_far (p := ⟨gb282, 1, none⟩) (Kd.R_far (p := ⟨gb282, 0, none⟩) (Kd.R_types HO280.out BK282.out (by decide)) (fun _ hk => hk.2) (.int .i64 t277)) (fun _ hk => hk.2) (.slice Ao16 t278.length co16)) (fun _ h_ => h_.1))) hb); have n2_ := Aside0.mk (Kd.R_lower (Kd.R_new' ho0 (Kd.R_lt (by (with_reducible repeat (first | apply Kd.R_alloc | apply Kd.R_drewN | apply Kd.R_drew)); exact (Kd.R_mono (Kd.R_far (p := ⟨gb282, 1, none⟩) (Kd.R_far (p := ⟨gb282, 0, none⟩) (Kd.R_types HO276.out BK282.out (by decide)) (fun _ hk => hk.2) (.int .i64 t277)) (fun _ hk => hk.2) (.slice Ao16 t278.length co16)) (fun _ h_ => h_.1))))) (below_size (ms HB))); have n3_ := Aside0.mk (blk_below (g := gb282) (o := .cells #[.int .i64 t277, .slice Ao16 t278.length co16] 26 (0, 0)) (by (with_reducible repeat (first | refine blk_drewN ?_ _ | refine blk_drew ?_ | refine blk_alloc ?_ _)); refine blk_put (cs := #[.int .i64 t277, .slice none 0 0]) ?_ 1 _ rfl; (with_reducible repeat (first | refine blk_drewN ?_ _ | refine blk_drew ?_ | refine blk_alloc ?_ _)); refine blk_put (cs := #[.int .i64 0, .slice none 0 0]) ?_ 0 _ rfl; (with_reducible repeat (first | refine blk_drewN ?_ _ | refine blk_drew ?_ | refine blk_alloc ?_ _)); exact BK282.out) hb); have n4_ := bs HB hb; clear HO276 HO280 BK282 HB; have HO276 := n0_; have HO280 := n1_; have HO285 := n2_; have BK282 := n3_; have HB := n4_; clear n0_ n1_ n2_ n3_ n4_; (try clear hb); (try clear ho0); obtain ⟨Ao18, co18, eo18⟩ := Kd.R_slice HO285.out; subst eo18) | ((with_reducible refine gate_callee (f := 16) rfl ?_); refine gl (some 36) rfl rfl Tryz.func16 (by kernel_rfl) rfl #[.string a0, .slice Ao18 t283.length co18] rfl ?_; (with_reducible refine (impl_ParseConstraint.calls k a0 _ _ t283 t286 t287 t290 _ ?side1 ?side2 A9.out).mono ?_); (case side1 => exact mc ((Kd.R_reads' HO285.out).2.2)); (case side2 => exact (Kd.R_reads' HO285.out).2.1); rintro e w19 ⟨v288, rfl, ho0, hb⟩; refine ⟨_, rfl, ?_⟩; replace HO276 := rb HO276 hb; replace HO285 := rb HO285 hb; have HO289 := Aside0.mk (Kd.R_lower (Kd.R_new' ho0 (Kd.R_lt (mr HO280))) (below_size (ms HB))); replace HO280 := rl HO280 ho0 hb; replace BK282 := bb BK282 hb; replace HB := bs HB hb; (try clear hb); (try clear ho0)) | ((with_reducible refine gate_dst (N := 9) rfl ?_); refine box_event ?hg (N := 9) ?hd (cs := #[.int .i64 0, .slice none 0 0]) (t := 26) ?hr ?_; (case hd => rfl); (case hg => rfl); (case hr => first | (go_simp; done) | (go_simp; rfl)); intro gb291 hg w20 hbox hb; replace HO276 := rb HO276 hb; replace HO280 := rb HO280 hb; replace HO285 := rb HO285 hb; replace HO289 := rb HO289 hb; have BK291 := Aside0.mk (hbox); have GW291 := gw hg HB; have GE291 := gw hg HB; replace HB := bs HB hb; have NB282_291 := nl hg BK282; have NB291_282 := ng hg BK282; replace BK282 := bb BK282 hb; clear hb hbox hg; have hnb21 := NB291_282.out; have hnc21 := NB282_291.out; obtain ⟨hcz22_0, hcz22_1⟩ := c2 BK291; have hfz22_0 := blk_frozen BK291.out 0; have hfz22_1 := blk_frozen BK291.out 1; obtain ⟨Ao23, co23, eo23⟩ := Kd.R_slice HO289.out; subst eo23))
   (try simp only [Act.put, List.setIfInBounds_toArray, List.set_cons_zero, List.set_cons_succ])
   go_cut [47] (fun v47 wc => ∃ (kq : Nat) (x47_9 : Bool), v47 = .bool x47_9 ∧ Aside0 (laws_FnExactParseConstraint.j0 kq a0 l1 t281 t283 t290 x47_9 t277 t278 t286 t287 = some r) ∧ Aside0 (kq ≤ k) ∧ Aside0 (Kd.R Kd.string 9 wc w.heap.size (fun _ => True) (.slice Ao18 t283.length co18) t283) ∧ Aside0 (Kd.R (Kd.int .i64) 3 wc w.heap.size (fun k_ => some k_ ≠ ((.slice Ao23 t287.length co23) : Value).ownBlock) (.slice Ao16 t278.length co16) t278) ∧ Aside0 (Kd.R (Kd.int .i64) 3 wc w.heap.size (fun k_ => some k_ ≠ ((.slice Ao16 t278.length co16) : Value).ownBlock) (.slice Ao23 t287.length co23) t287) ∧ Aside0 (wc.heap[gb282]? = some (.cells #[.int .i64 t277, (.slice Ao16 t278.length co16)] 26 (0, 0))) ∧ Aside0 (wc.heap[gb291]? = some (.cells #[.int .i64 t286, (.slice Ao23 t287.length co23)] 26 (0, 0))) ∧ Aside0 (Below w.heap.size w wc))
   case first =>
    have H := HC10.out
    clear HC10
    replace H := Option.bind_eq_some_iff.mp H
    obtain ⟨t292, A240, H⟩ := H
    replace H : (if t292 = true then (laws_FnExactParseConstraint.j0 k a0 l1 t281 t283 t290 (t290 != t281) t277 t278 t286 t287) else (laws_FnExactParseConstraint.j0 k a0 l1 t281 t283 t290 true t277 t278 t286 t287)) = some r := H
    have A24 := Aside0.mk A240
    clear A240
    by_cases c25 : t292 = true
    ·subst c25
     have H1 : (laws_FnExactParseConstraint.j0 k a0 l1 t281 t283 t290 (t290 != t281) t277 t278 t286 t287) = some r := by rw [if_pos rfl] at H; exact H
     clear H
     have H := H1
     clear H1
     have H' := Aside0.mk H
     clear H
     have hnb26 := NB291_282.out
     have hnc26 := NB282_291.out
     obtain ⟨hcz27_0, hcz27_1⟩ := c2 BK291
     have hfz27_0 := blk_frozen BK291.out 0
     have hfz27_1 := blk_frozen BK291.out 1
     obtain ⟨hcz28_0, hcz28_1⟩ := c2 BK282
     have hfz28_0 := blk_frozen BK282.out 0
     have hfz28_1 := blk_frozen BK282.out 1
     go_wp2_with (first | ((with_reducible refine gate_callee (f := 10) rfl ?_); refine gl (some 41) rfl rfl Tryz.func10 (by kernel_rfl) rfl #[.agg #[.int .i64 t286, .slice Ao23 t287.length co23], .agg #[.int .i64 t277, .slice Ao16 t278.length co16]] rfl ?_; (with_reducible refine (laws_eqLin.calls k t286 _ _ t287 t277 _ _ t278 true _ ?side1 ?side2 ?side3 ?side4 A24.out).mono ?_); (case side1 => refine (Kd.R_reads' (e := 3) (base := w.heap.size) (ok := fun k_ => (True ∧ some k_ ≠ (.slice Ao16 t278.length co16 : Value).ownBlock)) (n := t287.length) (c := co23) ?_).2.2; exact (by (with_reducible repeat (first | apply Kd.R_alloc | apply Kd.R_drewN | apply Kd.R_drew)); exact (Kd.R_mono (Kd.R_far (p := ⟨gb291, 1, none⟩) (Kd.R_far (p := ⟨gb291, 0, none⟩) (Kd.R_types HO289.out BK291.out (by decide)) (fun _ hk => hk.2) (.int .i64 t286)) (fun _ hk => hk.2) (.slice Ao23 t287.length co23)) (fun _ h_ => h_.1)))); (case side2 => exact (Kd.R_reads' HO289.out).2.1); (case side3 => refine (Kd.R_reads' (e := 3) (base := w.heap.size) (ok := fun k_ => (True ∧ some k_ ≠ (.slice Ao23 t287.length co23 : Value).ownBlock)) (n := t278.length) (c := co16) ?_).2.2; exact (by (with_reducible repeat (first | apply Kd.R_alloc | apply Kd.R_drewN | apply Kd.R_drew)); exact (Kd.R_mono (Kd.R_far (p := ⟨gb291, 1, none⟩) (Kd.R_far (p := ⟨gb291, 0, none⟩) (Kd.R_types HO280.out BK291.out (by decide)) (fun _ hk => hk.2) (.int .i64 t286)) (fun _ hk => hk.2) (.slice Ao23 t287.length co23)) (fun _ h_ => h_.1)))); (case side4 => exact (Kd.R_reads' HO280.out).2.1); rintro e w29 ⟨rfl, hb⟩; refine ⟨_, rfl, ?_⟩; have n0_ := Aside0.mk (Kd.R_below (by (with_reducible repeat (first | apply Kd.R_alloc | apply Kd.R_drewN | apply Kd.R_drew)); exact (Kd.R_mono (Kd.R_far (p := ⟨gb291, 1, none⟩) (Kd.R_far (p := ⟨gb291, 0, none⟩) (Kd.R_types HO276.out BK291.out (by decide)) (fun _ hk => hk.2) (.int .i64 t286)) (fun _ hk => hk.2) (.slice Ao23 t287.length co23)) (fun _ h_ => h_.1))) hb); have n1_ := Aside0.mk (Kd.R_below (by (with_reducible repeat (first | apply Kd.R_alloc | apply Kd.R_drewN | apply Kd.R_drew)); exact (Kd.R_mono (Kd.R_far (p := ⟨gb291, 1, none⟩) (Kd.R_far (p := ⟨gb291, 0, none⟩) (Kd.R_types HO280.out BK291.out (by decide)) (fun _ hk => hk.2) (.int .i64 t286)) (fun _ hk => hk.2) (.slice Ao23 t287.length co23)) (fun _ h_ => h_.1))) hb); have n2_ := Aside0.mk (Kd.R_below (by (with_reducible repeat (first | apply Kd.R_alloc | apply Kd.R_drewN | apply Kd.R_drew)); exact (Kd.R_mono (Kd.R_far (p := ⟨gb291, 1, none⟩) (Kd.R_far (p := ⟨gb291, 0, none⟩) (Kd.R_types HO285.out BK291.out (by decide)) (fun _ hk => hk.2) (.int .i64 t286)) (fun _ hk => hk.2) (.slice Ao23 t287.length co23)) (fun _ h_ => h_.1))) hb); have n3_ := Aside0.mk (Kd.R_below (by (with_reducible repeat (first | apply Kd.R_alloc | apply Kd.R_drewN | apply Kd.R_drew)); exact (Kd.R_mono (Kd.R_far (p := ⟨gb291, 1, none⟩) (Kd.R_far (p := ⟨gb291, 0, none⟩) (Kd.R_types HO289.out BK291.out (by decide)) (fun _ hk => hk.2) (.int .i64 t286)) (fun _ hk => hk.2) (.slice Ao23 t287.length co23)) (fun _ h_ => h_.1))) hb); have n4_ := bf BK282 hb; have n5_ := Aside0.mk (blk_below (g := gb291) (o := .cells #[.int .i64 t286, .slice Ao23 t287.length co23] 26 (0, 0)) (by (with_reducible repeat (first | refine blk_drewN ?_ _ | refine blk_drew ?_ | refine blk_alloc ?_ _)); refine blk_put (cs := #[.int .i64 t286, .slice none 0 0]) ?_ 1 _ rfl; (with_reducible repeat (first | refine blk_drewN ?_ _ | refine blk_drew ?_ | refine blk_alloc ?_ _)); refine blk_put (cs := #[.int .i64 0, .slice none 0 0]) ?_ 0 _ rfl; (with_reducible repeat (first | refine blk_drewN ?_ _ | refine blk_drew ?_ | refine blk_alloc ?_ _)); exact BK291.out) hb); have n6_ := bs HB hb; clear HO276 HO280 HO285 HO289 BK282 BK291 HB; have HO276 := n0_; have HO280 := n1_; have HO285 := n2_; have HO289 := n3_; have BK282 := n4_; have BK291 := n5_; have HB := n6_; clear n0_ n1_ n2_ n3_ n4_ n5_ n6_; (try clear hb)))
     go_meet
     case rel => exact ⟨_, ((t290 != t281)), (by first | rfl | (simp; done) | (simp [*]; done)), H', ⟨by first | omega | exact Nat.le_refl _⟩, ⟨by (with_reducible repeat (first | apply Kd.R_alloc | apply Kd.R_drewN | apply Kd.R_drew)); exact Kd.R_mono HO285.out (fun _ hk => trivial)⟩, ⟨by (with_reducible repeat (first | apply Kd.R_alloc | apply Kd.R_drewN | apply Kd.R_drew)); exact Kd.R_mono HO280.out (fun _ hk => hk.2)⟩, ⟨by (with_reducible repeat (first | apply Kd.R_alloc | apply Kd.R_drewN | apply Kd.R_drew)); exact Kd.R_mono HO289.out (fun _ hk => hk.2)⟩, ⟨mb BK282⟩, ⟨mb BK291⟩, ⟨ms HB⟩⟩
    ·replace c25 := Bool.eq_false_iff.mpr c25
     subst c25
     have H1 : (laws_FnExactParseConstraint.j0 k a0 l1 t281 t283 t290 true t277 t278 t286 t287) = some r := by rw [if_neg (show ¬ (false = true) by decide)] at H; exact H
     clear H
     have H := H1
     clear H1
     have H' := Aside0.mk H
     clear H
     have hnb30 := NB291_282.out
     have hnc30 := NB282_291.out
     obtain ⟨hcz31_0, hcz31_1⟩ := c2 BK291
     have hfz31_0 := blk_frozen BK291.out 0
     have hfz31_1 := blk_frozen BK291.out 1
     obtain ⟨hcz32_0, hcz32_1⟩ := c2 BK282
     have hfz32_0 := blk_frozen BK282.out 0
     have hfz32_1 := blk_frozen BK282.out 1
     go_wp2_with (first | ((with_reducible refine gate_callee (f := 10) rfl ?_); refine gl (some 41) rfl rfl Tryz.func10 (by kernel_rfl) rfl #[.agg #[.int .i64 t286, .slice Ao23 t287.length co23], .agg #[.int .i64 t277, .slice Ao16 t278.length co16]] rfl ?_; (with_reducible refine (laws_eqLin.calls k t286 _ _ t287 t277 _ _ t278 false _ ?side1 ?side2 ?side3 ?side4 A24.out).mono ?_); (case side1 => refine (Kd.R_reads' (e := 3) (base := w.heap.size) (ok := fun k_ => (True ∧ some k_ ≠ (.slice Ao16 t278.length co16 : Value).ownBlock)) (n := t287.length) (c := co23) ?_).2.2; exact (by (with_reducible repeat (first | apply Kd.R_alloc | apply Kd.R_drewN | apply Kd.R_drew)); exact (Kd.R_mono (Kd.R_far (p := ⟨gb291, 1, none⟩) (Kd.R_far (p := ⟨gb291, 0, none⟩) (Kd.R_types HO289.out BK291.out (by decide)) (fun _ hk => hk.2) (.int .i64 t286)) (fun _ hk => hk.2) (.slice Ao23 t287.length co23)) (fun _ h_ => h_.1)))); (case side2 => exact (Kd.R_reads' HO289.out).2.1); (case side3 => refine (Kd.R_reads' (e := 3) (base := w.heap.size) (ok := fun k_ => (True ∧ some k_ ≠ (.slice Ao23 t287.length co23 : Value).ownBlock)) (n := t278.length) (c := co16) ?_).2.2; exact (by (with_reducible repeat (first | apply Kd.R_alloc | apply Kd.R_drewN | apply Kd.R_drew)); exact (Kd.R_mono (Kd.R_far (p := ⟨gb291, 1, none⟩) (Kd.R_far (p := ⟨gb291, 0, none⟩) (Kd.R_types HO280.out BK291.out (by decide)) (fun _ hk => hk.2) (.int .i64 t286)) (fun _ hk => hk.2) (.slice Ao23 t287.length co23)) (fun _ h_ => h_.1)))); (case side4 => exact (Kd.R_reads' HO280.out).2.1); rintro e w33 ⟨rfl, hb⟩; refine ⟨_, rfl, ?_⟩; have n0_ := Aside0.mk (Kd.R_below (by (with_reducible repeat (first | apply Kd.R_alloc | apply Kd.R_drewN | apply Kd.R_drew)); exact (Kd.R_mono (Kd.R_far (p := ⟨gb291, 1, none⟩) (Kd.R_far (p := ⟨gb291, 0, none⟩) (Kd.R_types HO276.out BK291.out (by decide)) (fun _ hk => hk.2) (.int .i64 t286)) (fun _ hk => hk.2) (.slice Ao23 t287.length co23)) (fun _ h_ => h_.1))) hb); have n1_ := Aside0.mk (Kd.R_below (by (with_reducible repeat (first | apply Kd.R_alloc | apply Kd.R_drewN | apply Kd.R_drew)); exact (Kd.R_mono (Kd.R_far (p := ⟨gb291, 1, none⟩) (Kd.R_far (p := ⟨gb291, 0, none⟩) (Kd.R_types HO280.out BK291.out (by decide)) (fun _ hk => hk.2) (.int .i64 t286)) (fun _ hk => hk.2) (.slice Ao23 t287.length co23)) (fun _ h_ => h_.1))) hb); have n2_ := Aside0.mk (Kd.R_below (by (with_reducible repeat (first | apply Kd.R_alloc | apply Kd.R_drewN | apply Kd.R_drew)); exact (Kd.R_mono (Kd.R_far (p := ⟨gb291, 1, none⟩) (Kd.R_far (p := ⟨gb291, 0, none⟩) (Kd.R_types HO285.out BK291.out (by decide)) (fun _ hk => hk.2) (.int .i64 t286)) (fun _ hk => hk.2) (.slice Ao23 t287.length co23)) (fun _ h_ => h_.1))) hb); have n3_ := Aside0.mk (Kd.R_below (by (with_reducible repeat (first | apply Kd.R_alloc | apply Kd.R_drewN | apply Kd.R_drew)); exact (Kd.R_mono (Kd.R_far (p := ⟨gb291, 1, none⟩) (Kd.R_far (p := ⟨gb291, 0, none⟩) (Kd.R_types HO289.out BK291.out (by decide)) (fun _ hk => hk.2) (.int .i64 t286)) (fun _ hk => hk.2) (.slice Ao23 t287.length co23)) (fun _ h_ => h_.1))) hb); have n4_ := bf BK282 hb; have n5_ := Aside0.mk (blk_below (g := gb291) (o := .cells #[.int .i64 t286, .slice Ao23 t287.length co23] 26 (0, 0)) (by (with_reducible repeat (first | refine blk_drewN ?_ _ | refine blk_drew ?_ | refine blk_alloc ?_ _)); refine blk_put (cs := #[.int .i64 t286, .slice none 0 0]) ?_ 1 _ rfl; (with_reducible repeat (first | refine blk_drewN ?_ _ | refine blk_drew ?_ | refine blk_alloc ?_ _)); refine blk_put (cs := #[.int .i64 0, .slice none 0 0]) ?_ 0 _ rfl; (with_reducible repeat (first | refine blk_drewN ?_ _ | refine blk_drew ?_ | refine blk_alloc ?_ _)); exact BK291.out) hb); have n6_ := bs HB hb; clear HO276 HO280 HO285 HO289 BK282 BK291 HB; have HO276 := n0_; have HO280 := n1_; have HO285 := n2_; have HO289 := n3_; have BK282 := n4_; have BK291 := n5_; have HB := n6_; clear n0_ n1_ n2_ n3_ n4_ n5_ n6_; (try clear hb)))
     go_meet
     case rel => exact ⟨_, (true), (by first | rfl | (simp; done) | (simp [*]; done)), H', ⟨by first | omega | exact Nat.le_refl _⟩, ⟨by (with_reducible repeat (first | apply Kd.R_alloc | apply Kd.R_drewN | apply Kd.R_drew)); exact Kd.R_mono HO285.out (fun _ hk => trivial)⟩, ⟨by (with_reducible repeat (first | apply Kd.R_alloc | apply Kd.R_drewN | apply Kd.R_drew)); exact Kd.R_mono HO280.out (fun _ hk => hk.2)⟩, ⟨by (with_reducible repeat (first | apply Kd.R_alloc | apply Kd.R_drewN | apply Kd.R_drew)); exact Kd.R_mono HO289.out (fun _ hk => hk.2)⟩, ⟨mb BK282⟩, ⟨mb BK291⟩, ⟨ms HB⟩⟩
   case rest =>
    clear HC10
    try clear c1
    try clear c2
    try clear p2
    try clear c3
    try clear c3b0
    try clear c3b1
    try clear c4
    try clear c5
    try clear c5b0
    try clear c6
    try clear c8
    try clear c10
    try clear c15
    try clear c16
    try clear c21
    try clear c25
    try clear c26
    try clear c30
    try clear hcz15_0
    try clear hcz15_1
    try clear hcz22_0
    try clear hcz22_1
    try clear hcz27_0
    try clear hcz27_1
    try clear hcz28_0
    try clear hcz28_1
    try clear hcz31_0
    try clear hcz31_1
    try clear hcz32_0
    try clear hcz32_1
    try clear hfz15_0
    try clear hfz15_1
    try clear hfz22_0
    try clear hfz22_1
    try clear hfz27_0
    try clear hfz27_1
    try clear hfz28_0
    try clear hfz28_1
    try clear hfz31_0
    try clear hfz31_1
    try clear hfz32_0
    try clear hfz32_1
    obtain ⟨kq, x47_9, rfl, HA, HJ9, HO_8, HO_283001, HO_292001, BK282, BK291, HB⟩ := hcut
    cases kq with
    | zero => exact absurd HA.out (by simp [laws_FnExactParseConstraint.j0])
    | succ kj9 =>
     have H := HA.out
     clear HA
     simp only [laws_FnExactParseConstraint.j0] at H
     by_cases c34 : x47_9 = true
     ·subst c34
      have H1 : (some false) = some r := by rw [if_pos rfl] at H; exact H
      clear H
      have H := H1
      clear H1
      obtain rfl := Option.some.inj H
      exact absurd hT_ (by decide)
     ·replace c34 := Bool.eq_false_iff.mpr c34
      subst c34
      have H1 : ((laws_toStringS.f kj9 l1).bind fun t293 => ((laws_eqStringS.f kj9 t283 t293).bind fun t296 => (if t296 = true then ((laws_markStringS.f kj9 t283 1).bind fun bt297 => (if bt297.1 < 0 then (laws_FnExactParseConstraint.j1 kj9 a0 l1 t281 true t277 t278 t286 t287) else ((laws_eqLin.f kj9 t286 t287 t277 t278).bind fun t299 => (if t299 = true then (laws_FnExactParseConstraint.j1 kj9 a0 l1 t281 (t290 != t281) t277 t278 t286 t287) else (laws_FnExactParseConstraint.j1 kj9 a0 l1 t281 true t277 t278 t286 t287))))) else (some false)))) = some r := by rw [if_neg (show ¬ (false = true) by decide)] at H; exact H
      clear H
      have H := H1
      clear H1
      replace H := Option.bind_eq_some_iff.mp H
      obtain ⟨t293, A350, H⟩ := H
      replace H : ((laws_eqStringS.f kj9 t283 t293).bind fun t296 => (if t296 = true then ((laws_markStringS.f kj9 t283 1).bind fun bt297 => (if bt297.1 < 0 then (laws_FnExactParseConstraint.j1 kj9 a0 l1 t281 true t277 t278 t286 t287) else ((laws_eqLin.f kj9 t286 t287 t277 t278).bind fun t299 => (if t299 = true then (laws_FnExactParseConstraint.j1 kj9 a0 l1 t281 (t290 != t281) t277 t278 t286 t287) else (laws_FnExactParseConstraint.j1 kj9 a0 l1 t281 true t277 t278 t286 t287))))) else (some false))) = some r := H
      have A35 := Aside0.mk A350
      clear A350
      replace H := Option.bind_eq_some_iff.mp H
      obtain ⟨t296, A360, H⟩ := H
      replace H : (if t296 = true then ((laws_markStringS.f kj9 t283 1).bind fun bt297 => (if bt297.1 < 0 then (laws_FnExactParseConstraint.j1 kj9 a0 l1 t281 true t277 t278 t286 t287) else ((laws_eqLin.f kj9 t286 t287 t277 t278).bind fun t299 => (if t299 = true then (laws_FnExactParseConstraint.j1 kj9 a0 l1 t281 (t290 != t281) t277 t278 t286 t287) else (laws_FnExactParseConstraint.j1 kj9 a0 l1 t281 true t277 t278 t286 t287))))) else (some false)) = some r := H
      have A36 := Aside0.mk A360
      clear A360
      by_cases c37 : t296 = true
      ·subst c37
       have H1 : ((laws_markStringS.f kj9 t283 1).bind fun bt297 => (if bt297.1 < 0 then (laws_FnExactParseConstraint.j1 kj9 a0 l1 t281 true t277 t278 t286 t287) else ((laws_eqLin.f kj9 t286 t287 t277 t278).bind fun t299 => (if t299 = true then (laws_FnExactParseConstraint.j1 kj9 a0 l1 t281 (t290 != t281) t277 t278 t286 t287) else (laws_FnExactParseConstraint.j1 kj9 a0 l1 t281 true t277 t278 t286 t287))))) = some r := by rw [if_pos rfl] at H; exact H
       clear H
       have H := H1
       clear H1
       replace H := Option.bind_eq_some_iff.mp H
       obtain ⟨⟨t297, t298⟩, A380, H⟩ := H
       replace H : (if t297 < 0 then (laws_FnExactParseConstraint.j1 kj9 a0 l1 t281 true t277 t278 t286 t287) else ((laws_eqLin.f kj9 t286 t287 t277 t278).bind fun t299 => (if t299 = true then (laws_FnExactParseConstraint.j1 kj9 a0 l1 t281 (t290 != t281) t277 t278 t286 t287) else (laws_FnExactParseConstraint.j1 kj9 a0 l1 t281 true t277 t278 t286 t287)))) = some r := H
       have A38 := Aside0.mk A380
       clear A380
       have HC39 := Aside0.mk H
       clear H
       go_upto_region 16 with (first | ((with_reducible refine gate_callee (f := 8) rfl ?_); refine gl (some 50) rfl rfl Tryz.func8 (by kernel_rfl) rfl #[.slice A1 l1.length c1] rfl ?_; (with_reducible refine (laws_toStringS.calls kj9 _ _ l1 t293 _ ?side1 ?side2 A35.out).mono ?_); (case side1 => exact mc ((Kd.C_below HR1.out HB.out))); (case side2 => exact HC1.out); rintro e w40 ⟨v294, rfl, ho0, hb⟩; refine ⟨_, rfl, ?_⟩; replace HO_283001 := rb HO_283001 hb; replace HO_292001 := rb HO_292001 hb; have HO295 := Aside0.mk (Kd.R_lower (Kd.R_new' ho0 (Kd.R_lt (mr HO_8))) (below_size (ms HB))); replace HO_8 := rl HO_8 ho0 hb; replace BK282 := bb BK282 hb; replace BK291 := bb BK291 hb; replace HB := bs HB hb; (try clear hb); (try clear ho0); obtain ⟨Ao41, co41, eo41⟩ := Kd.R_slice HO295.out; subst eo41) | ((with_reducible refine gate_callee (f := 11) rfl ?_); refine gl (some 51) rfl rfl Tryz.func11 (by kernel_rfl) rfl #[.slice Ao18 t283.length co18, .slice Ao41 t293.length co41] rfl ?_; (with_reducible refine (laws_eqStringS.calls kj9 _ _ t283 _ _ t293 true _ ?side1 ?side2 ?side3 ?side4 A36.out).mono ?_); (case side1 => exact mc ((Kd.R_reads' HO_8.out).2.2)); (case side2 => exact (Kd.R_reads' HO_8.out).2.1); (case side3 => exact mc ((Kd.R_reads' HO295.out).2.2)); (case side4 => exact (Kd.R_reads' HO295.out).2.1); rintro e w' ⟨rfl, ⟨nd, rfl⟩⟩; refine ⟨_, rfl, ?_⟩) | ((with_reducible refine gate_callee (f := 12) rfl ?_); refine gl (some 55) rfl rfl Tryz.func12 (by kernel_rfl) rfl #[.slice Ao18 t283.length co18, .int .i64 1] rfl ?_; (with_reducible refine (laws_markStringS.calls kj9 (fun k_ => some k_ = (.slice Ao18 t283.length co18 : Value).ownBlock) (.slice Ao18 t283.length co18) t283 1 t297 t298 w _ ?side1 ?side2 A38.out).mono ?_); (case side1 => repeat (first | (with_reducible first | exact HB.out | apply below_alloc | apply pw_below_drewN | apply below_drew1 | refine below_set ?_ GE282.out | refine below_set ?_ GE291.out) | exact HB.out)); (case side2 => exact Kd.R_tight rfl HO_8.out); rintro e w42 ⟨rfl, hy0, hb, hkp⟩; refine ⟨_, rfl, ?_⟩; replace HO_283001 := Aside0.mk (Kd.R_mono (ok' := fun k_ => some k_ ≠ (.slice Ao23 t287.length co23 : Value).ownBlock) (Kd.R_keptB ((Kd.R_apart' HO_283001.out (Kd.R_typed HO_8.out) (by decide))) hkp (fun k_ hk_ hs_ => (hk_.2) hs_)) (fun k_ hk_ => hk_.1.1)); replace HO_292001 := Aside0.mk (Kd.R_mono (ok' := fun k_ => some k_ ≠ (.slice Ao16 t278.length co16 : Value).ownBlock) (Kd.R_keptB ((Kd.R_apart' HO_292001.out (Kd.R_typed HO_8.out) (by decide))) hkp (fun k_ hk_ hs_ => (hk_.2) hs_)) (fun k_ hk_ => hk_.1.1)); replace BK282 := Aside0.mk (blk_kept (mb BK282) hkp (fun hs_ => (fun e_ => (Kd.R_ne HO_8.out BK282.out (by decide)) e_) hs_)); replace BK291 := Aside0.mk (blk_kept (mb BK291) hkp (fun hs_ => (fun e_ => (Kd.R_ne HO_8.out BK291.out (by decide)) e_) hs_)); replace HO_8 := Aside0.mk (Kd.R_reok rfl hy0 (fun k_ e_ => HO_8.out.1 k_ e_)); replace HO295 := Aside0.mk (Kd.R_mono (ok' := fun k_ => some k_ ≠ (.slice Ao18 t283.length co18 : Value).ownBlock) (Kd.R_keptB (HO295.out) hkp (fun k_ hk_ hs_ => (hk_.2) hs_)) (fun k_ hk_ => hk_.1.2)); replace HB := Aside0.mk (hb); (try clear hb); (try clear hkp); (try clear hy0)))
       (try simp only [Act.put, List.setIfInBounds_toArray, List.set_cons_zero, List.set_cons_succ])
       go_cut [68] (fun v68 wc => ∃ (kq : Nat) (x68_38 : Bool), v68 = .bool x68_38 ∧ Aside0 (laws_FnExactParseConstraint.j1 kq a0 l1 t281 x68_38 t277 t278 t286 t287 = some r) ∧ Aside0 (kq ≤ kj9) ∧ Aside0 (Kd.R (Kd.int .i64) 3 wc w.heap.size (fun k_ => some k_ ≠ ((.slice Ao23 t287.length co23) : Value).ownBlock) (.slice Ao16 t278.length co16) t278) ∧ Aside0 (Kd.R (Kd.int .i64) 3 wc w.heap.size (fun k_ => some k_ ≠ ((.slice Ao16 t278.length co16) : Value).ownBlock) (.slice Ao23 t287.length co23) t287) ∧ Aside0 (wc.heap[gb282]? = some (.cells #[.int .i64 t277, (.slice Ao16 t278.length co16)] 26 (0, 0))) ∧ Aside0 (wc.heap[gb291]? = some (.cells #[.int .i64 t286, (.slice Ao23 t287.length co23)] 26 (0, 0))) ∧ Aside0 (Below w.heap.size w wc))
       case first =>
        have H := HC39.out
        clear HC39
        by_cases c43 : t297 < 0
        ·rw [if_pos c43] at H
         have c43b0 : decide (t297 < 0) = true := decide_eq_true c43
         clear c43
         (first | rw [c43b0] | (simp only [i64_w, i32_w]; rw [c43b0]) | skip)
         have H' := Aside0.mk H
         clear H
         go_wp2
         go_meet
         case rel => exact ⟨_, (true), (by first | rfl | (simp; done) | (simp [*]; done)), H', ⟨by have := HJ9.out; first | omega | exact Nat.le_refl _⟩, ⟨by (with_reducible repeat (first | apply Kd.R_alloc | apply Kd.R_drewN | apply Kd.R_drew)); exact HO_283001.out⟩, ⟨by (with_reducible repeat (first | apply Kd.R_alloc | apply Kd.R_drewN | apply Kd.R_drew)); exact HO_292001.out⟩, ⟨mb BK282⟩, ⟨mb BK291⟩, ⟨ms HB⟩⟩
        ·rw [if_neg c43] at H
         have c43b0 : decide (t297 < 0) = false := decide_eq_false c43
         clear c43
         (first | rw [c43b0] | (simp only [i64_w, i32_w]; rw [c43b0]) | skip)
         replace H := Option.bind_eq_some_iff.mp H
         obtain ⟨t299, A440, H⟩ := H
         replace H : (if t299 = true then (laws_FnExactParseConstraint.j1 kj9 a0 l1 t281 (t290 != t281) t277 t278 t286 t287) else (laws_FnExactParseConstraint.j1 kj9 a0 l1 t281 true t277 t278 t286 t287)) = some r := H
         have A44 := Aside0.mk A440
         clear A440
         by_cases c45 : t299 = true
         ·subst c45
          have H1 : (laws_FnExactParseConstraint.j1 kj9 a0 l1 t281 (t290 != t281) t277 t278 t286 t287) = some r := by rw [if_pos rfl] at H; exact H
          clear H
          have H := H1
          clear H1
          have H' := Aside0.mk H
          clear H
          have hnb46 := NB291_282.out
          have hnc46 := NB282_291.out
          obtain ⟨hcz47_0, hcz47_1⟩ := c2 BK291
          have hfz47_0 := blk_frozen BK291.out 0
          have hfz47_1 := blk_frozen BK291.out 1
          obtain ⟨hcz48_0, hcz48_1⟩ := c2 BK282
          have hfz48_0 := blk_frozen BK282.out 0
          have hfz48_1 := blk_frozen BK282.out 1
          go_wp2_with (first | (go_at_call 10; (with_reducible refine (laws_eqLin.calls kj9 t286 _ _ t287 t277 _ _ t278 true _ ?side1 ?side2 ?side3 ?side4 A44.out).mono ?_); (case side1 => exact mc ((Kd.R_reads' HO_292001.out).2.2)); (case side2 => exact (Kd.R_reads' HO_292001.out).2.1); (case side3 => exact mc ((Kd.R_reads' HO_283001.out).2.2)); (case side4 => exact (Kd.R_reads' HO_283001.out).2.1); rintro e w49 ⟨rfl, hb⟩; replace HO_8 := rb HO_8 hb; replace HO_283001 := rb HO_283001 hb; replace HO_292001 := rb HO_292001 hb; replace HO295 := rb HO295 hb; replace BK282 := bb BK282 hb; replace BK291 := bb BK291 hb; replace HB := bs HB hb; (try clear hb)))
          go_meet
          case rel => exact ⟨_, ((t290 != t281)), (by first | rfl | (simp; done) | (simp [*]; done)), H', ⟨by have := HJ9.out; first | omega | exact Nat.le_refl _⟩, ⟨by (with_reducible repeat (first | apply Kd.R_alloc | apply Kd.R_drewN | apply Kd.R_drew)); exact HO_283001.out⟩, ⟨by (with_reducible repeat (first | apply Kd.R_alloc | apply Kd.R_drewN | apply Kd.R_drew)); exact HO_292001.out⟩, ⟨mb BK282⟩, ⟨mb BK291⟩, ⟨ms HB⟩⟩
         ·replace c45 := Bool.eq_false_iff.mpr c45
          subst c45
          have H1 : (laws_FnExactParseConstraint.j1 kj9 a0 l1 t281 true t277 t278 t286 t287) = some r := by rw [if_neg (show ¬ (false = true) by decide)] at H; exact H
          clear H
          have H := H1
          clear H1
          have H' := Aside0.mk H
          clear H
          have hnb50 := NB291_282.out
          have hnc50 := NB282_291.out
          obtain ⟨hcz51_0, hcz51_1⟩ := c2 BK291
          have hfz51_0 := blk_frozen BK291.out 0
          have hfz51_1 := blk_frozen BK291.out 1
          obtain ⟨hcz52_0, hcz52_1⟩ := c2 BK282
          have hfz52_0 := blk_frozen BK282.out 0
          have hfz52_1 := blk_frozen BK282.out 1
          go_wp2_with (first | (go_at_call 10; (with_reducible refine (laws_eqLin.calls kj9 t286 _ _ t287 t277 _ _ t278 false _ ?side1 ?side2 ?side3 ?side4 A44.out).mono ?_); (case side1 => exact mc ((Kd.R_reads' HO_292001.out).2.2)); (case side2 => exact (Kd.R_reads' HO_292001.out).2.1); (case side3 => exact mc ((Kd.R_reads' HO_283001.out).2.2)); (case side4 => exact (Kd.R_reads' HO_283001.out).2.1); rintro e w53 ⟨rfl, hb⟩; replace HO_8 := rb HO_8 hb; replace HO_283001 := rb HO_283001 hb; replace HO_292001 := rb HO_292001 hb; replace HO295 := rb HO295 hb; replace BK282 := bb BK282 hb; replace BK291 := bb BK291 hb; replace HB := bs HB hb; (try clear hb)))
          go_meet
          case rel => exact ⟨_, (true), (by first | rfl | (simp; done) | (simp [*]; done)), H', ⟨by have := HJ9.out; first | omega | exact Nat.le_refl _⟩, ⟨by (with_reducible repeat (first | apply Kd.R_alloc | apply Kd.R_drewN | apply Kd.R_drew)); exact HO_283001.out⟩, ⟨by (with_reducible repeat (first | apply Kd.R_alloc | apply Kd.R_drewN | apply Kd.R_drew)); exact HO_292001.out⟩, ⟨mb BK282⟩, ⟨mb BK291⟩, ⟨ms HB⟩⟩
       case rest =>
        clear HC39
        try clear c1
        try clear c2
        try clear p2
        try clear c3
        try clear c3b0
        try clear c3b1
        try clear c4
        try clear c5
        try clear c5b0
        try clear c6
        try clear c8
        try clear c10
        try clear c11
        try clear c12
        try clear c15
        try clear c16
        try clear c21
        try clear c25
        try clear c26
        try clear c30
        try clear c34
        try clear c37
        try clear c43
        try clear c43b0
        try clear c45
        try clear c46
        try clear c50
        try clear hcz15_0
        try clear hcz15_1
        try clear hcz22_0
        try clear hcz22_1
        try clear hcz27_0
        try clear hcz27_1
        try clear hcz28_0
        try clear hcz28_1
        try clear hcz31_0
        try clear hcz31_1
        try clear hcz32_0
        try clear hcz32_1
        try clear hcz47_0
        try clear hcz47_1
        try clear hcz48_0
        try clear hcz48_1
        try clear hcz51_0
        try clear hcz51_1
        try clear hcz52_0
        try clear hcz52_1
        try clear hfz15_0
        try clear hfz15_1
        try clear hfz22_0
        try clear hfz22_1
        try clear hfz27_0
        try clear hfz27_1
        try clear hfz28_0
        try clear hfz28_1
        try clear hfz31_0
        try clear hfz31_1
        try clear hfz32_0
        try clear hfz32_1
        try clear hfz47_0
        try clear hfz47_1
        try clear hfz48_0
        try clear hfz48_1
        try clear hfz51_0
        try clear hfz51_1
        try clear hfz52_0
        try clear hfz52_1
        try clear p2
        obtain ⟨kq, x68_38, rfl, HA, HJ38, HO_283001, HO_292001, BK282, BK291, HB⟩ := hcut
        cases kq with
        | zero => exact absurd HA.out (by simp [laws_FnExactParseConstraint.j1])
        | succ kj38 =>
         have H := HA.out
         clear HA
         simp only [laws_FnExactParseConstraint.j1] at H
         by_cases c54 : x68_38 = true
         ·subst c54
          have H1 : (some false) = some r := by rw [if_pos rfl] at H; exact H
          clear H
          have H := H1
          clear H1
          obtain rfl := Option.some.inj H
          exact absurd hT_ (by decide)
         ·replace c54 := Bool.eq_false_iff.mpr c54
          subst c54
          have H1 : ((laws_markLin.f kj38 t286 t287 1).bind fun bt300 => ((laws_heldLin.f kj38 t286 bt300.2 1).bind fun t302 => (if t302 < 0 then (some false) else (if t302 = bt300.1 then ((laws_toStringS.f kj38 l1).bind fun t303 => ((impl_ParseConstraint.f kj38 a0 t303).bind fun bt306 => ((laws_eqLin.f kj38 bt306.1 bt306.2.1 t277 t278).bind fun t312 => (if t312 = true then (laws_FnExactParseConstraint.j2 kj38 bt300.1 (bt306.2.2 != t281) t286 bt300.2) else (laws_FnExactParseConstraint.j2 kj38 bt300.1 true t286 bt300.2))))) else (some false))))) = some r := by rw [if_neg (show ¬ (false = true) by decide)] at H; exact H
          clear H
          have H := H1
          clear H1
          replace H := Option.bind_eq_some_iff.mp H
          obtain ⟨⟨t300, t301⟩, A550, H⟩ := H
          replace H : ((laws_heldLin.f kj38 t286 t301 1).bind fun t302 => (if t302 < 0 then (some false) else (if t302 = t300 then ((laws_toStringS.f kj38 l1).bind fun t303 => ((impl_ParseConstraint.f kj38 a0 t303).bind fun bt306 => ((laws_eqLin.f kj38 bt306.1 bt306.2.1 t277 t278).bind fun t312 => (if t312 = true then (laws_FnExactParseConstraint.j2 kj38 t300 (bt306.2.2 != t281) t286 t301) else (laws_FnExactParseConstraint.j2 kj38 t300 true t286 t301))))) else (some false)))) = some r := H
          have A55 := Aside0.mk A550
          clear A550
          replace H := Option.bind_eq_some_iff.mp H
          obtain ⟨t302, A560, H⟩ := H
          replace H : (if t302 < 0 then (some false) else (if t302 = t300 then ((laws_toStringS.f kj38 l1).bind fun t303 => ((impl_ParseConstraint.f kj38 a0 t303).bind fun bt306 => ((laws_eqLin.f kj38 bt306.1 bt306.2.1 t277 t278).bind fun t312 => (if t312 = true then (laws_FnExactParseConstraint.j2 kj38 t300 (bt306.2.2 != t281) t286 t301) else (laws_FnExactParseConstraint.j2 kj38 t300 true t286 t301))))) else (some false))) = some r := H
          have A56 := Aside0.mk A560
          clear A560
          by_cases c57 : t302 < 0
          ·rw [if_pos c57] at H
           have c57b0 : decide (t302 < 0) = true := decide_eq_true c57
           clear c57
           obtain rfl := Option.some.inj H
           exact absurd hT_ (by decide)
          ·rw [if_neg c57] at H
           have c57b0 : decide (t302 < 0) = false := decide_eq_false c57
           clear c57
           by_cases c58 : t302 = t300
           ·rw [if_pos c58] at H
            have c58b0 : (t302 == t300) = true := beq_iff_eq.mpr c58
            have c58b1 : (t302 != t300) = false := bne_eq_false_iff_eq.mpr c58
            clear c58
            replace H := Option.bind_eq_some_iff.mp H
            obtain ⟨t303, A590, H⟩ := H
            replace H : ((impl_ParseConstraint.f kj38 a0 t303).bind fun bt306 => ((laws_eqLin.f kj38 bt306.1 bt306.2.1 t277 t278).bind fun t312 => (if t312 = true then (laws_FnExactParseConstraint.j2 kj38 t300 (bt306.2.2 != t281) t286 t301) else (laws_FnExactParseConstraint.j2 kj38 t300 true t286 t301)))) = some r := H
            have A59 := Aside0.mk A590
            clear A590
            replace H := Option.bind_eq_some_iff.mp H
            obtain ⟨⟨t306, t307, t310⟩, A600, H⟩ := H
            replace H : ((laws_eqLin.f kj38 t306 t307 t277 t278).bind fun t312 => (if t312 = true then (laws_FnExactParseConstraint.j2 kj38 t300 (t310 != t281) t286 t301) else (laws_FnExactParseConstraint.j2 kj38 t300 true t286 t301))) = some r := H
            have A60 := Aside0.mk A600
            clear A600
            have HC61 := Aside0.mk H
            clear H
            have hnb62 := NB291_282.out
            have hnc62 := NB282_291.out
            obtain ⟨hcz63_0, hcz63_1⟩ := c2 BK291
            have hfz63_0 := blk_frozen BK291.out 0
            have hfz63_1 := blk_frozen BK291.out 1
            go_upto_region 27 with (first | ((with_reducible refine gate_callee (f := 13) rfl ?_); refine gl (some 71) rfl rfl Tryz.func13 (by kernel_rfl) rfl #[.agg #[.int .i64 t286, .slice Ao23 t287.length co23], .int .i64 1] rfl ?_; (with_reducible refine (laws_markLin.calls kj38 t286 (fun k_ => some k_ = (.slice Ao23 t287.length co23 : Value).ownBlock) (.slice Ao23 t287.length co23) t287 1 t300 t301 w _ ?side1 ?side2 A55.out).mono ?_); (case side1 => repeat (first | (with_reducible first | exact HB.out | apply below_alloc | apply pw_below_drewN | apply below_drew1 | refine below_set ?_ GE282.out | refine below_set ?_ GE291.out) | exact HB.out)); (case side2 => exact Kd.R_tight rfl HO_292001.out); rintro e w64 ⟨rfl, hy0, hb, hkp⟩; refine ⟨_, rfl, ?_⟩; replace HO_283001 := Aside0.mk (Kd.R_mono (ok' := fun k_ => some k_ ≠ (.slice Ao23 t287.length co23 : Value).ownBlock) (Kd.R_keptB (HO_283001.out) hkp (fun k_ hk_ hs_ => (hk_) hs_)) (fun k_ hk_ => hk_.1)); replace BK282 := Aside0.mk (blk_kept (mb BK282) hkp (fun hs_ => (fun e_ => (Kd.R_ne HO_292001.out BK282.out (by decide)) e_) hs_)); replace BK291 := Aside0.mk (blk_kept (mb BK291) hkp (fun hs_ => (fun e_ => (Kd.R_ne HO_292001.out BK291.out (by decide)) e_) hs_)); replace HO_292001 := Aside0.mk (Kd.R_reok rfl hy0 (fun k_ e_ => HO_292001.out.1 k_ e_)); replace HB := Aside0.mk (hb); (try clear hb); (try clear hkp); (try clear hy0); obtain ⟨hcz65_0, hcz65_1⟩ := c2 BK291; have hfz65_0 := blk_frozen BK291.out 0; have hfz65_1 := blk_frozen BK291.out 1) | ((with_reducible refine gate_callee (f := 14) rfl ?_); refine goesL_ (some 74) rfl rfl Tryz.func14 (by kernel_rfl) rfl #[.agg #[.int .i64 t286, .slice Ao23 t301.length co23], .int .i64 1] rfl (by (try simp only [List.map_toArray, List.map_cons, List.map_nil]); first | done | (rw [show t301.length = t287.length from (Kd.R_reads' HO_292001.out).1.symm] <;> rfl) | rfl | (simp only [List.length_drop, List.length_take]; rfl)) ?_; (with_reducible refine (laws_heldLin.calls kj38 t286 _ _ t301 1 t302 _ ?side1 ?side2 A56.out).mono ?_); (case side1 => exact mc ((Kd.R_reads' HO_292001.out).2.2)); (case side2 => rw [show t301.length = t287.length from (Kd.R_reads' HO_292001.out).1.symm]; exact (Kd.R_reads' HO_292001.out).2.1); rintro e w66 ⟨rfl, hb⟩; refine ⟨_, rfl, ?_⟩; replace HO_283001 := rb HO_283001 hb; replace HO_292001 := rb HO_292001 hb; replace BK282 := bb BK282 hb; replace BK291 := bb BK291 hb; replace HB := bs HB hb; (try clear hb)) | ((with_reducible refine gate_callee (f := 8) rfl ?_); refine gl (some 83) rfl rfl Tryz.func8 (by kernel_rfl) rfl #[.slice A1 l1.length c1] rfl ?_; (with_reducible refine (laws_toStringS.calls kj38 _ _ l1 t303 _ ?side1 ?side2 A59.out).mono ?_); (case side1 => exact mc ((Kd.C_below HR1.out HB.out))); (case side2 => exact HC1.out); rintro e w67 ⟨v304, rfl, ho0, hb⟩; refine ⟨_, rfl, ?_⟩; replace HO_283001 := rb HO_283001 hb; replace HO_292001 := rb HO_292001 hb; have HO305 := Aside0.mk (Kd.R_lower ho0 (below_size (ms HB))); replace BK282 := bb BK282 hb; replace BK291 := bb BK291 hb; replace HB := bs HB hb; (try clear hb); (try clear ho0); obtain ⟨Ao68, co68, eo68⟩ := Kd.R_slice HO305.out; subst eo68) | ((with_reducible refine gate_callee (f := 16) rfl ?_); refine gl (some 84) rfl rfl Tryz.func16 (by kernel_rfl) rfl #[.string a0, .slice Ao68 t303.length co68] rfl ?_; (with_reducible refine (impl_ParseConstraint.calls kj38 a0 _ _ t303 t306 t307 t310 _ ?side1 ?side2 A60.out).mono ?_); (case side1 => exact mc ((Kd.R_reads' HO305.out).2.2)); (case side2 => exact (Kd.R_reads' HO305.out).2.1); rintro e w69 ⟨v308, rfl, ho0, hb⟩; refine ⟨_, rfl, ?_⟩; replace HO305 := rb HO305 hb; have HO309 := Aside0.mk (Kd.R_lower (Kd.R_new' (Kd.R_new' ho0 (Kd.R_lt (mr HO_283001))) (Kd.R_lt (mr HO_292001))) (below_size (ms HB))); replace HO_283001 := rl HO_283001 ho0 hb; replace HO_292001 := rl HO_292001 ho0 hb; replace BK282 := bb BK282 hb; replace BK291 := bb BK291 hb; replace HB := bs HB hb; (try clear hb); (try clear ho0)) | ((with_reducible refine gate_dst (N := 14) rfl ?_); refine box_event ?hg (N := 14) ?hd (cs := #[.int .i64 0, .slice none 0 0]) (t := 26) ?hr ?_; (case hd => rfl); (case hg => rfl); (case hr => first | (go_simp; done) | (go_simp; rfl)); intro gb311 hg w70 hbox hb; replace HO_283001 := rb HO_283001 hb; replace HO_292001 := rb HO_292001 hb; replace HO305 := rb HO305 hb; replace HO309 := rb HO309 hb; have BK311 := Aside0.mk (hbox); have GW311 := gw hg HB; have GE311 := gw hg HB; replace HB := bs HB hb; have NB282_311 := nl hg BK282; have NB311_282 := ng hg BK282; replace BK282 := bb BK282 hb; have NB291_311 := nl hg BK291; have NB311_291 := ng hg BK291; replace BK291 := bb BK291 hb; clear hb hbox hg; have hnb71 := NB311_282.out; have hnc71 := NB282_311.out; have hnb72 := NB311_291.out; have hnc72 := NB291_311.out; obtain ⟨hcz73_0, hcz73_1⟩ := c2 BK311; have hfz73_0 := blk_frozen BK311.out 0; have hfz73_1 := blk_frozen BK311.out 1; obtain ⟨Ao74, co74, eo74⟩ := Kd.R_slice HO309.out; subst eo74))
            (try simp only [Act.put, List.setIfInBounds_toArray, List.set_cons_zero, List.set_cons_succ])
            go_cut [95] (fun v95 wc => ∃ (kq : Nat) (x95_60 : Bool), v95 = .bool x95_60 ∧ Aside0 (laws_FnExactParseConstraint.j2 kq t300 x95_60 t286 t301 = some r) ∧ Aside0 (kq ≤ kj38) ∧ Aside0 (Kd.R (Kd.int .i64) 3 wc w.heap.size (fun k_ => some k_ ≠ ((.slice Ao23 t287.length co23) : Value).ownBlock ∧ some k_ ≠ ((.slice Ao74 t307.length co74) : Value).ownBlock) (.slice Ao16 t278.length co16) t278) ∧ Aside0 (Kd.R (Kd.int .i64) 3 wc w.heap.size (fun k_ => some k_ ≠ ((.slice Ao16 t278.length co16) : Value).ownBlock ∧ some k_ ≠ ((.slice Ao74 t307.length co74) : Value).ownBlock) (.slice Ao23 t287.length co23) t301) ∧ Aside0 (Kd.R (Kd.int .i64) 3 wc w.heap.size (fun k_ => some k_ ≠ ((.slice Ao16 t278.length co16) : Value).ownBlock ∧ some k_ ≠ ((.slice Ao23 t287.length co23) : Value).ownBlock) (.slice Ao74 t307.length co74) t307) ∧ Aside0 (wc.heap[gb282]? = some (.cells #[.int .i64 t277, (.slice Ao16 t278.length co16)] 26 (0, 0))) ∧ Aside0 (wc.heap[gb291]? = some (.cells #[.int .i64 t286, (.slice Ao23 t287.length co23)] 26 (0, 0))) ∧ Aside0 (wc.heap[gb311]? = some (.cells #[.int .i64 t306, (.slice Ao74 t307.length co74)] 26 (0, 0))) ∧ Aside0 (Below w.heap.size w wc))
            case first =>
             have H := HC61.out
             clear HC61
             replace H := Option.bind_eq_some_iff.mp H
             obtain ⟨t312, A750, H⟩ := H
             replace H : (if t312 = true then (laws_FnExactParseConstraint.j2 kj38 t300 (t310 != t281) t286 t301) else (laws_FnExactParseConstraint.j2 kj38 t300 true t286 t301)) = some r := H
             have A75 := Aside0.mk A750
             clear A750
             by_cases c76 : t312 = true
             ·subst c76
              have H1 : (laws_FnExactParseConstraint.j2 kj38 t300 (t310 != t281) t286 t301) = some r := by rw [if_pos rfl] at H; exact H
              clear H
              have H := H1
              clear H1
              have H' := Aside0.mk H
              clear H
              have hnb77 := NB311_282.out
              have hnc77 := NB282_311.out
              have hnb78 := NB311_291.out
              have hnc78 := NB291_311.out
              obtain ⟨hcz79_0, hcz79_1⟩ := c2 BK311
              have hfz79_0 := blk_frozen BK311.out 0
              have hfz79_1 := blk_frozen BK311.out 1
              have hnb80 := NB282_291.out
              have hnc80 := NB291_282.out
              obtain ⟨hcz81_0, hcz81_1⟩ := c2 BK282
              have hfz81_0 := blk_frozen BK282.out 0
              have hfz81_1 := blk_frozen BK282.out 1
              go_wp2_with (first | ((with_reducible refine gate_callee (f := 10) rfl ?_); refine gl (some 89) rfl rfl Tryz.func10 (by kernel_rfl) rfl #[.agg #[.int .i64 t306, .slice Ao74 t307.length co74], .agg #[.int .i64 t277, .slice Ao16 t278.length co16]] rfl ?_; (with_reducible refine (laws_eqLin.calls kj38 t306 _ _ t307 t277 _ _ t278 true _ ?side1 ?side2 ?side3 ?side4 A75.out).mono ?_); (case side1 => refine (Kd.R_reads' (e := 3) (base := w.heap.size) (ok := fun k_ => ((True ∧ some k_ ≠ (.slice Ao16 t278.length co16 : Value).ownBlock) ∧ some k_ ≠ (.slice Ao23 t287.length co23 : Value).ownBlock)) (n := t307.length) (c := co74) ?_).2.2; exact (by (with_reducible repeat (first | apply Kd.R_alloc | apply Kd.R_drewN | apply Kd.R_drew)); exact (Kd.R_mono (Kd.R_far (p := ⟨gb311, 1, none⟩) (Kd.R_far (p := ⟨gb311, 0, none⟩) (Kd.R_types HO309.out BK311.out (by decide)) (fun _ hk => hk.2) (.int .i64 t306)) (fun _ hk => hk.2) (.slice Ao74 t307.length co74)) (fun _ h_ => h_.1)))); (case side2 => exact (Kd.R_reads' HO309.out).2.1); (case side3 => refine (Kd.R_reads' (e := 3) (base := w.heap.size) (ok := fun k_ => (some k_ ≠ (.slice Ao23 t287.length co23 : Value).ownBlock ∧ some k_ ≠ (.slice Ao74 t307.length co74 : Value).ownBlock)) (n := t278.length) (c := co16) ?_).2.2; exact (by (with_reducible repeat (first | apply Kd.R_alloc | apply Kd.R_drewN | apply Kd.R_drew)); exact (Kd.R_mono (Kd.R_far (p := ⟨gb311, 1, none⟩) (Kd.R_far (p := ⟨gb311, 0, none⟩) (Kd.R_types HO_283001.out BK311.out (by decide)) (fun _ hk => hk.2) (.int .i64 t306)) (fun _ hk => hk.2) (.slice Ao74 t307.length co74)) (fun _ h_ => h_.1)))); (case side4 => exact (Kd.R_reads' HO_283001.out).2.1); rintro e w82 ⟨rfl, hb⟩; refine ⟨_, rfl, ?_⟩; have n0_ := Aside0.mk (Kd.R_below (by (with_reducible repeat (first | apply Kd.R_alloc | apply Kd.R_drewN | apply Kd.R_drew)); exact (Kd.R_mono (Kd.R_far (p := ⟨gb311, 1, none⟩) (Kd.R_far (p := ⟨gb311, 0, none⟩) (Kd.R_types HO_283001.out BK311.out (by decide)) (fun _ hk => hk.2) (.int .i64 t306)) (fun _ hk => hk.2) (.slice Ao74 t307.length co74)) (fun _ h_ => h_.1))) hb); have n1_ := Aside0.mk (Kd.R_below (by (with_reducible repeat (first | apply Kd.R_alloc | apply Kd.R_drewN | apply Kd.R_drew)); exact (Kd.R_mono (Kd.R_far (p := ⟨gb311, 1, none⟩) (Kd.R_far (p := ⟨gb311, 0, none⟩) (Kd.R_types HO_292001.out BK311.out (by decide)) (fun _ hk => hk.2) (.int .i64 t306)) (fun _ hk => hk.2) (.slice Ao74 t307.length co74)) (fun _ h_ => h_.1))) hb); have n2_ := Aside0.mk (Kd.R_below (by (with_reducible repeat (first | apply Kd.R_alloc | apply Kd.R_drewN | apply Kd.R_drew)); exact (Kd.R_mono (Kd.R_far (p := ⟨gb311, 1, none⟩) (Kd.R_far (p := ⟨gb311, 0, none⟩) (Kd.R_types HO305.out BK311.out (by decide)) (fun _ hk => hk.2) (.int .i64 t306)) (fun _ hk => hk.2) (.slice Ao74 t307.length co74)) (fun _ h_ => h_.1))) hb); have n3_ := Aside0.mk (Kd.R_below (by (with_reducible repeat (first | apply Kd.R_alloc | apply Kd.R_drewN | apply Kd.R_drew)); exact (Kd.R_mono (Kd.R_far (p := ⟨gb311, 1, none⟩) (Kd.R_far (p := ⟨gb311, 0, none⟩) (Kd.R_types HO309.out BK311.out (by decide)) (fun _ hk => hk.2) (.int .i64 t306)) (fun _ hk => hk.2) (.slice Ao74 t307.length co74)) (fun _ h_ => h_.1))) hb); have n4_ := bf BK282 hb; have n5_ := bf BK291 hb; have n6_ := Aside0.mk (blk_below (g := gb311) (o := .cells #[.int .i64 t306, .slice Ao74 t307.length co74] 26 (0, 0)) (by (with_reducible repeat (first | refine blk_drewN ?_ _ | refine blk_drew ?_ | refine blk_alloc ?_ _)); refine blk_put (cs := #[.int .i64 t306, .slice none 0 0]) ?_ 1 _ rfl; (with_reducible repeat (first | refine blk_drewN ?_ _ | refine blk_drew ?_ | refine blk_alloc ?_ _)); refine blk_put (cs := #[.int .i64 0, .slice none 0 0]) ?_ 0 _ rfl; (with_reducible repeat (first | refine blk_drewN ?_ _ | refine blk_drew ?_ | refine blk_alloc ?_ _)); exact BK311.out) hb); have n7_ := bs HB hb; clear HO_283001 HO_292001 HO305 HO309 BK282 BK291 BK311 HB; have HO_283001 := n0_; have HO_292001 := n1_; have HO305 := n2_; have HO309 := n3_; have BK282 := n4_; have BK291 := n5_; have BK311 := n6_; have HB := n7_; clear n0_ n1_ n2_ n3_ n4_ n5_ n6_ n7_; (try clear hb)))
              go_meet
              case rel => exact ⟨_, ((t310 != t281)), (by first | rfl | (simp; done) | (simp [*]; done)), H', ⟨by have := HJ9.out; have := HJ38.out; first | omega | exact Nat.le_refl _⟩, ⟨by (with_reducible repeat (first | apply Kd.R_alloc | apply Kd.R_drewN | apply Kd.R_drew)); exact HO_283001.out⟩, ⟨by (with_reducible repeat (first | apply Kd.R_alloc | apply Kd.R_drewN | apply Kd.R_drew)); exact HO_292001.out⟩, ⟨by (with_reducible repeat (first | apply Kd.R_alloc | apply Kd.R_drewN | apply Kd.R_drew)); exact Kd.R_mono HO309.out (fun _ hk => ⟨hk.1.2, hk.2⟩)⟩, ⟨mb BK282⟩, ⟨mb BK291⟩, ⟨mb BK311⟩, ⟨ms HB⟩⟩
             ·replace c76 := Bool.eq_false_iff.mpr c76
              subst c76
              have H1 : (laws_FnExactParseConstraint.j2 kj38 t300 true t286 t301) = some r := by rw [if_neg (show ¬ (false = true) by decide)] at H; exact H
              clear H
              have H := H1
              clear H1
              have H' := Aside0.mk H
              clear H
              have hnb83 := NB311_282.out
              have hnc83 := NB282_311.out
              have hnb84 := NB311_291.out
              have hnc84 := NB291_311.out
              obtain ⟨hcz85_0, hcz85_1⟩ := c2 BK311
              have hfz85_0 := blk_frozen BK311.out 0
              have hfz85_1 := blk_frozen BK311.out 1
              have hnb86 := NB282_291.out
              have hnc86 := NB291_282.out
              obtain ⟨hcz87_0, hcz87_1⟩ := c2 BK282
              have hfz87_0 := blk_frozen BK282.out 0
              have hfz87_1 := blk_frozen BK282.out 1
              go_wp2_with (first | ((with_reducible refine gate_callee (f := 10) rfl ?_); refine gl (some 89) rfl rfl Tryz.func10 (by kernel_rfl) rfl #[.agg #[.int .i64 t306, .slice Ao74 t307.length co74], .agg #[.int .i64 t277, .slice Ao16 t278.length co16]] rfl ?_; (with_reducible refine (laws_eqLin.calls kj38 t306 _ _ t307 t277 _ _ t278 false _ ?side1 ?side2 ?side3 ?side4 A75.out).mono ?_); (case side1 => refine (Kd.R_reads' (e := 3) (base := w.heap.size) (ok := fun k_ => ((True ∧ some k_ ≠ (.slice Ao16 t278.length co16 : Value).ownBlock) ∧ some k_ ≠ (.slice Ao23 t287.length co23 : Value).ownBlock)) (n := t307.length) (c := co74) ?_).2.2; exact (by (with_reducible repeat (first | apply Kd.R_alloc | apply Kd.R_drewN | apply Kd.R_drew)); exact (Kd.R_mono (Kd.R_far (p := ⟨gb311, 1, none⟩) (Kd.R_far (p := ⟨gb311, 0, none⟩) (Kd.R_types HO309.out BK311.out (by decide)) (fun _ hk => hk.2) (.int .i64 t306)) (fun _ hk => hk.2) (.slice Ao74 t307.length co74)) (fun _ h_ => h_.1)))); (case side2 => exact (Kd.R_reads' HO309.out).2.1); (case side3 => refine (Kd.R_reads' (e := 3) (base := w.heap.size) (ok := fun k_ => (some k_ ≠ (.slice Ao23 t287.length co23 : Value).ownBlock ∧ some k_ ≠ (.slice Ao74 t307.length co74 : Value).ownBlock)) (n := t278.length) (c := co16) ?_).2.2; exact (by (with_reducible repeat (first | apply Kd.R_alloc | apply Kd.R_drewN | apply Kd.R_drew)); exact (Kd.R_mono (Kd.R_far (p := ⟨gb311, 1, none⟩) (Kd.R_far (p := ⟨gb311, 0, none⟩) (Kd.R_types HO_283001.out BK311.out (by decide)) (fun _ hk => hk.2) (.int .i64 t306)) (fun _ hk => hk.2) (.slice Ao74 t307.length co74)) (fun _ h_ => h_.1)))); (case side4 => exact (Kd.R_reads' HO_283001.out).2.1); rintro e w88 ⟨rfl, hb⟩; refine ⟨_, rfl, ?_⟩; have n0_ := Aside0.mk (Kd.R_below (by (with_reducible repeat (first | apply Kd.R_alloc | apply Kd.R_drewN | apply Kd.R_drew)); exact (Kd.R_mono (Kd.R_far (p := ⟨gb311, 1, none⟩) (Kd.R_far (p := ⟨gb311, 0, none⟩) (Kd.R_types HO_283001.out BK311.out (by decide)) (fun _ hk => hk.2) (.int .i64 t306)) (fun _ hk => hk.2) (.slice Ao74 t307.length co74)) (fun _ h_ => h_.1))) hb); have n1_ := Aside0.mk (Kd.R_below (by (with_reducible repeat (first | apply Kd.R_alloc | apply Kd.R_drewN | apply Kd.R_drew)); exact (Kd.R_mono (Kd.R_far (p := ⟨gb311, 1, none⟩) (Kd.R_far (p := ⟨gb311, 0, none⟩) (Kd.R_types HO_292001.out BK311.out (by decide)) (fun _ hk => hk.2) (.int .i64 t306)) (fun _ hk => hk.2) (.slice Ao74 t307.length co74)) (fun _ h_ => h_.1))) hb); have n2_ := Aside0.mk (Kd.R_below (by (with_reducible repeat (first | apply Kd.R_alloc | apply Kd.R_drewN | apply Kd.R_drew)); exact (Kd.R_mono (Kd.R_far (p := ⟨gb311, 1, none⟩) (Kd.R_far (p := ⟨gb311, 0, none⟩) (Kd.R_types HO305.out BK311.out (by decide)) (fun _ hk => hk.2) (.int .i64 t306)) (fun _ hk => hk.2) (.slice Ao74 t307.length co74)) (fun _ h_ => h_.1))) hb); have n3_ := Aside0.mk (Kd.R_below (by (with_reducible repeat (first | apply Kd.R_alloc | apply Kd.R_drewN | apply Kd.R_drew)); exact (Kd.R_mono (Kd.R_far (p := ⟨gb311, 1, none⟩) (Kd.R_far (p := ⟨gb311, 0, none⟩) (Kd.R_types HO309.out BK311.out (by decide)) (fun _ hk => hk.2) (.int .i64 t306)) (fun _ hk => hk.2) (.slice Ao74 t307.length co74)) (fun _ h_ => h_.1))) hb); have n4_ := bf BK282 hb; have n5_ := bf BK291 hb; have n6_ := Aside0.mk (blk_below (g := gb311) (o := .cells #[.int .i64 t306, .slice Ao74 t307.length co74] 26 (0, 0)) (by (with_reducible repeat (first | refine blk_drewN ?_ _ | refine blk_drew ?_ | refine blk_alloc ?_ _)); refine blk_put (cs := #[.int .i64 t306, .slice none 0 0]) ?_ 1 _ rfl; (with_reducible repeat (first | refine blk_drewN ?_ _ | refine blk_drew ?_ | refine blk_alloc ?_ _)); refine blk_put (cs := #[.int .i64 0, .slice none 0 0]) ?_ 0 _ rfl; (with_reducible repeat (first | refine blk_drewN ?_ _ | refine blk_drew ?_ | refine blk_alloc ?_ _)); exact BK311.out) hb); have n7_ := bs HB hb; clear HO_283001 HO_292001 HO305 HO309 BK282 BK291 BK311 HB; have HO_283001 := n0_; have HO_292001 := n1_; have HO305 := n2_; have HO309 := n3_; have BK282 := n4_; have BK291 := n5_; have BK311 := n6_; have HB := n7_; clear n0_ n1_ n2_ n3_ n4_ n5_ n6_ n7_; (try clear hb)))
              go_meet
              case rel => exact ⟨_, (true), (by first | rfl | (simp; done) | (simp [*]; done)), H', ⟨by have := HJ9.out; have := HJ38.out; first | omega | exact Nat.le_refl _⟩, ⟨by (with_reducible repeat (first | apply Kd.R_alloc | apply Kd.R_drewN | apply Kd.R_drew)); exact HO_283001.out⟩, ⟨by (with_reducible repeat (first | apply Kd.R_alloc | apply Kd.R_drewN | apply Kd.R_drew)); exact HO_292001.out⟩, ⟨by (with_reducible repeat (first | apply Kd.R_alloc | apply Kd.R_drewN | apply Kd.R_drew)); exact Kd.R_mono HO309.out (fun _ hk => ⟨hk.1.2, hk.2⟩)⟩, ⟨mb BK282⟩, ⟨mb BK291⟩, ⟨mb BK311⟩, ⟨ms HB⟩⟩
            case rest =>
             clear HC61
             try clear c1
             try clear c2
             try clear p2
             try clear c3
             try clear c3b0
             try clear c3b1
             try clear c4
             try clear c5
             try clear c5b0
             try clear c6
             try clear c7
             try clear c8
             try clear c10
             try clear c11
             try clear c12
             try clear c13
             try clear c14
             try clear c15
             try clear c16
             try clear c21
             try clear c25
             try clear c26
             try clear c30
             try clear c34
             try clear c37
             try clear c43
             try clear c43b0
             try clear c45
             try clear c46
             try clear c50
             try clear c54
             try clear c57
             try clear c57b0
             try clear c58
             try clear c58b0
             try clear c58b1
             try clear c62
             try clear c71
             try clear c72
             try clear c76
             try clear c77
             try clear c78
             try clear c80
             try clear c83
             try clear c84
             try clear c86
             try clear hcz15_0
             try clear hcz15_1
             try clear hcz22_0
             try clear hcz22_1
             try clear hcz27_0
             try clear hcz27_1
             try clear hcz28_0
             try clear hcz28_1
             try clear hcz31_0
             try clear hcz31_1
             try clear hcz32_0
             try clear hcz32_1
             try clear hcz47_0
             try clear hcz47_1
             try clear hcz48_0
             try clear hcz48_1
             try clear hcz51_0
             try clear hcz51_1
             try clear hcz52_0
             try clear hcz52_1
             try clear hcz63_0
             try clear hcz63_1
             try clear hcz65_0
             try clear hcz65_1
             try clear hcz73_0
             try clear hcz73_1
             try clear hcz79_0
             try clear hcz79_1
             try clear hcz81_0
             try clear hcz81_1
             try clear hcz85_0
             try clear hcz85_1
             try clear hcz87_0
             try clear hcz87_1
             try clear hfz15_0
             try clear hfz15_1
             try clear hfz22_0
             try clear hfz22_1
             try clear hfz27_0
             try clear hfz27_1
             try clear hfz28_0
             try clear hfz28_1
             try clear hfz31_0
             try clear hfz31_1
             try clear hfz32_0
             try clear hfz32_1
             try clear hfz47_0
             try clear hfz47_1
             try clear hfz48_0
             try clear hfz48_1
             try clear hfz51_0
             try clear hfz51_1
             try clear hfz52_0
             try clear hfz52_1
             try clear hfz63_0
             try clear hfz63_1
             try clear hfz65_0
             try clear hfz65_1
             try clear hfz73_0
             try clear hfz73_1
             try clear hfz79_0
             try clear hfz79_1
             try clear hfz81_0
             try clear hfz81_1
             try clear hfz85_0
             try clear hfz85_1
             try clear hfz87_0
             try clear hfz87_1
             try clear p2
             obtain ⟨kq, x95_60, rfl, HA, HJ60, HO_283001, HO_292001, HO_312001, BK282, BK291, BK311, HB⟩ := hcut
             have hl292001_60 := (Kd.R_reads' HO_292001.out).1
             rw [hl292001_60] at HO_292001
             (try simp only [hl292001_60])
             (try simp only [hl292001_60] at BK282)
             (try simp only [hl292001_60] at BK291)
             (try simp only [hl292001_60] at BK311)
             (try simp only [hl292001_60] at HO_283001)
             (try simp only [hl292001_60] at HO_312001)
             cases kq with
             | zero => exact absurd HA.out (by simp [laws_FnExactParseConstraint.j2])
             | succ kj60 =>
              have H := HA.out
              clear HA
              simp only [laws_FnExactParseConstraint.j2] at H
              by_cases c89 : x95_60 = true
              ·subst c89
               have H1 : (some false) = some r := by rw [if_pos rfl] at H; exact H
               clear H
               have H := H1
               clear H1
               obtain rfl := Option.some.inj H
               exact absurd hT_ (by decide)
              ·replace c89 := Bool.eq_false_iff.mpr c89
               subst c89
               have H1 : ((laws_heldLin.f kj60 t286 t301 1).bind fun t313 => (if t313 < 0 then (some false) else (if t313 = t300 then (some true) else (some false)))) = some r := by rw [if_neg (show ¬ (false = true) by decide)] at H; exact H
               clear H
               have H := H1
               clear H1
               replace H := Option.bind_eq_some_iff.mp H
               obtain ⟨t313, A900, H⟩ := H
               replace H : (if t313 < 0 then (some false) else (if t313 = t300 then (some true) else (some false))) = some r := H
               have A90 := Aside0.mk A900
               clear A900
               by_cases c91 : t313 < 0
               ·rw [if_pos c91] at H
                have c91b0 : decide (t313 < 0) = true := decide_eq_true c91
                clear c91
                obtain rfl := Option.some.inj H
                exact absurd hT_ (by decide)
               ·rw [if_neg c91] at H
                have c91b0 : decide (t313 < 0) = false := decide_eq_false c91
                clear c91
                by_cases c92 : t313 = t300
                ·rw [if_pos c92] at H
                 have c92b0 : (t313 == t300) = true := beq_iff_eq.mpr c92
                 have c92b1 : (t313 != t300) = false := bne_eq_false_iff_eq.mpr c92
                 clear c92
                 obtain rfl := Option.some.inj H
                 have hnb93 := NB291_282.out
                 have hnc93 := NB282_291.out
                 have hnb94 := NB291_311.out
                 have hnc94 := NB311_291.out
                 obtain ⟨hcz95_0, hcz95_1⟩ := c2 BK291
                 have hfz95_0 := blk_frozen BK291.out 0
                 have hfz95_1 := blk_frozen BK291.out 1
                 go_wp2_with (first | ((with_reducible refine gate_callee (f := 14) rfl ?_); refine gl (some 98) rfl rfl Tryz.func14 (by kernel_rfl) rfl #[.agg #[.int .i64 t286, .slice Ao23 t301.length co23], .int .i64 1] rfl ?_; (with_reducible refine (laws_heldLin.calls kj60 t286 _ _ t301 1 t313 _ ?side1 ?side2 A90.out).mono ?_); (case side1 => exact mc ((Kd.R_reads' HO_292001.out).2.2)); (case side2 => exact (Kd.R_reads' HO_292001.out).2.1); rintro e w96 ⟨rfl, hb⟩; refine ⟨_, rfl, ?_⟩; replace HO_283001 := rb HO_283001 hb; replace HO_292001 := rb HO_292001 hb; replace HO_312001 := rb HO_312001 hb; replace BK282 := bb BK282 hb; replace BK291 := bb BK291 hb; replace BK311 := bb BK311 hb; replace HB := bs HB hb; (try clear hb)))
                 go_ret
                 exact ⟨by first | rfl | (simp [errW_none, errW_some] <;> rfl) | (simp [*, errW_none, errW_some] <;> rfl), ms HB⟩
                ·rw [if_neg c92] at H
                 have c92b0 : (t313 == t300) = false := beq_eq_false_iff_ne.mpr c92
                 have c92b1 : (t313 != t300) = true := bne_iff_ne.mpr c92
                 obtain rfl := Option.some.inj H
                 exact absurd hT_ (by decide)
           ·rw [if_neg c58] at H
            have c58b0 : (t302 == t300) = false := beq_eq_false_iff_ne.mpr c58
            have c58b1 : (t302 != t300) = true := bne_iff_ne.mpr c58
            obtain rfl := Option.some.inj H
            exact absurd hT_ (by decide)
      ·replace c37 := Bool.eq_false_iff.mpr c37
       subst c37
       have H1 : (some false) = some r := by rw [if_neg (show ¬ (false = true) by decide)] at H; exact H
       clear H
       have H := H1
       clear H1
       obtain rfl := Option.some.inj H
       exact absurd hT_ (by decide)

/-- THE ONE PURE STATEMENT of laws_FnExactParseConstraint. -/
def laws_FnExactParseConstraint.Pure : Prop := ∀ (a0 : ByteArray) (l1 : List ByteArray), (a0.size ≤ 9223372036854775807) → (l1.length ≤ 9223372036854775807 ∧ ∀ x0 ∈ l1, x0.size ≤ 9223372036854775807) → ∃ k, laws_FnExactParseConstraint.f k a0 l1 = some true

end Go.Proofs.YtmdjhmggogfbdaaGreatDoor.QFnExactParseConstraint
