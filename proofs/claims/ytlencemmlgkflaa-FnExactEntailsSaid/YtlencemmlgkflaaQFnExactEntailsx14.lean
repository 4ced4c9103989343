-- Made by a program of this claim's own (wip/print): not the kit's print as it stands.
import Derived.Test.YtlencemmlgkflaaUFnExactEntailsTri
import Derived.Test.YtlencemmlgkflaaQFnExactEntailsx0
import Derived.Test.YtlencemmlgkflaaQFnExactEntailsx7
import Derived.Test.YtlencemmlgkflaaQFnExactEntailsx8
import Derived.Test.YtlencemmlgkflaaQFnExactEntailsx9
import Derived.Test.YtlencemmlgkflaaQFnExactEntailsx13
namespace Go.Proofs.Ytlencemmlgkflaa.QFnExactEntails
open Go.RowKit Go.Proofs.YtlencemmlgkflaaV.PrintWords Go.Proofs.YtlencemmlgkflaaV.PrintLast Go.Proofs.YtlencemmlgkflaaV.PrintMore
attribute [local go_sem] max2_int min2_int max_two min_two max_three min_three max_four min_four   -- for this text's walks alone
set_option linter.unusedVariables false
set_option linter.unusedSimpArgs false

/-! ### spec_Entails: function 39 -/
def spec_Entails.f (k : Nat) (a0_0 : Int) (l0_1 : List (S29)) (a1_0 : Int) (l1_1 : List Int) : Option (Bool) := (spec_FindFarkas.f k a0_0 l0_1 a1_0 l1_1).bind fun bt347 => (some bt347.2.2)
theorem spec_Entails.mono : ∀ a0 a1 a2 a3 k, LeO (spec_Entails.f k a0 a1 a2 a3) (spec_Entails.f (k + 1) a0 a1 a2 a3) := by
 intro a0 a1 a2 a3 k
 unfold spec_Entails.f
 repeat' with_reducible first
 | exact spec_FindFarkas.mono _ _ _ _ _
 | exact LeO.refl _
 | exact LeO.none _
 | refine LeO.ite ?_ ?_
 | refine LeO.bind ?_ (fun _ => ?_)
set_option maxHeartbeats 8000000 in
set_option maxRecDepth 100000 in
theorem spec_Entails.calls (k : Nat) (a0_0 : Int) (A0_1 : Option Addr) (c0_1 : Nat) (l0_1 : List (S29)) (a1_0 : Int) (A1_1 : Option Addr) (c1_1 : Nat) (l1_1 : List Int) (r : Bool) (w : World) (hr0_1 : Kd.C k29 w A0_1 l0_1.length l0_1) (hc0_1 : l0_1.length ≤ c0_1) (hr1_1 : Kd.C (Kd.int .i64) w A1_1 l1_1.length l1_1) (hc1_1 : l1_1.length ≤ c1_1) (h : spec_Entails.f k a0_0 l0_1 a1_0 l1_1 = some r) :
  Calls Try.prog 39 #[.agg #[.int .i64 a0_0, .slice A0_1 l0_1.length c0_1], .agg #[.int .i64 a1_0, .slice A1_1 l1_1.length c1_1]] w fun e w' => e = .returned (.bool r) ∧ Below w.heap.size w w' := by
 have hu26 := Try.underlying26
 have hu29 := Try.underlying29
 have hu33 := Try.underlying33
 have HR0_1 := Aside0.mk hr0_1
 have HC0_1 := Aside0.mk hc0_1
 clear hr0_1 hc0_1
 have HR1_1 := Aside0.mk hr1_1
 have HC1_1 := Aside0.mk hc1_1
 clear hr1_1 hc1_1
 have HB := Aside0.mk (Below.refl w.heap.size w)
 have H : ((spec_FindFarkas.f k a0_0 l0_1 a1_0 l1_1).bind fun bt347 => (some bt347.2.2)) = some r := h
 clear h
 replace H := Option.bind_eq_some_iff.mp H
 obtain ⟨⟨t347, t348, t351⟩, A30, H⟩ := H
 replace H : (some t351) = some r := H
 have A3 := Aside0.mk A30
 clear A30
 obtain rfl := Option.some.inj H
 go_enter Try.func39, Try.ntmps39
 go_wp2_with (first | ((with_reducible refine gate_dst (N := 2) rfl ?_); refine box_event ?hg (N := 2) ?hd (cs := #[.int .i64 a0_0, .slice A0_1 l0_1.length c0_1]) (t := 26) ?hr ?_; (case hd => rfl); (case hg => rfl); (case hr => first | (go_simp; done) | (go_simp; rfl)); intro gb345 hg w4 hbox hb; have BK345 := Aside0.mk (hbox); have GW345 := gw hg HB; have GE345 := gw hg HB; replace HB := bs HB hb; clear hb hbox hg) | ((with_reducible refine gate_dst (N := 3) rfl ?_); refine box_event ?hg (N := 3) ?hd (cs := #[.int .i64 a1_0, .slice A1_1 l1_1.length c1_1]) (t := 29) ?hr ?_; (case hd => rfl); (case hg => rfl); (case hr => first | (go_simp; done) | (go_simp; rfl)); intro gb346 hg w5 hbox hb; have BK346 := Aside0.mk (hbox); have GW346 := gw hg HB; have GE346 := gw hg HB; replace HB := bs HB hb; have NB345_346 := nl hg BK345; have NB346_345 := ng hg BK345; replace BK345 := bb BK345 hb; clear hb hbox hg; have := NB345_346.out; have := NB346_345.out; obtain ⟨_, _, _, _⟩ := cFour BK345; obtain ⟨_, _, _, _⟩ := cFour BK346) | ((with_reducible refine gate_callee (f := 16) rfl ?_); refine gl (some 10) rfl rfl Try.func16 (by kernel_rfl) rfl #[.agg #[.int .i64 a0_0, .slice A0_1 l0_1.length c0_1], .agg #[.int .i64 a1_0, .slice A1_1 l1_1.length c1_1]] rfl ?_; (with_reducible refine (spec_FindFarkas.calls k a0_0 _ _ l0_1 a1_0 _ _ l1_1 t347 t348 t351 _ ?side1 ?side2 ?side3 ?side4 A3.out).mono ?_); (case side1 => exact mc ((Kd.C_below HR0_1.out HB.out))); (case side2 => exact HC0_1.out); (case side3 => exact mc ((Kd.C_below HR1_1.out HB.out))); (case side4 => exact HC1_1.out); rintro e w9 ⟨v349, rfl, ho0, hb⟩; refine ⟨_, rfl, ?_⟩; have HO350 := Aside0.mk (Kd.R_lower ho0 (below_size (ms HB))); replace BK345 := bb BK345 hb; replace BK346 := bb BK346 hb; replace HB := bs HB hb; (try clear hb); (try clear ho0)) | ((with_reducible refine gate_dst (N := 5) rfl ?_); refine box_event ?hg (N := 5) ?hd (cs := #[.int .i64 0, .slice none 0 0]) (t := 33) ?hr ?_; (case hd => rfl); (case hg => rfl); (case hr => first | (go_simp; done) | (go_simp; rfl)); intro gb352 hg w10 hbox hb; replace HO350 := rb HO350 hb; have BK352 := Aside0.mk (hbox); have GW352 := gw hg HB; have GE352 := gw hg HB; replace HB := bs HB hb; have NB345_352 := nl hg BK345; have NB352_345 := ng hg BK345; replace BK345 := bb BK345 hb; have NB346_352 := nl hg BK346; have NB352_346 := ng hg BK346; replace BK346 := bb BK346 hb; clear hb hbox hg; have := NB352_345.out; have := NB345_352.out; have := NB352_346.out; have := NB346_352.out; obtain ⟨_, _, _, _⟩ := cFour BK352; obtain ⟨Ao14, co14, eo14⟩ := Kd.R_slice HO350.out; subst eo14))
 go_ret
 exact ⟨by first | rfl | (simp [errW_none, errW_some] <;> rfl) | (simp [*, errW_none, errW_some] <;> rfl), ms HB⟩

/-! ### laws_FnExactEntails: function 6 -/
def laws_FnExactEntails.f (k : Nat) (a0_0 : Int) (l0_1 : List (S43)) (a1_0 : Int) (l1_1 : List Int) : Option (Bool) := (laws_szSystem.f k a0_0 l0_1 1048576).bind fun t355 => (if t355 < 0 then (some true) else ((laws_szLin.f a1_0 l1_1 t355).bind fun t356 => (if t356 < 0 then (some true) else ((laws_toSystem.f k a0_0 l0_1).bind fun bt357 => ((laws_toLin.f k a1_0 l1_1).bind fun bt361 => ((spec_Entails.f k bt357.1 bt357.2 bt361.1 bt361.2).bind fun t365 => ((laws_toSystem.f k a0_0 l0_1).bind fun bt366 => ((laws_toLin.f k a1_0 l1_1).bind fun bt371 => ((impl_Entails.f k bt366.1 bt366.2 bt371.1 bt371.2).bind fun t376 => (if (t376 != t365) = true then (some false) else ((laws_toSystem.f k a0_0 l0_1).bind fun bt377 => ((laws_eqSystem.f k bt366.1 bt366.2 bt377.1 bt377.2).bind fun t381 => (if t381 = true then ((laws_toLin.f k a1_0 l1_1).bind fun bt382 => ((laws_eqLin.f k bt371.1 bt371.2 bt382.1 bt382.2).bind fun t386 => (if t386 = true then (some true) else (some false)))) else (some false))))))))))))))
theorem laws_FnExactEntails.mono : ∀ a0 a1 a2 a3 k, LeO (laws_FnExactEntails.f k a0 a1 a2 a3) (laws_FnExactEntails.f (k + 1) a0 a1 a2 a3) := by
 intro a0 a1 a2 a3 k
 unfold laws_FnExactEntails.f
 repeat' with_reducible first
 | exact impl_Entails.mono _ _ _ _ _
 | exact laws_eqLin.mono _ _ _ _ _
 | exact laws_eqSystem.mono _ _ _ _ _
 | exact laws_szSystem.mono _ _ _ _
 | exact laws_toLin.mono _ _ _
 | exact laws_toSystem.mono _ _ _
 | exact spec_Entails.mono _ _ _ _ _
 | exact LeO.refl _
 | exact LeO.none _
 | refine LeO.ite ?_ ?_
 | refine LeO.bind ?_ (fun _ => ?_)
set_option maxHeartbeats 8000000 in
set_option maxRecDepth 100000 in
theorem laws_FnExactEntails.calls (k : Nat) (a0_0 : Int) (A0_1 : Option Addr) (c0_1 : Nat) (l0_1 : List (S43)) (a1_0 : Int) (A1_1 : Option Addr) (c1_1 : Nat) (l1_1 : List Int) (r : Bool) (w : World) (hr0_1 : Kd.C k43 w A0_1 l0_1.length l0_1) (hc0_1 : l0_1.length ≤ c0_1) (hr1_1 : Kd.C (Kd.int .i64) w A1_1 l1_1.length l1_1) (hc1_1 : l1_1.length ≤ c1_1) (hT_ : r = true) (h : laws_FnExactEntails.f k a0_0 l0_1 a1_0 l1_1 = some r) :
  Calls Try.prog 6 #[.agg #[.int .i64 a0_0, .slice A0_1 l0_1.length c0_1], .agg #[.int .i64 a1_0, .slice A1_1 l1_1.length c1_1]] w fun e w' => e = .returned (.bool r) ∧ Below w.heap.size w w' := by
 have hu42 := Try.underlying42
 have hu43 := Try.underlying43
 have hu26 := Try.underlying26
 have hu29 := Try.underlying29
 have HR0_1 := Aside0.mk hr0_1
 have HC0_1 := Aside0.mk hc0_1
 clear hr0_1 hc0_1
 have HR1_1 := Aside0.mk hr1_1
 have HC1_1 := Aside0.mk hc1_1
 clear hr1_1 hc1_1
 have HB := Aside0.mk (Below.refl w.heap.size w)
 have H : ((laws_szSystem.f k a0_0 l0_1 1048576).bind fun t355 => (if t355 < 0 then (some true) else ((laws_szLin.f a1_0 l1_1 t355).bind fun t356 => (if t356 < 0 then (some true) else ((laws_toSystem.f k a0_0 l0_1).bind fun bt357 => ((laws_toLin.f k a1_0 l1_1).bind fun bt361 => ((spec_Entails.f k bt357.1 bt357.2 bt361.1 bt361.2).bind fun t365 => ((laws_toSystem.f k a0_0 l0_1).bind fun bt366 => ((laws_toLin.f k a1_0 l1_1).bind fun bt371 => ((impl_Entails.f k bt366.1 bt366.2 bt371.1 bt371.2).bind fun t376 => (if (t376 != t365) = true then (some false) else ((laws_toSystem.f k a0_0 l0_1).bind fun bt377 => ((laws_eqSystem.f k bt366.1 bt366.2 bt377.1 bt377.2).bind fun t381 => (if t381 = true then ((laws_toLin.f k a1_0 l1_1).bind fun bt382 => ((laws_eqLin.f k bt371.1 bt371.2 bt382.1 bt382.2).bind fun t386 => (if t386 = true then (some true) else (some false)))) else (some false))))))))))))))) = some r := h
 clear h
 replace H := Option.bind_eq_some_iff.mp H
 obtain ⟨t355, A30, H⟩ := H
 replace H : (if t355 < 0 then (some true) else ((laws_szLin.f a1_0 l1_1 t355).bind fun t356 => (if t356 < 0 then (some true) else ((laws_toSystem.f k a0_0 l0_1).bind fun bt357 => ((laws_toLin.f k a1_0 l1_1).bind fun bt361 => ((spec_Entails.f k bt357.1 bt357.2 bt361.1 bt361.2).bind fun t365 => ((laws_toSystem.f k a0_0 l0_1).bind fun bt366 => ((laws_toLin.f k a1_0 l1_1).bind fun bt371 => ((impl_Entails.f k bt366.1 bt366.2 bt371.1 bt371.2).bind fun t376 => (if (t376 != t365) = true then (some false) else ((laws_toSystem.f k a0_0 l0_1).bind fun bt377 => ((laws_eqSystem.f k bt366.1 bt366.2 bt377.1 bt377.2).bind fun t381 => (if t381 = true then ((laws_toLin.f k a1_0 l1_1).bind fun bt382 => ((laws_eqLin.f k bt371.1 bt371.2 bt382.1 bt382.2).bind fun t386 => (if t386 = true then (some true) else (some false)))) else (some false)))))))))))))) = some r := H
 have A3 := Aside0.mk A30
 clear A30
 by_cases c4 : t355 < 0
 ·rw [if_pos c4] at H
  have c4b0 : decide (t355 < 0) = true := decide_eq_true c4
  clear c4
  obtain rfl := Option.some.inj H
  go_enter Try.func6, Try.ntmps6
  go_wp2_with (first | ((with_reducible refine gate_dst (N := 2) rfl ?_); refine box_event ?hg (N := 2) ?hd (cs := #[.int .i64 a0_0, .slice A0_1 l0_1.length c0_1]) (t := 42) ?hr ?_; (case hd => rfl); (case hg => rfl); (case hr => first | (go_simp; done) | (go_simp; rfl)); intro gb353 hg w5 hbox hb; have BK353 := Aside0.mk (hbox); have GW353 := gw hg HB; have GE353 := gw hg HB; replace HB := bs HB hb; clear hb hbox hg) | ((with_reducible refine gate_dst (N := 3) rfl ?_); refine box_event ?hg (N := 3) ?hd (cs := #[.int .i64 a1_0, .slice A1_1 l1_1.length c1_1]) (t := 43) ?hr ?_; (case hd => rfl); (case hg => rfl); (case hr => first | (go_simp; done) | (go_simp; rfl)); intro gb354 hg w6 hbox hb; have BK354 := Aside0.mk (hbox); have GW354 := gw hg HB; have GE354 := gw hg HB; replace HB := bs HB hb; have NB353_354 := nl hg BK353; have NB354_353 := ng hg BK353; replace BK353 := bb BK353 hb; clear hb hbox hg; have := NB353_354.out; have := NB354_353.out; obtain ⟨_, _, _, _⟩ := cFour BK353) | ((with_reducible refine gate_callee (f := 22) rfl ?_); refine gl (some 12) rfl rfl Try.func22 (by kernel_rfl) rfl #[.agg #[.int .i64 a0_0, .slice A0_1 l0_1.length c0_1], .int .i64 1048576] rfl ?_; (with_reducible refine (laws_szSystem.calls k a0_0 _ _ l0_1 1048576 t355 _ ?side1 ?side2 A3.out).mono ?_); (case side1 => exact mc ((Kd.C_below HR0_1.out HB.out))); (case side2 => exact HC0_1.out); rintro e w9 ⟨rfl, hb⟩; refine ⟨_, rfl, ?_⟩; replace BK353 := bb BK353 hb; replace BK354 := bb BK354 hb; replace HB := bs HB hb; (try clear hb)))
  go_ret
  exact ⟨by first | rfl | (simp [errW_none, errW_some] <;> rfl) | (simp [*, errW_none, errW_some] <;> rfl), ms HB⟩
 rw [if_neg c4] at H
 have c4b0 : decide (t355 < 0) = false := decide_eq_false c4
 clear c4
 replace H := Option.bind_eq_some_iff.mp H
 obtain ⟨t356, A100, H⟩ := H
 replace H : (if t356 < 0 then (some true) else ((laws_toSystem.f k a0_0 l0_1).bind fun bt357 => ((laws_toLin.f k a1_0 l1_1).bind fun bt361 => ((spec_Entails.f k bt357.1 bt357.2 bt361.1 bt361.2).bind fun t365 => ((laws_toSystem.f k a0_0 l0_1).bind fun bt366 => ((laws_toLin.f k a1_0 l1_1).bind fun bt371 => ((impl_Entails.f k bt366.1 bt366.2 bt371.1 bt371.2).bind fun t376 => (if (t376 != t365) = true then (some false) else ((laws_toSystem.f k a0_0 l0_1).bind fun bt377 => ((laws_eqSystem.f k bt366.1 bt366.2 bt377.1 bt377.2).bind fun t381 => (if t381 = true then ((laws_toLin.f k a1_0 l1_1).bind fun bt382 => ((laws_eqLin.f k bt371.1 bt371.2 bt382.1 bt382.2).bind fun t386 => (if t386 = true then (some true) else (some false)))) else (some false)))))))))))) = some r := H
 have A10 := Aside0.mk A100
 clear A100
 by_cases c11 : t356 < 0
 ·rw [if_pos c11] at H
  have c11b0 : decide (t356 < 0) = true := decide_eq_true c11
  clear c11
  obtain rfl := Option.some.inj H
  go_enter Try.func6, Try.ntmps6
  go_wp2_with (first | ((with_reducible refine gate_dst (N := 2) rfl ?_); refine box_event ?hg (N := 2) ?hd (cs := #[.int .i64 a0_0, .slice A0_1 l0_1.length c0_1]) (t := 42) ?hr ?_; (case hd => rfl); (case hg => rfl); (case hr => first | (go_simp; done) | (go_simp; rfl)); intro gb353 hg w12 hbox hb; have BK353 := Aside0.mk (hbox); have GW353 := gw hg HB; have GE353 := gw hg HB; replace HB := bs HB hb; clear hb hbox hg) | ((with_reducible refine gate_dst (N := 3) rfl ?_); refine box_event ?hg (N := 3) ?hd (cs := #[.int .i64 a1_0, .slice A1_1 l1_1.length c1_1]) (t := 43) ?hr ?_; (case hd => rfl); (case hg => rfl); (case hr => first | (go_simp; done) | (go_simp; rfl)); intro gb354 hg w13 hbox hb; have BK354 := Aside0.mk (hbox); have GW354 := gw hg HB; have GE354 := gw hg HB; replace HB := bs HB hb; have NB353_354 := nl hg BK353; have NB354_353 := ng hg BK353; replace BK353 := bb BK353 hb; clear hb hbox hg; have := NB353_354.out; have := NB354_353.out; obtain ⟨_, _, _, _⟩ := cFour BK353) | ((with_reducible refine gate_callee (f := 22) rfl ?_); refine gl (some 12) rfl rfl Try.func22 (by kernel_rfl) rfl #[.agg #[.int .i64 a0_0, .slice A0_1 l0_1.length c0_1], .int .i64 1048576] rfl ?_; (with_reducible refine (laws_szSystem.calls k a0_0 _ _ l0_1 1048576 t355 _ ?side1 ?side2 A3.out).mono ?_); (case side1 => exact mc ((Kd.C_below HR0_1.out HB.out))); (case side2 => exact HC0_1.out); rintro e w16 ⟨rfl, hb⟩; refine ⟨_, rfl, ?_⟩; replace BK353 := bb BK353 hb; replace BK354 := bb BK354 hb; replace HB := bs HB hb; (try clear hb); obtain ⟨_, _, _, _⟩ := cFour BK354) | ((with_reducible refine gate_callee (f := 23) rfl ?_); refine gl (some 17) rfl rfl Try.func23 (by kernel_rfl) rfl #[.agg #[.int .i64 a1_0, .slice A1_1 l1_1.length c1_1], .int .i64 t355] rfl ?_; (with_reducible refine (laws_szLin.calls a1_0 _ _ l1_1 t355 t356 _ ?side1 ?side2 A10.out).mono ?_); (case side1 => exact mc ((Kd.C_below HR1_1.out HB.out))); (case side2 => exact HC1_1.out); rintro e w18 ⟨rfl, hb⟩; refine ⟨_, rfl, ?_⟩; replace BK353 := bb BK353 hb; replace BK354 := bb BK354 hb; replace HB := bs HB hb; (try clear hb)))
  go_ret
  exact ⟨by first | rfl | (simp [errW_none, errW_some] <;> rfl) | (simp [*, errW_none, errW_some] <;> rfl), ms HB⟩
 rw [if_neg c11] at H
 have c11b0 : decide (t356 < 0) = false := decide_eq_false c11
 clear c11
 replace H := Option.bind_eq_some_iff.mp H
 obtain ⟨⟨t357, t358⟩, A190, H⟩ := H
 replace H : ((laws_toLin.f k a1_0 l1_1).bind fun bt361 => ((spec_Entails.f k t357 t358 bt361.1 bt361.2).bind fun t365 => ((laws_toSystem.f k a0_0 l0_1).bind fun bt366 => ((laws_toLin.f k a1_0 l1_1).bind fun bt371 => ((impl_Entails.f k bt366.1 bt366.2 bt371.1 bt371.2).bind fun t376 => (if (t376 != t365) = true then (some false) else ((laws_toSystem.f k a0_0 l0_1).bind fun bt377 => ((laws_eqSystem.f k bt366.1 bt366.2 bt377.1 bt377.2).bind fun t381 => (if t381 = true then ((laws_toLin.f k a1_0 l1_1).bind fun bt382 => ((laws_eqLin.f k bt371.1 bt371.2 bt382.1 bt382.2).bind fun t386 => (if t386 = true then (some true) else (some false)))) else (some false)))))))))) = some r := H
 have A19 := Aside0.mk A190
 clear A190
 replace H := Option.bind_eq_some_iff.mp H
 obtain ⟨⟨t361, t362⟩, A200, H⟩ := H
 replace H : ((spec_Entails.f k t357 t358 t361 t362).bind fun t365 => ((laws_toSystem.f k a0_0 l0_1).bind fun bt366 => ((laws_toLin.f k a1_0 l1_1).bind fun bt371 => ((impl_Entails.f k bt366.1 bt366.2 bt371.1 bt371.2).bind fun t376 => (if (t376 != t365) = true then (some false) else ((laws_toSystem.f k a0_0 l0_1).bind fun bt377 => ((laws_eqSystem.f k bt366.1 bt366.2 bt377.1 bt377.2).bind fun t381 => (if t381 = true then ((laws_toLin.f k a1_0 l1_1).bind fun bt382 => ((laws_eqLin.f k bt371.1 bt371.2 bt382.1 bt382.2).bind fun t386 => (if t386 = true then (some true) else (some false)))) else (some false))))))))) = some r := H
 have A20 := Aside0.mk A200
 clear A200
 replace H := Option.bind_eq_some_iff.mp H
 obtain ⟨t365, A210, H⟩ := H
 replace H : ((laws_toSystem.f k a0_0 l0_1).bind fun bt366 => ((laws_toLin.f k a1_0 l1_1).bind fun bt371 => ((impl_Entails.f k bt366.1 bt366.2 bt371.1 bt371.2).bind fun t376 => (if (t376 != t365) = true then (some false) else ((laws_toSystem.f k a0_0 l0_1).bind fun bt377 => ((laws_eqSystem.f k bt366.1 bt366.2 bt377.1 bt377.2).bind fun t381 => (if t381 = true then ((laws_toLin.f k a1_0 l1_1).bind fun bt382 => ((laws_eqLin.f k bt371.1 bt371.2 bt382.1 bt382.2).bind fun t386 => (if t386 = true then (some true) else (some false)))) else (some false)))))))) = some r := H
 have A21 := Aside0.mk A210
 clear A210
 replace H := Option.bind_eq_some_iff.mp H
 obtain ⟨⟨t366, t367⟩, A220, H⟩ := H
 replace H : ((laws_toLin.f k a1_0 l1_1).bind fun bt371 => ((impl_Entails.f k t366 t367 bt371.1 bt371.2).bind fun t376 => (if (t376 != t365) = true then (some false) else ((laws_toSystem.f k a0_0 l0_1).bind fun bt377 => ((laws_eqSystem.f k t366 t367 bt377.1 bt377.2).bind fun t381 => (if t381 = true then ((laws_toLin.f k a1_0 l1_1).bind fun bt382 => ((laws_eqLin.f k bt371.1 bt371.2 bt382.1 bt382.2).bind fun t386 => (if t386 = true then (some true) else (some false)))) else (some false))))))) = some r := H
 have A22 := Aside0.mk A220
 clear A220
 replace H := Option.bind_eq_some_iff.mp H
 obtain ⟨⟨t371, t372⟩, A230, H⟩ := H
 replace H : ((impl_Entails.f k t366 t367 t371 t372).bind fun t376 => (if (t376 != t365) = true then (some false) else ((laws_toSystem.f k a0_0 l0_1).bind fun bt377 => ((laws_eqSystem.f k t366 t367 bt377.1 bt377.2).bind fun t381 => (if t381 = true then ((laws_toLin.f k a1_0 l1_1).bind fun bt382 => ((laws_eqLin.f k t371 t372 bt382.1 bt382.2).bind fun t386 => (if t386 = true then (some true) else (some false)))) else (some false)))))) = some r := H
 have A23 := Aside0.mk A230
 clear A230
 replace H := Option.bind_eq_some_iff.mp H
 obtain ⟨t376, A240, H⟩ := H
 replace H : (if (t376 != t365) = true then (some false) else ((laws_toSystem.f k a0_0 l0_1).bind fun bt377 => ((laws_eqSystem.f k t366 t367 bt377.1 bt377.2).bind fun t381 => (if t381 = true then ((laws_toLin.f k a1_0 l1_1).bind fun bt382 => ((laws_eqLin.f k t371 t372 bt382.1 bt382.2).bind fun t386 => (if t386 = true then (some true) else (some false)))) else (some false))))) = some r := H
 have A24 := Aside0.mk A240
 clear A240
 by_cases c25 : (t376 != t365) = true
 ·rw [if_pos c25] at H
  have c25b0 : (t376 != t365) = true := c25
  (try (have c25b1 : decide (t376 = t365) = false := by simpa using c25))
  (try (have c25b2 : (t376 == t365) = false := by simpa using c25))
  (try (have c25b3 : ¬ (t376 = t365) := by simpa using c25))
  clear c25
  obtain rfl := Option.some.inj H
  exact absurd hT_ (by decide)
 rw [if_neg c25] at H
 have c25b0 : (t376 != t365) = false := by simpa using c25
 (try (have c25b1 : decide (t376 = t365) = true := by simpa using c25))
 (try (have c25b2 : (t376 == t365) = true := by simpa using c25))
 clear c25
 replace H := Option.bind_eq_some_iff.mp H
 obtain ⟨⟨t377, t378⟩, A260, H⟩ := H
 replace H : ((laws_eqSystem.f k t366 t367 t377 t378).bind fun t381 => (if t381 = true then ((laws_toLin.f k a1_0 l1_1).bind fun bt382 => ((laws_eqLin.f k t371 t372 bt382.1 bt382.2).bind fun t386 => (if t386 = true then (some true) else (some false)))) else (some false))) = some r := H
 have A26 := Aside0.mk A260
 clear A260
 replace H := Option.bind_eq_some_iff.mp H
 obtain ⟨t381, A270, H⟩ := H
 replace H : (if t381 = true then ((laws_toLin.f k a1_0 l1_1).bind fun bt382 => ((laws_eqLin.f k t371 t372 bt382.1 bt382.2).bind fun t386 => (if t386 = true then (some true) else (some false)))) else (some false)) = some r := H
 have A27 := Aside0.mk A270
 clear A270
 by_cases c28 : t381 = true
 ·subst c28
  have H1 : ((laws_toLin.f k a1_0 l1_1).bind fun bt382 => ((laws_eqLin.f k t371 t372 bt382.1 bt382.2).bind fun t386 => (if t386 = true then (some true) else (some false)))) = some r := by rw [if_pos rfl] at H; exact H
  clear H
  have H := H1
  clear H1
  replace H := Option.bind_eq_some_iff.mp H
  obtain ⟨⟨t382, t383⟩, A290, H⟩ := H
  replace H : ((laws_eqLin.f k t371 t372 t382 t383).bind fun t386 => (if t386 = true then (some true) else (some false))) = some r := H
  have A29 := Aside0.mk A290
  clear A290
  replace H := Option.bind_eq_some_iff.mp H
  obtain ⟨t386, A300, H⟩ := H
  replace H : (if t386 = true then (some true) else (some false)) = some r := H
  have A30 := Aside0.mk A300
  clear A300
  by_cases c31 : t386 = true
  ·subst c31
   have H1 : (some true) = some r := by rw [if_pos rfl] at H; exact H
   clear H
   have H := H1
   clear H1
   obtain rfl := Option.some.inj H
   go_enter Try.func6, Try.ntmps6
   try go_wp2_with (first | ((with_reducible refine gate_dst (N := 2) rfl ?_); refine box_event ?hg (N := 2) ?hd (cs := #[.int .i64 a0_0, .slice A0_1 l0_1.length c0_1]) (t := 42) ?hr ?_; (case hd => rfl); (case hg => rfl); (case hr => first | (go_simp; done) | (go_simp; rfl)); intro gb353 hg w32 hbox hb; have BK353 := Aside0.mk (hbox); have GW353 := gw hg HB; have GE353 := gw hg HB; replace HB := bs HB hb; clear hb hbox hg) | ((with_reducible refine gate_dst (N := 3) rfl ?_); refine box_event ?hg (N := 3) ?hd (cs := #[.int .i64 a1_0, .slice A1_1 l1_1.length c1_1]) (t := 43) ?hr ?_; (case hd => rfl); (case hg => rfl); (case hr => first | (go_simp; done) | (go_simp; rfl)); intro gb354 hg w33 hbox hb; have BK354 := Aside0.mk (hbox); have GW354 := gw hg HB; have GE354 := gw hg HB; replace HB := bs HB hb; have NB353_354 := nl hg BK353; have NB354_353 := ng hg BK353; replace BK353 := bb BK353 hb; clear hb hbox hg; have := NB353_354.out; have := NB354_353.out; obtain ⟨_, _, _, _⟩ := cFour BK353) | ((with_reducible refine gate_callee (f := 22) rfl ?_); refine gl (some 12) rfl rfl Try.func22 (by kernel_rfl) rfl #[.agg #[.int .i64 a0_0, .slice A0_1 l0_1.length c0_1], .int .i64 1048576] rfl ?_; (with_reducible refine (laws_szSystem.calls k a0_0 _ _ l0_1 1048576 t355 _ ?side1 ?side2 A3.out).mono ?_); (case side1 => exact mc ((Kd.C_below HR0_1.out HB.out))); (case side2 => exact HC0_1.out); rintro e w36 ⟨rfl, hb⟩; refine ⟨_, rfl, ?_⟩; replace BK353 := bb BK353 hb; replace BK354 := bb BK354 hb; replace HB := bs HB hb; (try clear hb); obtain ⟨_, _, _, _⟩ := cFour BK354) | ((with_reducible refine gate_callee (f := 23) rfl ?_); refine gl (some 17) rfl rfl Try.func23 (by kernel_rfl) rfl #[.agg #[.int .i64 a1_0, .slice A1_1 l1_1.length c1_1], .int .i64 t355] rfl ?_; (with_reducible refine (laws_szLin.calls a1_0 _ _ l1_1 t355 t356 _ ?side1 ?side2 A10.out).mono ?_); (case side1 => exact mc ((Kd.C_below HR1_1.out HB.out))); (case side2 => exact HC1_1.out); rintro e w38 ⟨rfl, hb⟩; refine ⟨_, rfl, ?_⟩; replace BK353 := bb BK353 hb; replace BK354 := bb BK354 hb; replace HB := bs HB hb; (try clear hb)))
   replace BK353 := Aside0.mk (blk_drew BK353.out)
   replace BK354 := Aside0.mk (blk_drew BK354.out)
   replace HB := Aside0.mk (below_drew1 HB.out)
   refine start_ (n := 6) (S := fun w' => w'.cell? ⟨gb353, 0, none⟩ = some (.int .i64 a0_0) ∧ w'.cell? ⟨gb353, 1, none⟩ = some (.slice A0_1 l0_1.length c0_1) ∧ w'.cell? ⟨gb354, 0, none⟩ = some (.int .i64 a1_0) ∧ w'.cell? ⟨gb354, 1, none⟩ = some (.slice A1_1 l1_1.length c1_1)) (ds := []) #[false, false, false, false, false, false] (by kernel_rfl) rfl rfl ⟨(c2 BK353).1, (c2 BK353).2, (c2 BK354).1, (c2 BK354).2⟩ (fun hHeld => ?_)
   generalize w38.drew = w39 at BK353 BK354 HB hHeld ⊢
   refine take_ (i := 0) (N := some 20) (v := ?_) (a' := ?_) #[true, false, false, false, false, false] rfl rfl (by kernel_rfl) (fun _ _ _ h => h) (Or.inl ⟨by rfl, ?_⟩) hHeld ?_ ?_
   rotate_left
   ·rintro w' ⟨s0, s1, s2, s3⟩
    go_simp
    with_reducible rfl
   rotate_left
   ·simp only [Act.put, z1, z2, z3, i64_w, i32_w]
    rfl
   refine take_ (i := 2) (N := some 22) (v := ?_) (a' := ?_) #[true, false, true, false, false, false] rfl rfl (by kernel_rfl) (fun _ _ _ h => h) (Or.inl ⟨by rfl, ?_⟩) hHeld ?_ ?_
   rotate_left
   ·rintro w' ⟨s0, s1, s2, s3⟩
    go_simp
    with_reducible rfl
   rotate_left
   ·simp only [Act.put, z1, z2, z3, i64_w, i32_w]
    rfl
   refine one_ (i := 1) (N := some 21) #[true, true, true, false, false, false] rfl rfl (by kernel_rfl) (by decide) (fun K hK => ?_)
   refine gs Try.func25 (by kernel_rfl) rfl #[.agg #[.int .i64 a0_0, .slice A0_1 l0_1.length c0_1]] (by rfl) rfl rfl ?_
   with_reducible refine (laws_toSystem.calls k a0_0 _ _ l0_1 t357 t358 _ ?side1 ?side2 A19.out).mono ?_
   (case side1 => exact mc ((Kd.C_below HR0_1.out HB.out)))
   (case side2 => exact HC0_1.out)
   rintro e w40 ⟨v359, rfl, ho0, hb⟩
   refine ⟨_, rfl, ?_⟩
   have HO360 := Aside0.mk (Kd.S_lower ho0 (below_size (ms HB)))
   replace BK353 := bb BK353 hb
   replace BK354 := bb BK354 hb
   replace HB := bs HB hb
   (try clear hb)
   (try clear hb2)
   (try clear hk)
   (try clear hi)
   (try clear ho0)
   refine hK.out _ _ ⟨(c2 BK353).1, (c2 BK353).2, (c2 BK354).1, (c2 BK354).2⟩ (fun hHeld => ?_)
   clear hK K
   refine norm_ (a' := ?_) ?_ ?_
   rotate_left
   ·show Act.put _ (some 21) _ = _
    simp only [Act.put, z1, z2, z3, i64_w, i32_w]
    rfl
   refine one_ (i := 3) (N := some 23) #[true, true, true, true, false, false] rfl rfl (by kernel_rfl) (by decide) (fun K hK => ?_)
   refine gs Try.func26 (by kernel_rfl) rfl #[.agg #[.int .i64 a1_0, .slice A1_1 l1_1.length c1_1]] (by rfl) rfl rfl ?_
   with_reducible refine (laws_toLin.calls k a1_0 _ _ l1_1 t361 t362 _ ?side1 ?side2 A20.out).mono ?_
   (case side1 => exact mc ((Kd.C_below HR1_1.out HB.out)))
   (case side2 => exact HC1_1.out)
   rintro e w41 ⟨v363, rfl, ho0, hb⟩
   refine ⟨_, rfl, ?_⟩
   replace HO360 := lS HO360 ho0 hb
   have HO364 := Aside0.mk (Kd.R_lower ho0 (below_size (ms HB)))
   replace BK353 := bb BK353 hb
   replace BK354 := bb BK354 hb
   replace HB := bs HB hb
   (try clear hb)
   (try clear hb2)
   (try clear hk)
   (try clear hi)
   (try clear ho0)
   obtain ⟨Ao42, co42, eo42⟩ := Kd.S_slice HO360.out
   (first | subst eo42 | (injection eo42 with f1_ f2_ f3_; have f4_ := f1_.symm; have f5_ := f3_.symm; clear f1_ f2_ f3_; subst f4_; subst f5_))
   obtain ⟨Ao43, co43, eo43⟩ := Kd.R_slice HO364.out
   (first | subst eo43 | (injection eo43 with f1_ f2_ f3_; have f4_ := f1_.symm; have f5_ := f3_.symm; clear f1_ f2_ f3_; subst f4_; subst f5_))
   refine hK.out _ _ ⟨(c2 BK353).1, (c2 BK353).2, (c2 BK354).1, (c2 BK354).2⟩ (fun hHeld => ?_)
   clear hK K
   refine norm_ (a' := ?_) ?_ ?_
   rotate_left
   ·show Act.put _ (some 23) _ = _
    simp only [Act.put, z1, z2, z3, i64_w, i32_w]
    rfl
   refine one_ (i := 4) (N := some 24) #[true, true, true, true, true, false] rfl rfl (by kernel_rfl) (by decide) (fun K hK => ?_)
   refine gs Try.func39 (by kernel_rfl) rfl #[.agg #[.int .i64 t357, .slice Ao42 t358.length co42], .agg #[.int .i64 t361, .slice Ao43 t362.length co43]] (by rfl) rfl rfl ?_
   with_reducible refine (spec_Entails.calls k t357 _ _ t358 t361 _ _ t362 t365 _ ?side1 ?side2 ?side3 ?side4 A21.out).mono ?_
   (case side1 => exact mc ((Kd.S_reads' HO360.out).2.2))
   (case side2 => exact (Kd.S_reads' HO360.out).2.1)
   (case side3 => exact mc ((Kd.R_reads' HO364.out).2.2))
   (case side4 => exact (Kd.R_reads' HO364.out).2.1)
   rintro e w44 ⟨rfl, hb⟩
   refine ⟨_, rfl, ?_⟩
   replace HO360 := bS HO360 hb
   replace HO364 := rb HO364 hb
   replace BK353 := bb BK353 hb
   replace BK354 := bb BK354 hb
   replace HB := bs HB hb
   (try clear hb)
   (try clear hb2)
   (try clear hk)
   (try clear hi)
   refine hK.out _ _ ⟨(c2 BK353).1, (c2 BK353).2, (c2 BK354).1, (c2 BK354).2⟩ (fun hHeld => ?_)
   clear hK K
   refine norm_ (a' := ?_) ?_ ?_
   rotate_left
   ·show Act.put _ (some 24) _ = _
    simp only [Act.put, z1, z2, z3, i64_w, i32_w]
    rfl
   refine pure_ (i := 5) (N := some 6) (v := ?_) (a' := ?_) #[true, true, true, true, true, true] rfl rfl (by kernel_rfl) (fun _ _ _ h => h) (Or.inl ⟨by rfl, ?_⟩) ?_ ?_
   rotate_left
   ·intro w'
    go_simp
    with_reducible rfl
   rotate_left
   ·simp only [Act.put, z1, z2, z3, i64_w, i32_w]
    rfl
   refine done_ (by kernel_rfl) ?_
   obtain ⟨_, _, _, _⟩ := cFour BK353
   try go_wp2_with (first | ((with_reducible refine gate_callee (f := 25) rfl ?_); refine gl (some 26) rfl rfl Try.func25 (by kernel_rfl) rfl #[.agg #[.int .i64 a0_0, .slice A0_1 l0_1.length c0_1]] rfl ?_; (with_reducible refine (laws_toSystem.calls k a0_0 _ _ l0_1 t366 t367 _ ?side1 ?side2 A22.out).mono ?_); (case side1 => exact mc ((Kd.C_below HR0_1.out HB.out))); (case side2 => exact HC0_1.out); rintro e w46 ⟨v368, rfl, ho0, hb⟩; refine ⟨_, rfl, ?_⟩; have HO369 := Aside0.mk (Kd.S_lower (Kd.S_new' (Kd.S_new' ho0 (Kd.S_lt (mS HO360))) (Kd.R_lt (mr HO364))) (below_size (ms HB))); replace HO360 := Aside0.mk (Kd.S_elder' (mS HO360) (Kd.S_base ho0) hb); replace HO364 := rb HO364 hb; replace BK353 := bb BK353 hb; replace BK354 := bb BK354 hb; replace HB := bs HB hb; (try clear hb); (try clear ho0)) | ((with_reducible refine gate_dst (N := 7) rfl ?_); refine box_event ?hg (N := 7) ?hd (cs := #[.int .i64 0, .slice none 0 0]) (t := 26) ?hr ?_; (case hd => rfl); (case hg => rfl); (case hr => first | (go_simp; done) | (go_simp; rfl)); intro gb370 hg w47 hbox hb; replace HO360 := bS HO360 hb; replace HO364 := rb HO364 hb; replace HO369 := bS HO369 hb; have BK370 := Aside0.mk (hbox); have GW370 := gw hg HB; have GE370 := gw hg HB; replace HB := bs HB hb; have NB353_370 := nl hg BK353; have NB370_353 := ng hg BK353; replace BK353 := bb BK353 hb; have NB354_370 := nl hg BK354; have NB370_354 := ng hg BK354; replace BK354 := bb BK354 hb; clear hb hbox hg; have := NB370_353.out; have := NB353_370.out; have := NB370_354.out; have := NB354_370.out; obtain ⟨_, _, _, _⟩ := cFour BK370; obtain ⟨Ao51, co51, eo51⟩ := Kd.S_slice HO369.out; subst eo51; obtain ⟨_, _, _, _⟩ := cFour BK354) | ((with_reducible refine gate_callee (f := 26) rfl ?_); refine gl (some 28) rfl rfl Try.func26 (by kernel_rfl) rfl #[.agg #[.int .i64 a1_0, .slice A1_1 l1_1.length c1_1]] rfl ?_; (with_reducible refine (laws_toLin.calls k a1_0 _ _ l1_1 t371 t372 _ ?side1 ?side2 A23.out).mono ?_); (case side1 => exact Kd.C_below HR1_1.out (ms HB)); (case side2 => exact HC1_1.out); rintro e w53 ⟨v373, rfl, ho0, hb⟩; refine ⟨_, rfl, ?_⟩; have n0_ := Aside0.mk (Kd.S_elder' (by (with_reducible repeat (first | apply Kd.S_alloc | apply Kd.S_drewN | apply Kd.S_drew)); exact (Kd.S_mono (Kd.S_far (p := ⟨gb370, 1, none⟩) (Kd.S_far (p := ⟨gb370, 0, none⟩) (Kd.S_types HO360.out BK370.out (by decide)) (fun _ hk => hk.2) (.int .i64 t366)) (fun _ hk => hk.2) (.slice Ao51 t367.length co51)) (fun _ h_ => h_.1))) (Kd.R_base ho0) hb); have n1_ := Aside0.mk (Kd.R_elder' (by (with_reducible repeat (first | apply Kd.R_alloc | apply Kd.R_drewN | apply Kd.R_drew)); exact (rTwo HO364 BK370)) (Kd.R_base ho0) hb); have n2_ := Aside0.mk (Kd.S_elder' (by (with_reducible repeat (first | apply Kd.S_alloc | apply Kd.S_drewN | apply Kd.S_drew)); exact (Kd.S_mono (Kd.S_far (p := ⟨gb370, 1, none⟩) (Kd.S_far (p := ⟨gb370, 0, none⟩) (Kd.S_types HO369.out BK370.out (by decide)) (fun _ hk => hk.2) (.int .i64 t366)) (fun _ hk => hk.2) (.slice Ao51 t367.length co51)) (fun _ h_ => h_.1))) (Kd.R_base ho0) hb); have n3_ := Aside0.mk (Kd.R_lower (Kd.R_new' ho0 (Kd.R_lt (by (with_reducible repeat (first | apply Kd.R_alloc | apply Kd.R_drewN | apply Kd.R_drew)); exact (rTwo HO364 BK370)))) (below_size (ms HB))); have n4_ := bf BK353 hb; have n5_ := bf BK354 hb; have n6_ := bp BK370 hb; have n7_ := bs HB hb; clear HO360 HO364 HO369 BK353 BK354 BK370 HB; have HO360 := n0_; have HO364 := n1_; have HO369 := n2_; have HO374 := n3_; have BK353 := n4_; have BK354 := n5_; have BK370 := n6_; have HB := n7_; clear n0_ n1_ n2_ n3_ n4_ n5_ n6_ n7_; (try clear hb); (try clear ho0)) | ((with_reducible refine gate_dst (N := 8) rfl ?_); refine box_event ?hg (N := 8) ?hd (cs := #[.int .i64 0, .slice none 0 0]) (t := 29) ?hr ?_; (case hd => rfl); (case hg => rfl); (case hr => first | (go_simp; done) | (go_simp; rfl)); intro gb375 hg w54 hbox hb; replace HO360 := Aside0.mk (Kd.S_below (Kd.S_elderB (mS HO360) gb375 (Nat.le_of_eq hg.symm)) hb); replace HO364 := rb HO364 hb; replace HO369 := Aside0.mk (Kd.S_below (Kd.S_elderB (mS HO369) gb375 (Nat.le_of_eq hg.symm)) hb); replace HO374 := rb HO374 hb; have BK375 := Aside0.mk (hbox); have GW375 := gw hg HB; have GE375 := gw hg HB; replace HB := bs HB hb; have NB353_375 := nl hg BK353; have NB375_353 := ng hg BK353; replace BK353 := bb BK353 hb; have NB354_375 := nl hg BK354; have NB375_354 := ng hg BK354; replace BK354 := bb BK354 hb; have NB370_375 := nl hg BK370; have NB375_370 := ng hg BK370; replace BK370 := bb BK370 hb; clear hb hbox hg; have := NB375_353.out; have := NB353_375.out; have := NB375_354.out; have := NB354_375.out; have := NB375_370.out; have := NB370_375.out; obtain ⟨_, _, _, _⟩ := cFour BK375; obtain ⟨Ao59, co59, eo59⟩ := Kd.R_slice HO374.out; subst eo59; obtain ⟨_, _, _, _⟩ := cFour BK370) | ((with_reducible refine gate_callee (f := 18) rfl ?_); refine gl (some 31) rfl rfl Try.func18 (by kernel_rfl) rfl #[.agg #[.int .i64 t366, .slice Ao51 t367.length co51], .agg #[.int .i64 t371, .slice Ao59 t372.length co59]] rfl ?_; (with_reducible refine (impl_Entails.calls k t366 _ _ t367 t371 _ _ t372 t376 _ ?side1 ?side2 ?side3 ?side4 A24.out).mono ?_); (case side1 => refine (Kd.S_reads' (e := 29) (base := w.heap.size) (ok := fun k_ => ((((True ∧ some k_ ≠ (.slice Ao42 t358.length co42 : Value).ownBlock) ∧ some k_ ≠ (.slice Ao43 t362.length co43 : Value).ownBlock) ∧ some k_ ≠ (.slice Ao59 t372.length co59 : Value).ownBlock) ∧ k_ ≠ gb375)) (n := t367.length) (c := co51) ?_).2.2; exact (by (with_reducible repeat (first | apply Kd.S_alloc | apply Kd.S_drewN | apply Kd.S_drew)); exact (Kd.S_mono (Kd.S_far (p := ⟨gb375, 1, none⟩) (Kd.S_far (p := ⟨gb375, 0, none⟩) (Kd.S_mono HO369.out (fun k_ hk => (⟨hk, hk.2⟩ : _ ∧ k_ ≠ gb375))) (fun _ hk => hk.2) (.int .i64 t371)) (fun _ hk => hk.2) (.slice Ao59 t372.length co59)) (fun _ h_ => h_.1)))); (case side2 => exact (Kd.S_reads' HO369.out).2.1); (case side3 => refine (Kd.R_reads' (e := 3) (base := w.heap.size) (ok := fun k_ => (True ∧ some k_ ≠ (.slice Ao43 t362.length co43 : Value).ownBlock)) (n := t372.length) (c := co59) ?_).2.2; exact (by (with_reducible repeat (first | apply Kd.R_alloc | apply Kd.R_drewN | apply Kd.R_drew)); exact (rTwo HO374 BK375))); (case side4 => exact (Kd.R_reads' HO374.out).2.1); rintro e w61 ⟨rfl, hb⟩; refine ⟨_, rfl, ?_⟩; have n0_ := Aside0.mk (Kd.S_below (by (with_reducible repeat (first | apply Kd.S_alloc | apply Kd.S_drewN | apply Kd.S_drew)); exact (Kd.S_mono (Kd.S_far (p := ⟨gb375, 1, none⟩) (Kd.S_far (p := ⟨gb375, 0, none⟩) (Kd.S_mono HO360.out (fun k_ hk => (⟨hk, hk.2⟩ : _ ∧ k_ ≠ gb375))) (fun _ hk => hk.2) (.int .i64 t371)) (fun _ hk => hk.2) (.slice Ao59 t372.length co59)) (fun _ h_ => h_.1))) hb); have n1_ := Aside0.mk (Kd.R_below (by (with_reducible repeat (first | apply Kd.R_alloc | apply Kd.R_drewN | apply Kd.R_drew)); exact (rTwo HO364 BK375)) hb); have n2_ := Aside0.mk (Kd.S_below (by (with_reducible repeat (first | apply Kd.S_alloc | apply Kd.S_drewN | apply Kd.S_drew)); exact (Kd.S_mono (Kd.S_far (p := ⟨gb375, 1, none⟩) (Kd.S_far (p := ⟨gb375, 0, none⟩) (Kd.S_mono HO369.out (fun k_ hk => (⟨hk, hk.2⟩ : _ ∧ k_ ≠ gb375))) (fun _ hk => hk.2) (.int .i64 t371)) (fun _ hk => hk.2) (.slice Ao59 t372.length co59)) (fun _ h_ => h_.1))) hb); have n3_ := Aside0.mk (Kd.R_below (by (with_reducible repeat (first | apply Kd.R_alloc | apply Kd.R_drewN | apply Kd.R_drew)); exact (rTwo HO374 BK375)) hb); have n4_ := bf BK353 hb; have n5_ := bf BK354 hb; have n6_ := bf BK370 hb; have n7_ := bp BK375 hb; have n8_ := bs HB hb; clear HO360 HO364 HO369 HO374 BK353 BK354 BK370 BK375 HB; have HO360 := n0_; have HO364 := n1_; have HO369 := n2_; have HO374 := n3_; have BK353 := n4_; have BK354 := n5_; have BK370 := n6_; have BK375 := n7_; have HB := n8_; clear n0_ n1_ n2_ n3_ n4_ n5_ n6_ n7_ n8_; (try clear hb)))
   replace HO360 := Aside0.mk (Kd.S_drew HO360.out)
   replace HO364 := Aside0.mk (Kd.R_drew HO364.out)
   replace HO369 := Aside0.mk (Kd.S_drew HO369.out)
   replace HO374 := Aside0.mk (Kd.R_drew HO374.out)
   replace BK353 := Aside0.mk (blk_drew BK353.out)
   replace BK354 := Aside0.mk (blk_drew BK354.out)
   replace BK370 := Aside0.mk (blk_drew BK370.out)
   replace BK375 := Aside0.mk (blk_drew BK375.out)
   replace HB := Aside0.mk (below_drew1 HB.out)
   refine start_ (n := 5) (S := fun w' => w'.cell? ⟨gb370, 0, none⟩ = some (.int .i64 t366) ∧ w'.cell? ⟨gb370, 1, none⟩ = some (.slice Ao51 t367.length co51) ∧ w'.cell? ⟨gb353, 0, none⟩ = some (.int .i64 a0_0) ∧ w'.cell? ⟨gb353, 1, none⟩ = some (.slice A0_1 l0_1.length c0_1)) (ds := []) #[false, false, false, false, false] (by kernel_rfl) rfl rfl ⟨(c2 BK370).1, (c2 BK370).2, (c2 BK353).1, (c2 BK353).2⟩ (fun hHeld => ?_)
   generalize w61.drew = w62 at HO360 HO364 HO369 HO374 BK353 BK354 BK370 BK375 HB hHeld ⊢
   refine take_ (i := 0) (N := some 35) (v := ?_) (a' := ?_) #[true, false, false, false, false] rfl rfl (by kernel_rfl) (fun _ _ _ h => h) (Or.inl ⟨by rfl, ?_⟩) hHeld ?_ ?_
   rotate_left
   ·rintro w' ⟨s0, s1, s2, s3⟩
    go_simp
    with_reducible rfl
   rotate_left
   ·simp only [Act.put, z1, z2, z3, i64_w, i32_w]
    rfl
   refine take_ (i := 1) (N := some 36) (v := ?_) (a' := ?_) #[true, true, false, false, false] rfl rfl (by kernel_rfl) (fun _ _ _ h => h) (Or.inl ⟨by rfl, ?_⟩) hHeld ?_ ?_
   rotate_left
   ·rintro w' ⟨s0, s1, s2, s3⟩
    go_simp
    with_reducible rfl
   rotate_left
   ·simp only [Act.put, z1, z2, z3, i64_w, i32_w]
    rfl
   refine one_ (i := 2) (N := some 37) #[true, true, true, false, false] rfl rfl (by kernel_rfl) (by decide) (fun K hK => ?_)
   refine gs Try.func25 (by kernel_rfl) rfl #[.agg #[.int .i64 a0_0, .slice A0_1 l0_1.length c0_1]] (by rfl) rfl rfl ?_
   with_reducible refine (laws_toSystem.calls k a0_0 _ _ l0_1 t377 t378 _ ?side1 ?side2 A26.out).mono ?_
   (case side1 => exact mc ((Kd.C_below HR0_1.out HB.out)))
   (case side2 => exact HC0_1.out)
   rintro e w63 ⟨v379, rfl, ho0, hb⟩
   refine ⟨_, rfl, ?_⟩
   have HO380 := Aside0.mk (Kd.S_lower (Kd.S_newB (Kd.S_new' (Kd.S_new' (Kd.S_new' (Kd.S_new' ho0 (Kd.S_lt (mS HO360))) (Kd.R_lt (mr HO364))) (Kd.S_lt (mS HO369))) (Kd.R_lt (mr HO374))) (g := gb375) (o := .cells #[.int .i64 t371, .slice Ao59 t372.length co59] 29 (0, 0)) (mb BK375)) (below_size (ms HB)))
   replace HO360 := Aside0.mk (Kd.S_elder' (mS HO360) (Kd.S_base ho0) hb)
   replace HO364 := rb HO364 hb
   replace HO369 := Aside0.mk (Kd.S_elder' (mS HO369) (Kd.S_base ho0) hb)
   replace HO374 := rb HO374 hb
   replace BK353 := bb BK353 hb
   replace BK354 := bb BK354 hb
   replace BK370 := bb BK370 hb
   replace BK375 := bb BK375 hb
   replace HB := bs HB hb
   (try clear hb)
   (try clear hb2)
   (try clear hk)
   (try clear hi)
   (try clear ho0)
   obtain ⟨Ao64, co64, eo64⟩ := Kd.S_slice HO380.out
   (first | subst eo64 | (injection eo64 with f1_ f2_ f3_; have f4_ := f1_.symm; have f5_ := f3_.symm; clear f1_ f2_ f3_; subst f4_; subst f5_))
   refine hK.out _ _ ⟨(c2 BK370).1, (c2 BK370).2, (c2 BK353).1, (c2 BK353).2⟩ (fun hHeld => ?_)
   clear hK K
   refine norm_ (a' := ?_) ?_ ?_
   rotate_left
   ·show Act.put _ (some 37) _ = _
    simp only [Act.put, z1, z2, z3, i64_w, i32_w]
    rfl
   refine one_ (i := 3) (N := some 38) #[true, true, true, true, false] rfl rfl (by kernel_rfl) (by decide) (fun K hK => ?_)
   refine gs Try.func28 (by kernel_rfl) rfl #[.agg #[.int .i64 t366, .slice Ao51 t367.length co51], .agg #[.int .i64 t377, .slice Ao64 t378.length co64]] (by rfl) rfl rfl ?_
   with_reducible refine (laws_eqSystem.calls k t366 _ _ t367 t377 _ _ t378 true _ ?side1 ?side2 ?side3 ?side4 A27.out).mono ?_
   (case side1 => exact mc ((Kd.S_reads' HO369.out).2.2))
   (case side2 => exact (Kd.S_reads' HO369.out).2.1)
   (case side3 => exact mc ((Kd.S_reads' HO380.out).2.2))
   (case side4 => exact (Kd.S_reads' HO380.out).2.1)
   rintro e w65 ⟨rfl, hb⟩
   refine ⟨_, rfl, ?_⟩
   replace HO360 := bS HO360 hb
   replace HO364 := rb HO364 hb
   replace HO369 := bS HO369 hb
   replace HO374 := rb HO374 hb
   replace HO380 := bS HO380 hb
   replace BK353 := bb BK353 hb
   replace BK354 := bb BK354 hb
   replace BK370 := bb BK370 hb
   replace BK375 := bb BK375 hb
   replace HB := bs HB hb
   (try clear hb)
   (try clear hb2)
   (try clear hk)
   (try clear hi)
   refine hK.out _ _ ⟨(c2 BK370).1, (c2 BK370).2, (c2 BK353).1, (c2 BK353).2⟩ (fun hHeld => ?_)
   clear hK K
   refine norm_ (a' := ?_) ?_ ?_
   rotate_left
   ·show Act.put _ (some 38) _ = _
    simp only [Act.put, z1, z2, z3, i64_w, i32_w]
    rfl
   refine pure_ (i := 4) (N := some 39) (v := ?_) (a' := ?_) #[true, true, true, true, true] rfl rfl (by kernel_rfl) (fun _ _ _ h => h) (Or.inl ⟨by rfl, ?_⟩) ?_ ?_
   rotate_left
   ·intro w'
    go_simp
    with_reducible rfl
   rotate_left
   ·simp only [Act.put, z1, z2, z3, i64_w, i32_w]
    rfl
   refine done_ (by kernel_rfl) ?_
   try go_wp2
   replace HO360 := Aside0.mk (Kd.S_drew HO360.out)
   replace HO364 := Aside0.mk (Kd.R_drew HO364.out)
   replace HO369 := Aside0.mk (Kd.S_drew HO369.out)
   replace HO374 := Aside0.mk (Kd.R_drew HO374.out)
   replace HO380 := Aside0.mk (Kd.S_drew HO380.out)
   replace BK353 := Aside0.mk (blk_drew BK353.out)
   replace BK354 := Aside0.mk (blk_drew BK354.out)
   replace BK370 := Aside0.mk (blk_drew BK370.out)
   replace BK375 := Aside0.mk (blk_drew BK375.out)
   replace HB := Aside0.mk (below_drew1 HB.out)
   refine start_ (n := 5) (S := fun w' => w'.cell? ⟨gb375, 0, none⟩ = some (.int .i64 t371) ∧ w'.cell? ⟨gb375, 1, none⟩ = some (.slice Ao59 t372.length co59) ∧ w'.cell? ⟨gb354, 0, none⟩ = some (.int .i64 a1_0) ∧ w'.cell? ⟨gb354, 1, none⟩ = some (.slice A1_1 l1_1.length c1_1)) (ds := []) #[false, false, false, false, false] (by kernel_rfl) rfl rfl ⟨(c2 BK375).1, (c2 BK375).2, (c2 BK354).1, (c2 BK354).2⟩ (fun hHeld => ?_)
   generalize w65.drew = w66 at HO360 HO364 HO369 HO374 HO380 BK353 BK354 BK370 BK375 HB hHeld ⊢
   refine take_ (i := 0) (N := some 40) (v := ?_) (a' := ?_) #[true, false, false, false, false] rfl rfl (by kernel_rfl) (fun _ _ _ h => h) (Or.inl ⟨by rfl, ?_⟩) hHeld ?_ ?_
   rotate_left
   ·rintro w' ⟨s0, s1, s2, s3⟩
    go_simp
    with_reducible rfl
   rotate_left
   ·simp only [Act.put, z1, z2, z3, i64_w, i32_w]
    rfl
   refine take_ (i := 1) (N := some 41) (v := ?_) (a' := ?_) #[true, true, false, false, false] rfl rfl (by kernel_rfl) (fun _ _ _ h => h) (Or.inl ⟨by rfl, ?_⟩) hHeld ?_ ?_
   rotate_left
   ·rintro w' ⟨s0, s1, s2, s3⟩
    go_simp
    with_reducible rfl
   rotate_left
   ·simp only [Act.put, z1, z2, z3, i64_w, i32_w]
    rfl
   refine one_ (i := 2) (N := some 42) #[true, true, true, false, false] rfl rfl (by kernel_rfl) (by decide) (fun K hK => ?_)
   refine gs Try.func26 (by kernel_rfl) rfl #[.agg #[.int .i64 a1_0, .slice A1_1 l1_1.length c1_1]] (by rfl) rfl rfl ?_
   with_reducible refine (laws_toLin.calls k a1_0 _ _ l1_1 t382 t383 _ ?side1 ?side2 A29.out).mono ?_
   (case side1 => exact mc ((Kd.C_below HR1_1.out HB.out)))
   (case side2 => exact HC1_1.out)
   rintro e w67 ⟨v384, rfl, ho0, hb⟩
   refine ⟨_, rfl, ?_⟩
   replace HO360 := lS HO360 ho0 hb
   replace HO369 := lS HO369 ho0 hb
   replace HO380 := lS HO380 ho0 hb
   have HO385 := Aside0.mk (Kd.R_lower (Kd.R_new' (Kd.R_new' ho0 (Kd.R_lt (mr HO364))) (Kd.R_lt (mr HO374))) (below_size (ms HB)))
   replace HO364 := rl HO364 ho0 hb
   replace HO374 := rl HO374 ho0 hb
   replace BK353 := bb BK353 hb
   replace BK354 := bb BK354 hb
   replace BK370 := bb BK370 hb
   replace BK375 := bb BK375 hb
   replace HB := bs HB hb
   (try clear hb)
   (try clear hb2)
   (try clear hk)
   (try clear hi)
   (try clear ho0)
   obtain ⟨Ao68, co68, eo68⟩ := Kd.R_slice HO385.out
   (first | subst eo68 | (injection eo68 with f1_ f2_ f3_; have f4_ := f1_.symm; have f5_ := f3_.symm; clear f1_ f2_ f3_; subst f4_; subst f5_))
   refine hK.out _ _ ⟨(c2 BK375).1, (c2 BK375).2, (c2 BK354).1, (c2 BK354).2⟩ (fun hHeld => ?_)
   clear hK K
   refine norm_ (a' := ?_) ?_ ?_
   rotate_left
   ·show Act.put _ (some 42) _ = _
    simp only [Act.put, z1, z2, z3, i64_w, i32_w]
    rfl
   refine one_ (i := 3) (N := some 43) #[true, true, true, true, false] rfl rfl (by kernel_rfl) (by decide) (fun K hK => ?_)
   refine gs Try.func29 (by kernel_rfl) rfl #[.agg #[.int .i64 t371, .slice Ao59 t372.length co59], .agg #[.int .i64 t382, .slice Ao68 t383.length co68]] (by rfl) rfl rfl ?_
   with_reducible refine (laws_eqLin.calls k t371 _ _ t372 t382 _ _ t383 true _ ?side1 ?side2 ?side3 ?side4 A30.out).mono ?_
   (case side1 => exact mc ((Kd.R_reads' HO374.out).2.2))
   (case side2 => exact (Kd.R_reads' HO374.out).2.1)
   (case side3 => exact mc ((Kd.R_reads' HO385.out).2.2))
   (case side4 => exact (Kd.R_reads' HO385.out).2.1)
   rintro e w69 ⟨rfl, hb⟩
   refine ⟨_, rfl, ?_⟩
   replace HO360 := bS HO360 hb
   replace HO364 := rb HO364 hb
   replace HO369 := bS HO369 hb
   replace HO374 := rb HO374 hb
   replace HO380 := bS HO380 hb
   replace HO385 := rb HO385 hb
   replace BK353 := bb BK353 hb
   replace BK354 := bb BK354 hb
   replace BK370 := bb BK370 hb
   replace BK375 := bb BK375 hb
   replace HB := bs HB hb
   (try clear hb)
   (try clear hb2)
   (try clear hk)
   (try clear hi)
   refine hK.out _ _ ⟨(c2 BK375).1, (c2 BK375).2, (c2 BK354).1, (c2 BK354).2⟩ (fun hHeld => ?_)
   clear hK K
   refine norm_ (a' := ?_) ?_ ?_
   rotate_left
   ·show Act.put _ (some 43) _ = _
    simp only [Act.put, z1, z2, z3, i64_w, i32_w]
    rfl
   refine pure_ (i := 4) (N := some 44) (v := ?_) (a' := ?_) #[true, true, true, true, true] rfl rfl (by kernel_rfl) (fun _ _ _ h => h) (Or.inl ⟨by rfl, ?_⟩) ?_ ?_
   rotate_left
   ·intro w'
    go_simp
    with_reducible rfl
   rotate_left
   ·simp only [Act.put, z1, z2, z3, i64_w, i32_w]
    rfl
   refine done_ (by kernel_rfl) ?_
   try go_wp2
   go_ret
   exact ⟨by first | rfl | (simp [errW_none, errW_some] <;> rfl) | (simp [*, errW_none, errW_some] <;> rfl), ms HB⟩
  replace c31 := Bool.eq_false_iff.mpr c31
  subst c31
  have H1 : (some false) = some r := by rw [if_neg (show ¬ (false = true) by decide)] at H; exact H
  clear H
  have H := H1
  clear H1
  obtain rfl := Option.some.inj H
  exact absurd hT_ (by decide)
 replace c28 := Bool.eq_false_iff.mpr c28
 subst c28
 have H1 : (some false) = some r := by rw [if_neg (show ¬ (false = true) by decide)] at H; exact H
 clear H
 have H := H1
 clear H1
 obtain rfl := Option.some.inj H
 exact absurd hT_ (by decide)

/-- THE ONE PURE STATEMENT of laws_FnExactEntails. -/
def laws_FnExactEntails.Pure : Prop := ∀ (a0_0 : Int) (l0_1 : List (S43)) (a1_0 : Int) (l1_1 : List Int), ((Lit.int .i64 a0_0).wf = true) → (l0_1.length ≤ 9223372036854775807 ∧ ∀ x0 ∈ l0_1, ((Lit.int .i64 x0.f0).wf = true) ∧ (x0.f1.length ≤ 9223372036854775807 ∧ ∀ x1 ∈ x0.f1, (Lit.int .i64 x1).wf = true)) → ((Lit.int .i64 a1_0).wf = true) → (l1_1.length ≤ 9223372036854775807 ∧ ∀ x0 ∈ l1_1, (Lit.int .i64 x0).wf = true) → ∃ k, laws_FnExactEntails.f k a0_0 l0_1 a1_0 l1_1 = some true

end Go.Proofs.Ytlencemmlgkflaa.QFnExactEntails
