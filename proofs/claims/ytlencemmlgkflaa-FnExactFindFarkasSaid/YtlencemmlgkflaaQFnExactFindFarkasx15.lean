-- Made by a program of this claim's own (wip/print): not the kit's print as it stands.
import Derived.Test.YtlencemmlgkflaaUFnExactFindFarkasTri
import Derived.Test.YtlencemmlgkflaaQFnExactFindFarkasx0
import Derived.Test.YtlencemmlgkflaaQFnExactFindFarkasx7
import Derived.Test.YtlencemmlgkflaaQFnExactFindFarkasx11
import Derived.Test.YtlencemmlgkflaaQFnExactFindFarkasx12
import Derived.Test.YtlencemmlgkflaaQFnExactFindFarkasx13
import Derived.Test.YtlencemmlgkflaaQFnExactFindFarkasx14
namespace Go.Proofs.Ytlencemmlgkflaa.QFnExactFindFarkas
open Go.RowKit Go.Proofs.YtlencemmlgkflaaV.PrintWords Go.Proofs.YtlencemmlgkflaaV.PrintLast Go.Proofs.YtlencemmlgkflaaV.PrintMore
attribute [local go_sem] max2_int min2_int max_two min_two max_three min_three max_four min_four   -- for this text's walks alone
set_option linter.unusedVariables false
set_option linter.unusedSimpArgs false

/-! ### laws_FnExactFindFarkas: function 8 -/
def laws_FnExactFindFarkas.f (k : Nat) (a0_0 : Int) (l0_1 : List (S43)) (a1_0 : Int) (l1_1 : List Int) : Option (Bool) := (laws_szSystem.f k a0_0 l0_1 1048576).bind fun t352 => (if t352 < 0 then (some true) else ((laws_szLin.f a1_0 l1_1 t352).bind fun t353 => (if t353 < 0 then (some true) else ((laws_toSystem.f k a0_0 l0_1).bind fun bt354 => ((laws_toLin.f k a1_0 l1_1).bind fun bt358 => ((spec_FindFarkas.f k bt354.1 bt354.2 bt358.1 bt358.2).bind fun bt362 => ((laws_toSystem.f k a0_0 l0_1).bind fun bt368 => ((laws_toLin.f k a1_0 l1_1).bind fun bt373 => ((impl_FindFarkas.f k bt368.1 bt368.2 bt373.1 bt373.2).bind fun bt378 => ((laws_eqFarkas.f k bt378.1 bt378.2.1 bt362.1 bt362.2.1).bind fun t384 => (if t384 = true then (if (bt378.2.2 != bt362.2.2) = true then (some false) else ((laws_toSystem.f k a0_0 l0_1).bind fun bt385 => ((laws_eqSystem.f k bt368.1 bt368.2 bt385.1 bt385.2).bind fun t389 => (if t389 = true then ((laws_toLin.f k a1_0 l1_1).bind fun bt390 => ((laws_eqLin.f k bt373.1 bt373.2 bt390.1 bt390.2).bind fun t394 => (if t394 = true then ((laws_markSystem.f k bt368.1 bt368.2 1).bind fun bt395 => ((laws_markLin.f k bt373.1 bt373.2 bt395.1).bind fun bt397 => (if bt397.1 < 0 then (some false) else ((laws_eqFarkas.f k bt378.1 bt378.2.1 bt362.1 bt362.2.1).bind fun t399 => (if t399 = true then ((laws_markFarkas.f k bt378.1 bt378.2.1 1).bind fun bt400 => ((laws_heldFarkas.f k bt378.1 bt400.2 1).bind fun t402 => (if t402 < 0 then (some false) else (if t402 = bt400.1 then ((laws_toSystem.f k a0_0 l0_1).bind fun bt403 => ((laws_toLin.f k a1_0 l1_1).bind fun bt407 => ((impl_FindFarkas.f k bt403.1 bt403.2 bt407.1 bt407.2).bind fun bt411 => ((laws_eqFarkas.f k bt411.1 bt411.2.1 bt362.1 bt362.2.1).bind fun t417 => (if t417 = true then (if (bt411.2.2 != bt362.2.2) = true then (some false) else ((laws_heldFarkas.f k bt378.1 bt400.2 1).bind fun t418 => (if t418 < 0 then (some false) else (if t418 = bt400.1 then (some true) else (some false))))) else (some false)))))) else (some false))))) else (some false)))))) else (some false)))) else (some false))))) else (some false))))))))))))
theorem laws_FnExactFindFarkas.mono : ∀ a0 a1 a2 a3 k, LeO (laws_FnExactFindFarkas.f k a0 a1 a2 a3) (laws_FnExactFindFarkas.f (k + 1) a0 a1 a2 a3) := by
 intro a0 a1 a2 a3 k
 unfold laws_FnExactFindFarkas.f
 repeat' with_reducible first
 | exact impl_FindFarkas.mono _ _ _ _ _
 | exact laws_eqFarkas.mono _ _ _ _ _
 | exact laws_eqLin.mono _ _ _ _ _
 | exact laws_eqSystem.mono _ _ _ _ _
 | exact laws_heldFarkas.mono _ _ _ _
 | exact laws_markFarkas.mono _ _ _ _
 | exact laws_markLin.mono _ _ _ _
 | exact laws_markSystem.mono _ _ _ _
 | exact laws_szSystem.mono _ _ _ _
 | exact laws_toLin.mono _ _ _
 | exact laws_toSystem.mono _ _ _
 | exact spec_FindFarkas.mono _ _ _ _ _
 | exact LeO.refl _
 | exact LeO.none _
 | refine LeO.ite ?_ ?_
 | refine LeO.bind ?_ (fun _ => ?_)
def laws_FnExactFindFarkas.T8 : Bool × List (List Nat × List Nat) := (true, [([], []), ([0], [0]), ([], []), ([2, 1], [2]), ([1, 3, 3], [1, 3]), ([4], [4]), ([5], [5]), ([5], [5]), ([], []), ([8, 6, 4, 0, 1, 2, 3, 4, 5, 6, 8], [6, 8]), ([7, 9, 0, 1, 2, 3, 4, 5, 6, 7, 8, 9], [7])])
def laws_FnExactFindFarkas.B8 : List Nat := [0, 1, 0, 7, 15, 31, 63, 63, 0, 383, 1023]
theorem laws_FnExactFindFarkas.tab8 : rtab .any (opsOf Try.f8 8) = laws_FnExactFindFarkas.T8 := by kernel_rfl
theorem laws_FnExactFindFarkas.bits8 : waitsOk laws_FnExactFindFarkas.T8.2 laws_FnExactFindFarkas.B8 = true := by kernel_rfl
def laws_FnExactFindFarkas.T31 : Bool × List (List Nat × List Nat) := (true, [([], []), ([0], [0]), ([], []), ([2, 1], [2]), ([1, 3, 3], [1, 3]), ([4], [4]), ([5], [5]), ([5], [5]), ([], []), ([8, 6, 4, 0, 1, 2, 3, 4, 5, 6, 8], [6, 8]), ([7, 9, 0, 1, 2, 3, 4, 5, 6, 7, 8, 9], [7])])
def laws_FnExactFindFarkas.B31 : List Nat := [0, 1, 0, 7, 15, 31, 63, 63, 0, 383, 1023]
theorem laws_FnExactFindFarkas.tab31 : rtab .any (opsOf Try.f8 31) = laws_FnExactFindFarkas.T31 := by kernel_rfl
theorem laws_FnExactFindFarkas.bits31 : waitsOk laws_FnExactFindFarkas.T31.2 laws_FnExactFindFarkas.B31 = true := by kernel_rfl
set_option maxHeartbeats 8000000 in
set_option maxRecDepth 100000 in
theorem laws_FnExactFindFarkas.calls (k : Nat) (a0_0 : Int) (A0_1 : Option Addr) (c0_1 : Nat) (l0_1 : List (S43)) (a1_0 : Int) (A1_1 : Option Addr) (c1_1 : Nat) (l1_1 : List Int) (r : Bool) (w : World) (hr0_1 : Kd.C k43 w A0_1 l0_1.length l0_1) (hc0_1 : l0_1.length ≤ c0_1) (hr1_1 : Kd.C (Kd.int .i64) w A1_1 l1_1.length l1_1) (hc1_1 : l1_1.length ≤ c1_1) (hT_ : r = true) (h : laws_FnExactFindFarkas.f k a0_0 l0_1 a1_0 l1_1 = some r) :
  Calls Try.prog 8 #[.agg #[.int .i64 a0_0, .slice A0_1 l0_1.length c0_1], .agg #[.int .i64 a1_0, .slice A1_1 l1_1.length c1_1]] w fun e w' => e = .returned (.bool r) ∧ Below w.heap.size w w' := by
 have hu42 := Try.underlying42
 have hu43 := Try.underlying43
 have hu33 := Try.underlying33
 have hu26 := Try.underlying26
 have hu29 := Try.underlying29
 have HR0_1 := Aside0.mk hr0_1
 have HC0_1 := Aside0.mk hc0_1
 clear hr0_1 hc0_1
 have HR1_1 := Aside0.mk hr1_1
 have HC1_1 := Aside0.mk hc1_1
 clear hr1_1 hc1_1
 have HB := Aside0.mk (Below.refl w.heap.size w)
 have H : ((laws_szSystem.f k a0_0 l0_1 1048576).bind fun t352 => (if t352 < 0 then (some true) else ((laws_szLin.f a1_0 l1_1 t352).bind fun t353 => (if t353 < 0 then (some true) else ((laws_toSystem.f k a0_0 l0_1).bind fun bt354 => ((laws_toLin.f k a1_0 l1_1).bind fun bt358 => ((spec_FindFarkas.f k bt354.1 bt354.2 bt358.1 bt358.2).bind fun bt362 => ((laws_toSystem.f k a0_0 l0_1).bind fun bt368 => ((laws_toLin.f k a1_0 l1_1).bind fun bt373 => ((impl_FindFarkas.f k bt368.1 bt368.2 bt373.1 bt373.2).bind fun bt378 => ((laws_eqFarkas.f k bt378.1 bt378.2.1 bt362.1 bt362.2.1).bind fun t384 => (if t384 = true then (if (bt378.2.2 != bt362.2.2) = true then (some false) else ((laws_toSystem.f k a0_0 l0_1).bind fun bt385 => ((laws_eqSystem.f k bt368.1 bt368.2 bt385.1 bt385.2).bind fun t389 => (if t389 = true then ((laws_toLin.f k a1_0 l1_1).bind fun bt390 => ((laws_eqLin.f k bt373.1 bt373.2 bt390.1 bt390.2).bind fun t394 => (if t394 = true then ((laws_markSystem.f k bt368.1 bt368.2 1).bind fun bt395 => ((laws_markLin.f k bt373.1 bt373.2 bt395.1).bind fun bt397 => (if bt397.1 < 0 then (some false) else ((laws_eqFarkas.f k bt378.1 bt378.2.1 bt362.1 bt362.2.1).bind fun t399 => (if t399 = true then ((laws_markFarkas.f k bt378.1 bt378.2.1 1).bind fun bt400 => ((laws_heldFarkas.f k bt378.1 bt400.2 1).bind fun t402 => (if t402 < 0 then (some false) else (if t402 = bt400.1 then ((laws_toSystem.f k a0_0 l0_1).bind fun bt403 => ((laws_toLin.f k a1_0 l1_1).bind fun bt407 => ((impl_FindFarkas.f k bt403.1 bt403.2 bt407.1 bt407.2).bind fun bt411 => ((laws_eqFarkas.f k bt411.1 bt411.2.1 bt362.1 bt362.2.1).bind fun t417 => (if t417 = true then (if (bt411.2.2 != bt362.2.2) = true then (some false) else ((laws_heldFarkas.f k bt378.1 bt400.2 1).bind fun t418 => (if t418 < 0 then (some false) else (if t418 = bt400.1 then (some true) else (some false))))) else (some false)))))) else (some false))))) else (some false)))))) else (some false)))) else (some false))))) else (some false))))))))))))) = some r := h
 clear h
 replace H := Option.bind_eq_some_iff.mp H
 obtain ⟨t352, A30, H⟩ := H
 replace H : (if t352 < 0 then (some true) else ((laws_szLin.f a1_0 l1_1 t352).bind fun t353 => (if t353 < 0 then (some true) else ((laws_toSystem.f k a0_0 l0_1).bind fun bt354 => ((laws_toLin.f k a1_0 l1_1).bind fun bt358 => ((spec_FindFarkas.f k bt354.1 bt354.2 bt358.1 bt358.2).bind fun bt362 => ((laws_toSystem.f k a0_0 l0_1).bind fun bt368 => ((laws_toLin.f k a1_0 l1_1).bind fun bt373 => ((impl_FindFarkas.f k bt368.1 bt368.2 bt373.1 bt373.2).bind fun bt378 => ((laws_eqFarkas.f k bt378.1 bt378.2.1 bt362.1 bt362.2.1).bind fun t384 => (if t384 = true then (if (bt378.2.2 != bt362.2.2) = true then (some false) else ((laws_toSystem.f k a0_0 l0_1).bind fun bt385 => ((laws_eqSystem.f k bt368.1 bt368.2 bt385.1 bt385.2).bind fun t389 => (if t389 = true then ((laws_toLin.f k a1_0 l1_1).bind fun bt390 => ((laws_eqLin.f k bt373.1 bt373.2 bt390.1 bt390.2).bind fun t394 => (if t394 = true then ((laws_markSystem.f k bt368.1 bt368.2 1).bind fun bt395 => ((laws_markLin.f k bt373.1 bt373.2 bt395.1).bind fun bt397 => (if bt397.1 < 0 then (some false) else ((laws_eqFarkas.f k bt378.1 bt378.2.1 bt362.1 bt362.2.1).bind fun t399 => (if t399 = true then ((laws_markFarkas.f k bt378.1 bt378.2.1 1).bind fun bt400 => ((laws_heldFarkas.f k bt378.1 bt400.2 1).bind fun t402 => (if t402 < 0 then (some false) else (if t402 = bt400.1 then ((laws_toSystem.f k a0_0 l0_1).bind fun bt403 => ((laws_toLin.f k a1_0 l1_1).bind fun bt407 => ((impl_FindFarkas.f k bt403.1 bt403.2 bt407.1 bt407.2).bind fun bt411 => ((laws_eqFarkas.f k bt411.1 bt411.2.1 bt362.1 bt362.2.1).bind fun t417 => (if t417 = true then (if (bt411.2.2 != bt362.2.2) = true then (some false) else ((laws_heldFarkas.f k bt378.1 bt400.2 1).bind fun t418 => (if t418 < 0 then (some false) else (if t418 = bt400.1 then (some true) else (some false))))) else (some false)))))) else (some false))))) else (some false)))))) else (some false)))) else (some false))))) else (some false)))))))))))) = some r := H
 have A3 := Aside0.mk A30
 clear A30
 by_cases c4 : t352 < 0
 ·rw [if_pos c4] at H
  have c4b0 : decide (t352 < 0) = true := decide_eq_true c4
  clear c4
  obtain rfl := Option.some.inj H
  go_enter Try.func8, Try.ntmps8
  go_wp2_with (first | ((with_reducible refine gate_dst (N := 2) rfl ?_); refine box_event ?hg (N := 2) ?hd (cs := #[.int .i64 a0_0, .slice A0_1 l0_1.length c0_1]) (t := 42) ?hr ?_; (case hd => rfl); (case hg => rfl); (case hr => first | (go_simp; done) | (go_simp; rfl)); intro gb350 hg w5 hbox hb; have n0_ := Aside0.mk ((by rw [hg]; exact (show Kept w _ (fun _ => True) from by repeat (first | exact Kept.refl _ _ | apply Kept.alloc | apply Kept.drewN | apply Kept.drew | refine Kept.setCell ?_ (.inl trivial) _)).1 : w.heap.size ≤ gb350)); have n1_ := bs HB hb; have n2_ := Aside0.mk (hbox); have n3_ := gw hg HB; have n4_ := gw hg HB; clear HB; have SG350_w := n0_; have HB := n1_; have BK350 := n2_; have GW350 := n3_; have GE350 := n4_; clear n0_ n1_ n2_ n3_ n4_; clear hb hbox hg; have SL350_w5 := Aside0.mk (blk_lt BK350.out : gb350 < w5.heap.size)) | ((with_reducible refine gate_dst (N := 3) rfl ?_); refine box_event ?hg (N := 3) ?hd (cs := #[.int .i64 a1_0, .slice A1_1 l1_1.length c1_1]) (t := 43) ?hr ?_; (case hd => rfl); (case hg => rfl); (case hr => first | (go_simp; done) | (go_simp; rfl)); intro gb351 hg w6 hbox hb; have n0_ := Aside0.mk ((by rw [hg]; exact (show Kept w5 _ (fun _ => True) from by repeat (first | exact Kept.refl _ _ | apply Kept.alloc | apply Kept.drewN | apply Kept.drew | refine Kept.setCell ?_ (.inl trivial) _)).1 : w5.heap.size ≤ gb351)); have n1_ := bb BK350 hb; have n2_ := bs HB hb; have n3_ := Aside0.mk (hbox); have n4_ := gw hg HB; have n5_ := gw hg HB; have n6_ := nl hg BK350; have n7_ := ng hg BK350; clear BK350 HB; have SG351_w5 := n0_; have BK350 := n1_; have HB := n2_; have BK351 := n3_; have GW351 := n4_; have GE351 := n5_; have NB350_351 := n6_; have NB351_350 := n7_; clear n0_ n1_ n2_ n3_ n4_ n5_ n6_ n7_; clear hb hbox hg; have := NB350_351.out; have := NB351_350.out; obtain ⟨_, _, _, _⟩ := cFour BK350) | ((with_reducible refine gate_callee (f := 22) rfl ?_); refine gl (some 19) rfl rfl Try.func22 (by kernel_rfl) rfl #[.agg #[.int .i64 a0_0, .slice A0_1 l0_1.length c0_1], .int .i64 1048576] rfl ?_; (with_reducible refine (laws_szSystem.calls k a0_0 _ _ l0_1 1048576 t352 _ ?side1 ?side2 A3.out).mono ?_); (case side1 => exact mc ((Kd.C_below HR0_1.out HB.out))); (case side2 => exact HC0_1.out); rintro e w9 ⟨rfl, hb⟩; refine ⟨_, rfl, ?_⟩; replace BK350 := bb BK350 hb; replace BK351 := bb BK351 hb; replace HB := bs HB hb; (try clear hb)))
  go_ret
  exact ⟨by first | rfl | (simp [errW_none, errW_some] <;> rfl) | (simp [*, errW_none, errW_some] <;> rfl), ms HB⟩
 rw [if_neg c4] at H
 have c4b0 : decide (t352 < 0) = false := decide_eq_false c4
 clear c4
 replace H := Option.bind_eq_some_iff.mp H
 obtain ⟨t353, A100, H⟩ := H
 replace H : (if t353 < 0 then (some true) else ((laws_toSystem.f k a0_0 l0_1).bind fun bt354 => ((laws_toLin.f k a1_0 l1_1).bind fun bt358 => ((spec_FindFarkas.f k bt354.1 bt354.2 bt358.1 bt358.2).bind fun bt362 => ((laws_toSystem.f k a0_0 l0_1).bind fun bt368 => ((laws_toLin.f k a1_0 l1_1).bind fun bt373 => ((impl_FindFarkas.f k bt368.1 bt368.2 bt373.1 bt373.2).bind fun bt378 => ((laws_eqFarkas.f k bt378.1 bt378.2.1 bt362.1 bt362.2.1).bind fun t384 => (if t384 = true then (if (bt378.2.2 != bt362.2.2) = true then (some false) else ((laws_toSystem.f k a0_0 l0_1).bind fun bt385 => ((laws_eqSystem.f k bt368.1 bt368.2 bt385.1 bt385.2).bind fun t389 => (if t389 = true then ((laws_toLin.f k a1_0 l1_1).bind fun bt390 => ((laws_eqLin.f k bt373.1 bt373.2 bt390.1 bt390.2).bind fun t394 => (if t394 = true then ((laws_markSystem.f k bt368.1 bt368.2 1).bind fun bt395 => ((laws_markLin.f k bt373.1 bt373.2 bt395.1).bind fun bt397 => (if bt397.1 < 0 then (some false) else ((laws_eqFarkas.f k bt378.1 bt378.2.1 bt362.1 bt362.2.1).bind fun t399 => (if t399 = true then ((laws_markFarkas.f k bt378.1 bt378.2.1 1).bind fun bt400 => ((laws_heldFarkas.f k bt378.1 bt400.2 1).bind fun t402 => (if t402 < 0 then (some false) else (if t402 = bt400.1 then ((laws_toSystem.f k a0_0 l0_1).bind fun bt403 => ((laws_toLin.f k a1_0 l1_1).bind fun bt407 => ((impl_FindFarkas.f k bt403.1 bt403.2 bt407.1 bt407.2).bind fun bt411 => ((laws_eqFarkas.f k bt411.1 bt411.2.1 bt362.1 bt362.2.1).bind fun t417 => (if t417 = true then (if (bt411.2.2 != bt362.2.2) = true then (some false) else ((laws_heldFarkas.f k bt378.1 bt400.2 1).bind fun t418 => (if t418 < 0 then (some false) else (if t418 = bt400.1 then (some true) else (some false))))) else (some false)))))) else (some false))))) else (some false)))))) else (some false)))) else (some false))))) else (some false)))))))))) = some r := H
 have A10 := Aside0.mk A100
 clear A100
 by_cases c11 : t353 < 0
 ·rw [if_pos c11] at H
  have c11b0 : decide (t353 < 0) = true := decide_eq_true c11
  clear c11
  obtain rfl := Option.some.inj H
  go_enter Try.func8, Try.ntmps8
  go_wp2_with (first | ((with_reducible refine gate_dst (N := 2) rfl ?_); refine box_event ?hg (N := 2) ?hd (cs := #[.int .i64 a0_0, .slice A0_1 l0_1.length c0_1]) (t := 42) ?hr ?_; (case hd => rfl); (case hg => rfl); (case hr => first | (go_simp; done) | (go_simp; rfl)); intro gb350 hg w12 hbox hb; have n0_ := Aside0.mk ((by rw [hg]; exact (show Kept w _ (fun _ => True) from by repeat (first | exact Kept.refl _ _ | apply Kept.alloc | apply Kept.drewN | apply Kept.drew | refine Kept.setCell ?_ (.inl trivial) _)).1 : w.heap.size ≤ gb350)); have n1_ := bs HB hb; have n2_ := Aside0.mk (hbox); have n3_ := gw hg HB; have n4_ := gw hg HB; clear HB; have SG350_w := n0_; have HB := n1_; have BK350 := n2_; have GW350 := n3_; have GE350 := n4_; clear n0_ n1_ n2_ n3_ n4_; clear hb hbox hg; have SL350_w12 := Aside0.mk (blk_lt BK350.out : gb350 < w12.heap.size)) | ((with_reducible refine gate_dst (N := 3) rfl ?_); refine box_event ?hg (N := 3) ?hd (cs := #[.int .i64 a1_0, .slice A1_1 l1_1.length c1_1]) (t := 43) ?hr ?_; (case hd => rfl); (case hg => rfl); (case hr => first | (go_simp; done) | (go_simp; rfl)); intro gb351 hg w13 hbox hb; have n0_ := Aside0.mk ((by rw [hg]; exact (show Kept w12 _ (fun _ => True) from by repeat (first | exact Kept.refl _ _ | apply Kept.alloc | apply Kept.drewN | apply Kept.drew | refine Kept.setCell ?_ (.inl trivial) _)).1 : w12.heap.size ≤ gb351)); have n1_ := bb BK350 hb; have n2_ := bs HB hb; have n3_ := Aside0.mk (hbox); have n4_ := gw hg HB; have n5_ := gw hg HB; have n6_ := nl hg BK350; have n7_ := ng hg BK350; clear BK350 HB; have SG351_w12 := n0_; have BK350 := n1_; have HB := n2_; have BK351 := n3_; have GW351 := n4_; have GE351 := n5_; have NB350_351 := n6_; have NB351_350 := n7_; clear n0_ n1_ n2_ n3_ n4_ n5_ n6_ n7_; clear hb hbox hg; have := NB350_351.out; have := NB351_350.out; obtain ⟨_, _, _, _⟩ := cFour BK350) | ((with_reducible refine gate_callee (f := 22) rfl ?_); refine gl (some 19) rfl rfl Try.func22 (by kernel_rfl) rfl #[.agg #[.int .i64 a0_0, .slice A0_1 l0_1.length c0_1], .int .i64 1048576] rfl ?_; (with_reducible refine (laws_szSystem.calls k a0_0 _ _ l0_1 1048576 t352 _ ?side1 ?side2 A3.out).mono ?_); (case side1 => exact mc ((Kd.C_below HR0_1.out HB.out))); (case side2 => exact HC0_1.out); rintro e w16 ⟨rfl, hb⟩; refine ⟨_, rfl, ?_⟩; replace BK350 := bb BK350 hb; replace BK351 := bb BK351 hb; replace HB := bs HB hb; (try clear hb); obtain ⟨_, _, _, _⟩ := cFour BK351) | ((with_reducible refine gate_callee (f := 23) rfl ?_); refine gl (some 24) rfl rfl Try.func23 (by kernel_rfl) rfl #[.agg #[.int .i64 a1_0, .slice A1_1 l1_1.length c1_1], .int .i64 t352] rfl ?_; (with_reducible refine (laws_szLin.calls a1_0 _ _ l1_1 t352 t353 _ ?side1 ?side2 A10.out).mono ?_); (case side1 => exact mc ((Kd.C_below HR1_1.out HB.out))); (case side2 => exact HC1_1.out); rintro e w18 ⟨rfl, hb⟩; refine ⟨_, rfl, ?_⟩; replace BK350 := bb BK350 hb; replace BK351 := bb BK351 hb; replace HB := bs HB hb; (try clear hb)))
  go_ret
  exact ⟨by first | rfl | (simp [errW_none, errW_some] <;> rfl) | (simp [*, errW_none, errW_some] <;> rfl), ms HB⟩
 rw [if_neg c11] at H
 have c11b0 : decide (t353 < 0) = false := decide_eq_false c11
 clear c11
 replace H := Option.bind_eq_some_iff.mp H
 obtain ⟨⟨t354, t355⟩, A190, H⟩ := H
 replace H : ((laws_toLin.f k a1_0 l1_1).bind fun bt358 => ((spec_FindFarkas.f k t354 t355 bt358.1 bt358.2).bind fun bt362 => ((laws_toSystem.f k a0_0 l0_1).bind fun bt368 => ((laws_toLin.f k a1_0 l1_1).bind fun bt373 => ((impl_FindFarkas.f k bt368.1 bt368.2 bt373.1 bt373.2).bind fun bt378 => ((laws_eqFarkas.f k bt378.1 bt378.2.1 bt362.1 bt362.2.1).bind fun t384 => (if t384 = true then (if (bt378.2.2 != bt362.2.2) = true then (some false) else ((laws_toSystem.f k a0_0 l0_1).bind fun bt385 => ((laws_eqSystem.f k bt368.1 bt368.2 bt385.1 bt385.2).bind fun t389 => (if t389 = true then ((laws_toLin.f k a1_0 l1_1).bind fun bt390 => ((laws_eqLin.f k bt373.1 bt373.2 bt390.1 bt390.2).bind fun t394 => (if t394 = true then ((laws_markSystem.f k bt368.1 bt368.2 1).bind fun bt395 => ((laws_markLin.f k bt373.1 bt373.2 bt395.1).bind fun bt397 => (if bt397.1 < 0 then (some false) else ((laws_eqFarkas.f k bt378.1 bt378.2.1 bt362.1 bt362.2.1).bind fun t399 => (if t399 = true then ((laws_markFarkas.f k bt378.1 bt378.2.1 1).bind fun bt400 => ((laws_heldFarkas.f k bt378.1 bt400.2 1).bind fun t402 => (if t402 < 0 then (some false) else (if t402 = bt400.1 then ((laws_toSystem.f k a0_0 l0_1).bind fun bt403 => ((laws_toLin.f k a1_0 l1_1).bind fun bt407 => ((impl_FindFarkas.f k bt403.1 bt403.2 bt407.1 bt407.2).bind fun bt411 => ((laws_eqFarkas.f k bt411.1 bt411.2.1 bt362.1 bt362.2.1).bind fun t417 => (if t417 = true then (if (bt411.2.2 != bt362.2.2) = true then (some false) else ((laws_heldFarkas.f k bt378.1 bt400.2 1).bind fun t418 => (if t418 < 0 then (some false) else (if t418 = bt400.1 then (some true) else (some false))))) else (some false)))))) else (some false))))) else (some false)))))) else (some false)))) else (some false))))) else (some false)))))))) = some r := H
 have A19 := Aside0.mk A190
 clear A190
 replace H := Option.bind_eq_some_iff.mp H
 obtain ⟨⟨t358, t359⟩, A200, H⟩ := H
 replace H : ((spec_FindFarkas.f k t354 t355 t358 t359).bind fun bt362 => ((laws_toSystem.f k a0_0 l0_1).bind fun bt368 => ((laws_toLin.f k a1_0 l1_1).bind fun bt373 => ((impl_FindFarkas.f k bt368.1 bt368.2 bt373.1 bt373.2).bind fun bt378 => ((laws_eqFarkas.f k bt378.1 bt378.2.1 bt362.1 bt362.2.1).bind fun t384 => (if t384 = true then (if (bt378.2.2 != bt362.2.2) = true then (some false) else ((laws_toSystem.f k a0_0 l0_1).bind fun bt385 => ((laws_eqSystem.f k bt368.1 bt368.2 bt385.1 bt385.2).bind fun t389 => (if t389 = true then ((laws_toLin.f k a1_0 l1_1).bind fun bt390 => ((laws_eqLin.f k bt373.1 bt373.2 bt390.1 bt390.2).bind fun t394 => (if t394 = true then ((laws_markSystem.f k bt368.1 bt368.2 1).bind fun bt395 => ((laws_markLin.f k bt373.1 bt373.2 bt395.1).bind fun bt397 => (if bt397.1 < 0 then (some false) else ((laws_eqFarkas.f k bt378.1 bt378.2.1 bt362.1 bt362.2.1).bind fun t399 => (if t399 = true then ((laws_markFarkas.f k bt378.1 bt378.2.1 1).bind fun bt400 => ((laws_heldFarkas.f k bt378.1 bt400.2 1).bind fun t402 => (if t402 < 0 then (some false) else (if t402 = bt400.1 then ((laws_toSystem.f k a0_0 l0_1).bind fun bt403 => ((laws_toLin.f k a1_0 l1_1).bind fun bt407 => ((impl_FindFarkas.f k bt403.1 bt403.2 bt407.1 bt407.2).bind fun bt411 => ((laws_eqFarkas.f k bt411.1 bt411.2.1 bt362.1 bt362.2.1).bind fun t417 => (if t417 = true then (if (bt411.2.2 != bt362.2.2) = true then (some false) else ((laws_heldFarkas.f k bt378.1 bt400.2 1).bind fun t418 => (if t418 < 0 then (some false) else (if t418 = bt400.1 then (some true) else (some false))))) else (some false)))))) else (some false))))) else (some false)))))) else (some false)))) else (some false))))) else (some false))))))) = some r := H
 have A20 := Aside0.mk A200
 clear A200
 replace H := Option.bind_eq_some_iff.mp H
 obtain ⟨⟨t362, t363, t366⟩, A210, H⟩ := H
 replace H : ((laws_toSystem.f k a0_0 l0_1).bind fun bt368 => ((laws_toLin.f k a1_0 l1_1).bind fun bt373 => ((impl_FindFarkas.f k bt368.1 bt368.2 bt373.1 bt373.2).bind fun bt378 => ((laws_eqFarkas.f k bt378.1 bt378.2.1 t362 t363).bind fun t384 => (if t384 = true then (if (bt378.2.2 != t366) = true then (some false) else ((laws_toSystem.f k a0_0 l0_1).bind fun bt385 => ((laws_eqSystem.f k bt368.1 bt368.2 bt385.1 bt385.2).bind fun t389 => (if t389 = true then ((laws_toLin.f k a1_0 l1_1).bind fun bt390 => ((laws_eqLin.f k bt373.1 bt373.2 bt390.1 bt390.2).bind fun t394 => (if t394 = true then ((laws_markSystem.f k bt368.1 bt368.2 1).bind fun bt395 => ((laws_markLin.f k bt373.1 bt373.2 bt395.1).bind fun bt397 => (if bt397.1 < 0 then (some false) else ((laws_eqFarkas.f k bt378.1 bt378.2.1 t362 t363).bind fun t399 => (if t399 = true then ((laws_markFarkas.f k bt378.1 bt378.2.1 1).bind fun bt400 => ((laws_heldFarkas.f k bt378.1 bt400.2 1).bind fun t402 => (if t402 < 0 then (some false) else (if t402 = bt400.1 then ((laws_toSystem.f k a0_0 l0_1).bind fun bt403 => ((laws_toLin.f k a1_0 l1_1).bind fun bt407 => ((impl_FindFarkas.f k bt403.1 bt403.2 bt407.1 bt407.2).bind fun bt411 => ((laws_eqFarkas.f k bt411.1 bt411.2.1 t362 t363).bind fun t417 => (if t417 = true then (if (bt411.2.2 != t366) = true then (some false) else ((laws_heldFarkas.f k bt378.1 bt400.2 1).bind fun t418 => (if t418 < 0 then (some false) else (if t418 = bt400.1 then (some true) else (some false))))) else (some false)))))) else (some false))))) else (some false)))))) else (some false)))) else (some false))))) else (some false)))))) = some r := H
 have A21 := Aside0.mk A210
 clear A210
 replace H := Option.bind_eq_some_iff.mp H
 obtain ⟨⟨t368, t369⟩, A220, H⟩ := H
 replace H : ((laws_toLin.f k a1_0 l1_1).bind fun bt373 => ((impl_FindFarkas.f k t368 t369 bt373.1 bt373.2).bind fun bt378 => ((laws_eqFarkas.f k bt378.1 bt378.2.1 t362 t363).bind fun t384 => (if t384 = true then (if (bt378.2.2 != t366) = true then (some false) else ((laws_toSystem.f k a0_0 l0_1).bind fun bt385 => ((laws_eqSystem.f k t368 t369 bt385.1 bt385.2).bind fun t389 => (if t389 = true then ((laws_toLin.f k a1_0 l1_1).bind fun bt390 => ((laws_eqLin.f k bt373.1 bt373.2 bt390.1 bt390.2).bind fun t394 => (if t394 = true then ((laws_markSystem.f k t368 t369 1).bind fun bt395 => ((laws_markLin.f k bt373.1 bt373.2 bt395.1).bind fun bt397 => (if bt397.1 < 0 then (some false) else ((laws_eqFarkas.f k bt378.1 bt378.2.1 t362 t363).bind fun t399 => (if t399 = true then ((laws_markFarkas.f k bt378.1 bt378.2.1 1).bind fun bt400 => ((laws_heldFarkas.f k bt378.1 bt400.2 1).bind fun t402 => (if t402 < 0 then (some false) else (if t402 = bt400.1 then ((laws_toSystem.f k a0_0 l0_1).bind fun bt403 => ((laws_toLin.f k a1_0 l1_1).bind fun bt407 => ((impl_FindFarkas.f k bt403.1 bt403.2 bt407.1 bt407.2).bind fun bt411 => ((laws_eqFarkas.f k bt411.1 bt411.2.1 t362 t363).bind fun t417 => (if t417 = true then (if (bt411.2.2 != t366) = true then (some false) else ((laws_heldFarkas.f k bt378.1 bt400.2 1).bind fun t418 => (if t418 < 0 then (some false) else (if t418 = bt400.1 then (some true) else (some false))))) else (some false)))))) else (some false))))) else (some false)))))) else (some false)))) else (some false))))) else (some false))))) = some r := H
 have A22 := Aside0.mk A220
 clear A220
 replace H := Option.bind_eq_some_iff.mp H
 obtain ⟨⟨t373, t374⟩, A230, H⟩ := H
 replace H : ((impl_FindFarkas.f k t368 t369 t373 t374).bind fun bt378 => ((laws_eqFarkas.f k bt378.1 bt378.2.1 t362 t363).bind fun t384 => (if t384 = true then (if (bt378.2.2 != t366) = true then (some false) else ((laws_toSystem.f k a0_0 l0_1).bind fun bt385 => ((laws_eqSystem.f k t368 t369 bt385.1 bt385.2).bind fun t389 => (if t389 = true then ((laws_toLin.f k a1_0 l1_1).bind fun bt390 => ((laws_eqLin.f k t373 t374 bt390.1 bt390.2).bind fun t394 => (if t394 = true then ((laws_markSystem.f k t368 t369 1).bind fun bt395 => ((laws_markLin.f k t373 t374 bt395.1).bind fun bt397 => (if bt397.1 < 0 then (some false) else ((laws_eqFarkas.f k bt378.1 bt378.2.1 t362 t363).bind fun t399 => (if t399 = true then ((laws_markFarkas.f k bt378.1 bt378.2.1 1).bind fun bt400 => ((laws_heldFarkas.f k bt378.1 bt400.2 1).bind fun t402 => (if t402 < 0 then (some false) else (if t402 = bt400.1 then ((laws_toSystem.f k a0_0 l0_1).bind fun bt403 => ((laws_toLin.f k a1_0 l1_1).bind fun bt407 => ((impl_FindFarkas.f k bt403.1 bt403.2 bt407.1 bt407.2).bind fun bt411 => ((laws_eqFarkas.f k bt411.1 bt411.2.1 t362 t363).bind fun t417 => (if t417 = true then (if (bt411.2.2 != t366) = true then (some false) else ((laws_heldFarkas.f k bt378.1 bt400.2 1).bind fun t418 => (if t418 < 0 then (some false) else (if t418 = bt400.1 then (some true) else (some false))))) else (some false)))))) else (some false))))) else (some false)))))) else (some false)))) else (some false))))) else (some false)))) = some r := H
 have A23 := Aside0.mk A230
 clear A230
 replace H := Option.bind_eq_some_iff.mp H
 obtain ⟨⟨t378, t379, t382⟩, A240, H⟩ := H
 replace H : ((laws_eqFarkas.f k t378 t379 t362 t363).bind fun t384 => (if t384 = true then (if (t382 != t366) = true then (some false) else ((laws_toSystem.f k a0_0 l0_1).bind fun bt385 => ((laws_eqSystem.f k t368 t369 bt385.1 bt385.2).bind fun t389 => (if t389 = true then ((laws_toLin.f k a1_0 l1_1).bind fun bt390 => ((laws_eqLin.f k t373 t374 bt390.1 bt390.2).bind fun t394 => (if t394 = true then ((laws_markSystem.f k t368 t369 1).bind fun bt395 => ((laws_markLin.f k t373 t374 bt395.1).bind fun bt397 => (if bt397.1 < 0 then (some false) else ((laws_eqFarkas.f k t378 t379 t362 t363).bind fun t399 => (if t399 = true then ((laws_markFarkas.f k t378 t379 1).bind fun bt400 => ((laws_heldFarkas.f k t378 bt400.2 1).bind fun t402 => (if t402 < 0 then (some false) else (if t402 = bt400.1 then ((laws_toSystem.f k a0_0 l0_1).bind fun bt403 => ((laws_toLin.f k a1_0 l1_1).bind fun bt407 => ((impl_FindFarkas.f k bt403.1 bt403.2 bt407.1 bt407.2).bind fun bt411 => ((laws_eqFarkas.f k bt411.1 bt411.2.1 t362 t363).bind fun t417 => (if t417 = true then (if (bt411.2.2 != t366) = true then (some false) else ((laws_heldFarkas.f k t378 bt400.2 1).bind fun t418 => (if t418 < 0 then (some false) else (if t418 = bt400.1 then (some true) else (some false))))) else (some false)))))) else (some false))))) else (some false)))))) else (some false)))) else (some false))))) else (some false))) = some r := H
 have A24 := Aside0.mk A240
 clear A240
 replace H := Option.bind_eq_some_iff.mp H
 obtain ⟨t384, A250, H⟩ := H
 replace H : (if t384 = true then (if (t382 != t366) = true then (some false) else ((laws_toSystem.f k a0_0 l0_1).bind fun bt385 => ((laws_eqSystem.f k t368 t369 bt385.1 bt385.2).bind fun t389 => (if t389 = true then ((laws_toLin.f k a1_0 l1_1).bind fun bt390 => ((laws_eqLin.f k t373 t374 bt390.1 bt390.2).bind fun t394 => (if t394 = true then ((laws_markSystem.f k t368 t369 1).bind fun bt395 => ((laws_markLin.f k t373 t374 bt395.1).bind fun bt397 => (if bt397.1 < 0 then (some false) else ((laws_eqFarkas.f k t378 t379 t362 t363).bind fun t399 => (if t399 = true then ((laws_markFarkas.f k t378 t379 1).bind fun bt400 => ((laws_heldFarkas.f k t378 bt400.2 1).bind fun t402 => (if t402 < 0 then (some false) else (if t402 = bt400.1 then ((laws_toSystem.f k a0_0 l0_1).bind fun bt403 => ((laws_toLin.f k a1_0 l1_1).bind fun bt407 => ((impl_FindFarkas.f k bt403.1 bt403.2 bt407.1 bt407.2).bind fun bt411 => ((laws_eqFarkas.f k bt411.1 bt411.2.1 t362 t363).bind fun t417 => (if t417 = true then (if (bt411.2.2 != t366) = true then (some false) else ((laws_heldFarkas.f k t378 bt400.2 1).bind fun t418 => (if t418 < 0 then (some false) else (if t418 = bt400.1 then (some true) else (some false))))) else (some false)))))) else (some false))))) else (some false)))))) else (some false)))) else (some false))))) else (some false)) = some r := H
 have A25 := Aside0.mk A250
 clear A250
 by_cases c26 : t384 = true
 ·subst c26
  have H1 : (if (t382 != t366) = true then (some false) else ((laws_toSystem.f k a0_0 l0_1).bind fun bt385 => ((laws_eqSystem.f k t368 t369 bt385.1 bt385.2).bind fun t389 => (if t389 = true then ((laws_toLin.f k a1_0 l1_1).bind fun bt390 => ((laws_eqLin.f k t373 t374 bt390.1 bt390.2).bind fun t394 => (if t394 = true then ((laws_markSystem.f k t368 t369 1).bind fun bt395 => ((laws_markLin.f k t373 t374 bt395.1).bind fun bt397 => (if bt397.1 < 0 then (some false) else ((laws_eqFarkas.f k t378 t379 t362 t363).bind fun t399 => (if t399 = true then ((laws_markFarkas.f k t378 t379 1).bind fun bt400 => ((laws_heldFarkas.f k t378 bt400.2 1).bind fun t402 => (if t402 < 0 then (some false) else (if t402 = bt400.1 then ((laws_toSystem.f k a0_0 l0_1).bind fun bt403 => ((laws_toLin.f k a1_0 l1_1).bind fun bt407 => ((impl_FindFarkas.f k bt403.1 bt403.2 bt407.1 bt407.2).bind fun bt411 => ((laws_eqFarkas.f k bt411.1 bt411.2.1 t362 t363).bind fun t417 => (if t417 = true then (if (bt411.2.2 != t366) = true then (some false) else ((laws_heldFarkas.f k t378 bt400.2 1).bind fun t418 => (if t418 < 0 then (some false) else (if t418 = bt400.1 then (some true) else (some false))))) else (some false)))))) else (some false))))) else (some false)))))) else (some false)))) else (some false))))) = some r := by rw [if_pos rfl] at H; exact H
  clear H
  have H := H1
  clear H1
  by_cases c27 : (t382 != t366) = true
  ·rw [if_pos c27] at H
   have c27b0 : (t382 != t366) = true := c27
   (try (have c27b1 : decide (t382 = t366) = false := by simpa using c27))
   (try (have c27b2 : (t382 == t366) = false := by simpa using c27))
   (try (have c27b3 : ¬ (t382 = t366) := by simpa using c27))
   clear c27
   obtain rfl := Option.some.inj H
   exact absurd hT_ (by decide)
  rw [if_neg c27] at H
  have c27b0 : (t382 != t366) = false := by simpa using c27
  (try (have c27b1 : decide (t382 = t366) = true := by simpa using c27))
  (try (have c27b2 : (t382 == t366) = true := by simpa using c27))
  clear c27
  replace H := Option.bind_eq_some_iff.mp H
  obtain ⟨⟨t385, t386⟩, A280, H⟩ := H
  replace H : ((laws_eqSystem.f k t368 t369 t385 t386).bind fun t389 => (if t389 = true then ((laws_toLin.f k a1_0 l1_1).bind fun bt390 => ((laws_eqLin.f k t373 t374 bt390.1 bt390.2).bind fun t394 => (if t394 = true then ((laws_markSystem.f k t368 t369 1).bind fun bt395 => ((laws_markLin.f k t373 t374 bt395.1).bind fun bt397 => (if bt397.1 < 0 then (some false) else ((laws_eqFarkas.f k t378 t379 t362 t363).bind fun t399 => (if t399 = true then ((laws_markFarkas.f k t378 t379 1).bind fun bt400 => ((laws_heldFarkas.f k t378 bt400.2 1).bind fun t402 => (if t402 < 0 then (some false) else (if t402 = bt400.1 then ((laws_toSystem.f k a0_0 l0_1).bind fun bt403 => ((laws_toLin.f k a1_0 l1_1).bind fun bt407 => ((impl_FindFarkas.f k bt403.1 bt403.2 bt407.1 bt407.2).bind fun bt411 => ((laws_eqFarkas.f k bt411.1 bt411.2.1 t362 t363).bind fun t417 => (if t417 = true then (if (bt411.2.2 != t366) = true then (some false) else ((laws_heldFarkas.f k t378 bt400.2 1).bind fun t418 => (if t418 < 0 then (some false) else (if t418 = bt400.1 then (some true) else (some false))))) else (some false)))))) else (some false))))) else (some false)))))) else (some false)))) else (some false))) = some r := H
  have A28 := Aside0.mk A280
  clear A280
  replace H := Option.bind_eq_some_iff.mp H
  obtain ⟨t389, A290, H⟩ := H
  replace H : (if t389 = true then ((laws_toLin.f k a1_0 l1_1).bind fun bt390 => ((laws_eqLin.f k t373 t374 bt390.1 bt390.2).bind fun t394 => (if t394 = true then ((laws_markSystem.f k t368 t369 1).bind fun bt395 => ((laws_markLin.f k t373 t374 bt395.1).bind fun bt397 => (if bt397.1 < 0 then (some false) else ((laws_eqFarkas.f k t378 t379 t362 t363).bind fun t399 => (if t399 = true then ((laws_markFarkas.f k t378 t379 1).bind fun bt400 => ((laws_heldFarkas.f k t378 bt400.2 1).bind fun t402 => (if t402 < 0 then (some false) else (if t402 = bt400.1 then ((laws_toSystem.f k a0_0 l0_1).bind fun bt403 => ((laws_toLin.f k a1_0 l1_1).bind fun bt407 => ((impl_FindFarkas.f k bt403.1 bt403.2 bt407.1 bt407.2).bind fun bt411 => ((laws_eqFarkas.f k bt411.1 bt411.2.1 t362 t363).bind fun t417 => (if t417 = true then (if (bt411.2.2 != t366) = true then (some false) else ((laws_heldFarkas.f k t378 bt400.2 1).bind fun t418 => (if t418 < 0 then (some false) else (if t418 = bt400.1 then (some true) else (some false))))) else (some false)))))) else (some false))))) else (some false)))))) else (some false)))) else (some false)) = some r := H
  have A29 := Aside0.mk A290
  clear A290
  by_cases c30 : t389 = true
  ·subst c30
   have H1 : ((laws_toLin.f k a1_0 l1_1).bind fun bt390 => ((laws_eqLin.f k t373 t374 bt390.1 bt390.2).bind fun t394 => (if t394 = true then ((laws_markSystem.f k t368 t369 1).bind fun bt395 => ((laws_markLin.f k t373 t374 bt395.1).bind fun bt397 => (if bt397.1 < 0 then (some false) else ((laws_eqFarkas.f k t378 t379 t362 t363).bind fun t399 => (if t399 = true then ((laws_markFarkas.f k t378 t379 1).bind fun bt400 => ((laws_heldFarkas.f k t378 bt400.2 1).bind fun t402 => (if t402 < 0 then (some false) else (if t402 = bt400.1 then ((laws_toSystem.f k a0_0 l0_1).bind fun bt403 => ((laws_toLin.f k a1_0 l1_1).bind fun bt407 => ((impl_FindFarkas.f k bt403.1 bt403.2 bt407.1 bt407.2).bind fun bt411 => ((laws_eqFarkas.f k bt411.1 bt411.2.1 t362 t363).bind fun t417 => (if t417 = true then (if (bt411.2.2 != t366) = true then (some false) else ((laws_heldFarkas.f k t378 bt400.2 1).bind fun t418 => (if t418 < 0 then (some false) else (if t418 = bt400.1 then (some true) else (some false))))) else (some false)))))) else (some false))))) else (some false)))))) else (some false)))) = some r := by rw [if_pos rfl] at H; exact H
   clear H
   have H := H1
   clear H1
   replace H := Option.bind_eq_some_iff.mp H
   obtain ⟨⟨t390, t391⟩, A310, H⟩ := H
   replace H : ((laws_eqLin.f k t373 t374 t390 t391).bind fun t394 => (if t394 = true then ((laws_markSystem.f k t368 t369 1).bind fun bt395 => ((laws_markLin.f k t373 t374 bt395.1).bind fun bt397 => (if bt397.1 < 0 then (some false) else ((laws_eqFarkas.f k t378 t379 t362 t363).bind fun t399 => (if t399 = true then ((laws_markFarkas.f k t378 t379 1).bind fun bt400 => ((laws_heldFarkas.f k t378 bt400.2 1).bind fun t402 => (if t402 < 0 then (some false) else (if t402 = bt400.1 then ((laws_toSystem.f k a0_0 l0_1).bind fun bt403 => ((laws_toLin.f k a1_0 l1_1).bind fun bt407 => ((impl_FindFarkas.f k bt403.1 bt403.2 bt407.1 bt407.2).bind fun bt411 => ((laws_eqFarkas.f k bt411.1 bt411.2.1 t362 t363).bind fun t417 => (if t417 = true then (if (bt411.2.2 != t366) = true then (some false) else ((laws_heldFarkas.f k t378 bt400.2 1).bind fun t418 => (if t418 < 0 then (some false) else (if t418 = bt400.1 then (some true) else (some false))))) else (some false)))))) else (some false))))) else (some false)))))) else (some false))) = some r := H
   have A31 := Aside0.mk A310
   clear A310
   replace H := Option.bind_eq_some_iff.mp H
   obtain ⟨t394, A320, H⟩ := H
   replace H : (if t394 = true then ((laws_markSystem.f k t368 t369 1).bind fun bt395 => ((laws_markLin.f k t373 t374 bt395.1).bind fun bt397 => (if bt397.1 < 0 then (some false) else ((laws_eqFarkas.f k t378 t379 t362 t363).bind fun t399 => (if t399 = true then ((laws_markFarkas.f k t378 t379 1).bind fun bt400 => ((laws_heldFarkas.f k t378 bt400.2 1).bind fun t402 => (if t402 < 0 then (some false) else (if t402 = bt400.1 then ((laws_toSystem.f k a0_0 l0_1).bind fun bt403 => ((laws_toLin.f k a1_0 l1_1).bind fun bt407 => ((impl_FindFarkas.f k bt403.1 bt403.2 bt407.1 bt407.2).bind fun bt411 => ((laws_eqFarkas.f k bt411.1 bt411.2.1 t362 t363).bind fun t417 => (if t417 = true then (if (bt411.2.2 != t366) = true then (some false) else ((laws_heldFarkas.f k t378 bt400.2 1).bind fun t418 => (if t418 < 0 then (some false) else (if t418 = bt400.1 then (some true) else (some false))))) else (some false)))))) else (some false))))) else (some false)))))) else (some false)) = some r := H
   have A32 := Aside0.mk A320
   clear A320
   by_cases c33 : t394 = true
   ·subst c33
    have H1 : ((laws_markSystem.f k t368 t369 1).bind fun bt395 => ((laws_markLin.f k t373 t374 bt395.1).bind fun bt397 => (if bt397.1 < 0 then (some false) else ((laws_eqFarkas.f k t378 t379 t362 t363).bind fun t399 => (if t399 = true then ((laws_markFarkas.f k t378 t379 1).bind fun bt400 => ((laws_heldFarkas.f k t378 bt400.2 1).bind fun t402 => (if t402 < 0 then (some false) else (if t402 = bt400.1 then ((laws_toSystem.f k a0_0 l0_1).bind fun bt403 => ((laws_toLin.f k a1_0 l1_1).bind fun bt407 => ((impl_FindFarkas.f k bt403.1 bt403.2 bt407.1 bt407.2).bind fun bt411 => ((laws_eqFarkas.f k bt411.1 bt411.2.1 t362 t363).bind fun t417 => (if t417 = true then (if (bt411.2.2 != t366) = true then (some false) else ((laws_heldFarkas.f k t378 bt400.2 1).bind fun t418 => (if t418 < 0 then (some false) else (if t418 = bt400.1 then (some true) else (some false))))) else (some false)))))) else (some false))))) else (some false)))))) = some r := by rw [if_pos rfl] at H; exact H
    clear H
    have H := H1
    clear H1
    replace H := Option.bind_eq_some_iff.mp H
    obtain ⟨⟨t395, t396⟩, A340, H⟩ := H
    replace H : ((laws_markLin.f k t373 t374 t395).bind fun bt397 => (if bt397.1 < 0 then (some false) else ((laws_eqFarkas.f k t378 t379 t362 t363).bind fun t399 => (if t399 = true then ((laws_markFarkas.f k t378 t379 1).bind fun bt400 => ((laws_heldFarkas.f k t378 bt400.2 1).bind fun t402 => (if t402 < 0 then (some false) else (if t402 = bt400.1 then ((laws_toSystem.f k a0_0 l0_1).bind fun bt403 => ((laws_toLin.f k a1_0 l1_1).bind fun bt407 => ((impl_FindFarkas.f k bt403.1 bt403.2 bt407.1 bt407.2).bind fun bt411 => ((laws_eqFarkas.f k bt411.1 bt411.2.1 t362 t363).bind fun t417 => (if t417 = true then (if (bt411.2.2 != t366) = true then (some false) else ((laws_heldFarkas.f k t378 bt400.2 1).bind fun t418 => (if t418 < 0 then (some false) else (if t418 = bt400.1 then (some true) else (some false))))) else (some false)))))) else (some false))))) else (some false))))) = some r := H
    have A34 := Aside0.mk A340
    clear A340
    replace H := Option.bind_eq_some_iff.mp H
    obtain ⟨⟨t397, t398⟩, A350, H⟩ := H
    replace H : (if t397 < 0 then (some false) else ((laws_eqFarkas.f k t378 t379 t362 t363).bind fun t399 => (if t399 = true then ((laws_markFarkas.f k t378 t379 1).bind fun bt400 => ((laws_heldFarkas.f k t378 bt400.2 1).bind fun t402 => (if t402 < 0 then (some false) else (if t402 = bt400.1 then ((laws_toSystem.f k a0_0 l0_1).bind fun bt403 => ((laws_toLin.f k a1_0 l1_1).bind fun bt407 => ((impl_FindFarkas.f k bt403.1 bt403.2 bt407.1 bt407.2).bind fun bt411 => ((laws_eqFarkas.f k bt411.1 bt411.2.1 t362 t363).bind fun t417 => (if t417 = true then (if (bt411.2.2 != t366) = true then (some false) else ((laws_heldFarkas.f k t378 bt400.2 1).bind fun t418 => (if t418 < 0 then (some false) else (if t418 = bt400.1 then (some true) else (some false))))) else (some false)))))) else (some false))))) else (some false)))) = some r := H
    have A35 := Aside0.mk A350
    clear A350
    by_cases c36 : t397 < 0
    ·rw [if_pos c36] at H
     have c36b0 : decide (t397 < 0) = true := decide_eq_true c36
     clear c36
     obtain rfl := Option.some.inj H
     exact absurd hT_ (by decide)
    rw [if_neg c36] at H
    have c36b0 : decide (t397 < 0) = false := decide_eq_false c36
    clear c36
    replace H := Option.bind_eq_some_iff.mp H
    obtain ⟨t399, A370, H⟩ := H
    replace H : (if t399 = true then ((laws_markFarkas.f k t378 t379 1).bind fun bt400 => ((laws_heldFarkas.f k t378 bt400.2 1).bind fun t402 => (if t402 < 0 then (some false) else (if t402 = bt400.1 then ((laws_toSystem.f k a0_0 l0_1).bind fun bt403 => ((laws_toLin.f k a1_0 l1_1).bind fun bt407 => ((impl_FindFarkas.f k bt403.1 bt403.2 bt407.1 bt407.2).bind fun bt411 => ((laws_eqFarkas.f k bt411.1 bt411.2.1 t362 t363).bind fun t417 => (if t417 = true then (if (bt411.2.2 != t366) = true then (some false) else ((laws_heldFarkas.f k t378 bt400.2 1).bind fun t418 => (if t418 < 0 then (some false) else (if t418 = bt400.1 then (some true) else (some false))))) else (some false)))))) else (some false))))) else (some false)) = some r := H
    have A37 := Aside0.mk A370
    clear A370
    by_cases c38 : t399 = true
    ·subst c38
     have H1 : ((laws_markFarkas.f k t378 t379 1).bind fun bt400 => ((laws_heldFarkas.f k t378 bt400.2 1).bind fun t402 => (if t402 < 0 then (some false) else (if t402 = bt400.1 then ((laws_toSystem.f k a0_0 l0_1).bind fun bt403 => ((laws_toLin.f k a1_0 l1_1).bind fun bt407 => ((impl_FindFarkas.f k bt403.1 bt403.2 bt407.1 bt407.2).bind fun bt411 => ((laws_eqFarkas.f k bt411.1 bt411.2.1 t362 t363).bind fun t417 => (if t417 = true then (if (bt411.2.2 != t366) = true then (some false) else ((laws_heldFarkas.f k t378 bt400.2 1).bind fun t418 => (if t418 < 0 then (some false) else (if t418 = bt400.1 then (some true) else (some false))))) else (some false)))))) else (some false))))) = some r := by rw [if_pos rfl] at H; exact H
     clear H
     have H := H1
     clear H1
     replace H := Option.bind_eq_some_iff.mp H
     obtain ⟨⟨t400, t401⟩, A390, H⟩ := H
     replace H : ((laws_heldFarkas.f k t378 t401 1).bind fun t402 => (if t402 < 0 then (some false) else (if t402 = t400 then ((laws_toSystem.f k a0_0 l0_1).bind fun bt403 => ((laws_toLin.f k a1_0 l1_1).bind fun bt407 => ((impl_FindFarkas.f k bt403.1 bt403.2 bt407.1 bt407.2).bind fun bt411 => ((laws_eqFarkas.f k bt411.1 bt411.2.1 t362 t363).bind fun t417 => (if t417 = true then (if (bt411.2.2 != t366) = true then (some false) else ((laws_heldFarkas.f k t378 t401 1).bind fun t418 => (if t418 < 0 then (some false) else (if t418 = t400 then (some true) else (some false))))) else (some false)))))) else (some false)))) = some r := H
     have A39 := Aside0.mk A390
     clear A390
     replace H := Option.bind_eq_some_iff.mp H
     obtain ⟨t402, A400, H⟩ := H
     replace H : (if t402 < 0 then (some false) else (if t402 = t400 then ((laws_toSystem.f k a0_0 l0_1).bind fun bt403 => ((laws_toLin.f k a1_0 l1_1).bind fun bt407 => ((impl_FindFarkas.f k bt403.1 bt403.2 bt407.1 bt407.2).bind fun bt411 => ((laws_eqFarkas.f k bt411.1 bt411.2.1 t362 t363).bind fun t417 => (if t417 = true then (if (bt411.2.2 != t366) = true then (some false) else ((laws_heldFarkas.f k t378 t401 1).bind fun t418 => (if t418 < 0 then (some false) else (if t418 = t400 then (some true) else (some false))))) else (some false)))))) else (some false))) = some r := H
     have A40 := Aside0.mk A400
     clear A400
     by_cases c41 : t402 < 0
     ·rw [if_pos c41] at H
      have c41b0 : decide (t402 < 0) = true := decide_eq_true c41
      clear c41
      obtain rfl := Option.some.inj H
      exact absurd hT_ (by decide)
     rw [if_neg c41] at H
     have c41b0 : decide (t402 < 0) = false := decide_eq_false c41
     clear c41
     by_cases c42 : t402 = t400
     ·rw [if_pos c42] at H
      have c42b0 : (t402 == t400) = true := beq_iff_eq.mpr c42
      have c42b1 : (t402 != t400) = false := bne_eq_false_iff_eq.mpr c42
      clear c42
      replace H := Option.bind_eq_some_iff.mp H
      obtain ⟨⟨t403, t404⟩, A430, H⟩ := H
      replace H : ((laws_toLin.f k a1_0 l1_1).bind fun bt407 => ((impl_FindFarkas.f k t403 t404 bt407.1 bt407.2).bind fun bt411 => ((laws_eqFarkas.f k bt411.1 bt411.2.1 t362 t363).bind fun t417 => (if t417 = true then (if (bt411.2.2 != t366) = true then (some false) else ((laws_heldFarkas.f k t378 t401 1).bind fun t418 => (if t418 < 0 then (some false) else (if t418 = t400 then (some true) else (some false))))) else (some false))))) = some r := H
      have A43 := Aside0.mk A430
      clear A430
      replace H := Option.bind_eq_some_iff.mp H
      obtain ⟨⟨t407, t408⟩, A440, H⟩ := H
      replace H : ((impl_FindFarkas.f k t403 t404 t407 t408).bind fun bt411 => ((laws_eqFarkas.f k bt411.1 bt411.2.1 t362 t363).bind fun t417 => (if t417 = true then (if (bt411.2.2 != t366) = true then (some false) else ((laws_heldFarkas.f k t378 t401 1).bind fun t418 => (if t418 < 0 then (some false) else (if t418 = t400 then (some true) else (some false))))) else (some false)))) = some r := H
      have A44 := Aside0.mk A440
      clear A440
      replace H := Option.bind_eq_some_iff.mp H
      obtain ⟨⟨t411, t412, t415⟩, A450, H⟩ := H
      replace H : ((laws_eqFarkas.f k t411 t412 t362 t363).bind fun t417 => (if t417 = true then (if (t415 != t366) = true then (some false) else ((laws_heldFarkas.f k t378 t401 1).bind fun t418 => (if t418 < 0 then (some false) else (if t418 = t400 then (some true) else (some false))))) else (some false))) = some r := H
      have A45 := Aside0.mk A450
      clear A450
      replace H := Option.bind_eq_some_iff.mp H
      obtain ⟨t417, A460, H⟩ := H
      replace H : (if t417 = true then (if (t415 != t366) = true then (some false) else ((laws_heldFarkas.f k t378 t401 1).bind fun t418 => (if t418 < 0 then (some false) else (if t418 = t400 then (some true) else (some false))))) else (some false)) = some r := H
      have A46 := Aside0.mk A460
      clear A460
      by_cases c47 : t417 = true
      ·subst c47
       have H1 : (if (t415 != t366) = true then (some false) else ((laws_heldFarkas.f k t378 t401 1).bind fun t418 => (if t418 < 0 then (some false) else (if t418 = t400 then (some true) else (some false))))) = some r := by rw [if_pos rfl] at H; exact H
       clear H
       have H := H1
       clear H1
       by_cases c48 : (t415 != t366) = true
       ·rw [if_pos c48] at H
        have c48b0 : (t415 != t366) = true := c48
        (try (have c48b1 : decide (t415 = t366) = false := by simpa using c48))
        (try (have c48b2 : (t415 == t366) = false := by simpa using c48))
        (try (have c48b3 : ¬ (t415 = t366) := by simpa using c48))
        clear c48
        obtain rfl := Option.some.inj H
        exact absurd hT_ (by decide)
       rw [if_neg c48] at H
       have c48b0 : (t415 != t366) = false := by simpa using c48
       (try (have c48b1 : decide (t415 = t366) = true := by simpa using c48))
       (try (have c48b2 : (t415 == t366) = true := by simpa using c48))
       clear c48
       replace H := Option.bind_eq_some_iff.mp H
       obtain ⟨t418, A490, H⟩ := H
       replace H : (if t418 < 0 then (some false) else (if t418 = t400 then (some true) else (some false))) = some r := H
       have A49 := Aside0.mk A490
       clear A490
       by_cases c50 : t418 < 0
       ·rw [if_pos c50] at H
        have c50b0 : decide (t418 < 0) = true := decide_eq_true c50
        clear c50
        obtain rfl := Option.some.inj H
        exact absurd hT_ (by decide)
       rw [if_neg c50] at H
       have c50b0 : decide (t418 < 0) = false := decide_eq_false c50
       clear c50
       by_cases c51 : t418 = t400
       ·rw [if_pos c51] at H
        have c51b0 : (t418 == t400) = true := beq_iff_eq.mpr c51
        have c51b1 : (t418 != t400) = false := bne_eq_false_iff_eq.mpr c51
        clear c51
        obtain rfl := Option.some.inj H
        go_enter Try.func8, Try.ntmps8
        try go_wp2_with (first | ((with_reducible refine gate_dst (N := 2) rfl ?_); refine box_event ?hg (N := 2) ?hd (cs := #[.int .i64 a0_0, .slice A0_1 l0_1.length c0_1]) (t := 42) ?hr ?_; (case hd => rfl); (case hg => rfl); (case hr => first | (go_simp; done) | (go_simp; rfl)); intro gb350 hg w52 hbox hb; have n0_ := Aside0.mk ((by rw [hg]; exact (show Kept w _ (fun _ => True) from by repeat (first | exact Kept.refl _ _ | apply Kept.alloc | apply Kept.drewN | apply Kept.drew | refine Kept.setCell ?_ (.inl trivial) _)).1 : w.heap.size ≤ gb350)); have n1_ := bs HB hb; have n2_ := Aside0.mk (hbox); have n3_ := gw hg HB; have n4_ := gw hg HB; clear HB; have SG350_w := n0_; have HB := n1_; have BK350 := n2_; have GW350 := n3_; have GE350 := n4_; clear n0_ n1_ n2_ n3_ n4_; clear hb hbox hg; have SL350_w52 := Aside0.mk (blk_lt BK350.out : gb350 < w52.heap.size)) | ((with_reducible refine gate_dst (N := 3) rfl ?_); refine box_event ?hg (N := 3) ?hd (cs := #[.int .i64 a1_0, .slice A1_1 l1_1.length c1_1]) (t := 43) ?hr ?_; (case hd => rfl); (case hg => rfl); (case hr => first | (go_simp; done) | (go_simp; rfl)); intro gb351 hg w53 hbox hb; have n0_ := Aside0.mk ((by rw [hg]; exact (show Kept w52 _ (fun _ => True) from by repeat (first | exact Kept.refl _ _ | apply Kept.alloc | apply Kept.drewN | apply Kept.drew | refine Kept.setCell ?_ (.inl trivial) _)).1 : w52.heap.size ≤ gb351)); have n1_ := bb BK350 hb; have n2_ := bs HB hb; have n3_ := Aside0.mk (hbox); have n4_ := gw hg HB; have n5_ := gw hg HB; have n6_ := nl hg BK350; have n7_ := ng hg BK350; clear BK350 HB; have SG351_w52 := n0_; have BK350 := n1_; have HB := n2_; have BK351 := n3_; have GW351 := n4_; have GE351 := n5_; have NB350_351 := n6_; have NB351_350 := n7_; clear n0_ n1_ n2_ n3_ n4_ n5_ n6_ n7_; clear hb hbox hg; have := NB350_351.out; have := NB351_350.out; obtain ⟨_, _, _, _⟩ := cFour BK350) | ((with_reducible refine gate_callee (f := 22) rfl ?_); refine gl (some 19) rfl rfl Try.func22 (by kernel_rfl) rfl #[.agg #[.int .i64 a0_0, .slice A0_1 l0_1.length c0_1], .int .i64 1048576] rfl ?_; (with_reducible refine (laws_szSystem.calls k a0_0 _ _ l0_1 1048576 t352 _ ?side1 ?side2 A3.out).mono ?_); (case side1 => exact mc ((Kd.C_below HR0_1.out HB.out))); (case side2 => exact HC0_1.out); rintro e w56 ⟨rfl, hb⟩; refine ⟨_, rfl, ?_⟩; replace BK350 := bb BK350 hb; replace BK351 := bb BK351 hb; replace HB := bs HB hb; (try clear hb); obtain ⟨_, _, _, _⟩ := cFour BK351) | ((with_reducible refine gate_callee (f := 23) rfl ?_); refine gl (some 24) rfl rfl Try.func23 (by kernel_rfl) rfl #[.agg #[.int .i64 a1_0, .slice A1_1 l1_1.length c1_1], .int .i64 t352] rfl ?_; (with_reducible refine (laws_szLin.calls a1_0 _ _ l1_1 t352 t353 _ ?side1 ?side2 A10.out).mono ?_); (case side1 => exact mc ((Kd.C_below HR1_1.out HB.out))); (case side2 => exact HC1_1.out); rintro e w58 ⟨rfl, hb⟩; refine ⟨_, rfl, ?_⟩; replace BK350 := bb BK350 hb; replace BK351 := bb BK351 hb; replace HB := bs HB hb; (try clear hb)))
        have SL350_w58 := Aside0.mk (blk_lt BK350.out : gb350 < w58.heap.size)
        have SL351_w58 := Aside0.mk (blk_lt BK351.out : gb351 < w58.heap.size)
        replace BK350 := Aside0.mk (blk_drew BK350.out)
        replace BK351 := Aside0.mk (blk_drew BK351.out)
        replace HB := Aside0.mk (below_drew1 HB.out)
        have LWw59 := Aside0.mk (show w58.heap.size ≤ w58.drew.heap.size from Nat.le_refl _)
        refine start_ (n := 11) (S := fun w' => w'.cell? ⟨gb350, 0, none⟩ = some (.int .i64 a0_0) ∧ w'.cell? ⟨gb350, 1, none⟩ = some (.slice A0_1 l0_1.length c0_1) ∧ w'.cell? ⟨gb351, 0, none⟩ = some (.int .i64 a1_0) ∧ w'.cell? ⟨gb351, 1, none⟩ = some (.slice A1_1 l1_1.length c1_1)) (ds := []) #[false, false, false, false, false, false, false, false, false, false, false] (by kernel_rfl) rfl rfl ⟨(c2 BK350).1, (c2 BK350).2, (c2 BK351).1, (c2 BK351).2⟩ (fun hHeld => ?_); refine with_tabW laws_FnExactFindFarkas.tab8 laws_FnExactFindFarkas.bits8 (fun HT_ HW_ => ?_)
        generalize w58.drew = w59 at BK350 BK351 HB LWw59 hHeld ⊢
        refine tk 0 (some 28) (v := ?_) (a' := ?_) #[true, false, false, false, false, false, false, false, false, false, false] rfl rfl HT_ HW_ (fun _ _ _ h => h) (by rfl) ?_ hHeld ?_ ?_
        rotate_left
        ·rintro w' ⟨s0, s1, s2, s3⟩
         go_simp
         with_reducible rfl
        rotate_left
        ·simp only [Act.put, z1, z2, z3, i64_w, i32_w]
         rfl
        refine tk 2 (some 30) (v := ?_) (a' := ?_) #[true, false, true, false, false, false, false, false, false, false, false] rfl rfl HT_ HW_ (fun _ _ _ h => h) (by rfl) ?_ hHeld ?_ ?_
        rotate_left
        ·rintro w' ⟨s0, s1, s2, s3⟩
         go_simp
         with_reducible rfl
        rotate_left
        ·simp only [Act.put, z1, z2, z3, i64_w, i32_w]
         rfl
        refine join_ (σ := Value × Value × Value × Nat) 2 #[true, true, true, true, true, true, true, true, true, false, false] (fun s_ => [(29, .agg #[.int .i64 t354, s_.1]), (31, .agg #[.int .i64 t358, s_.2.1]), (32, .tuple #[.agg #[.int .i64 t362, s_.2.2.1], .bool t366]), (6, .pointer (some ⟨s_.2.2.2, 0, none⟩)), (27, .tuple #[.agg #[.int .i64 t362, s_.2.2.1], .bool t366]), (33, .agg #[.int .i64 t362, s_.2.2.1]), (34, .bool t366)]) (fun s_ w' => (w'.cell? ⟨gb350, 0, none⟩ = some (.int .i64 a0_0) ∧ w'.cell? ⟨gb350, 1, none⟩ = some (.slice A0_1 l0_1.length c0_1) ∧ w'.cell? ⟨gb351, 0, none⟩ = some (.int .i64 a1_0) ∧ w'.cell? ⟨gb351, 1, none⟩ = some (.slice A1_1 l1_1.length c1_1)) ∧ (Kd.S k29 29 w' w.heap.size (fun k_ => some k_ ≠ (s_.2.1 : Value).ownBlock ∧ some k_ ≠ (s_.2.2.1 : Value).ownBlock) s_.1 t355) ∧ (Kd.R (Kd.int .i64) 3 w' w.heap.size (fun k_ => some k_ ≠ (s_.2.2.1 : Value).ownBlock) s_.2.1 t359) ∧ (Kd.R (Kd.int .i64) 3 w' w.heap.size (fun k_ => some k_ ≠ (s_.2.1 : Value).ownBlock) s_.2.2.1 t363) ∧ (w'.heap[gb350]? = some (.cells #[.int .i64 a0_0, .slice A0_1 l0_1.length c0_1] 42 (0, 0))) ∧ (w'.heap[gb351]? = some (.cells #[.int .i64 a1_0, .slice A1_1 l1_1.length c1_1] 43 (0, 0))) ∧ (w'.heap[s_.2.2.2]? = some (.cells #[.int .i64 0, .slice none 0 0] 33 (0, 0))) ∧ (w.heap.size ≤ s_.2.2.2) ∧ (w.heap.size ≤ s_.2.2.2) ∧ (gb350 ≠ s_.2.2.2) ∧ (s_.2.2.2 ≠ gb350) ∧ (gb351 ≠ s_.2.2.2) ∧ (s_.2.2.2 ≠ gb351) ∧ (Below w.heap.size w w')) ?_ ?_
        rotate_left
        ·intro hCont
         refine two_ (i := 1) (j := 8) (Ni := some 29) (Nj := some 6) #[true, true, true, false, false, false, false, false, false, false, false] #[true, false, true, false, false, false, false, false, true, false, false] rfl rfl rfl rfl (two_of HT_.out (by kernel_rfl)) (by decide) (by decide) (fun K hK => ?_) (fun K hK => ?_)
         ·skip
          refine gs Try.func25 (by kernel_rfl) rfl #[.agg #[.int .i64 a0_0, .slice A0_1 l0_1.length c0_1]] (by rfl) rfl rfl ?_
          with_reducible refine (laws_toSystem.calls k a0_0 _ _ l0_1 t354 t355 _ ?side1 ?side2 A19.out).mono ?_
          (case side1 => exact mc ((Kd.C_below HR0_1.out HB.out)))
          (case side2 => exact HC0_1.out)
          rintro e w60 ⟨v356, rfl, ho0, hb⟩
          refine ⟨_, rfl, ?_⟩
          have HO357 := Aside0.mk (Kd.S_lower ho0 (below_size (ms HB)))
          replace BK350 := bb BK350 hb
          replace BK351 := bb BK351 hb
          replace HB := bs HB hb
          (try clear hb)
          (try clear hb2)
          (try clear hk)
          (try clear hi)
          (try clear ho0)
          refine hK.out _ _ ⟨(c2 BK350).1, (c2 BK350).2, (c2 BK351).1, (c2 BK351).2⟩ (fun hHeld => ?_)
          clear hK K
          refine norm_ (a' := ?_) ?_ ?_
          rotate_left
          ·show Act.put _ (some 29) _ = _
           simp only [Act.put, z1, z2, z3, i64_w, i32_w]
           rfl
          refine two_ (i := 3) (j := 8) (Ni := some 31) (Nj := some 6) #[true, true, true, true, false, false, false, false, false, false, false] #[true, true, true, false, false, false, false, false, true, false, false] rfl rfl rfl rfl (two_of HT_.out (by kernel_rfl)) (by decide) (by decide) (fun K hK => ?_) (fun K hK => ?_)
          ·skip
           refine gs Try.func26 (by kernel_rfl) rfl #[.agg #[.int .i64 a1_0, .slice A1_1 l1_1.length c1_1]] (by rfl) rfl rfl ?_
           with_reducible refine (laws_toLin.calls k a1_0 _ _ l1_1 t358 t359 _ ?side1 ?side2 A20.out).mono ?_
           (case side1 => exact mc ((Kd.C_below HR1_1.out HB.out)))
           (case side2 => exact HC1_1.out)
           rintro e w61 ⟨v360, rfl, ho0, hb⟩
           refine ⟨_, rfl, ?_⟩
           replace HO357 := lS HO357 ho0 hb
           have HO361 := Aside0.mk (Kd.R_lower ho0 (below_size (ms HB)))
           replace BK350 := bb BK350 hb
           replace BK351 := bb BK351 hb
           replace HB := bs HB hb
           (try clear hb)
           (try clear hb2)
           (try clear hk)
           (try clear hi)
           (try clear ho0)
           obtain ⟨Ao62, co62, eo62⟩ := Kd.S_slice HO357.out
           (first | subst eo62 | (injection eo62 with f1_ f2_ f3_; have f4_ := f1_.symm; have f5_ := f3_.symm; clear f1_ f2_ f3_; subst f4_; subst f5_))
           obtain ⟨Ao63, co63, eo63⟩ := Kd.R_slice HO361.out
           (first | subst eo63 | (injection eo63 with f1_ f2_ f3_; have f4_ := f1_.symm; have f5_ := f3_.symm; clear f1_ f2_ f3_; subst f4_; subst f5_))
           refine hK.out _ _ ⟨(c2 BK350).1, (c2 BK350).2, (c2 BK351).1, (c2 BK351).2⟩ (fun hHeld => ?_)
           clear hK K
           refine norm_ (a' := ?_) ?_ ?_
           rotate_left
           ·show Act.put _ (some 31) _ = _
            simp only [Act.put, z1, z2, z3, i64_w, i32_w]
            rfl
           refine two_ (i := 4) (j := 8) (Ni := some 32) (Nj := some 6) #[true, true, true, true, true, false, false, false, false, false, false] #[true, true, true, true, false, false, false, false, true, false, false] rfl rfl rfl rfl (two_of HT_.out (by kernel_rfl)) (by decide) (by decide) (fun K hK => ?_) (fun K hK => ?_)
           ·skip
            refine gs Try.func16 (by kernel_rfl) rfl #[.agg #[.int .i64 t354, .slice Ao62 t355.length co62], .agg #[.int .i64 t358, .slice Ao63 t359.length co63]] (by rfl) rfl rfl ?_
            with_reducible refine (spec_FindFarkas.calls k t354 _ _ t355 t358 _ _ t359 t362 t363 t366 _ ?side1 ?side2 ?side3 ?side4 A21.out).mono ?_
            (case side1 => exact mc ((Kd.S_reads' HO357.out).2.2))
            (case side2 => exact (Kd.S_reads' HO357.out).2.1)
            (case side3 => exact mc ((Kd.R_reads' HO361.out).2.2))
            (case side4 => exact (Kd.R_reads' HO361.out).2.1)
            rintro e w64 ⟨v364, rfl, ho0, hb⟩
            refine ⟨_, rfl, ?_⟩
            replace HO357 := lS HO357 ho0 hb
            have HO365 := Aside0.mk (Kd.R_lower (Kd.R_new' ho0 (Kd.R_lt (mr HO361))) (below_size (ms HB)))
            replace HO361 := rl HO361 ho0 hb
            replace BK350 := bb BK350 hb
            replace BK351 := bb BK351 hb
            replace HB := bs HB hb
            (try clear hb)
            (try clear hb2)
            (try clear hk)
            (try clear hi)
            (try clear ho0)
            refine hK.out _ _ ⟨(c2 BK350).1, (c2 BK350).2, (c2 BK351).1, (c2 BK351).2⟩ (fun hHeld => ?_)
            clear hK K
            refine norm_ (a' := ?_) ?_ ?_
            rotate_left
            ·show Act.put _ (some 32) _ = _
             simp only [Act.put, z1, z2, z3, i64_w, i32_w]
             rfl
            refine pu 5 (some 27) (v := ?_) (a' := ?_) #[true, true, true, true, true, true, false, false, false, false, false] rfl rfl HT_ (fun _ _ _ h => h) (by rfl) ?_ ?_ ?_
            rotate_left
            ·intro w'
             go_simp
             with_reducible rfl
            rotate_left
            ·simp only [Act.put, z1, z2, z3, i64_w, i32_w]
             rfl
            refine pu 6 (some 33) (v := ?_) (a' := ?_) #[true, true, true, true, true, true, true, false, false, false, false] rfl rfl HT_ (fun _ _ _ h => h) (by rfl) ?_ ?_ ?_
            rotate_left
            ·intro w'
             go_simp
             with_reducible rfl
            rotate_left
            ·simp only [Act.put, z1, z2, z3, i64_w, i32_w]
             rfl
            refine pu 7 (some 34) (v := ?_) (a' := ?_) #[true, true, true, true, true, true, true, true, false, false, false] rfl rfl HT_ (fun _ _ _ h => h) (by rfl) ?_ ?_ ?_
            rotate_left
            ·intro w'
             go_simp
             with_reducible rfl
            rotate_left
            ·simp only [Act.put, z1, z2, z3, i64_w, i32_w]
             rfl
            refine one_ (i := 8) (N := some 6) #[true, true, true, true, true, true, true, true, true, false, false] rfl rfl (one_of HT_.out (by kernel_rfl)) (by decide) (fun K hK => ?_)
            refine box_step ?hg (N := 6) ?hd (cs := #[.int .i64 0, .slice none 0 0]) (t := 33) ?hr ?_; (case hd => rfl); (case hg => rfl); (case hr => first | (go_simp; done) | (go_simp; rfl))
            intro gb367 hg w65 hbox hb
            replace HO357 := bS HO357 hb
            replace HO361 := rb HO361 hb
            replace HO365 := rb HO365 hb
            have BK367 := Aside0.mk (hbox)
            have GW367 := gw hg HB
            have GE367 := gw hg HB
            replace HB := bs HB hb
            have NB350_367 := nl hg BK350
            have NB367_350 := ng hg BK350
            replace BK350 := bb BK350 hb
            have NB351_367 := nl hg BK351
            have NB367_351 := ng hg BK351
            replace BK351 := bb BK351 hb
            clear hb hbox hg
            refine hK.out _ _ ⟨(c2 BK350).1, (c2 BK350).2, (c2 BK351).1, (c2 BK351).2⟩ (fun hHeld => ?_)
            clear hK K
            refine norm_ (a' := ?_) ?_ ?_
            rotate_left
            ·show Act.put _ (some 6) _ = _
             simp only [Act.put, z1, z2, z3, i64_w, i32_w]
             rfl
            exact norm_ (by simp only [putAll, Act.put, List.setIfInBounds_toArray, List.set_cons_zero, List.set_cons_succ]) (hCont (.slice Ao62 t355.length co62, .slice Ao63 t359.length co63, v364, gb367) _ ⟨hHeld, (by (with_reducible repeat (first | apply Kd.S_alloc | apply Kd.S_drewN | apply Kd.S_drew)); exact Kd.S_mono HO357.out (fun _ hk => ⟨hk.1.2, hk.2⟩)), (by (with_reducible repeat (first | apply Kd.R_alloc | apply Kd.R_drewN | apply Kd.R_drew)); exact Kd.R_mono HO361.out (fun _ hk => hk.2)), (by (with_reducible repeat (first | apply Kd.R_alloc | apply Kd.R_drewN | apply Kd.R_drew)); exact Kd.R_mono HO365.out (fun _ hk => hk.2)), (mb BK350), (mb BK351), (mb BK367), GW367.out, GE367.out, NB350_367.out, NB367_350.out, NB351_367.out, NB367_351.out, (ms HB)⟩)
           skip
           refine box_step ?hg (N := 6) ?hd (cs := #[.int .i64 0, .slice none 0 0]) (t := 33) ?hr ?_; (case hd => rfl); (case hg => rfl); (case hr => first | (go_simp; done) | (go_simp; rfl))
           intro gb367 hg w62 hbox hb
           replace HO357 := bS HO357 hb
           replace HO361 := rb HO361 hb
           have BK367 := Aside0.mk (hbox)
           have GW367 := gw hg HB
           have GE367 := gw hg HB
           replace HB := bs HB hb
           have NB350_367 := nl hg BK350
           have NB367_350 := ng hg BK350
           replace BK350 := bb BK350 hb
           have NB351_367 := nl hg BK351
           have NB367_351 := ng hg BK351
           replace BK351 := bb BK351 hb
           clear hb hbox hg
           obtain ⟨Ao63, co63, eo63⟩ := Kd.S_slice HO357.out
           (first | subst eo63 | (injection eo63 with f1_ f2_ f3_; have f4_ := f1_.symm; have f5_ := f3_.symm; clear f1_ f2_ f3_; subst f4_; subst f5_))
           obtain ⟨Ao64, co64, eo64⟩ := Kd.R_slice HO361.out
           (first | subst eo64 | (injection eo64 with f1_ f2_ f3_; have f4_ := f1_.symm; have f5_ := f3_.symm; clear f1_ f2_ f3_; subst f4_; subst f5_))
           refine hK.out _ _ ⟨(c2 BK350).1, (c2 BK350).2, (c2 BK351).1, (c2 BK351).2⟩ (fun hHeld => ?_)
           clear hK K
           refine norm_ (a' := ?_) ?_ ?_
           rotate_left
           ·show Act.put _ (some 6) _ = _
            simp only [Act.put, z1, z2, z3, i64_w, i32_w]
            rfl
           refine one_ (i := 4) (N := some 32) #[true, true, true, true, true, false, false, false, true, false, false] rfl rfl (one_of HT_.out (by kernel_rfl)) (by decide) (fun K hK => ?_)
           refine gs Try.func16 (by kernel_rfl) rfl #[.agg #[.int .i64 t354, .slice Ao63 t355.length co63], .agg #[.int .i64 t358, .slice Ao64 t359.length co64]] (by rfl) rfl rfl ?_
           with_reducible refine (spec_FindFarkas.calls k t354 _ _ t355 t358 _ _ t359 t362 t363 t366 _ ?side1 ?side2 ?side3 ?side4 A21.out).mono ?_
           (case side1 => exact mc ((Kd.S_reads' HO357.out).2.2))
           (case side2 => exact (Kd.S_reads' HO357.out).2.1)
           (case side3 => exact mc ((Kd.R_reads' HO361.out).2.2))
           (case side4 => exact (Kd.R_reads' HO361.out).2.1)
           rintro e w65 ⟨v364, rfl, ho0, hb⟩
           refine ⟨_, rfl, ?_⟩
           replace HO357 := lS HO357 ho0 hb
           have HO365 := Aside0.mk (Kd.R_lower (Kd.R_new' ho0 (Kd.R_lt (mr HO361))) (below_size (ms HB)))
           replace HO361 := rl HO361 ho0 hb
           replace BK350 := bb BK350 hb
           replace BK351 := bb BK351 hb
           replace BK367 := bb BK367 hb
           replace HB := bs HB hb
           (try clear hb)
           (try clear hb2)
           (try clear hk)
           (try clear hi)
           (try clear ho0)
           refine hK.out _ _ ⟨(c2 BK350).1, (c2 BK350).2, (c2 BK351).1, (c2 BK351).2⟩ (fun hHeld => ?_)
           clear hK K
           refine norm_ (a' := ?_) ?_ ?_
           rotate_left
           ·show Act.put _ (some 32) _ = _
            simp only [Act.put, z1, z2, z3, i64_w, i32_w]
            rfl
           refine pu 5 (some 27) (v := ?_) (a' := ?_) #[true, true, true, true, true, true, false, false, true, false, false] rfl rfl HT_ (fun _ _ _ h => h) (by rfl) ?_ ?_ ?_
           rotate_left
           ·intro w'
            go_simp
            with_reducible rfl
           rotate_left
           ·simp only [Act.put, z1, z2, z3, i64_w, i32_w]
            rfl
           refine pu 6 (some 33) (v := ?_) (a' := ?_) #[true, true, true, true, true, true, true, false, true, false, false] rfl rfl HT_ (fun _ _ _ h => h) (by rfl) ?_ ?_ ?_
           rotate_left
           ·intro w'
            go_simp
            with_reducible rfl
           rotate_left
           ·simp only [Act.put, z1, z2, z3, i64_w, i32_w]
            rfl
           refine pu 7 (some 34) (v := ?_) (a' := ?_) #[true, true, true, true, true, true, true, true, true, false, false] rfl rfl HT_ (fun _ _ _ h => h) (by rfl) ?_ ?_ ?_
           rotate_left
           ·intro w'
            go_simp
            with_reducible rfl
           rotate_left
           ·simp only [Act.put, z1, z2, z3, i64_w, i32_w]
            rfl
           exact norm_ (by simp only [putAll, Act.put, List.setIfInBounds_toArray, List.set_cons_zero, List.set_cons_succ]) (hCont (.slice Ao63 t355.length co63, .slice Ao64 t359.length co64, v364, gb367) _ ⟨hHeld, (by (with_reducible repeat (first | apply Kd.S_alloc | apply Kd.S_drewN | apply Kd.S_drew)); exact Kd.S_mono HO357.out (fun _ hk => ⟨hk.1.2, hk.2⟩)), (by (with_reducible repeat (first | apply Kd.R_alloc | apply Kd.R_drewN | apply Kd.R_drew)); exact Kd.R_mono HO361.out (fun _ hk => hk.2)), (by (with_reducible repeat (first | apply Kd.R_alloc | apply Kd.R_drewN | apply Kd.R_drew)); exact Kd.R_mono HO365.out (fun _ hk => hk.2)), (mb BK350), (mb BK351), (mb BK367), GW367.out, GE367.out, NB350_367.out, NB367_350.out, NB351_367.out, NB367_351.out, (ms HB)⟩)
          skip
          refine box_step ?hg (N := 6) ?hd (cs := #[.int .i64 0, .slice none 0 0]) (t := 33) ?hr ?_; (case hd => rfl); (case hg => rfl); (case hr => first | (go_simp; done) | (go_simp; rfl))
          intro gb367 hg w61 hbox hb
          replace HO357 := bS HO357 hb
          have BK367 := Aside0.mk (hbox)
          have GW367 := gw hg HB
          have GE367 := gw hg HB
          replace HB := bs HB hb
          have NB350_367 := nl hg BK350
          have NB367_350 := ng hg BK350
          replace BK350 := bb BK350 hb
          have NB351_367 := nl hg BK351
          have NB367_351 := ng hg BK351
          replace BK351 := bb BK351 hb
          clear hb hbox hg
          refine hK.out _ _ ⟨(c2 BK350).1, (c2 BK350).2, (c2 BK351).1, (c2 BK351).2⟩ (fun hHeld => ?_)
          clear hK K
          refine norm_ (a' := ?_) ?_ ?_
          rotate_left
          ·show Act.put _ (some 6) _ = _
           simp only [Act.put, z1, z2, z3, i64_w, i32_w]
           rfl
          refine one_ (i := 3) (N := some 31) #[true, true, true, true, false, false, false, false, true, false, false] rfl rfl (one_of HT_.out (by kernel_rfl)) (by decide) (fun K hK => ?_)
          refine gs Try.func26 (by kernel_rfl) rfl #[.agg #[.int .i64 a1_0, .slice A1_1 l1_1.length c1_1]] (by rfl) rfl rfl ?_
          with_reducible refine (laws_toLin.calls k a1_0 _ _ l1_1 t358 t359 _ ?side1 ?side2 A20.out).mono ?_
          (case side1 => exact mc ((Kd.C_below HR1_1.out HB.out)))
          (case side2 => exact HC1_1.out)
          rintro e w62 ⟨v360, rfl, ho0, hb⟩
          refine ⟨_, rfl, ?_⟩
          replace HO357 := lS HO357 ho0 hb
          have HO361 := Aside0.mk (Kd.R_lower ho0 (below_size (ms HB)))
          replace BK350 := bb BK350 hb
          replace BK351 := bb BK351 hb
          replace BK367 := bb BK367 hb
          replace HB := bs HB hb
          (try clear hb)
          (try clear hb2)
          (try clear hk)
          (try clear hi)
          (try clear ho0)
          obtain ⟨Ao63, co63, eo63⟩ := Kd.S_slice HO357.out
          (first | subst eo63 | (injection eo63 with f1_ f2_ f3_; have f4_ := f1_.symm; have f5_ := f3_.symm; clear f1_ f2_ f3_; subst f4_; subst f5_))
          obtain ⟨Ao64, co64, eo64⟩ := Kd.R_slice HO361.out
          (first | subst eo64 | (injection eo64 with f1_ f2_ f3_; have f4_ := f1_.symm; have f5_ := f3_.symm; clear f1_ f2_ f3_; subst f4_; subst f5_))
          refine hK.out _ _ ⟨(c2 BK350).1, (c2 BK350).2, (c2 BK351).1, (c2 BK351).2⟩ (fun hHeld => ?_)
          clear hK K
          refine norm_ (a' := ?_) ?_ ?_
          rotate_left
          ·show Act.put _ (some 31) _ = _
           simp only [Act.put, z1, z2, z3, i64_w, i32_w]
           rfl
          refine one_ (i := 4) (N := some 32) #[true, true, true, true, true, false, false, false, true, false, false] rfl rfl (one_of HT_.out (by kernel_rfl)) (by decide) (fun K hK => ?_)
          refine gs Try.func16 (by kernel_rfl) rfl #[.agg #[.int .i64 t354, .slice Ao63 t355.length co63], .agg #[.int .i64 t358, .slice Ao64 t359.length co64]] (by rfl) rfl rfl ?_
          with_reducible refine (spec_FindFarkas.calls k t354 _ _ t355 t358 _ _ t359 t362 t363 t366 _ ?side1 ?side2 ?side3 ?side4 A21.out).mono ?_
          (case side1 => exact mc ((Kd.S_reads' HO357.out).2.2))
          (case side2 => exact (Kd.S_reads' HO357.out).2.1)
          (case side3 => exact mc ((Kd.R_reads' HO361.out).2.2))
          (case side4 => exact (Kd.R_reads' HO361.out).2.1)
          rintro e w65 ⟨v364, rfl, ho0, hb⟩
          refine ⟨_, rfl, ?_⟩
          replace HO357 := lS HO357 ho0 hb
          have HO365 := Aside0.mk (Kd.R_lower (Kd.R_new' ho0 (Kd.R_lt (mr HO361))) (below_size (ms HB)))
          replace HO361 := rl HO361 ho0 hb
          replace BK350 := bb BK350 hb
          replace BK351 := bb BK351 hb
          replace BK367 := bb BK367 hb
          replace HB := bs HB hb
          (try clear hb)
          (try clear hb2)
          (try clear hk)
          (try clear hi)
          (try clear ho0)
          refine hK.out _ _ ⟨(c2 BK350).1, (c2 BK350).2, (c2 BK351).1, (c2 BK351).2⟩ (fun hHeld => ?_)
          clear hK K
          refine norm_ (a' := ?_) ?_ ?_
          rotate_left
          ·show Act.put _ (some 32) _ = _
           simp only [Act.put, z1, z2, z3, i64_w, i32_w]
           rfl
          refine pu 5 (some 27) (v := ?_) (a' := ?_) #[true, true, true, true, true, true, false, false, true, false, false] rfl rfl HT_ (fun _ _ _ h => h) (by rfl) ?_ ?_ ?_
          rotate_left
          ·intro w'
           go_simp
           with_reducible rfl
          rotate_left
          ·simp only [Act.put, z1, z2, z3, i64_w, i32_w]
           rfl
          refine pu 6 (some 33) (v := ?_) (a' := ?_) #[true, true, true, true, true, true, true, false, true, false, false] rfl rfl HT_ (fun _ _ _ h => h) (by rfl) ?_ ?_ ?_
          rotate_left
          ·intro w'
           go_simp
           with_reducible rfl
          rotate_left
          ·simp only [Act.put, z1, z2, z3, i64_w, i32_w]
           rfl
          refine pu 7 (some 34) (v := ?_) (a' := ?_) #[true, true, true, true, true, true, true, true, true, false, false] rfl rfl HT_ (fun _ _ _ h => h) (by rfl) ?_ ?_ ?_
          rotate_left
          ·intro w'
           go_simp
           with_reducible rfl
          rotate_left
          ·simp only [Act.put, z1, z2, z3, i64_w, i32_w]
           rfl
          exact norm_ (by simp only [putAll, Act.put, List.setIfInBounds_toArray, List.set_cons_zero, List.set_cons_succ]) (hCont (.slice Ao63 t355.length co63, .slice Ao64 t359.length co64, v364, gb367) _ ⟨hHeld, (by (with_reducible repeat (first | apply Kd.S_alloc | apply Kd.S_drewN | apply Kd.S_drew)); exact Kd.S_mono HO357.out (fun _ hk => ⟨hk.1.2, hk.2⟩)), (by (with_reducible repeat (first | apply Kd.R_alloc | apply Kd.R_drewN | apply Kd.R_drew)); exact Kd.R_mono HO361.out (fun _ hk => hk.2)), (by (with_reducible repeat (first | apply Kd.R_alloc | apply Kd.R_drewN | apply Kd.R_drew)); exact Kd.R_mono HO365.out (fun _ hk => hk.2)), (mb BK350), (mb BK351), (mb BK367), GW367.out, GE367.out, NB350_367.out, NB367_350.out, NB351_367.out, NB367_351.out, (ms HB)⟩)
         skip
         refine box_step ?hg (N := 6) ?hd (cs := #[.int .i64 0, .slice none 0 0]) (t := 33) ?hr ?_; (case hd => rfl); (case hg => rfl); (case hr => first | (go_simp; done) | (go_simp; rfl))
         intro gb367 hg w60 hbox hb
         have BK367 := Aside0.mk (hbox)
         have GW367 := gw hg HB
         have GE367 := gw hg HB
         replace HB := bs HB hb
         have NB350_367 := nl hg BK350
         have NB367_350 := ng hg BK350
         replace BK350 := bb BK350 hb
         have NB351_367 := nl hg BK351
         have NB367_351 := ng hg BK351
         replace BK351 := bb BK351 hb
         clear hb hbox hg
         refine hK.out _ _ ⟨(c2 BK350).1, (c2 BK350).2, (c2 BK351).1, (c2 BK351).2⟩ (fun hHeld => ?_)
         clear hK K
         refine norm_ (a' := ?_) ?_ ?_
         rotate_left
         ·show Act.put _ (some 6) _ = _
          simp only [Act.put, z1, z2, z3, i64_w, i32_w]
          rfl
         refine one_ (i := 1) (N := some 29) #[true, true, true, false, false, false, false, false, true, false, false] rfl rfl (one_of HT_.out (by kernel_rfl)) (by decide) (fun K hK => ?_)
         refine gs Try.func25 (by kernel_rfl) rfl #[.agg #[.int .i64 a0_0, .slice A0_1 l0_1.length c0_1]] (by rfl) rfl rfl ?_
         with_reducible refine (laws_toSystem.calls k a0_0 _ _ l0_1 t354 t355 _ ?side1 ?side2 A19.out).mono ?_
         (case side1 => exact mc ((Kd.C_below HR0_1.out HB.out)))
         (case side2 => exact HC0_1.out)
         rintro e w61 ⟨v356, rfl, ho0, hb⟩
         refine ⟨_, rfl, ?_⟩
         have HO357 := Aside0.mk (Kd.S_lower ho0 (below_size (ms HB)))
         replace BK350 := bb BK350 hb
         replace BK351 := bb BK351 hb
         replace BK367 := bb BK367 hb
         replace HB := bs HB hb
         (try clear hb)
         (try clear hb2)
         (try clear hk)
         (try clear hi)
         (try clear ho0)
         refine hK.out _ _ ⟨(c2 BK350).1, (c2 BK350).2, (c2 BK351).1, (c2 BK351).2⟩ (fun hHeld => ?_)
         clear hK K
         refine norm_ (a' := ?_) ?_ ?_
         rotate_left
         ·show Act.put _ (some 29) _ = _
          simp only [Act.put, z1, z2, z3, i64_w, i32_w]
          rfl
         refine one_ (i := 3) (N := some 31) #[true, true, true, true, false, false, false, false, true, false, false] rfl rfl (one_of HT_.out (by kernel_rfl)) (by decide) (fun K hK => ?_)
         refine gs Try.func26 (by kernel_rfl) rfl #[.agg #[.int .i64 a1_0, .slice A1_1 l1_1.length c1_1]] (by rfl) rfl rfl ?_
         with_reducible refine (laws_toLin.calls k a1_0 _ _ l1_1 t358 t359 _ ?side1 ?side2 A20.out).mono ?_
         (case side1 => exact mc ((Kd.C_below HR1_1.out HB.out)))
         (case side2 => exact HC1_1.out)
         rintro e w62 ⟨v360, rfl, ho0, hb⟩
         refine ⟨_, rfl, ?_⟩
         replace HO357 := lS HO357 ho0 hb
         have HO361 := Aside0.mk (Kd.R_lower ho0 (below_size (ms HB)))
         replace BK350 := bb BK350 hb
         replace BK351 := bb BK351 hb
         replace BK367 := bb BK367 hb
         replace HB := bs HB hb
         (try clear hb)
         (try clear hb2)
         (try clear hk)
         (try clear hi)
         (try clear ho0)
         obtain ⟨Ao63, co63, eo63⟩ := Kd.S_slice HO357.out
         (first | subst eo63 | (injection eo63 with f1_ f2_ f3_; have f4_ := f1_.symm; have f5_ := f3_.symm; clear f1_ f2_ f3_; subst f4_; subst f5_))
         obtain ⟨Ao64, co64, eo64⟩ := Kd.R_slice HO361.out
         (first | subst eo64 | (injection eo64 with f1_ f2_ f3_; have f4_ := f1_.symm; have f5_ := f3_.symm; clear f1_ f2_ f3_; subst f4_; subst f5_))
         refine hK.out _ _ ⟨(c2 BK350).1, (c2 BK350).2, (c2 BK351).1, (c2 BK351).2⟩ (fun hHeld => ?_)
         clear hK K
         refine norm_ (a' := ?_) ?_ ?_
         rotate_left
         ·show Act.put _ (some 31) _ = _
          simp only [Act.put, z1, z2, z3, i64_w, i32_w]
          rfl
         refine one_ (i := 4) (N := some 32) #[true, true, true, true, true, false, false, false, true, false, false] rfl rfl (one_of HT_.out (by kernel_rfl)) (by decide) (fun K hK => ?_)
         refine gs Try.func16 (by kernel_rfl) rfl #[.agg #[.int .i64 t354, .slice Ao63 t355.length co63], .agg #[.int .i64 t358, .slice Ao64 t359.length co64]] (by rfl) rfl rfl ?_
         with_reducible refine (spec_FindFarkas.calls k t354 _ _ t355 t358 _ _ t359 t362 t363 t366 _ ?side1 ?side2 ?side3 ?side4 A21.out).mono ?_
         (case side1 => exact mc ((Kd.S_reads' HO357.out).2.2))
         (case side2 => exact (Kd.S_reads' HO357.out).2.1)
         (case side3 => exact mc ((Kd.R_reads' HO361.out).2.2))
         (case side4 => exact (Kd.R_reads' HO361.out).2.1)
         rintro e w65 ⟨v364, rfl, ho0, hb⟩
         refine ⟨_, rfl, ?_⟩
         replace HO357 := lS HO357 ho0 hb
         have HO365 := Aside0.mk (Kd.R_lower (Kd.R_new' ho0 (Kd.R_lt (mr HO361))) (below_size (ms HB)))
         replace HO361 := rl HO361 ho0 hb
         replace BK350 := bb BK350 hb
         replace BK351 := bb BK351 hb
         replace BK367 := bb BK367 hb
         replace HB := bs HB hb
         (try clear hb)
         (try clear hb2)
         (try clear hk)
         (try clear hi)
         (try clear ho0)
         refine hK.out _ _ ⟨(c2 BK350).1, (c2 BK350).2, (c2 BK351).1, (c2 BK351).2⟩ (fun hHeld => ?_)
         clear hK K
         refine norm_ (a' := ?_) ?_ ?_
         rotate_left
         ·show Act.put _ (some 32) _ = _
          simp only [Act.put, z1, z2, z3, i64_w, i32_w]
          rfl
         refine pu 5 (some 27) (v := ?_) (a' := ?_) #[true, true, true, true, true, true, false, false, true, false, false] rfl rfl HT_ (fun _ _ _ h => h) (by rfl) ?_ ?_ ?_
         rotate_left
         ·intro w'
          go_simp
          with_reducible rfl
         rotate_left
         ·simp only [Act.put, z1, z2, z3, i64_w, i32_w]
          rfl
         refine pu 6 (some 33) (v := ?_) (a' := ?_) #[true, true, true, true, true, true, true, false, true, false, false] rfl rfl HT_ (fun _ _ _ h => h) (by rfl) ?_ ?_ ?_
         rotate_left
         ·intro w'
          go_simp
          with_reducible rfl
         rotate_left
         ·simp only [Act.put, z1, z2, z3, i64_w, i32_w]
          rfl
         refine pu 7 (some 34) (v := ?_) (a' := ?_) #[true, true, true, true, true, true, true, true, true, false, false] rfl rfl HT_ (fun _ _ _ h => h) (by rfl) ?_ ?_ ?_
         rotate_left
         ·intro w'
          go_simp
          with_reducible rfl
         rotate_left
         ·simp only [Act.put, z1, z2, z3, i64_w, i32_w]
          rfl
         exact norm_ (by simp only [putAll, Act.put, List.setIfInBounds_toArray, List.set_cons_zero, List.set_cons_succ]) (hCont (.slice Ao63 t355.length co63, .slice Ao64 t359.length co64, v364, gb367) _ ⟨hHeld, (by (with_reducible repeat (first | apply Kd.S_alloc | apply Kd.S_drewN | apply Kd.S_drew)); exact Kd.S_mono HO357.out (fun _ hk => ⟨hk.1.2, hk.2⟩)), (by (with_reducible repeat (first | apply Kd.R_alloc | apply Kd.R_drewN | apply Kd.R_drew)); exact Kd.R_mono HO361.out (fun _ hk => hk.2)), (by (with_reducible repeat (first | apply Kd.R_alloc | apply Kd.R_drewN | apply Kd.R_drew)); exact Kd.R_mono HO365.out (fun _ hk => hk.2)), (mb BK350), (mb BK351), (mb BK367), GW367.out, GE367.out, NB350_367.out, NB367_350.out, NB351_367.out, NB367_351.out, (ms HB)⟩)
        rintro ⟨v356, v360, v364, gb367⟩ w66 ⟨hS_, h0_, h1_, h2_, h3_, h4_, h5_, h6_, h7_, h8_, h9_, h10_, h11_, h12_⟩
        have n0_ : Aside0 (Kd.S k29 29 w66 w.heap.size (fun k_ => some k_ ≠ (v360 : Value).ownBlock ∧ some k_ ≠ (v364 : Value).ownBlock) v356 t355) := ⟨h0_⟩
        have n1_ : Aside0 (Kd.R (Kd.int .i64) 3 w66 w.heap.size (fun k_ => some k_ ≠ (v364 : Value).ownBlock) v360 t359) := ⟨h1_⟩
        have n2_ : Aside0 (Kd.R (Kd.int .i64) 3 w66 w.heap.size (fun k_ => some k_ ≠ (v360 : Value).ownBlock) v364 t363) := ⟨h2_⟩
        have n3_ : Aside0 (w66.heap[gb350]? = some (.cells #[.int .i64 a0_0, .slice A0_1 l0_1.length c0_1] 42 (0, 0))) := ⟨h3_⟩
        have n4_ : Aside0 (w66.heap[gb351]? = some (.cells #[.int .i64 a1_0, .slice A1_1 l1_1.length c1_1] 43 (0, 0))) := ⟨h4_⟩
        have n5_ : Aside0 (w66.heap[gb367]? = some (.cells #[.int .i64 0, .slice none 0 0] 33 (0, 0))) := ⟨h5_⟩
        have n6_ : Aside0 (w.heap.size ≤ gb367) := ⟨h6_⟩
        have n7_ : Aside0 (w.heap.size ≤ gb367) := ⟨h7_⟩
        have n8_ : Aside0 (gb350 ≠ gb367) := ⟨h8_⟩
        have n9_ : Aside0 (gb367 ≠ gb350) := ⟨h9_⟩
        have n10_ : Aside0 (gb351 ≠ gb367) := ⟨h10_⟩
        have n11_ : Aside0 (gb367 ≠ gb351) := ⟨h11_⟩
        have n12_ : Aside0 (Below w.heap.size w w66) := ⟨h12_⟩
        clear BK350
        clear BK351
        clear HB
        clear h0_ h1_ h2_ h3_ h4_ h5_ h6_ h7_ h8_ h9_ h10_ h11_ h12_
        have HO357 := n0_
        have HO361 := n1_
        have HO365 := n2_
        have BK350 := n3_
        have BK351 := n4_
        have BK367 := n5_
        have GW367 := n6_
        have GE367 := n7_
        have NB350_367 := n8_
        have NB367_350 := n9_
        have NB351_367 := n10_
        have NB367_351 := n11_
        have HB := n12_
        clear n0_ n1_ n2_ n3_ n4_ n5_ n6_ n7_ n8_ n9_ n10_ n11_ n12_
        have hHeld : w66.cell? ⟨gb350, 0, none⟩ = some (.int .i64 a0_0) ∧ w66.cell? ⟨gb350, 1, none⟩ = some (.slice A0_1 l0_1.length c0_1) ∧ w66.cell? ⟨gb351, 0, none⟩ = some (.int .i64 a1_0) ∧ w66.cell? ⟨gb351, 1, none⟩ = some (.slice A1_1 l1_1.length c1_1) := hS_
        obtain ⟨Ao68, co68, eo68⟩ := Kd.R_slice HO365.out
        (first | subst eo68 | (injection eo68 with f1_ f2_ f3_; have f4_ := f1_.symm; have f5_ := f3_.symm; clear f1_ f2_ f3_; subst f4_; subst f5_))
        refine norm_ (a' := ?_) ?_ ?_
        rotate_left
        ·simp only [putAll, Act.put, List.setIfInBounds_toArray, List.set_cons_zero, List.set_cons_succ]
         rfl
        refine one_ (i := 9) (N := none) #[true, true, true, true, true, true, true, true, true, true, false] rfl rfl (one_of HT_.out (by kernel_rfl)) (by decide) (fun K hK => ?_)
        have hs67 : w66.cell? ⟨gb367, 0, none⟩ = some (.int .i64 0) := (blk_cell BK367.out 0).trans rfl
        have hfs67 := blk_frozen BK367.out 0
        have hns67_0 := NB350_367.out
        have hns67_1 := NB351_367.out
        have hms67_0 := NB367_350.out
        have hms67_1 := NB367_351.out
        have hs69 : w66.cell? ⟨gb367, 1, none⟩ = some (.slice none 0 0) := (blk_cell BK367.out 1).trans rfl
        have hfs69 := blk_frozen BK367.out 1
        have hns69_0 := NB350_367.out
        have hns69_1 := NB351_367.out
        have hms69_0 := NB367_350.out
        have hms69_1 := NB367_351.out
        refine skip_ (w1 := ?_) (by rfl) rfl ?_ ?_
        rotate_left
        ·go_simp
         rfl
        refine hK.out _ _ ⟨((cell_far (p := ⟨gb367, _, none⟩) NB350_367.out _).trans (((cell_far (p := ⟨gb367, _, none⟩) NB350_367.out _).trans (hHeld.1)))), ((cell_far (p := ⟨gb367, _, none⟩) NB350_367.out _).trans (((cell_far (p := ⟨gb367, _, none⟩) NB350_367.out _).trans (hHeld.2.1)))), ((cell_far (p := ⟨gb367, _, none⟩) NB351_367.out _).trans (((cell_far (p := ⟨gb367, _, none⟩) NB351_367.out _).trans (hHeld.2.2.1)))), ((cell_far (p := ⟨gb367, _, none⟩) NB351_367.out _).trans (((cell_far (p := ⟨gb367, _, none⟩) NB351_367.out _).trans (hHeld.2.2.2))))⟩ (fun hHeld => ?_)
        clear hK K
        refine pu 10 (some 7) (v := ?_) (a' := ?_) #[true, true, true, true, true, true, true, true, true, true, true] rfl rfl HT_ (fun _ _ _ h => h) (by rfl) ?_ ?_ ?_
        rotate_left
        ·intro w'
         go_simp
         with_reducible rfl
        rotate_left
        ·simp only [Act.put, z1, z2, z3, i64_w, i32_w]
         rfl
        refine done_ (done_of HT_.out (by kernel_rfl)) ?_
        have := NB350_367.out
        have := NB367_350.out
        obtain ⟨_, _, _, _⟩ := cFour BK350
        have SL350_w66 := Aside0.mk (blk_lt BK350.out : gb350 < w66.heap.size)
        have SL351_w66 := Aside0.mk (blk_lt BK351.out : gb351 < w66.heap.size)
        have n_ := Aside0.mk (Kd.S_mono (Kd.S_bound HO357.out) (fun k_ hk_ => (⟨hk_.1, hk_.2.2.1⟩ : _ ∧ k_ < w66.heap.size)))
        clear HO357
        have HO357 := n_
        clear n_
        have n_ := Aside0.mk (Kd.R_mono (Kd.R_bound HO361.out) (fun k_ hk_ => (⟨hk_.1, hk_.2.2.1⟩ : _ ∧ k_ < w66.heap.size)))
        clear HO361
        have HO361 := n_
        clear n_
        have n_ := Aside0.mk (Kd.R_mono (Kd.R_bound HO365.out) (fun k_ hk_ => (⟨hk_.1, hk_.2.2.1⟩ : _ ∧ k_ < w66.heap.size)))
        clear HO365
        have HO365 := n_
        clear n_
        have SL367_w66 := Aside0.mk (blk_lt BK367.out : gb367 < w66.heap.size)
        try go_wp2_with (first | ((with_reducible refine gate_callee (f := 25) rfl ?_); refine gl (some 36) rfl rfl Try.func25 (by kernel_rfl) rfl #[.agg #[.int .i64 a0_0, .slice A0_1 l0_1.length c0_1]] rfl ?_; (with_reducible refine (laws_toSystem.calls k a0_0 _ _ l0_1 t368 t369 _ ?side1 ?side2 A22.out).mono ?_); (case side1 => exact Kd.C_below HR0_1.out (ms HB)); (case side2 => exact HC0_1.out); rintro e w72 ⟨v370, rfl, ho0, hb⟩; refine ⟨_, rfl, ?_⟩; have n0_ := Aside0.mk (Kd.S_elder' (by (with_reducible repeat (first | apply Kd.S_alloc | apply Kd.S_drewN | apply Kd.S_drew)); exact (Kd.S_mono (Kd.S_far (p := ⟨gb367, 1, none⟩) (Kd.S_far (p := ⟨gb367, 0, none⟩) (Kd.S_types HO357.out BK367.out (by decide)) (fun _ hk => hk.2) (.int .i64 t362)) (fun _ hk => hk.2) (.slice Ao68 t363.length co68)) (fun _ h_ => h_.1))) (Kd.S_base ho0) hb); have n1_ := Aside0.mk (Kd.R_below (by (with_reducible repeat (first | apply Kd.R_alloc | apply Kd.R_drewN | apply Kd.R_drew)); exact (rTwo HO361 BK367)) hb); have n2_ := Aside0.mk (Kd.R_below (by (with_reducible repeat (first | apply Kd.R_alloc | apply Kd.R_drewN | apply Kd.R_drew)); exact (rTwo HO365 BK367)) hb); have n3_ := Aside0.mk ((Kd.S_newer (Kd.andM_iso _ _ (Kd.andM_pair (Kd.andM_scalar _ _) (Kd.andM_slice _ rfl))) ho0 (Kd.S_lower (Kd.S_new' (Kd.S_new' (Kd.S_new' ho0 (Kd.S_lt (by (with_reducible repeat (first | apply Kd.S_alloc | apply Kd.S_drewN | apply Kd.S_drew)); exact (Kd.S_mono (Kd.S_far (p := ⟨gb367, 1, none⟩) (Kd.S_far (p := ⟨gb367, 0, none⟩) (Kd.S_types HO357.out BK367.out (by decide)) (fun _ hk => hk.2) (.int .i64 t362)) (fun _ hk => hk.2) (.slice Ao68 t363.length co68)) (fun _ h_ => h_.1))))) (Kd.R_lt (by (with_reducible repeat (first | apply Kd.R_alloc | apply Kd.R_drewN | apply Kd.R_drew)); exact (rTwo HO361 BK367)))) (Kd.R_lt (by (with_reducible repeat (first | apply Kd.R_alloc | apply Kd.R_drewN | apply Kd.R_drew)); exact (rTwo HO365 BK367)))) (below_size (ms HB))) (N := w66.heap.size) (show Kept w66 _ (fun _ => True) from by repeat (first | exact Kept.refl _ _ | apply Kept.alloc | apply Kept.drewN | apply Kept.drew | refine Kept.setCell ?_ (.inl trivial) _)).1 (below_size (ms HB)))); have n4_ := bf BK350 hb; have n5_ := bf BK351 hb; have n6_ := bp BK367 hb; have n7_ := bs HB hb; clear HO357 HO361 HO365 BK350 BK351 BK367 HB; have HO357 := n0_; have HO361 := n1_; have HO365 := n2_; have HO371 := n3_; have BK350 := n4_; have BK351 := n5_; have BK367 := n6_; have HB := n7_; clear n0_ n1_ n2_ n3_ n4_ n5_ n6_ n7_; (try clear hb); (try clear ho0); have SL350_w72 := Aside0.mk (blk_lt BK350.out : gb350 < w72.heap.size); have SL351_w72 := Aside0.mk (blk_lt BK351.out : gb351 < w72.heap.size); have n_ := Aside0.mk (Kd.S_mono (Kd.S_bound HO357.out) (fun k_ hk_ => (⟨hk_.1, hk_.2.2.1⟩ : _ ∧ k_ < w72.heap.size))); clear HO357; have HO357 := n_; clear n_; have n_ := Aside0.mk (Kd.R_mono (Kd.R_bound HO361.out) (fun k_ hk_ => (⟨hk_.1, hk_.2.2.1⟩ : _ ∧ k_ < w72.heap.size))); clear HO361; have HO361 := n_; clear n_; have n_ := Aside0.mk (Kd.R_mono (Kd.R_bound HO365.out) (fun k_ hk_ => (⟨hk_.1, hk_.2.2.1⟩ : _ ∧ k_ < w72.heap.size))); clear HO365; have HO365 := n_; clear n_; have SL367_w72 := Aside0.mk (blk_lt BK367.out : gb367 < w72.heap.size); have n_ := Aside0.mk (Kd.S_mono (Kd.S_bound HO371.out) (fun k_ hk_ => (⟨hk_.1, hk_.2.2.1⟩ : _ ∧ k_ < w72.heap.size))); clear HO371; have HO371 := n_; clear n_) | ((with_reducible refine gate_dst (N := 8) rfl ?_); refine box_event ?hg (N := 8) ?hd (cs := #[.int .i64 0, .slice none 0 0]) (t := 26) ?hr ?_; (case hd => rfl); (case hg => rfl); (case hr => first | (go_simp; done) | (go_simp; rfl)); intro gb372 hg w73 hbox hb; have n0_ := Aside0.mk ((by rw [hg]; exact (show Kept w72 _ (fun _ => True) from by repeat (first | exact Kept.refl _ _ | apply Kept.alloc | apply Kept.drewN | apply Kept.drew | refine Kept.setCell ?_ (.inl trivial) _)).1 : w72.heap.size ≤ gb372)); have n1_ := bS HO357 hb; have n2_ := rb HO361 hb; have n3_ := rb HO365 hb; have n4_ := bS HO371 hb; have n5_ := bb BK350 hb; have n6_ := bb BK351 hb; have n7_ := bb BK367 hb; have n8_ := bs HB hb; have n9_ := Aside0.mk (hbox); have n10_ := gw hg HB; have n11_ := gw hg HB; have n12_ := nl hg BK350; have n13_ := ng hg BK350; have n14_ := nl hg BK351; have n15_ := ng hg BK351; have n16_ := nl hg BK367; have n17_ := ng hg BK367; clear HO357 HO361 HO365 HO371 BK350 BK351 BK367 HB; have SG372_w72 := n0_; have HO357 := n1_; have HO361 := n2_; have HO365 := n3_; have HO371 := n4_; have BK350 := n5_; have BK351 := n6_; have BK367 := n7_; have HB := n8_; have BK372 := n9_; have GW372 := n10_; have GE372 := n11_; have NB350_372 := n12_; have NB372_350 := n13_; have NB351_372 := n14_; have NB372_351 := n15_; have NB367_372 := n16_; have NB372_367 := n17_; clear n0_ n1_ n2_ n3_ n4_ n5_ n6_ n7_ n8_ n9_ n10_ n11_ n12_ n13_ n14_ n15_ n16_ n17_; clear hb hbox hg; have := NB372_350.out; have := NB350_372.out; have := NB372_351.out; have := NB351_372.out; have := NB372_367.out; have := NB367_372.out; obtain ⟨_, _, _, _⟩ := cFour BK372; obtain ⟨Ao78, co78, eo78⟩ := Kd.S_slice HO371.out; subst eo78; have := NB351_367.out; have := NB367_351.out; obtain ⟨_, _, _, _⟩ := cFour BK351; have SL350_w73 := Aside0.mk (blk_lt BK350.out : gb350 < w73.heap.size); have SL351_w73 := Aside0.mk (blk_lt BK351.out : gb351 < w73.heap.size); have n_ := Aside0.mk (Kd.S_mono (Kd.S_bound HO357.out) (fun k_ hk_ => (⟨hk_.1, hk_.2.2.1⟩ : _ ∧ k_ < w73.heap.size))); clear HO357; have HO357 := n_; clear n_; have n_ := Aside0.mk (Kd.R_mono (Kd.R_bound HO361.out) (fun k_ hk_ => (⟨hk_.1, hk_.2.2.1⟩ : _ ∧ k_ < w73.heap.size))); clear HO361; have HO361 := n_; clear n_; have n_ := Aside0.mk (Kd.R_mono (Kd.R_bound HO365.out) (fun k_ hk_ => (⟨hk_.1, hk_.2.2.1⟩ : _ ∧ k_ < w73.heap.size))); clear HO365; have HO365 := n_; clear n_; have SL367_w73 := Aside0.mk (blk_lt BK367.out : gb367 < w73.heap.size); have n_ := Aside0.mk (Kd.S_mono (Kd.S_bound HO371.out) (fun k_ hk_ => (⟨hk_.1, hk_.2.2.1⟩ : _ ∧ k_ < w73.heap.size))); clear HO371; have HO371 := n_; clear n_; have SL372_w73 := Aside0.mk (blk_lt BK372.out : gb372 < w73.heap.size)) | ((with_reducible refine gate_callee (f := 26) rfl ?_); refine gl (some 38) rfl rfl Try.func26 (by kernel_rfl) rfl #[.agg #[.int .i64 a1_0, .slice A1_1 l1_1.length c1_1]] rfl ?_; (with_reducible refine (laws_toLin.calls k a1_0 _ _ l1_1 t373 t374 _ ?side1 ?side2 A23.out).mono ?_); (case side1 => exact Kd.C_below HR1_1.out (ms HB)); (case side2 => exact HC1_1.out); rintro e w81 ⟨v375, rfl, ho0, hb⟩; refine ⟨_, rfl, ?_⟩; have n0_ := Aside0.mk (Kd.S_elder' (by (with_reducible repeat (first | apply Kd.S_alloc | apply Kd.S_drewN | apply Kd.S_drew)); exact (Kd.S_mono (Kd.S_far (p := ⟨gb372, 1, none⟩) (Kd.S_far (p := ⟨gb372, 0, none⟩) (Kd.S_types HO357.out BK372.out (by decide)) (fun _ hk => hk.2) (.int .i64 t368)) (fun _ hk => hk.2) (.slice Ao78 t369.length co78)) (fun _ h_ => h_.1))) (Kd.R_base ho0) hb); have n1_ := Aside0.mk (Kd.R_elder' (by (with_reducible repeat (first | apply Kd.R_alloc | apply Kd.R_drewN | apply Kd.R_drew)); exact (rTwo HO361 BK372)) (Kd.R_base ho0) hb); have n2_ := Aside0.mk (Kd.R_elder' (by (with_reducible repeat (first | apply Kd.R_alloc | apply Kd.R_drewN | apply Kd.R_drew)); exact (rTwo HO365 BK372)) (Kd.R_base ho0) hb); have n3_ := Aside0.mk (Kd.S_elder' (by (with_reducible repeat (first | apply Kd.S_alloc | apply Kd.S_drewN | apply Kd.S_drew)); exact (Kd.S_mono (Kd.S_far (p := ⟨gb372, 1, none⟩) (Kd.S_far (p := ⟨gb372, 0, none⟩) (Kd.S_types HO371.out BK372.out (by decide)) (fun _ hk => hk.2) (.int .i64 t368)) (fun _ hk => hk.2) (.slice Ao78 t369.length co78)) (fun _ h_ => h_.1))) (Kd.R_base ho0) hb); have n4_ := Aside0.mk ((Kd.R_newer rfl ho0 (Kd.R_lower (Kd.R_new' (Kd.R_new' ho0 (Kd.R_lt (by (with_reducible repeat (first | apply Kd.R_alloc | apply Kd.R_drewN | apply Kd.R_drew)); exact (rTwo HO361 BK372)))) (Kd.R_lt (by (with_reducible repeat (first | apply Kd.R_alloc | apply Kd.R_drewN | apply Kd.R_drew)); exact (rTwo HO365 BK372)))) (below_size (ms HB))) (N := w73.heap.size) (show Kept w73 _ (fun _ => True) from by repeat (first | exact Kept.refl _ _ | apply Kept.alloc | apply Kept.drewN | apply Kept.drew | refine Kept.setCell ?_ (.inl trivial) _)).1)); have n5_ := bf BK350 hb; have n6_ := bf BK351 hb; have n7_ := bf BK367 hb; have n8_ := bp BK372 hb; have n9_ := bs HB hb; clear HO357 HO361 HO365 HO371 BK350 BK351 BK367 BK372 HB; have HO357 := n0_; have HO361 := n1_; have HO365 := n2_; have HO371 := n3_; have HO376 := n4_; have BK350 := n5_; have BK351 := n6_; have BK367 := n7_; have BK372 := n8_; have HB := n9_; clear n0_ n1_ n2_ n3_ n4_ n5_ n6_ n7_ n8_ n9_; (try clear hb); (try clear ho0); have SL350_w81 := Aside0.mk (blk_lt BK350.out : gb350 < w81.heap.size); have SL351_w81 := Aside0.mk (blk_lt BK351.out : gb351 < w81.heap.size); have n_ := Aside0.mk (Kd.S_mono (Kd.S_bound HO357.out) (fun k_ hk_ => (⟨hk_.1, hk_.2.2.1⟩ : _ ∧ k_ < w81.heap.size))); clear HO357; have HO357 := n_; clear n_; have n_ := Aside0.mk (Kd.R_mono (Kd.R_bound HO361.out) (fun k_ hk_ => (⟨hk_.1, hk_.2.2.1⟩ : _ ∧ k_ < w81.heap.size))); clear HO361; have HO361 := n_; clear n_; have n_ := Aside0.mk (Kd.R_mono (Kd.R_bound HO365.out) (fun k_ hk_ => (⟨hk_.1, hk_.2.2.1⟩ : _ ∧ k_ < w81.heap.size))); clear HO365; have HO365 := n_; clear n_; have SL367_w81 := Aside0.mk (blk_lt BK367.out : gb367 < w81.heap.size); have n_ := Aside0.mk (Kd.S_mono (Kd.S_bound HO371.out) (fun k_ hk_ => (⟨hk_.1, hk_.2.2.1⟩ : _ ∧ k_ < w81.heap.size))); clear HO371; have HO371 := n_; clear n_; have SL372_w81 := Aside0.mk (blk_lt BK372.out : gb372 < w81.heap.size); have n_ := Aside0.mk (Kd.R_mono (Kd.R_bound HO376.out) (fun k_ hk_ => (⟨hk_.1, hk_.2.2.1⟩ : _ ∧ k_ < w81.heap.size))); clear HO376; have HO376 := n_; clear n_) | ((with_reducible refine gate_dst (N := 9) rfl ?_); refine box_event ?hg (N := 9) ?hd (cs := #[.int .i64 0, .slice none 0 0]) (t := 29) ?hr ?_; (case hd => rfl); (case hg => rfl); (case hr => first | (go_simp; done) | (go_simp; rfl)); intro gb377 hg w82 hbox hb; have n0_ := Aside0.mk ((by rw [hg]; exact (show Kept w81 _ (fun _ => True) from by repeat (first | exact Kept.refl _ _ | apply Kept.alloc | apply Kept.drewN | apply Kept.drew | refine Kept.setCell ?_ (.inl trivial) _)).1 : w81.heap.size ≤ gb377)); have n1_ := Aside0.mk (Kd.S_below (Kd.S_elderB (mS HO357) gb377 (Nat.le_of_eq hg.symm)) hb); have n2_ := rb HO361 hb; have n3_ := rb HO365 hb; have n4_ := Aside0.mk (Kd.S_below (Kd.S_elderB (mS HO371) gb377 (Nat.le_of_eq hg.symm)) hb); have n5_ := rb HO376 hb; have n6_ := bb BK350 hb; have n7_ := bb BK351 hb; have n8_ := bb BK367 hb; have n9_ := bb BK372 hb; have n10_ := bs HB hb; have n11_ := Aside0.mk (hbox); have n12_ := gw hg HB; have n13_ := gw hg HB; have n14_ := nl hg BK350; have n15_ := ng hg BK350; have n16_ := nl hg BK351; have n17_ := ng hg BK351; have n18_ := nl hg BK367; have n19_ := ng hg BK367; have n20_ := nl hg BK372; have n21_ := ng hg BK372; clear HO357 HO361 HO365 HO371 HO376 BK350 BK351 BK367 BK372 HB; have SG377_w81 := n0_; have HO357 := n1_; have HO361 := n2_; have HO365 := n3_; have HO371 := n4_; have HO376 := n5_; have BK350 := n6_; have BK351 := n7_; have BK367 := n8_; have BK372 := n9_; have HB := n10_; have BK377 := n11_; have GW377 := n12_; have GE377 := n13_; have NB350_377 := n14_; have NB377_350 := n15_; have NB351_377 := n16_; have NB377_351 := n17_; have NB367_377 := n18_; have NB377_367 := n19_; have NB372_377 := n20_; have NB377_372 := n21_; clear n0_ n1_ n2_ n3_ n4_ n5_ n6_ n7_ n8_ n9_ n10_ n11_ n12_ n13_ n14_ n15_ n16_ n17_ n18_ n19_ n20_ n21_; clear hb hbox hg; have := NB377_350.out; have := NB350_377.out; have := NB377_351.out; have := NB351_377.out; have := NB377_367.out; have := NB367_377.out; have := NB377_372.out; have := NB372_377.out; obtain ⟨_, _, _, _⟩ := cFour BK377; obtain ⟨Ao88, co88, eo88⟩ := Kd.R_slice HO376.out; subst eo88; obtain ⟨_, _, _, _⟩ := cFour BK372; have SL350_w82 := Aside0.mk (blk_lt BK350.out : gb350 < w82.heap.size); have SL351_w82 := Aside0.mk (blk_lt BK351.out : gb351 < w82.heap.size); have n_ := Aside0.mk (Kd.S_mono (Kd.S_bound HO357.out) (fun k_ hk_ => (⟨hk_.1, hk_.2.2.1⟩ : _ ∧ k_ < w82.heap.size))); clear HO357; have HO357 := n_; clear n_; have n_ := Aside0.mk (Kd.R_mono (Kd.R_bound HO361.out) (fun k_ hk_ => (⟨hk_.1, hk_.2.2.1⟩ : _ ∧ k_ < w82.heap.size))); clear HO361; have HO361 := n_; clear n_; have n_ := Aside0.mk (Kd.R_mono (Kd.R_bound HO365.out) (fun k_ hk_ => (⟨hk_.1, hk_.2.2.1⟩ : _ ∧ k_ < w82.heap.size))); clear HO365; have HO365 := n_; clear n_; have SL367_w82 := Aside0.mk (blk_lt BK367.out : gb367 < w82.heap.size); have n_ := Aside0.mk (Kd.S_mono (Kd.S_bound HO371.out) (fun k_ hk_ => (⟨hk_.1, hk_.2.2.1⟩ : _ ∧ k_ < w82.heap.size))); clear HO371; have HO371 := n_; clear n_; have SL372_w82 := Aside0.mk (blk_lt BK372.out : gb372 < w82.heap.size); have n_ := Aside0.mk (Kd.R_mono (Kd.R_bound HO376.out) (fun k_ hk_ => (⟨hk_.1, hk_.2.2.1⟩ : _ ∧ k_ < w82.heap.size))); clear HO376; have HO376 := n_; clear n_; have SL377_w82 := Aside0.mk (blk_lt BK377.out : gb377 < w82.heap.size)) | ((with_reducible refine gate_callee (f := 15) rfl ?_); refine gl (some 42) rfl rfl Try.func15 (by kernel_rfl) rfl #[.agg #[.int .i64 t368, .slice Ao78 t369.length co78], .agg #[.int .i64 t373, .slice Ao88 t374.length co88]] rfl ?_; (with_reducible refine (impl_FindFarkas.calls k t368 _ _ t369 t373 _ _ t374 t378 t379 t382 _ ?side1 ?side2 ?side3 ?side4 A24.out).mono ?_); (case side1 => refine (Kd.S_reads' (e := 29) (base := w.heap.size) (ok := fun k_ => ((((((((((True ∧ some k_ ≠ (v356 : Value).ownBlock) ∧ some k_ ≠ (v360 : Value).ownBlock) ∧ some k_ ≠ (.slice Ao68 t363.length co68 : Value).ownBlock) ∧ w66.heap.size ≤ k_) ∧ k_ < w72.heap.size) ∧ k_ < w73.heap.size) ∧ some k_ ≠ (.slice Ao88 t374.length co88 : Value).ownBlock) ∧ k_ < w81.heap.size) ∧ k_ ≠ gb377) ∧ k_ < w82.heap.size)) (n := t369.length) (c := co78) ?_).2.2; exact (by (with_reducible repeat (first | apply Kd.S_alloc | apply Kd.S_drewN | apply Kd.S_drew)); exact (Kd.S_mono (Kd.S_far (p := ⟨gb377, 1, none⟩) (Kd.S_far (p := ⟨gb377, 0, none⟩) (Kd.S_mono HO371.out (fun k_ hk => (⟨hk, hk.1.2⟩ : _ ∧ k_ ≠ gb377))) (fun _ hk => hk.2) (.int .i64 t373)) (fun _ hk => hk.2) (.slice Ao88 t374.length co88)) (fun _ h_ => h_.1)))); (case side2 => exact (Kd.S_reads' HO371.out).2.1); (case side3 => refine (Kd.R_reads' (e := 3) (base := w.heap.size) (ok := fun k_ => (((((True ∧ some k_ ≠ (v360 : Value).ownBlock) ∧ some k_ ≠ (.slice Ao68 t363.length co68 : Value).ownBlock) ∧ w73.heap.size ≤ k_) ∧ k_ < w81.heap.size) ∧ k_ < w82.heap.size)) (n := t374.length) (c := co88) ?_).2.2; exact (by (with_reducible repeat (first | apply Kd.R_alloc | apply Kd.R_drewN | apply Kd.R_drew)); exact (rTwo HO376 BK377))); (case side4 => exact (Kd.R_reads' HO376.out).2.1); rintro e w90 ⟨v380, rfl, ho0, hb⟩; refine ⟨_, rfl, ?_⟩; have n0_ := Aside0.mk (Kd.S_elder' (by (with_reducible repeat (first | apply Kd.S_alloc | apply Kd.S_drewN | apply Kd.S_drew)); exact (Kd.S_mono (Kd.S_far (p := ⟨gb377, 1, none⟩) (Kd.S_far (p := ⟨gb377, 0, none⟩) (Kd.S_mono HO357.out (fun k_ hk => (⟨hk, hk.1.2⟩ : _ ∧ k_ ≠ gb377))) (fun _ hk => hk.2) (.int .i64 t373)) (fun _ hk => hk.2) (.slice Ao88 t374.length co88)) (fun _ h_ => h_.1))) (Kd.R_base ho0) hb); have n1_ := Aside0.mk (Kd.R_elder' (by (with_reducible repeat (first | apply Kd.R_alloc | apply Kd.R_drewN | apply Kd.R_drew)); exact (rTwo HO361 BK377)) (Kd.R_base ho0) hb); have n2_ := Aside0.mk (Kd.R_elder' (by (with_reducible repeat (first | apply Kd.R_alloc | apply Kd.R_drewN | apply Kd.R_drew)); exact (rTwo HO365 BK377)) (Kd.R_base ho0) hb); have n3_ := Aside0.mk (Kd.S_elder' (by (with_reducible repeat (first | apply Kd.S_alloc | apply Kd.S_drewN | apply Kd.S_drew)); exact (Kd.S_mono (Kd.S_far (p := ⟨gb377, 1, none⟩) (Kd.S_far (p := ⟨gb377, 0, none⟩) (Kd.S_mono HO371.out (fun k_ hk => (⟨hk, hk.1.2⟩ : _ ∧ k_ ≠ gb377))) (fun _ hk => hk.2) (.int .i64 t373)) (fun _ hk => hk.2) (.slice Ao88 t374.length co88)) (fun _ h_ => h_.1))) (Kd.R_base ho0) hb); have n4_ := Aside0.mk (Kd.R_elder' (by (with_reducible repeat (first | apply Kd.R_alloc | apply Kd.R_drewN | apply Kd.R_drew)); exact (rTwo HO376 BK377)) (Kd.R_base ho0) hb); have n5_ := Aside0.mk ((Kd.R_newer rfl ho0 (Kd.R_lower (Kd.R_new' (Kd.R_new' (Kd.R_new' ho0 (Kd.R_lt (by (with_reducible repeat (first | apply Kd.R_alloc | apply Kd.R_drewN | apply Kd.R_drew)); exact (rTwo HO361 BK377)))) (Kd.R_lt (by (with_reducible repeat (first | apply Kd.R_alloc | apply Kd.R_drewN | apply Kd.R_drew)); exact (rTwo HO365 BK377)))) (Kd.R_lt (by (with_reducible repeat (first | apply Kd.R_alloc | apply Kd.R_drewN | apply Kd.R_drew)); exact (rTwo HO376 BK377)))) (below_size (ms HB))) (N := w82.heap.size) (show Kept w82 _ (fun _ => True) from by repeat (first | exact Kept.refl _ _ | apply Kept.alloc | apply Kept.drewN | apply Kept.drew | refine Kept.setCell ?_ (.inl trivial) _)).1)); have n6_ := bf BK350 hb; have n7_ := bf BK351 hb; have n8_ := bf BK367 hb; have n9_ := bf BK372 hb; have n10_ := bp BK377 hb; have n11_ := bs HB hb; clear HO357 HO361 HO365 HO371 HO376 BK350 BK351 BK367 BK372 BK377 HB; have HO357 := n0_; have HO361 := n1_; have HO365 := n2_; have HO371 := n3_; have HO376 := n4_; have HO381 := n5_; have BK350 := n6_; have BK351 := n7_; have BK367 := n8_; have BK372 := n9_; have BK377 := n10_; have HB := n11_; clear n0_ n1_ n2_ n3_ n4_ n5_ n6_ n7_ n8_ n9_ n10_ n11_; (try clear hb); (try clear ho0); have SL350_w90 := Aside0.mk (blk_lt BK350.out : gb350 < w90.heap.size); have SL351_w90 := Aside0.mk (blk_lt BK351.out : gb351 < w90.heap.size); have n_ := Aside0.mk (Kd.S_mono (Kd.S_bound HO357.out) (fun k_ hk_ => (⟨hk_.1, hk_.2.2.1⟩ : _ ∧ k_ < w90.heap.size))); clear HO357; have HO357 := n_; clear n_; have n_ := Aside0.mk (Kd.R_mono (Kd.R_bound HO361.out) (fun k_ hk_ => (⟨hk_.1, hk_.2.2.1⟩ : _ ∧ k_ < w90.heap.size))); clear HO361; have HO361 := n_; clear n_; have n_ := Aside0.mk (Kd.R_mono (Kd.R_bound HO365.out) (fun k_ hk_ => (⟨hk_.1, hk_.2.2.1⟩ : _ ∧ k_ < w90.heap.size))); clear HO365; have HO365 := n_; clear n_; have SL367_w90 := Aside0.mk (blk_lt BK367.out : gb367 < w90.heap.size); have n_ := Aside0.mk (Kd.S_mono (Kd.S_bound HO371.out) (fun k_ hk_ => (⟨hk_.1, hk_.2.2.1⟩ : _ ∧ k_ < w90.heap.size))); clear HO371; have HO371 := n_; clear n_; have SL372_w90 := Aside0.mk (blk_lt BK372.out : gb372 < w90.heap.size); have n_ := Aside0.mk (Kd.R_mono (Kd.R_bound HO376.out) (fun k_ hk_ => (⟨hk_.1, hk_.2.2.1⟩ : _ ∧ k_ < w90.heap.size))); clear HO376; have HO376 := n_; clear n_; have SL377_w90 := Aside0.mk (blk_lt BK377.out : gb377 < w90.heap.size); have n_ := Aside0.mk (Kd.R_mono (Kd.R_bound HO381.out) (fun k_ hk_ => (⟨hk_.1, hk_.2.2.1⟩ : _ ∧ k_ < w90.heap.size))); clear HO381; have HO381 := n_; clear n_) | ((with_reducible refine gate_dst (N := 10) rfl ?_); refine box_event ?hg (N := 10) ?hd (cs := #[.int .i64 0, .slice none 0 0]) (t := 33) ?hr ?_; (case hd => rfl); (case hg => rfl); (case hr => first | (go_simp; done) | (go_simp; rfl)); intro gb383 hg w91 hbox hb; have n0_ := Aside0.mk ((by rw [hg]; exact (show Kept w90 _ (fun _ => True) from by repeat (first | exact Kept.refl _ _ | apply Kept.alloc | apply Kept.drewN | apply Kept.drew | refine Kept.setCell ?_ (.inl trivial) _)).1 : w90.heap.size ≤ gb383)); have n1_ := bS HO357 hb; have n2_ := rb HO361 hb; have n3_ := rb HO365 hb; have n4_ := bS HO371 hb; have n5_ := rb HO376 hb; have n6_ := rb HO381 hb; have n7_ := bb BK350 hb; have n8_ := bb BK351 hb; have n9_ := bb BK367 hb; have n10_ := bb BK372 hb; have n11_ := bb BK377 hb; have n12_ := bs HB hb; have n13_ := Aside0.mk (hbox); have n14_ := gw hg HB; have n15_ := gw hg HB; have n16_ := nl hg BK350; have n17_ := ng hg BK350; have n18_ := nl hg BK351; have n19_ := ng hg BK351; have n20_ := nl hg BK367; have n21_ := ng hg BK367; have n22_ := nl hg BK372; have n23_ := ng hg BK372; have n24_ := nl hg BK377; have n25_ := ng hg BK377; clear HO357 HO361 HO365 HO371 HO376 HO381 BK350 BK351 BK367 BK372 BK377 HB; have SG383_w90 := n0_; have HO357 := n1_; have HO361 := n2_; have HO365 := n3_; have HO371 := n4_; have HO376 := n5_; have HO381 := n6_; have BK350 := n7_; have BK351 := n8_; have BK367 := n9_; have BK372 := n10_; have BK377 := n11_; have HB := n12_; have BK383 := n13_; have GW383 := n14_; have GE383 := n15_; have NB350_383 := n16_; have NB383_350 := n17_; have NB351_383 := n18_; have NB383_351 := n19_; have NB367_383 := n20_; have NB383_367 := n21_; have NB372_383 := n22_; have NB383_372 := n23_; have NB377_383 := n24_; have NB383_377 := n25_; clear n0_ n1_ n2_ n3_ n4_ n5_ n6_ n7_ n8_ n9_ n10_ n11_ n12_ n13_ n14_ n15_ n16_ n17_ n18_ n19_ n20_ n21_ n22_ n23_ n24_ n25_; clear hb hbox hg; have := NB383_350.out; have := NB350_383.out; have := NB383_351.out; have := NB351_383.out; have := NB383_367.out; have := NB367_383.out; have := NB383_372.out; have := NB372_383.out; have := NB383_377.out; have := NB377_383.out; obtain ⟨_, _, _, _⟩ := cFour BK383; obtain ⟨Ao98, co98, eo98⟩ := Kd.R_slice HO381.out; subst eo98; obtain ⟨_, _, _, _⟩ := cFour BK367) | ((with_reducible refine gate_callee (f := 40) rfl ?_); refine gl (some 47) rfl rfl Try.func40 (by kernel_rfl) rfl #[.agg #[.int .i64 t378, .slice Ao98 t379.length co98], .agg #[.int .i64 t362, .slice Ao68 t363.length co68]] rfl ?_; (with_reducible refine (laws_eqFarkas.calls k t378 _ _ t379 t362 _ _ t363 true _ ?side1 ?side2 ?side3 ?side4 A25.out).mono ?_); (case side1 => refine (Kd.R_reads' (e := 3) (base := w.heap.size) (ok := fun k_ => (((((True ∧ some k_ ≠ (v360 : Value).ownBlock) ∧ some k_ ≠ (.slice Ao68 t363.length co68 : Value).ownBlock) ∧ some k_ ≠ (.slice Ao88 t374.length co88 : Value).ownBlock) ∧ w82.heap.size ≤ k_) ∧ k_ < w90.heap.size)) (n := t379.length) (c := co98) ?_).2.2; exact (by (with_reducible repeat (first | apply Kd.R_alloc | apply Kd.R_drewN | apply Kd.R_drew)); exact (rTwo HO381 BK383))); (case side2 => exact (Kd.R_reads' HO381.out).2.1); (case side3 => refine (Kd.R_reads' (e := 3) (base := w.heap.size) (ok := fun k_ => ((((((((some k_ ≠ (v360 : Value).ownBlock ∧ k_ < w66.heap.size) ∧ k_ < w72.heap.size) ∧ k_ < w73.heap.size) ∧ some k_ ≠ (.slice Ao88 t374.length co88 : Value).ownBlock) ∧ k_ < w81.heap.size) ∧ k_ < w82.heap.size) ∧ some k_ ≠ (.slice Ao98 t379.length co98 : Value).ownBlock) ∧ k_ < w90.heap.size)) (n := t363.length) (c := co68) ?_).2.2; exact (by (with_reducible repeat (first | apply Kd.R_alloc | apply Kd.R_drewN | apply Kd.R_drew)); exact (rTwo HO365 BK383))); (case side4 => exact (Kd.R_reads' HO365.out).2.1); rintro e w100 ⟨rfl, hb⟩; refine ⟨_, rfl, ?_⟩; have n0_ := Aside0.mk (Kd.S_below (by (with_reducible repeat (first | apply Kd.S_alloc | apply Kd.S_drewN | apply Kd.S_drew)); exact (Kd.S_mono (Kd.S_far (p := ⟨gb383, 1, none⟩) (Kd.S_far (p := ⟨gb383, 0, none⟩) (Kd.S_types HO357.out BK383.out (by decide)) (fun _ hk => hk.2) (.int .i64 t378)) (fun _ hk => hk.2) (.slice Ao98 t379.length co98)) (fun _ h_ => h_.1))) hb); have n1_ := Aside0.mk (Kd.R_below (by (with_reducible repeat (first | apply Kd.R_alloc | apply Kd.R_drewN | apply Kd.R_drew)); exact (rTwo HO361 BK383)) hb); have n2_ := Aside0.mk (Kd.R_below (by (with_reducible repeat (first | apply Kd.R_alloc | apply Kd.R_drewN | apply Kd.R_drew)); exact (rTwo HO365 BK383)) hb); have n3_ := Aside0.mk (Kd.S_below (by (with_reducible repeat (first | apply Kd.S_alloc | apply Kd.S_drewN | apply Kd.S_drew)); exact (Kd.S_mono (Kd.S_far (p := ⟨gb383, 1, none⟩) (Kd.S_far (p := ⟨gb383, 0, none⟩) (Kd.S_types HO371.out BK383.out (by decide)) (fun _ hk => hk.2) (.int .i64 t378)) (fun _ hk => hk.2) (.slice Ao98 t379.length co98)) (fun _ h_ => h_.1))) hb); have n4_ := Aside0.mk (Kd.R_below (by (with_reducible repeat (first | apply Kd.R_alloc | apply Kd.R_drewN | apply Kd.R_drew)); exact (rTwo HO376 BK383)) hb); have n5_ := Aside0.mk (Kd.R_below (by (with_reducible repeat (first | apply Kd.R_alloc | apply Kd.R_drewN | apply Kd.R_drew)); exact (rTwo HO381 BK383)) hb); have n6_ := bf BK350 hb; have n7_ := bf BK351 hb; have n8_ := bf BK367 hb; have n9_ := bf BK372 hb; have n10_ := bf BK377 hb; have n11_ := bp BK383 hb; have n12_ := bs HB hb; clear HO357 HO361 HO365 HO371 HO376 HO381 BK350 BK351 BK367 BK372 BK377 BK383 HB; have HO357 := n0_; have HO361 := n1_; have HO365 := n2_; have HO371 := n3_; have HO376 := n4_; have HO381 := n5_; have BK350 := n6_; have BK351 := n7_; have BK367 := n8_; have BK372 := n9_; have BK377 := n10_; have BK383 := n11_; have HB := n12_; clear n0_ n1_ n2_ n3_ n4_ n5_ n6_ n7_ n8_ n9_ n10_ n11_ n12_; (try clear hb)))
        have SL350_w100 := Aside0.mk (blk_lt BK350.out : gb350 < w100.heap.size)
        have SL351_w100 := Aside0.mk (blk_lt BK351.out : gb351 < w100.heap.size)
        have n_ := Aside0.mk (Kd.S_mono (Kd.S_bound HO357.out) (fun k_ hk_ => (⟨hk_.1, hk_.2.2.1⟩ : _ ∧ k_ < w100.heap.size)))
        clear HO357
        have HO357 := n_
        clear n_
        have n_ := Aside0.mk (Kd.R_mono (Kd.R_bound HO361.out) (fun k_ hk_ => (⟨hk_.1, hk_.2.2.1⟩ : _ ∧ k_ < w100.heap.size)))
        clear HO361
        have HO361 := n_
        clear n_
        have n_ := Aside0.mk (Kd.R_mono (Kd.R_bound HO365.out) (fun k_ hk_ => (⟨hk_.1, hk_.2.2.1⟩ : _ ∧ k_ < w100.heap.size)))
        clear HO365
        have HO365 := n_
        clear n_
        have SL367_w100 := Aside0.mk (blk_lt BK367.out : gb367 < w100.heap.size)
        have n_ := Aside0.mk (Kd.S_mono (Kd.S_bound HO371.out) (fun k_ hk_ => (⟨hk_.1, hk_.2.2.1⟩ : _ ∧ k_ < w100.heap.size)))
        clear HO371
        have HO371 := n_
        clear n_
        have SL372_w100 := Aside0.mk (blk_lt BK372.out : gb372 < w100.heap.size)
        have n_ := Aside0.mk (Kd.R_mono (Kd.R_bound HO376.out) (fun k_ hk_ => (⟨hk_.1, hk_.2.2.1⟩ : _ ∧ k_ < w100.heap.size)))
        clear HO376
        have HO376 := n_
        clear n_
        have SL377_w100 := Aside0.mk (blk_lt BK377.out : gb377 < w100.heap.size)
        have n_ := Aside0.mk (Kd.R_mono (Kd.R_bound HO381.out) (fun k_ hk_ => (⟨hk_.1, hk_.2.2.1⟩ : _ ∧ k_ < w100.heap.size)))
        clear HO381
        have HO381 := n_
        clear n_
        have SL383_w100 := Aside0.mk (blk_lt BK383.out : gb383 < w100.heap.size)
        replace HO357 := Aside0.mk (Kd.S_drew HO357.out)
        replace HO361 := Aside0.mk (Kd.R_drew HO361.out)
        replace HO365 := Aside0.mk (Kd.R_drew HO365.out)
        replace HO371 := Aside0.mk (Kd.S_drew HO371.out)
        replace HO376 := Aside0.mk (Kd.R_drew HO376.out)
        replace HO381 := Aside0.mk (Kd.R_drew HO381.out)
        replace BK350 := Aside0.mk (blk_drew BK350.out)
        replace BK351 := Aside0.mk (blk_drew BK351.out)
        replace BK367 := Aside0.mk (blk_drew BK367.out)
        replace BK372 := Aside0.mk (blk_drew BK372.out)
        replace BK377 := Aside0.mk (blk_drew BK377.out)
        replace BK383 := Aside0.mk (blk_drew BK383.out)
        replace HB := Aside0.mk (below_drew1 HB.out)
        have LWw101 := Aside0.mk (show w100.heap.size ≤ w100.drew.heap.size from Nat.le_refl _)
        refine start_ (n := 5) (S := fun w' => w'.cell? ⟨gb372, 0, none⟩ = some (.int .i64 t368) ∧ w'.cell? ⟨gb372, 1, none⟩ = some (.slice Ao78 t369.length co78) ∧ w'.cell? ⟨gb350, 0, none⟩ = some (.int .i64 a0_0) ∧ w'.cell? ⟨gb350, 1, none⟩ = some (.slice A0_1 l0_1.length c0_1)) (ds := []) #[false, false, false, false, false] (by kernel_rfl) rfl rfl ⟨(c2 BK372).1, (c2 BK372).2, (c2 BK350).1, (c2 BK350).2⟩ (fun hHeld => ?_)
        generalize w100.drew = w101 at HO357 HO361 HO365 HO371 HO376 HO381 BK350 BK351 BK367 BK372 BK377 BK383 HB LWw101 hHeld ⊢
        refine take_ (i := 0) (N := some 54) (v := ?_) (a' := ?_) #[true, false, false, false, false] rfl rfl (by kernel_rfl) (fun _ _ _ h => h) (Or.inl ⟨by rfl, ?_⟩) hHeld ?_ ?_
        rotate_left
        ·rintro w' ⟨s0, s1, s2, s3⟩
         go_simp
         with_reducible rfl
        rotate_left
        ·simp only [Act.put, z1, z2, z3, i64_w, i32_w]
         rfl
        refine take_ (i := 1) (N := some 55) (v := ?_) (a' := ?_) #[true, true, false, false, false] rfl rfl (by kernel_rfl) (fun _ _ _ h => h) (Or.inl ⟨by rfl, ?_⟩) hHeld ?_ ?_
        rotate_left
        ·rintro w' ⟨s0, s1, s2, s3⟩
         go_simp
         with_reducible rfl
        rotate_left
        ·simp only [Act.put, z1, z2, z3, i64_w, i32_w]
         rfl
        refine one_ (i := 2) (N := some 56) #[true, true, true, false, false] rfl rfl (by kernel_rfl) (by decide) (fun K hK => ?_)
        refine gs Try.func25 (by kernel_rfl) rfl #[.agg #[.int .i64 a0_0, .slice A0_1 l0_1.length c0_1]] (by rfl) rfl rfl ?_
        with_reducible refine (laws_toSystem.calls k a0_0 _ _ l0_1 t385 t386 _ ?side1 ?side2 A28.out).mono ?_
        (case side1 => exact mc ((Kd.C_below HR0_1.out HB.out)))
        (case side2 => exact HC0_1.out)
        rintro e w102 ⟨v387, rfl, ho0, hb⟩
        refine ⟨_, rfl, ?_⟩
        have HO388 := Aside0.mk ((Kd.S_newer (Kd.andM_iso _ _ (Kd.andM_pair (Kd.andM_scalar _ _) (Kd.andM_slice _ rfl))) ho0 (Kd.S_lower (Kd.S_newB (Kd.S_new' (Kd.S_new' (Kd.S_new' (Kd.S_new' (Kd.S_new' (Kd.S_new' ho0 (Kd.S_lt (mS HO357))) (Kd.R_lt (mr HO361))) (Kd.R_lt (mr HO365))) (Kd.S_lt (mS HO371))) (Kd.R_lt (mr HO376))) (Kd.R_lt (mr HO381))) (g := gb377) (o := .cells #[.int .i64 t373, .slice Ao88 t374.length co88] 29 (0, 0)) (mb BK377)) (below_size (ms HB))) (N := w100.heap.size) (Nat.le_trans LWw101.out (show Kept w101 _ (fun _ => True) from by repeat (first | exact Kept.refl _ _ | apply Kept.alloc | apply Kept.drewN | apply Kept.drew | refine Kept.setCell ?_ (.inl trivial) _)).1) (below_size (ms HB))))
        replace HO357 := Aside0.mk (Kd.S_elder' (mS HO357) (Kd.S_base ho0) hb)
        replace HO361 := rb HO361 hb
        replace HO365 := rb HO365 hb
        replace HO371 := Aside0.mk (Kd.S_elder' (mS HO371) (Kd.S_base ho0) hb)
        replace HO376 := rb HO376 hb
        replace HO381 := rb HO381 hb
        replace BK350 := bb BK350 hb
        replace BK351 := bb BK351 hb
        replace BK367 := bb BK367 hb
        replace BK372 := bb BK372 hb
        replace BK377 := bb BK377 hb
        replace BK383 := bb BK383 hb
        have LWw102 := Aside0.mk ((Nat.le_trans (Nat.le_trans LWw101.out (show Kept w101 _ (fun _ => True) from by repeat (first | exact Kept.refl _ _ | apply Kept.alloc | apply Kept.drewN | apply Kept.drew | refine Kept.setCell ?_ (.inl trivial) _)).1) hb.size : w100.heap.size ≤ w102.heap.size))
        replace HB := bs HB hb
        (try clear hb)
        (try clear hb2)
        (try clear hk)
        (try clear hi)
        (try clear ho0)
        obtain ⟨Ao103, co103, eo103⟩ := Kd.S_slice HO388.out
        (first | subst eo103 | (injection eo103 with f1_ f2_ f3_; have f4_ := f1_.symm; have f5_ := f3_.symm; clear f1_ f2_ f3_; subst f4_; subst f5_))
        refine hK.out _ _ ⟨(c2 BK372).1, (c2 BK372).2, (c2 BK350).1, (c2 BK350).2⟩ (fun hHeld => ?_)
        clear hK K
        refine norm_ (a' := ?_) ?_ ?_
        rotate_left
        ·show Act.put _ (some 56) _ = _
         simp only [Act.put, z1, z2, z3, i64_w, i32_w]
         rfl
        refine one_ (i := 3) (N := some 57) #[true, true, true, true, false] rfl rfl (by kernel_rfl) (by decide) (fun K hK => ?_)
        refine gs Try.func28 (by kernel_rfl) rfl #[.agg #[.int .i64 t368, .slice Ao78 t369.length co78], .agg #[.int .i64 t385, .slice Ao103 t386.length co103]] (by rfl) rfl rfl ?_
        with_reducible refine (laws_eqSystem.calls k t368 _ _ t369 t385 _ _ t386 true _ ?side1 ?side2 ?side3 ?side4 A29.out).mono ?_
        (case side1 => exact mc ((Kd.S_reads' HO371.out).2.2))
        (case side2 => exact (Kd.S_reads' HO371.out).2.1)
        (case side3 => exact mc ((Kd.S_reads' HO388.out).2.2))
        (case side4 => exact (Kd.S_reads' HO388.out).2.1)
        rintro e w104 ⟨rfl, hb⟩
        refine ⟨_, rfl, ?_⟩
        replace HO357 := bS HO357 hb
        replace HO361 := rb HO361 hb
        replace HO365 := rb HO365 hb
        replace HO371 := bS HO371 hb
        replace HO376 := rb HO376 hb
        replace HO381 := rb HO381 hb
        replace HO388 := bS HO388 hb
        replace BK350 := bb BK350 hb
        replace BK351 := bb BK351 hb
        replace BK367 := bb BK367 hb
        replace BK372 := bb BK372 hb
        replace BK377 := bb BK377 hb
        replace BK383 := bb BK383 hb
        have LWw104 := Aside0.mk ((Nat.le_trans (Nat.le_trans LWw102.out (show Kept w102 _ (fun _ => True) from by repeat (first | exact Kept.refl _ _ | apply Kept.alloc | apply Kept.drewN | apply Kept.drew | refine Kept.setCell ?_ (.inl trivial) _)).1) hb.size : w100.heap.size ≤ w104.heap.size))
        replace HB := bs HB hb
        (try clear hb)
        (try clear hb2)
        (try clear hk)
        (try clear hi)
        refine hK.out _ _ ⟨(c2 BK372).1, (c2 BK372).2, (c2 BK350).1, (c2 BK350).2⟩ (fun hHeld => ?_)
        clear hK K
        refine norm_ (a' := ?_) ?_ ?_
        rotate_left
        ·show Act.put _ (some 57) _ = _
         simp only [Act.put, z1, z2, z3, i64_w, i32_w]
         rfl
        refine pure_ (i := 4) (N := some 58) (v := ?_) (a' := ?_) #[true, true, true, true, true] rfl rfl (by kernel_rfl) (fun _ _ _ h => h) (Or.inl ⟨by rfl, ?_⟩) ?_ ?_
        rotate_left
        ·intro w'
         go_simp
         with_reducible rfl
        rotate_left
        ·simp only [Act.put, z1, z2, z3, i64_w, i32_w]
         rfl
        refine done_ (by kernel_rfl) ?_
        try go_wp2
        have SL350_w104 := Aside0.mk (blk_lt BK350.out : gb350 < w104.heap.size)
        have SL351_w104 := Aside0.mk (blk_lt BK351.out : gb351 < w104.heap.size)
        have n_ := Aside0.mk (Kd.S_mono (Kd.S_bound HO357.out) (fun k_ hk_ => (⟨hk_.1, hk_.2.2.1⟩ : _ ∧ k_ < w104.heap.size)))
        clear HO357
        have HO357 := n_
        clear n_
        have n_ := Aside0.mk (Kd.R_mono (Kd.R_bound HO361.out) (fun k_ hk_ => (⟨hk_.1, hk_.2.2.1⟩ : _ ∧ k_ < w104.heap.size)))
        clear HO361
        have HO361 := n_
        clear n_
        have n_ := Aside0.mk (Kd.R_mono (Kd.R_bound HO365.out) (fun k_ hk_ => (⟨hk_.1, hk_.2.2.1⟩ : _ ∧ k_ < w104.heap.size)))
        clear HO365
        have HO365 := n_
        clear n_
        have SL367_w104 := Aside0.mk (blk_lt BK367.out : gb367 < w104.heap.size)
        have n_ := Aside0.mk (Kd.S_mono (Kd.S_bound HO371.out) (fun k_ hk_ => (⟨hk_.1, hk_.2.2.1⟩ : _ ∧ k_ < w104.heap.size)))
        clear HO371
        have HO371 := n_
        clear n_
        have SL372_w104 := Aside0.mk (blk_lt BK372.out : gb372 < w104.heap.size)
        have n_ := Aside0.mk (Kd.R_mono (Kd.R_bound HO376.out) (fun k_ hk_ => (⟨hk_.1, hk_.2.2.1⟩ : _ ∧ k_ < w104.heap.size)))
        clear HO376
        have HO376 := n_
        clear n_
        have SL377_w104 := Aside0.mk (blk_lt BK377.out : gb377 < w104.heap.size)
        have n_ := Aside0.mk (Kd.R_mono (Kd.R_bound HO381.out) (fun k_ hk_ => (⟨hk_.1, hk_.2.2.1⟩ : _ ∧ k_ < w104.heap.size)))
        clear HO381
        have HO381 := n_
        clear n_
        have SL383_w104 := Aside0.mk (blk_lt BK383.out : gb383 < w104.heap.size)
        have n_ := Aside0.mk (Kd.S_mono (Kd.S_bound HO388.out) (fun k_ hk_ => (⟨hk_.1, hk_.2.2.1⟩ : _ ∧ k_ < w104.heap.size)))
        clear HO388
        have HO388 := n_
        clear n_
        replace HO357 := Aside0.mk (Kd.S_drew HO357.out)
        replace HO361 := Aside0.mk (Kd.R_drew HO361.out)
        replace HO365 := Aside0.mk (Kd.R_drew HO365.out)
        replace HO371 := Aside0.mk (Kd.S_drew HO371.out)
        replace HO376 := Aside0.mk (Kd.R_drew HO376.out)
        replace HO381 := Aside0.mk (Kd.R_drew HO381.out)
        replace HO388 := Aside0.mk (Kd.S_drew HO388.out)
        replace BK350 := Aside0.mk (blk_drew BK350.out)
        replace BK351 := Aside0.mk (blk_drew BK351.out)
        replace BK367 := Aside0.mk (blk_drew BK367.out)
        replace BK372 := Aside0.mk (blk_drew BK372.out)
        replace BK377 := Aside0.mk (blk_drew BK377.out)
        replace BK383 := Aside0.mk (blk_drew BK383.out)
        replace HB := Aside0.mk (below_drew1 HB.out)
        have LWw105 := Aside0.mk (show w104.heap.size ≤ w104.drew.heap.size from Nat.le_refl _)
        refine start_ (n := 5) (S := fun w' => w'.cell? ⟨gb377, 0, none⟩ = some (.int .i64 t373) ∧ w'.cell? ⟨gb377, 1, none⟩ = some (.slice Ao88 t374.length co88) ∧ w'.cell? ⟨gb351, 0, none⟩ = some (.int .i64 a1_0) ∧ w'.cell? ⟨gb351, 1, none⟩ = some (.slice A1_1 l1_1.length c1_1)) (ds := []) #[false, false, false, false, false] (by kernel_rfl) rfl rfl ⟨(c2 BK377).1, (c2 BK377).2, (c2 BK351).1, (c2 BK351).2⟩ (fun hHeld => ?_)
        generalize w104.drew = w105 at HO357 HO361 HO365 HO371 HO376 HO381 HO388 BK350 BK351 BK367 BK372 BK377 BK383 HB LWw105 hHeld ⊢
        refine take_ (i := 0) (N := some 59) (v := ?_) (a' := ?_) #[true, false, false, false, false] rfl rfl (by kernel_rfl) (fun _ _ _ h => h) (Or.inl ⟨by rfl, ?_⟩) hHeld ?_ ?_
        rotate_left
        ·rintro w' ⟨s0, s1, s2, s3⟩
         go_simp
         with_reducible rfl
        rotate_left
        ·simp only [Act.put, z1, z2, z3, i64_w, i32_w]
         rfl
        refine take_ (i := 1) (N := some 60) (v := ?_) (a' := ?_) #[true, true, false, false, false] rfl rfl (by kernel_rfl) (fun _ _ _ h => h) (Or.inl ⟨by rfl, ?_⟩) hHeld ?_ ?_
        rotate_left
        ·rintro w' ⟨s0, s1, s2, s3⟩
         go_simp
         with_reducible rfl
        rotate_left
        ·simp only [Act.put, z1, z2, z3, i64_w, i32_w]
         rfl
        refine one_ (i := 2) (N := some 61) #[true, true, true, false, false] rfl rfl (by kernel_rfl) (by decide) (fun K hK => ?_)
        refine gs Try.func26 (by kernel_rfl) rfl #[.agg #[.int .i64 a1_0, .slice A1_1 l1_1.length c1_1]] (by rfl) rfl rfl ?_
        with_reducible refine (laws_toLin.calls k a1_0 _ _ l1_1 t390 t391 _ ?side1 ?side2 A31.out).mono ?_
        (case side1 => exact mc ((Kd.C_below HR1_1.out HB.out)))
        (case side2 => exact HC1_1.out)
        rintro e w106 ⟨v392, rfl, ho0, hb⟩
        refine ⟨_, rfl, ?_⟩
        replace HO357 := lS HO357 ho0 hb
        replace HO371 := lS HO371 ho0 hb
        replace HO388 := lS HO388 ho0 hb
        have HO393 := Aside0.mk ((Kd.R_newer rfl ho0 (Kd.R_lower (Kd.R_new' (Kd.R_new' (Kd.R_new' (Kd.R_new' ho0 (Kd.R_lt (mr HO361))) (Kd.R_lt (mr HO365))) (Kd.R_lt (mr HO376))) (Kd.R_lt (mr HO381))) (below_size (ms HB))) (N := w104.heap.size) (Nat.le_trans LWw105.out (show Kept w105 _ (fun _ => True) from by repeat (first | exact Kept.refl _ _ | apply Kept.alloc | apply Kept.drewN | apply Kept.drew | refine Kept.setCell ?_ (.inl trivial) _)).1)))
        replace HO361 := rl HO361 ho0 hb
        replace HO365 := rl HO365 ho0 hb
        replace HO376 := rl HO376 ho0 hb
        replace HO381 := rl HO381 ho0 hb
        replace BK350 := bb BK350 hb
        replace BK351 := bb BK351 hb
        replace BK367 := bb BK367 hb
        replace BK372 := bb BK372 hb
        replace BK377 := bb BK377 hb
        replace BK383 := bb BK383 hb
        have LWw106 := Aside0.mk ((Nat.le_trans (Nat.le_trans LWw105.out (show Kept w105 _ (fun _ => True) from by repeat (first | exact Kept.refl _ _ | apply Kept.alloc | apply Kept.drewN | apply Kept.drew | refine Kept.setCell ?_ (.inl trivial) _)).1) hb.size : w104.heap.size ≤ w106.heap.size))
        replace HB := bs HB hb
        (try clear hb)
        (try clear hb2)
        (try clear hk)
        (try clear hi)
        (try clear ho0)
        obtain ⟨Ao107, co107, eo107⟩ := Kd.R_slice HO393.out
        (first | subst eo107 | (injection eo107 with f1_ f2_ f3_; have f4_ := f1_.symm; have f5_ := f3_.symm; clear f1_ f2_ f3_; subst f4_; subst f5_))
        refine hK.out _ _ ⟨(c2 BK377).1, (c2 BK377).2, (c2 BK351).1, (c2 BK351).2⟩ (fun hHeld => ?_)
        clear hK K
        refine norm_ (a' := ?_) ?_ ?_
        rotate_left
        ·show Act.put _ (some 61) _ = _
         simp only [Act.put, z1, z2, z3, i64_w, i32_w]
         rfl
        refine one_ (i := 3) (N := some 62) #[true, true, true, true, false] rfl rfl (by kernel_rfl) (by decide) (fun K hK => ?_)
        refine gs Try.func29 (by kernel_rfl) rfl #[.agg #[.int .i64 t373, .slice Ao88 t374.length co88], .agg #[.int .i64 t390, .slice Ao107 t391.length co107]] (by rfl) rfl rfl ?_
        with_reducible refine (laws_eqLin.calls k t373 _ _ t374 t390 _ _ t391 true _ ?side1 ?side2 ?side3 ?side4 A32.out).mono ?_
        (case side1 => exact mc ((Kd.R_reads' HO376.out).2.2))
        (case side2 => exact (Kd.R_reads' HO376.out).2.1)
        (case side3 => exact mc ((Kd.R_reads' HO393.out).2.2))
        (case side4 => exact (Kd.R_reads' HO393.out).2.1)
        rintro e w108 ⟨rfl, hb⟩
        refine ⟨_, rfl, ?_⟩
        replace HO357 := bS HO357 hb
        replace HO361 := rb HO361 hb
        replace HO365 := rb HO365 hb
        replace HO371 := bS HO371 hb
        replace HO376 := rb HO376 hb
        replace HO381 := rb HO381 hb
        replace HO388 := bS HO388 hb
        replace HO393 := rb HO393 hb
        replace BK350 := bb BK350 hb
        replace BK351 := bb BK351 hb
        replace BK367 := bb BK367 hb
        replace BK372 := bb BK372 hb
        replace BK377 := bb BK377 hb
        replace BK383 := bb BK383 hb
        have LWw108 := Aside0.mk ((Nat.le_trans (Nat.le_trans LWw106.out (show Kept w106 _ (fun _ => True) from by repeat (first | exact Kept.refl _ _ | apply Kept.alloc | apply Kept.drewN | apply Kept.drew | refine Kept.setCell ?_ (.inl trivial) _)).1) hb.size : w104.heap.size ≤ w108.heap.size))
        replace HB := bs HB hb
        (try clear hb)
        (try clear hb2)
        (try clear hk)
        (try clear hi)
        refine hK.out _ _ ⟨(c2 BK377).1, (c2 BK377).2, (c2 BK351).1, (c2 BK351).2⟩ (fun hHeld => ?_)
        clear hK K
        refine norm_ (a' := ?_) ?_ ?_
        rotate_left
        ·show Act.put _ (some 62) _ = _
         simp only [Act.put, z1, z2, z3, i64_w, i32_w]
         rfl
        refine pure_ (i := 4) (N := some 63) (v := ?_) (a' := ?_) #[true, true, true, true, true] rfl rfl (by kernel_rfl) (fun _ _ _ h => h) (Or.inl ⟨by rfl, ?_⟩) ?_ ?_
        rotate_left
        ·intro w'
         go_simp
         with_reducible rfl
        rotate_left
        ·simp only [Act.put, z1, z2, z3, i64_w, i32_w]
         rfl
        refine done_ (by kernel_rfl) ?_
        obtain ⟨_, _, _, _⟩ := cFour BK372
        try go_wp2_with (first | ((with_reducible refine gate_callee (f := 30) rfl ?_); refine gl (some 66) rfl rfl Try.func30 (by kernel_rfl) rfl #[.agg #[.int .i64 t368, .slice Ao78 t369.length co78], .int .i64 1] rfl ?_; (with_reducible refine (laws_markSystem.calls k t368 (fun k_ => w66.heap.size ≤ k_ ∧ k_ < w72.heap.size ∧ k_ < w73.heap.size ∧ k_ < w81.heap.size ∧ k_ < w82.heap.size ∧ k_ < w90.heap.size ∧ k_ < w100.heap.size ∧ k_ < w104.heap.size) (.slice Ao78 t369.length co78) t369 1 t395 t396 w _ ?side1 ?side2 A34.out).mono ?_); (case side1 => exact ms HB); (case side2 => exact (by (with_reducible repeat (first | apply Kd.S_alloc | apply Kd.S_drewN | apply Kd.S_drew)); exact Kd.S_mono (HO371.out) (fun k_ hk_ => ⟨hk_.1.1.1.1.1.1.1.1.1.1.1.1.2, hk_.1.1.1.1.1.1.1.1.1.1.1.2, hk_.1.1.1.1.1.1.1.1.1.1.2, hk_.1.1.1.1.1.1.1.1.2, hk_.1.1.1.1.1.1.2, hk_.1.1.1.1.2, hk_.1.1.1.2, hk_.1.2⟩))); rintro e w110 ⟨rfl, hy0, hb, hkp⟩; refine ⟨_, rfl, ?_⟩; have n0_ := Aside0.mk (blk_kept (mb BK350) hkp (fun hs_ => Nat.lt_irrefl _ (Nat.lt_of_lt_of_le SL350_w66.out hs_.1))); have n1_ := Aside0.mk (blk_kept (mb BK351) hkp (fun hs_ => Nat.lt_irrefl _ (Nat.lt_of_lt_of_le SL351_w66.out hs_.1))); have n2_ := Aside0.mk (Kd.kS (HO357.out) hkp (fun k_ hk_ hs_ => Nat.lt_irrefl _ (Nat.lt_of_lt_of_le hk_.1.1.1.1.1.1.1.1.1.1.1.1.1.2 hs_.1)) (fun h_ => by (with_reducible repeat (first | apply Kd.S_alloc | apply Kd.S_drewN | apply Kd.S_drew)); exact h_)); have n3_ := Aside0.mk (Kd.kR (HO361.out) hkp (fun k_ hk_ hs_ => Nat.lt_irrefl _ (Nat.lt_of_lt_of_le hk_.1.1.1.1.1.1.1.1.1.1.2 hs_.1)) (fun h_ => by (with_reducible repeat (first | apply Kd.R_alloc | apply Kd.R_drewN | apply Kd.R_drew)); exact h_)); have n4_ := Aside0.mk (Kd.kR (HO365.out) hkp (fun k_ hk_ hs_ => Nat.lt_irrefl _ (Nat.lt_of_lt_of_le hk_.1.1.1.1.1.1.1.1.1.1.2 hs_.1)) (fun h_ => by (with_reducible repeat (first | apply Kd.R_alloc | apply Kd.R_drewN | apply Kd.R_drew)); exact h_)); have n5_ := Aside0.mk (blk_kept (mb BK367) hkp (fun hs_ => Nat.lt_irrefl _ (Nat.lt_of_lt_of_le SL367_w66.out hs_.1))); have n6_ := Aside0.mk (hy0); have n7_ := Aside0.mk (blk_kept (mb BK372) hkp (fun hs_ => Nat.lt_irrefl _ (Nat.lt_of_lt_of_le hs_.2.1 SG372_w72.out))); have n8_ := Aside0.mk (Kd.kR (HO376.out) hkp (fun k_ hk_ hs_ => Nat.lt_irrefl _ (Nat.lt_of_lt_of_le hs_.2.2.1 hk_.1.1.1.1.1.1.1.2)) (fun h_ => by (with_reducible repeat (first | apply Kd.R_alloc | apply Kd.R_drewN | apply Kd.R_drew)); exact h_)); have n9_ := Aside0.mk (blk_kept (mb BK377) hkp (fun hs_ => Nat.lt_irrefl _ (Nat.lt_of_lt_of_le hs_.2.2.2.1 SG377_w81.out))); have n10_ := Aside0.mk (Kd.kR (HO381.out) hkp (fun k_ hk_ hs_ => Nat.lt_irrefl _ (Nat.lt_of_lt_of_le hs_.2.2.2.2.1 hk_.1.1.1.1.2)) (fun h_ => by (with_reducible repeat (first | apply Kd.R_alloc | apply Kd.R_drewN | apply Kd.R_drew)); exact h_)); have n11_ := Aside0.mk (blk_kept (mb BK383) hkp (fun hs_ => Nat.lt_irrefl _ (Nat.lt_of_lt_of_le hs_.2.2.2.2.2.1 SG383_w90.out))); have n12_ := Aside0.mk (Kd.kS (HO388.out) hkp (fun k_ hk_ hs_ => Nat.lt_irrefl _ (Nat.lt_of_lt_of_le hs_.2.2.2.2.2.2.1 hk_.1.1.2)) (fun h_ => by (with_reducible repeat (first | apply Kd.S_alloc | apply Kd.S_drewN | apply Kd.S_drew)); exact h_)); have n13_ := Aside0.mk (Kd.kR (HO393.out) hkp (fun k_ hk_ hs_ => Nat.lt_irrefl _ (Nat.lt_of_lt_of_le hs_.2.2.2.2.2.2.2 hk_.2)) (fun h_ => by (with_reducible repeat (first | apply Kd.R_alloc | apply Kd.R_drewN | apply Kd.R_drew)); exact h_)); have n14_ := Aside0.mk (hb); clear BK350 BK351 HO357 HO361 HO365 BK367 HO371 BK372 HO376 BK377 HO381 BK383 HO388 HO393 HB; have BK350 := n0_; have BK351 := n1_; have HO357 := n2_; have HO361 := n3_; have HO365 := n4_; have BK367 := n5_; have HO371 := n6_; have BK372 := n7_; have HO376 := n8_; have BK377 := n9_; have HO381 := n10_; have BK383 := n11_; have HO388 := n12_; have HO393 := n13_; have HB := n14_; clear n0_ n1_ n2_ n3_ n4_ n5_ n6_ n7_ n8_ n9_ n10_ n11_ n12_ n13_ n14_; clear hb hkp hy0; obtain ⟨_, _, _, _⟩ := cFour BK377) | ((with_reducible refine gate_callee (f := 31) rfl ?_); refine gl (some 69) rfl rfl Try.func31 (by kernel_rfl) rfl #[.agg #[.int .i64 t373, .slice Ao88 t374.length co88], .int .i64 t395] rfl ?_; (with_reducible refine (laws_markLin.calls k t373 (fun k_ => w73.heap.size ≤ k_ ∧ k_ < w81.heap.size ∧ k_ < w82.heap.size ∧ k_ < w90.heap.size ∧ k_ < w100.heap.size ∧ k_ < w104.heap.size) (.slice Ao88 t374.length co88) t374 t395 t397 t398 w _ ?side1 ?side2 A35.out).mono ?_); (case side1 => exact ms HB); (case side2 => exact (by (with_reducible repeat (first | apply Kd.R_alloc | apply Kd.R_drewN | apply Kd.R_drew)); exact Kd.R_mono (HO376.out) (fun k_ hk_ => ⟨hk_.1.1.1.1.1.1.1.2, hk_.1.1.1.1.1.1.2, hk_.1.1.1.1.1.2, hk_.1.1.1.2, hk_.1.1.2, hk_.1.2⟩))); rintro e w112 ⟨rfl, hy0, hb, hkp⟩; refine ⟨_, rfl, ?_⟩; have n0_ := Aside0.mk (blk_kept (mb BK350) hkp (fun hs_ => Nat.lt_irrefl _ (Nat.lt_of_lt_of_le SL350_w73.out hs_.1))); have n1_ := Aside0.mk (blk_kept (mb BK351) hkp (fun hs_ => Nat.lt_irrefl _ (Nat.lt_of_lt_of_le SL351_w73.out hs_.1))); have n2_ := Aside0.mk (Kd.kS (HO357.out) hkp (fun k_ hk_ hs_ => Nat.lt_irrefl _ (Nat.lt_of_lt_of_le hk_.1.1.1.1.1.1.1.1.1.1.2 hs_.1)) (fun h_ => by (with_reducible repeat (first | apply Kd.S_alloc | apply Kd.S_drewN | apply Kd.S_drew)); exact h_)); have n3_ := Aside0.mk (Kd.kR (HO361.out) hkp (fun k_ hk_ hs_ => Nat.lt_irrefl _ (Nat.lt_of_lt_of_le hk_.1.1.1.1.1.1.1.1.2 hs_.1)) (fun h_ => by (with_reducible repeat (first | apply Kd.R_alloc | apply Kd.R_drewN | apply Kd.R_drew)); exact h_)); have n4_ := Aside0.mk (Kd.kR (HO365.out) hkp (fun k_ hk_ hs_ => Nat.lt_irrefl _ (Nat.lt_of_lt_of_le hk_.1.1.1.1.1.1.1.1.2 hs_.1)) (fun h_ => by (with_reducible repeat (first | apply Kd.R_alloc | apply Kd.R_drewN | apply Kd.R_drew)); exact h_)); have n5_ := Aside0.mk (blk_kept (mb BK367) hkp (fun hs_ => Nat.lt_irrefl _ (Nat.lt_of_lt_of_le SL367_w73.out hs_.1))); have n6_ := Aside0.mk (Kd.kS (HO371.out) hkp (fun k_ hk_ hs_ => Nat.lt_irrefl _ (Nat.lt_of_lt_of_le hk_.2.2.1 hs_.1)) (fun h_ => by (with_reducible repeat (first | apply Kd.S_alloc | apply Kd.S_drewN | apply Kd.S_drew)); exact h_)); have n7_ := Aside0.mk (blk_kept (mb BK372) hkp (fun hs_ => Nat.lt_irrefl _ (Nat.lt_of_lt_of_le SL372_w73.out hs_.1))); have n8_ := Aside0.mk (Kd.R_reok rfl hy0 (fun k_ e_ => HO376.out.1 k_ e_)); have n9_ := Aside0.mk (blk_kept (mb BK377) hkp (fun hs_ => Nat.lt_irrefl _ (Nat.lt_of_lt_of_le hs_.2.1 SG377_w81.out))); have n10_ := Aside0.mk (Kd.kR (HO381.out) hkp (fun k_ hk_ hs_ => Nat.lt_irrefl _ (Nat.lt_of_lt_of_le hs_.2.2.1 hk_.1.1.1.1.2)) (fun h_ => by (with_reducible repeat (first | apply Kd.R_alloc | apply Kd.R_drewN | apply Kd.R_drew)); exact h_)); have n11_ := Aside0.mk (blk_kept (mb BK383) hkp (fun hs_ => Nat.lt_irrefl _ (Nat.lt_of_lt_of_le hs_.2.2.2.1 SG383_w90.out))); have n12_ := Aside0.mk (Kd.kS (HO388.out) hkp (fun k_ hk_ hs_ => Nat.lt_irrefl _ (Nat.lt_of_lt_of_le hs_.2.2.2.2.1 hk_.1.1.2)) (fun h_ => by (with_reducible repeat (first | apply Kd.S_alloc | apply Kd.S_drewN | apply Kd.S_drew)); exact h_)); have n13_ := Aside0.mk (Kd.kR (HO393.out) hkp (fun k_ hk_ hs_ => Nat.lt_irrefl _ (Nat.lt_of_lt_of_le hs_.2.2.2.2.2 hk_.2)) (fun h_ => by (with_reducible repeat (first | apply Kd.R_alloc | apply Kd.R_drewN | apply Kd.R_drew)); exact h_)); have n14_ := Aside0.mk (hb); clear BK350 BK351 HO357 HO361 HO365 BK367 HO371 BK372 HO376 BK377 HO381 BK383 HO388 HO393 HB; have BK350 := n0_; have BK351 := n1_; have HO357 := n2_; have HO361 := n3_; have HO365 := n4_; have BK367 := n5_; have HO371 := n6_; have BK372 := n7_; have HO376 := n8_; have BK377 := n9_; have HO381 := n10_; have BK383 := n11_; have HO388 := n12_; have HO393 := n13_; have HB := n14_; clear n0_ n1_ n2_ n3_ n4_ n5_ n6_ n7_ n8_ n9_ n10_ n11_ n12_ n13_ n14_; clear hb hkp hy0; obtain ⟨_, _, _, _⟩ := cFour BK383; obtain ⟨_, _, _, _⟩ := cFour BK367) | (go_at_call 40; (with_reducible refine (laws_eqFarkas.calls k t378 _ _ t379 t362 _ _ t363 true _ ?side1 ?side2 ?side3 ?side4 A37.out).mono ?_); (case side1 => exact mc ((Kd.R_reads' HO381.out).2.2)); (case side2 => exact (Kd.R_reads' HO381.out).2.1); (case side3 => exact mc ((Kd.R_reads' HO365.out).2.2)); (case side4 => exact (Kd.R_reads' HO365.out).2.1); rintro e w115 ⟨rfl, hb⟩; replace HO357 := bS HO357 hb; replace HO361 := rb HO361 hb; replace HO365 := rb HO365 hb; replace HO371 := bS HO371 hb; replace HO376 := rb HO376 hb; replace HO381 := rb HO381 hb; replace HO388 := bS HO388 hb; replace HO393 := rb HO393 hb; replace BK350 := bb BK350 hb; replace BK351 := bb BK351 hb; replace BK367 := bb BK367 hb; replace BK372 := bb BK372 hb; replace BK377 := bb BK377 hb; replace BK383 := bb BK383 hb; replace HB := bs HB hb; (try clear hb); obtain ⟨_, _, _, _⟩ := cFour BK383) | ((with_reducible refine gate_callee (f := 41) rfl ?_); refine gl (some 85) rfl rfl Try.func41 (by kernel_rfl) rfl #[.agg #[.int .i64 t378, .slice Ao98 t379.length co98], .int .i64 1] rfl ?_; (with_reducible refine (laws_markFarkas.calls k t378 (fun k_ => w82.heap.size ≤ k_ ∧ k_ < w90.heap.size ∧ k_ < w100.heap.size ∧ k_ < w104.heap.size) (.slice Ao98 t379.length co98) t379 1 t400 t401 w _ ?side1 ?side2 A39.out).mono ?_); (case side1 => exact ms HB); (case side2 => exact (by (with_reducible repeat (first | apply Kd.R_alloc | apply Kd.R_drewN | apply Kd.R_drew)); exact Kd.R_mono (HO381.out) (fun k_ hk_ => ⟨hk_.1.1.1.1.2, hk_.1.1.1.2, hk_.1.1.2, hk_.1.2⟩))); rintro e w117 ⟨rfl, hy0, hb, hkp⟩; refine ⟨_, rfl, ?_⟩; have n0_ := Aside0.mk (blk_kept (mb BK350) hkp (fun hs_ => Nat.lt_irrefl _ (Nat.lt_of_lt_of_le SL350_w82.out hs_.1))); have n1_ := Aside0.mk (blk_kept (mb BK351) hkp (fun hs_ => Nat.lt_irrefl _ (Nat.lt_of_lt_of_le SL351_w82.out hs_.1))); have n2_ := Aside0.mk (Kd.kS (HO357.out) hkp (fun k_ hk_ hs_ => Nat.lt_irrefl _ (Nat.lt_of_lt_of_le hk_.1.1.1.1.1.1.2 hs_.1)) (fun h_ => by (with_reducible repeat (first | apply Kd.S_alloc | apply Kd.S_drewN | apply Kd.S_drew)); exact h_)); have n3_ := Aside0.mk (Kd.kR (HO361.out) hkp (fun k_ hk_ hs_ => Nat.lt_irrefl _ (Nat.lt_of_lt_of_le hk_.1.1.1.1.1.2 hs_.1)) (fun h_ => by (with_reducible repeat (first | apply Kd.R_alloc | apply Kd.R_drewN | apply Kd.R_drew)); exact h_)); have n4_ := Aside0.mk (Kd.kR (HO365.out) hkp (fun k_ hk_ hs_ => Nat.lt_irrefl _ (Nat.lt_of_lt_of_le hk_.1.1.1.1.1.2 hs_.1)) (fun h_ => by (with_reducible repeat (first | apply Kd.R_alloc | apply Kd.R_drewN | apply Kd.R_drew)); exact h_)); have n5_ := Aside0.mk (blk_kept (mb BK367) hkp (fun hs_ => Nat.lt_irrefl _ (Nat.lt_of_lt_of_le SL367_w82.out hs_.1))); have n6_ := Aside0.mk (Kd.kS (HO371.out) hkp (fun k_ hk_ hs_ => Nat.lt_irrefl _ (Nat.lt_of_lt_of_le hk_.2.2.2.2.1 hs_.1)) (fun h_ => by (with_reducible repeat (first | apply Kd.S_alloc | apply Kd.S_drewN | apply Kd.S_drew)); exact h_)); have n7_ := Aside0.mk (blk_kept (mb BK372) hkp (fun hs_ => Nat.lt_irrefl _ (Nat.lt_of_lt_of_le SL372_w82.out hs_.1))); have n8_ := Aside0.mk (Kd.kR (HO376.out) hkp (fun k_ hk_ hs_ => Nat.lt_irrefl _ (Nat.lt_of_lt_of_le hk_.1.1.1.1.1.2 hs_.1)) (fun h_ => by (with_reducible repeat (first | apply Kd.R_alloc | apply Kd.R_drewN | apply Kd.R_drew)); exact h_)); have n9_ := Aside0.mk (blk_kept (mb BK377) hkp (fun hs_ => Nat.lt_irrefl _ (Nat.lt_of_lt_of_le SL377_w82.out hs_.1))); have n10_ := Aside0.mk (Kd.R_reok rfl hy0 (fun k_ e_ => HO381.out.1 k_ e_)); have n11_ := Aside0.mk (blk_kept (mb BK383) hkp (fun hs_ => Nat.lt_irrefl _ (Nat.lt_of_lt_of_le hs_.2.1 SG383_w90.out))); have n12_ := Aside0.mk (Kd.kS (HO388.out) hkp (fun k_ hk_ hs_ => Nat.lt_irrefl _ (Nat.lt_of_lt_of_le hs_.2.2.1 hk_.1.1.2)) (fun h_ => by (with_reducible repeat (first | apply Kd.S_alloc | apply Kd.S_drewN | apply Kd.S_drew)); exact h_)); have n13_ := Aside0.mk (Kd.kR (HO393.out) hkp (fun k_ hk_ hs_ => Nat.lt_irrefl _ (Nat.lt_of_lt_of_le hs_.2.2.2 hk_.2)) (fun h_ => by (with_reducible repeat (first | apply Kd.R_alloc | apply Kd.R_drewN | apply Kd.R_drew)); exact h_)); have n14_ := Aside0.mk (hb); clear BK350 BK351 HO357 HO361 HO365 BK367 HO371 BK372 HO376 BK377 HO381 BK383 HO388 HO393 HB; have BK350 := n0_; have BK351 := n1_; have HO357 := n2_; have HO361 := n3_; have HO365 := n4_; have BK367 := n5_; have HO371 := n6_; have BK372 := n7_; have HO376 := n8_; have BK377 := n9_; have HO381 := n10_; have BK383 := n11_; have HO388 := n12_; have HO393 := n13_; have HB := n14_; clear n0_ n1_ n2_ n3_ n4_ n5_ n6_ n7_ n8_ n9_ n10_ n11_ n12_ n13_ n14_; clear hb hkp hy0; obtain ⟨_, _, _, _⟩ := cFour BK383) | ((with_reducible refine gate_callee (f := 42) rfl ?_); refine goesL_ (some 88) rfl rfl Try.func42 (by kernel_rfl) rfl #[.agg #[.int .i64 t378, .slice Ao98 t401.length co98], .int .i64 1] rfl (by (try simp only [List.map_toArray, List.map_cons, List.map_nil]); first | done | (rw [show t401.length = t379.length from (Kd.R_reads' HO381.out).1.symm] <;> rfl) | rfl | (simp only [List.length_drop, List.length_take]; rfl)) ?_; (with_reducible refine (laws_heldFarkas.calls k t378 _ _ t401 1 t402 _ ?side1 ?side2 A40.out).mono ?_); (case side1 => exact mc ((Kd.R_reads' HO381.out).2.2)); (case side2 => rw [show t401.length = t379.length from (Kd.R_reads' HO381.out).1.symm]; exact (Kd.R_reads' HO381.out).2.1); rintro e w119 ⟨rfl, hb⟩; refine ⟨_, rfl, ?_⟩; replace HO357 := bS HO357 hb; replace HO361 := rb HO361 hb; replace HO365 := rb HO365 hb; replace HO371 := bS HO371 hb; replace HO376 := rb HO376 hb; replace HO381 := rb HO381 hb; replace HO388 := bS HO388 hb; replace HO393 := rb HO393 hb; replace BK350 := bb BK350 hb; replace BK351 := bb BK351 hb; replace BK367 := bb BK367 hb; replace BK372 := bb BK372 hb; replace BK377 := bb BK377 hb; replace BK383 := bb BK383 hb; replace HB := bs HB hb; (try clear hb)))
        have SL350_w119 := Aside0.mk (blk_lt BK350.out : gb350 < w119.heap.size)
        have SL351_w119 := Aside0.mk (blk_lt BK351.out : gb351 < w119.heap.size)
        have n_ := Aside0.mk (Kd.S_mono (Kd.S_bound HO357.out) (fun k_ hk_ => (⟨hk_.1, hk_.2.2.1⟩ : _ ∧ k_ < w119.heap.size)))
        clear HO357
        have HO357 := n_
        clear n_
        have n_ := Aside0.mk (Kd.R_mono (Kd.R_bound HO361.out) (fun k_ hk_ => (⟨hk_.1, hk_.2.2.1⟩ : _ ∧ k_ < w119.heap.size)))
        clear HO361
        have HO361 := n_
        clear n_
        have n_ := Aside0.mk (Kd.R_mono (Kd.R_bound HO365.out) (fun k_ hk_ => (⟨hk_.1, hk_.2.2.1⟩ : _ ∧ k_ < w119.heap.size)))
        clear HO365
        have HO365 := n_
        clear n_
        have SL367_w119 := Aside0.mk (blk_lt BK367.out : gb367 < w119.heap.size)
        have n_ := Aside0.mk (Kd.S_mono (Kd.S_bound HO371.out) (fun k_ hk_ => (⟨hk_.1, hk_.2.2.1⟩ : _ ∧ k_ < w119.heap.size)))
        clear HO371
        have HO371 := n_
        clear n_
        have SL372_w119 := Aside0.mk (blk_lt BK372.out : gb372 < w119.heap.size)
        have n_ := Aside0.mk (Kd.R_mono (Kd.R_bound HO376.out) (fun k_ hk_ => (⟨hk_.1, hk_.2.2.1⟩ : _ ∧ k_ < w119.heap.size)))
        clear HO376
        have HO376 := n_
        clear n_
        have SL377_w119 := Aside0.mk (blk_lt BK377.out : gb377 < w119.heap.size)
        have n_ := Aside0.mk (Kd.R_mono (Kd.R_bound HO381.out) (fun k_ hk_ => (⟨hk_.1, hk_.2.2.1⟩ : _ ∧ k_ < w119.heap.size)))
        clear HO381
        have HO381 := n_
        clear n_
        have SL383_w119 := Aside0.mk (blk_lt BK383.out : gb383 < w119.heap.size)
        have n_ := Aside0.mk (Kd.S_mono (Kd.S_bound HO388.out) (fun k_ hk_ => (⟨hk_.1, hk_.2.2.1⟩ : _ ∧ k_ < w119.heap.size)))
        clear HO388
        have HO388 := n_
        clear n_
        have n_ := Aside0.mk (Kd.R_mono (Kd.R_bound HO393.out) (fun k_ hk_ => (⟨hk_.1, hk_.2.2.1⟩ : _ ∧ k_ < w119.heap.size)))
        clear HO393
        have HO393 := n_
        clear n_
        replace HO357 := Aside0.mk (Kd.S_drew HO357.out)
        replace HO361 := Aside0.mk (Kd.R_drew HO361.out)
        replace HO365 := Aside0.mk (Kd.R_drew HO365.out)
        replace HO371 := Aside0.mk (Kd.S_drew HO371.out)
        replace HO376 := Aside0.mk (Kd.R_drew HO376.out)
        replace HO381 := Aside0.mk (Kd.R_drew HO381.out)
        replace HO388 := Aside0.mk (Kd.S_drew HO388.out)
        replace HO393 := Aside0.mk (Kd.R_drew HO393.out)
        replace BK350 := Aside0.mk (blk_drew BK350.out)
        replace BK351 := Aside0.mk (blk_drew BK351.out)
        replace BK367 := Aside0.mk (blk_drew BK367.out)
        replace BK372 := Aside0.mk (blk_drew BK372.out)
        replace BK377 := Aside0.mk (blk_drew BK377.out)
        replace BK383 := Aside0.mk (blk_drew BK383.out)
        replace HB := Aside0.mk (below_drew1 HB.out)
        have LWw120 := Aside0.mk (show w119.heap.size ≤ w119.drew.heap.size from Nat.le_refl _)
        refine start_ (n := 11) (S := fun w' => w'.cell? ⟨gb350, 0, none⟩ = some (.int .i64 a0_0) ∧ w'.cell? ⟨gb350, 1, none⟩ = some (.slice A0_1 l0_1.length c0_1) ∧ w'.cell? ⟨gb351, 0, none⟩ = some (.int .i64 a1_0) ∧ w'.cell? ⟨gb351, 1, none⟩ = some (.slice A1_1 l1_1.length c1_1)) (ds := []) #[false, false, false, false, false, false, false, false, false, false, false] (by kernel_rfl) rfl rfl ⟨(c2 BK350).1, (c2 BK350).2, (c2 BK351).1, (c2 BK351).2⟩ (fun hHeld => ?_); refine with_tabW laws_FnExactFindFarkas.tab31 laws_FnExactFindFarkas.bits31 (fun HT_ HW_ => ?_)
        generalize w119.drew = w120 at HO357 HO361 HO365 HO371 HO376 HO381 HO388 HO393 BK350 BK351 BK367 BK372 BK377 BK383 HB LWw120 hHeld ⊢
        refine tk 0 (some 95) (v := ?_) (a' := ?_) #[true, false, false, false, false, false, false, false, false, false, false] rfl rfl HT_ HW_ (fun _ _ _ h => h) (by rfl) ?_ hHeld ?_ ?_
        rotate_left
        ·rintro w' ⟨s0, s1, s2, s3⟩
         go_simp
         with_reducible rfl
        rotate_left
        ·simp only [Act.put, z1, z2, z3, i64_w, i32_w]
         rfl
        refine tk 2 (some 97) (v := ?_) (a' := ?_) #[true, false, true, false, false, false, false, false, false, false, false] rfl rfl HT_ HW_ (fun _ _ _ h => h) (by rfl) ?_ hHeld ?_ ?_
        rotate_left
        ·rintro w' ⟨s0, s1, s2, s3⟩
         go_simp
         with_reducible rfl
        rotate_left
        ·simp only [Act.put, z1, z2, z3, i64_w, i32_w]
         rfl
        refine join_ (σ := Value × Value × Value × Nat) 2 #[true, true, true, true, true, true, true, true, true, false, false] (fun s_ => [(96, .agg #[.int .i64 t403, s_.1]), (98, .agg #[.int .i64 t407, s_.2.1]), (99, .tuple #[.agg #[.int .i64 t411, s_.2.2.1], .bool t415]), (15, .pointer (some ⟨s_.2.2.2, 0, none⟩)), (94, .tuple #[.agg #[.int .i64 t411, s_.2.2.1], .bool t415]), (100, .agg #[.int .i64 t411, s_.2.2.1]), (101, .bool t415)]) (fun s_ w' => (w'.cell? ⟨gb350, 0, none⟩ = some (.int .i64 a0_0) ∧ w'.cell? ⟨gb350, 1, none⟩ = some (.slice A0_1 l0_1.length c0_1) ∧ w'.cell? ⟨gb351, 0, none⟩ = some (.int .i64 a1_0) ∧ w'.cell? ⟨gb351, 1, none⟩ = some (.slice A1_1 l1_1.length c1_1)) ∧ (Kd.S k29 29 w' w.heap.size (fun k_ => some k_ ≠ (v360 : Value).ownBlock ∧ some k_ ≠ (.slice Ao68 t363.length co68 : Value).ownBlock ∧ some k_ ≠ (.slice Ao78 t369.length co78 : Value).ownBlock ∧ some k_ ≠ (.slice Ao88 t374.length co88 : Value).ownBlock ∧ some k_ ≠ (.slice Ao98 t379.length co98 : Value).ownBlock ∧ some k_ ≠ (.slice Ao103 t386.length co103 : Value).ownBlock ∧ some k_ ≠ (.slice Ao107 t391.length co107 : Value).ownBlock ∧ some k_ ≠ (s_.1 : Value).ownBlock ∧ some k_ ≠ (s_.2.1 : Value).ownBlock ∧ some k_ ≠ (s_.2.2.1 : Value).ownBlock ∧ k_ ≠ gb377 ∧ k_ < w66.heap.size ∧ k_ < w72.heap.size ∧ k_ < w73.heap.size ∧ k_ < w81.heap.size ∧ k_ < w82.heap.size ∧ k_ < w90.heap.size ∧ k_ < w100.heap.size ∧ k_ < w104.heap.size ∧ k_ < w119.heap.size) v356 t355) ∧ (Kd.R (Kd.int .i64) 3 w' w.heap.size (fun k_ => some k_ ≠ (.slice Ao68 t363.length co68 : Value).ownBlock ∧ some k_ ≠ (.slice Ao88 t374.length co88 : Value).ownBlock ∧ some k_ ≠ (.slice Ao98 t379.length co98 : Value).ownBlock ∧ some k_ ≠ (.slice Ao107 t391.length co107 : Value).ownBlock ∧ some k_ ≠ (s_.2.1 : Value).ownBlock ∧ some k_ ≠ (s_.2.2.1 : Value).ownBlock ∧ k_ < w66.heap.size ∧ k_ < w72.heap.size ∧ k_ < w73.heap.size ∧ k_ < w81.heap.size ∧ k_ < w82.heap.size ∧ k_ < w90.heap.size ∧ k_ < w100.heap.size ∧ k_ < w104.heap.size ∧ k_ < w119.heap.size) v360 t359) ∧ (Kd.R (Kd.int .i64) 3 w' w.heap.size (fun k_ => some k_ ≠ (v360 : Value).ownBlock ∧ some k_ ≠ (.slice Ao88 t374.length co88 : Value).ownBlock ∧ some k_ ≠ (.slice Ao98 t379.length co98 : Value).ownBlock ∧ some k_ ≠ (.slice Ao107 t391.length co107 : Value).ownBlock ∧ some k_ ≠ (s_.2.1 : Value).ownBlock ∧ some k_ ≠ (s_.2.2.1 : Value).ownBlock ∧ k_ < w66.heap.size ∧ k_ < w72.heap.size ∧ k_ < w73.heap.size ∧ k_ < w81.heap.size ∧ k_ < w82.heap.size ∧ k_ < w90.heap.size ∧ k_ < w100.heap.size ∧ k_ < w104.heap.size ∧ k_ < w119.heap.size) (.slice Ao68 t363.length co68) t363) ∧ (Kd.S k29 29 w' w.heap.size (fun k_ => some k_ ≠ (s_.1 : Value).ownBlock ∧ some k_ ≠ (s_.2.1 : Value).ownBlock ∧ some k_ ≠ (s_.2.2.1 : Value).ownBlock ∧ w66.heap.size ≤ k_ ∧ k_ < w72.heap.size ∧ k_ < w73.heap.size ∧ k_ < w81.heap.size ∧ k_ < w82.heap.size ∧ k_ < w90.heap.size ∧ k_ < w100.heap.size ∧ k_ < w104.heap.size ∧ k_ < w119.heap.size) (.slice Ao78 t369.length co78) t396) ∧ (Kd.R (Kd.int .i64) 3 w' w.heap.size (fun k_ => some k_ ≠ (v360 : Value).ownBlock ∧ some k_ ≠ (.slice Ao68 t363.length co68 : Value).ownBlock ∧ some k_ ≠ (.slice Ao98 t379.length co98 : Value).ownBlock ∧ some k_ ≠ (.slice Ao107 t391.length co107 : Value).ownBlock ∧ some k_ ≠ (s_.2.1 : Value).ownBlock ∧ some k_ ≠ (s_.2.2.1 : Value).ownBlock ∧ w73.heap.size ≤ k_ ∧ k_ < w81.heap.size ∧ k_ < w82.heap.size ∧ k_ < w90.heap.size ∧ k_ < w100.heap.size ∧ k_ < w104.heap.size ∧ k_ < w119.heap.size) (.slice Ao88 t374.length co88) t398) ∧ (Kd.R (Kd.int .i64) 3 w' w.heap.size (fun k_ => some k_ ≠ (v360 : Value).ownBlock ∧ some k_ ≠ (.slice Ao68 t363.length co68 : Value).ownBlock ∧ some k_ ≠ (.slice Ao88 t374.length co88 : Value).ownBlock ∧ some k_ ≠ (.slice Ao107 t391.length co107 : Value).ownBlock ∧ some k_ ≠ (s_.2.1 : Value).ownBlock ∧ some k_ ≠ (s_.2.2.1 : Value).ownBlock ∧ w82.heap.size ≤ k_ ∧ k_ < w90.heap.size ∧ k_ < w100.heap.size ∧ k_ < w104.heap.size ∧ k_ < w119.heap.size) (.slice Ao98 t379.length co98) t401) ∧ (Kd.S k29 29 w' w.heap.size (fun k_ => some k_ ≠ (v356 : Value).ownBlock ∧ some k_ ≠ (v360 : Value).ownBlock ∧ some k_ ≠ (.slice Ao68 t363.length co68 : Value).ownBlock ∧ some k_ ≠ (.slice Ao78 t369.length co78 : Value).ownBlock ∧ some k_ ≠ (.slice Ao88 t374.length co88 : Value).ownBlock ∧ some k_ ≠ (.slice Ao98 t379.length co98 : Value).ownBlock ∧ some k_ ≠ (.slice Ao107 t391.length co107 : Value).ownBlock ∧ some k_ ≠ (s_.1 : Value).ownBlock ∧ some k_ ≠ (s_.2.1 : Value).ownBlock ∧ some k_ ≠ (s_.2.2.1 : Value).ownBlock ∧ k_ ≠ gb377 ∧ w100.heap.size ≤ k_ ∧ k_ < w104.heap.size ∧ k_ < w119.heap.size) (.slice Ao103 t386.length co103) t386) ∧ (Kd.R (Kd.int .i64) 3 w' w.heap.size (fun k_ => some k_ ≠ (v360 : Value).ownBlock ∧ some k_ ≠ (.slice Ao68 t363.length co68 : Value).ownBlock ∧ some k_ ≠ (.slice Ao88 t374.length co88 : Value).ownBlock ∧ some k_ ≠ (.slice Ao98 t379.length co98 : Value).ownBlock ∧ some k_ ≠ (s_.2.1 : Value).ownBlock ∧ some k_ ≠ (s_.2.2.1 : Value).ownBlock ∧ w104.heap.size ≤ k_ ∧ k_ < w119.heap.size) (.slice Ao107 t391.length co107) t391) ∧ (Kd.S k29 29 w' w.heap.size (fun k_ => some k_ ≠ (v356 : Value).ownBlock ∧ some k_ ≠ (v360 : Value).ownBlock ∧ some k_ ≠ (.slice Ao68 t363.length co68 : Value).ownBlock ∧ some k_ ≠ (.slice Ao78 t369.length co78 : Value).ownBlock ∧ some k_ ≠ (.slice Ao88 t374.length co88 : Value).ownBlock ∧ some k_ ≠ (.slice Ao98 t379.length co98 : Value).ownBlock ∧ some k_ ≠ (.slice Ao103 t386.length co103 : Value).ownBlock ∧ some k_ ≠ (.slice Ao107 t391.length co107 : Value).ownBlock ∧ some k_ ≠ (s_.2.1 : Value).ownBlock ∧ some k_ ≠ (s_.2.2.1 : Value).ownBlock ∧ k_ ≠ gb377) s_.1 t404) ∧ (Kd.R (Kd.int .i64) 3 w' w.heap.size (fun k_ => some k_ ≠ (v360 : Value).ownBlock ∧ some k_ ≠ (.slice Ao68 t363.length co68 : Value).ownBlock ∧ some k_ ≠ (.slice Ao88 t374.length co88 : Value).ownBlock ∧ some k_ ≠ (.slice Ao98 t379.length co98 : Value).ownBlock ∧ some k_ ≠ (.slice Ao107 t391.length co107 : Value).ownBlock ∧ some k_ ≠ (s_.2.2.1 : Value).ownBlock) s_.2.1 t408) ∧ (Kd.R (Kd.int .i64) 3 w' w.heap.size (fun k_ => some k_ ≠ (v360 : Value).ownBlock ∧ some k_ ≠ (.slice Ao68 t363.length co68 : Value).ownBlock ∧ some k_ ≠ (.slice Ao88 t374.length co88 : Value).ownBlock ∧ some k_ ≠ (.slice Ao98 t379.length co98 : Value).ownBlock ∧ some k_ ≠ (.slice Ao107 t391.length co107 : Value).ownBlock ∧ some k_ ≠ (s_.2.1 : Value).ownBlock) s_.2.2.1 t412) ∧ (w'.heap[gb350]? = some (.cells #[.int .i64 a0_0, .slice A0_1 l0_1.length c0_1] 42 (0, 0))) ∧ (w'.heap[gb351]? = some (.cells #[.int .i64 a1_0, .slice A1_1 l1_1.length c1_1] 43 (0, 0))) ∧ (w'.heap[gb367]? = some (.cells #[.int .i64 t362, .slice Ao68 t363.length co68] 33 (0, 0))) ∧ (w'.heap[gb372]? = some (.cells #[.int .i64 t368, .slice Ao78 t369.length co78] 26 (0, 0))) ∧ (w'.heap[gb377]? = some (.cells #[.int .i64 t373, .slice Ao88 t374.length co88] 29 (0, 0))) ∧ (w'.heap[gb383]? = some (.cells #[.int .i64 t378, .slice Ao98 t379.length co98] 33 (0, 0))) ∧ (w'.heap[s_.2.2.2]? = some (.cells #[.int .i64 0, .slice none 0 0] 33 (0, 0))) ∧ (w.heap.size ≤ s_.2.2.2) ∧ (w.heap.size ≤ s_.2.2.2) ∧ (gb350 ≠ s_.2.2.2) ∧ (s_.2.2.2 ≠ gb350) ∧ (gb351 ≠ s_.2.2.2) ∧ (s_.2.2.2 ≠ gb351) ∧ (gb367 ≠ s_.2.2.2) ∧ (s_.2.2.2 ≠ gb367) ∧ (gb372 ≠ s_.2.2.2) ∧ (s_.2.2.2 ≠ gb372) ∧ (gb377 ≠ s_.2.2.2) ∧ (s_.2.2.2 ≠ gb377) ∧ (gb383 ≠ s_.2.2.2) ∧ (s_.2.2.2 ≠ gb383) ∧ (Below w.heap.size w w')) ?_ ?_
        rotate_left
        ·intro hCont
         refine two_ (i := 1) (j := 8) (Ni := some 96) (Nj := some 15) #[true, true, true, false, false, false, false, false, false, false, false] #[true, false, true, false, false, false, false, false, true, false, false] rfl rfl rfl rfl (two_of HT_.out (by kernel_rfl)) (by decide) (by decide) (fun K hK => ?_) (fun K hK => ?_)
         ·skip
          refine gs Try.func25 (by kernel_rfl) rfl #[.agg #[.int .i64 a0_0, .slice A0_1 l0_1.length c0_1]] (by rfl) rfl rfl ?_
          with_reducible refine (laws_toSystem.calls k a0_0 _ _ l0_1 t403 t404 _ ?side1 ?side2 A43.out).mono ?_
          (case side1 => exact mc ((Kd.C_below HR0_1.out HB.out)))
          (case side2 => exact HC0_1.out)
          rintro e w121 ⟨v405, rfl, ho0, hb⟩
          refine ⟨_, rfl, ?_⟩
          have HO406 := Aside0.mk (Kd.S_lower (Kd.S_newB (Kd.S_new' (Kd.S_new' (Kd.S_new' (Kd.S_new' (Kd.S_new' (Kd.S_new' (Kd.S_new' (Kd.S_new' ho0 (Kd.S_lt (mS HO357))) (Kd.R_lt (mr HO361))) (Kd.R_lt (mr HO365))) (Kd.S_lt (mS HO371))) (Kd.R_lt (mr HO376))) (Kd.R_lt (mr HO381))) (Kd.S_lt (mS HO388))) (Kd.R_lt (mr HO393))) (g := gb377) (o := .cells #[.int .i64 t373, .slice Ao88 t374.length co88] 29 (0, 0)) (mb BK377)) (below_size (ms HB)))
          replace HO357 := Aside0.mk (Kd.S_elder' (mS HO357) (Kd.S_base ho0) hb)
          replace HO361 := rb HO361 hb
          replace HO365 := rb HO365 hb
          replace HO371 := Aside0.mk (Kd.S_elder' (mS HO371) (Kd.S_base ho0) hb)
          replace HO376 := rb HO376 hb
          replace HO381 := rb HO381 hb
          replace HO388 := Aside0.mk (Kd.S_elder' (mS HO388) (Kd.S_base ho0) hb)
          replace HO393 := rb HO393 hb
          replace BK350 := bb BK350 hb
          replace BK351 := bb BK351 hb
          replace BK367 := bb BK367 hb
          replace BK372 := bb BK372 hb
          replace BK377 := bb BK377 hb
          replace BK383 := bb BK383 hb
          replace HB := bs HB hb
          (try clear hb)
          (try clear hb2)
          (try clear hk)
          (try clear hi)
          (try clear ho0)
          refine hK.out _ _ ⟨(c2 BK350).1, (c2 BK350).2, (c2 BK351).1, (c2 BK351).2⟩ (fun hHeld => ?_)
          clear hK K
          refine norm_ (a' := ?_) ?_ ?_
          rotate_left
          ·show Act.put _ (some 96) _ = _
           simp only [Act.put, z1, z2, z3, i64_w, i32_w]
           rfl
          refine two_ (i := 3) (j := 8) (Ni := some 98) (Nj := some 15) #[true, true, true, true, false, false, false, false, false, false, false] #[true, true, true, false, false, false, false, false, true, false, false] rfl rfl rfl rfl (two_of HT_.out (by kernel_rfl)) (by decide) (by decide) (fun K hK => ?_) (fun K hK => ?_)
          ·skip
           refine gs Try.func26 (by kernel_rfl) rfl #[.agg #[.int .i64 a1_0, .slice A1_1 l1_1.length c1_1]] (by rfl) rfl rfl ?_
           with_reducible refine (laws_toLin.calls k a1_0 _ _ l1_1 t407 t408 _ ?side1 ?side2 A44.out).mono ?_
           (case side1 => exact mc ((Kd.C_below HR1_1.out HB.out)))
           (case side2 => exact HC1_1.out)
           rintro e w122 ⟨v409, rfl, ho0, hb⟩
           refine ⟨_, rfl, ?_⟩
           replace HO357 := lS HO357 ho0 hb
           replace HO371 := lS HO371 ho0 hb
           replace HO388 := lS HO388 ho0 hb
           replace HO406 := lS HO406 ho0 hb
           have HO410 := Aside0.mk (Kd.R_lower (Kd.R_new' (Kd.R_new' (Kd.R_new' (Kd.R_new' (Kd.R_new' ho0 (Kd.R_lt (mr HO361))) (Kd.R_lt (mr HO365))) (Kd.R_lt (mr HO376))) (Kd.R_lt (mr HO381))) (Kd.R_lt (mr HO393))) (below_size (ms HB)))
           replace HO361 := rl HO361 ho0 hb
           replace HO365 := rl HO365 ho0 hb
           replace HO376 := rl HO376 ho0 hb
           replace HO381 := rl HO381 ho0 hb
           replace HO393 := rl HO393 ho0 hb
           replace BK350 := bb BK350 hb
           replace BK351 := bb BK351 hb
           replace BK367 := bb BK367 hb
           replace BK372 := bb BK372 hb
           replace BK377 := bb BK377 hb
           replace BK383 := bb BK383 hb
           replace HB := bs HB hb
           (try clear hb)
           (try clear hb2)
           (try clear hk)
           (try clear hi)
           (try clear ho0)
           obtain ⟨Ao123, co123, eo123⟩ := Kd.S_slice HO406.out
           (first | subst eo123 | (injection eo123 with f1_ f2_ f3_; have f4_ := f1_.symm; have f5_ := f3_.symm; clear f1_ f2_ f3_; subst f4_; subst f5_))
           obtain ⟨Ao124, co124, eo124⟩ := Kd.R_slice HO410.out
           (first | subst eo124 | (injection eo124 with f1_ f2_ f3_; have f4_ := f1_.symm; have f5_ := f3_.symm; clear f1_ f2_ f3_; subst f4_; subst f5_))
           refine hK.out _ _ ⟨(c2 BK350).1, (c2 BK350).2, (c2 BK351).1, (c2 BK351).2⟩ (fun hHeld => ?_)
           clear hK K
           refine norm_ (a' := ?_) ?_ ?_
           rotate_left
           ·show Act.put _ (some 98) _ = _
            simp only [Act.put, z1, z2, z3, i64_w, i32_w]
            rfl
           refine two_ (i := 4) (j := 8) (Ni := some 99) (Nj := some 15) #[true, true, true, true, true, false, false, false, false, false, false] #[true, true, true, true, false, false, false, false, true, false, false] rfl rfl rfl rfl (two_of HT_.out (by kernel_rfl)) (by decide) (by decide) (fun K hK => ?_) (fun K hK => ?_)
           ·skip
            refine gs Try.func15 (by kernel_rfl) rfl #[.agg #[.int .i64 t403, .slice Ao123 t404.length co123], .agg #[.int .i64 t407, .slice Ao124 t408.length co124]] (by rfl) rfl rfl ?_
            with_reducible refine (impl_FindFarkas.calls k t403 _ _ t404 t407 _ _ t408 t411 t412 t415 _ ?side1 ?side2 ?side3 ?side4 A45.out).mono ?_
            (case side1 => exact mc ((Kd.S_reads' HO406.out).2.2))
            (case side2 => exact (Kd.S_reads' HO406.out).2.1)
            (case side3 => exact mc ((Kd.R_reads' HO410.out).2.2))
            (case side4 => exact (Kd.R_reads' HO410.out).2.1)
            rintro e w125 ⟨v413, rfl, ho0, hb⟩
            refine ⟨_, rfl, ?_⟩
            replace HO357 := lS HO357 ho0 hb
            replace HO371 := lS HO371 ho0 hb
            replace HO388 := lS HO388 ho0 hb
            replace HO406 := lS HO406 ho0 hb
            have HO414 := Aside0.mk (Kd.R_lower (Kd.R_new' (Kd.R_new' (Kd.R_new' (Kd.R_new' (Kd.R_new' (Kd.R_new' ho0 (Kd.R_lt (mr HO361))) (Kd.R_lt (mr HO365))) (Kd.R_lt (mr HO376))) (Kd.R_lt (mr HO381))) (Kd.R_lt (mr HO393))) (Kd.R_lt (mr HO410))) (below_size (ms HB)))
            replace HO361 := rl HO361 ho0 hb
            replace HO365 := rl HO365 ho0 hb
            replace HO376 := rl HO376 ho0 hb
            replace HO381 := rl HO381 ho0 hb
            replace HO393 := rl HO393 ho0 hb
            replace HO410 := rl HO410 ho0 hb
            replace BK350 := bb BK350 hb
            replace BK351 := bb BK351 hb
            replace BK367 := bb BK367 hb
            replace BK372 := bb BK372 hb
            replace BK377 := bb BK377 hb
            replace BK383 := bb BK383 hb
            replace HB := bs HB hb
            (try clear hb)
            (try clear hb2)
            (try clear hk)
            (try clear hi)
            (try clear ho0)
            refine hK.out _ _ ⟨(c2 BK350).1, (c2 BK350).2, (c2 BK351).1, (c2 BK351).2⟩ (fun hHeld => ?_)
            clear hK K
            refine norm_ (a' := ?_) ?_ ?_
            rotate_left
            ·show Act.put _ (some 99) _ = _
             simp only [Act.put, z1, z2, z3, i64_w, i32_w]
             rfl
            refine pu 5 (some 94) (v := ?_) (a' := ?_) #[true, true, true, true, true, true, false, false, false, false, false] rfl rfl HT_ (fun _ _ _ h => h) (by rfl) ?_ ?_ ?_
            rotate_left
            ·intro w'
             go_simp
             with_reducible rfl
            rotate_left
            ·simp only [Act.put, z1, z2, z3, i64_w, i32_w]
             rfl
            refine pu 6 (some 100) (v := ?_) (a' := ?_) #[true, true, true, true, true, true, true, false, false, false, false] rfl rfl HT_ (fun _ _ _ h => h) (by rfl) ?_ ?_ ?_
            rotate_left
            ·intro w'
             go_simp
             with_reducible rfl
            rotate_left
            ·simp only [Act.put, z1, z2, z3, i64_w, i32_w]
             rfl
            refine pu 7 (some 101) (v := ?_) (a' := ?_) #[true, true, true, true, true, true, true, true, false, false, false] rfl rfl HT_ (fun _ _ _ h => h) (by rfl) ?_ ?_ ?_
            rotate_left
            ·intro w'
             go_simp
             with_reducible rfl
            rotate_left
            ·simp only [Act.put, z1, z2, z3, i64_w, i32_w]
             rfl
            refine one_ (i := 8) (N := some 15) #[true, true, true, true, true, true, true, true, true, false, false] rfl rfl (one_of HT_.out (by kernel_rfl)) (by decide) (fun K hK => ?_)
            refine box_step ?hg (N := 15) ?hd (cs := #[.int .i64 0, .slice none 0 0]) (t := 33) ?hr ?_; (case hd => rfl); (case hg => rfl); (case hr => first | (go_simp; done) | (go_simp; rfl))
            intro gb416 hg w126 hbox hb
            replace HO357 := bS HO357 hb
            replace HO361 := rb HO361 hb
            replace HO365 := rb HO365 hb
            replace HO371 := bS HO371 hb
            replace HO376 := rb HO376 hb
            replace HO381 := rb HO381 hb
            replace HO388 := bS HO388 hb
            replace HO393 := rb HO393 hb
            replace HO406 := bS HO406 hb
            replace HO410 := rb HO410 hb
            replace HO414 := rb HO414 hb
            have BK416 := Aside0.mk (hbox)
            have GW416 := gw hg HB
            have GE416 := gw hg HB
            replace HB := bs HB hb
            have NB350_416 := nl hg BK350
            have NB416_350 := ng hg BK350
            replace BK350 := bb BK350 hb
            have NB351_416 := nl hg BK351
            have NB416_351 := ng hg BK351
            replace BK351 := bb BK351 hb
            have NB367_416 := nl hg BK367
            have NB416_367 := ng hg BK367
            replace BK367 := bb BK367 hb
            have NB372_416 := nl hg BK372
            have NB416_372 := ng hg BK372
            replace BK372 := bb BK372 hb
            have NB377_416 := nl hg BK377
            have NB416_377 := ng hg BK377
            replace BK377 := bb BK377 hb
            have NB383_416 := nl hg BK383
            have NB416_383 := ng hg BK383
            replace BK383 := bb BK383 hb
            clear hb hbox hg
            refine hK.out _ _ ⟨(c2 BK350).1, (c2 BK350).2, (c2 BK351).1, (c2 BK351).2⟩ (fun hHeld => ?_)
            clear hK K
            refine norm_ (a' := ?_) ?_ ?_
            rotate_left
            ·show Act.put _ (some 15) _ = _
             simp only [Act.put, z1, z2, z3, i64_w, i32_w]
             rfl
            exact norm_ (by simp only [putAll, Act.put, List.setIfInBounds_toArray, List.set_cons_zero, List.set_cons_succ]) (hCont (.slice Ao123 t404.length co123, .slice Ao124 t408.length co124, v413, gb416) _ ⟨hHeld, (by (with_reducible repeat (first | apply Kd.S_alloc | apply Kd.S_drewN | apply Kd.S_drew)); exact Kd.S_mono HO357.out (fun _ hk => ⟨hk.1.1.1.1.1.1.1.1.1.1.1.1.1.1.1.1.1.1.1, ⟨hk.1.1.1.1.1.1.1.1.1.1.1.1.1.1.1.1.1.1.2, ⟨hk.1.1.1.1.1.1.1.1.1.1.1.1.1.1.1.1.2, ⟨hk.1.1.1.1.1.1.1.1.1.1.1.1.1.2, ⟨hk.1.1.1.1.1.1.1.1.1.2, ⟨hk.1.1.1.1.1.1.2, ⟨hk.1.1.1.1.2, ⟨hk.1.1.2, ⟨hk.1.2, ⟨hk.2, ⟨hk.1.1.1.1.1.1.1.1.1.1.1.2, ⟨hk.1.1.1.1.1.1.1.1.1.1.1.1.1.1.1.1.1.2, ⟨hk.1.1.1.1.1.1.1.1.1.1.1.1.1.1.1.2, ⟨hk.1.1.1.1.1.1.1.1.1.1.1.1.1.1.2, ⟨hk.1.1.1.1.1.1.1.1.1.1.1.1.2, ⟨hk.1.1.1.1.1.1.1.1.1.1.2, ⟨hk.1.1.1.1.1.1.1.1.2, ⟨hk.1.1.1.1.1.1.1.2, ⟨hk.1.1.1.1.1.2, hk.1.1.1.2⟩⟩⟩⟩⟩⟩⟩⟩⟩⟩⟩⟩⟩⟩⟩⟩⟩⟩⟩)), (by (with_reducible repeat (first | apply Kd.R_alloc | apply Kd.R_drewN | apply Kd.R_drew)); exact Kd.R_mono HO361.out (fun _ hk => ⟨hk.1.1.1.1.1.1.1.1.1.1.1.1.1.1, ⟨hk.1.1.1.1.1.1.1.1.1.1.2, ⟨hk.1.1.1.1.1.1.1.2, ⟨hk.1.1.1.2, ⟨hk.1.2, ⟨hk.2, ⟨hk.1.1.1.1.1.1.1.1.1.1.1.1.1.2, ⟨hk.1.1.1.1.1.1.1.1.1.1.1.1.2, ⟨hk.1.1.1.1.1.1.1.1.1.1.1.2, ⟨hk.1.1.1.1.1.1.1.1.1.2, ⟨hk.1.1.1.1.1.1.1.1.2, ⟨hk.1.1.1.1.1.1.2, ⟨hk.1.1.1.1.1.2, ⟨hk.1.1.1.1.2, hk.1.1.2⟩⟩⟩⟩⟩⟩⟩⟩⟩⟩⟩⟩⟩⟩)), (by (with_reducible repeat (first | apply Kd.R_alloc | apply Kd.R_drewN | apply Kd.R_drew)); exact Kd.R_mono HO365.out (fun _ hk => ⟨hk.1.1.1.1.1.1.1.1.1.1.1.1.1.1, ⟨hk.1.1.1.1.1.1.1.1.1.1.2, ⟨hk.1.1.1.1.1.1.1.2, ⟨hk.1.1.1.2, ⟨hk.1.2, ⟨hk.2, ⟨hk.1.1.1.1.1.1.1.1.1.1.1.1.1.2, ⟨hk.1.1.1.1.1.1.1.1.1.1.1.1.2, ⟨hk.1.1.1.1.1.1.1.1.1.1.1.2, ⟨hk.1.1.1.1.1.1.1.1.1.2, ⟨hk.1.1.1.1.1.1.1.1.2, ⟨hk.1.1.1.1.1.1.2, ⟨hk.1.1.1.1.1.2, ⟨hk.1.1.1.1.2, hk.1.1.2⟩⟩⟩⟩⟩⟩⟩⟩⟩⟩⟩⟩⟩⟩)), (by (with_reducible repeat (first | apply Kd.S_alloc | apply Kd.S_drewN | apply Kd.S_drew)); exact Kd.S_mono HO371.out (fun _ hk => ⟨hk.1.1.2, ⟨hk.1.2, ⟨hk.2, ⟨hk.1.1.1.1.1, ⟨hk.1.1.1.1.2.1, ⟨hk.1.1.1.1.2.2.1, ⟨hk.1.1.1.1.2.2.2.1, ⟨hk.1.1.1.1.2.2.2.2.1, ⟨hk.1.1.1.1.2.2.2.2.2.1, ⟨hk.1.1.1.1.2.2.2.2.2.2.1, ⟨hk.1.1.1.1.2.2.2.2.2.2.2, hk.1.1.1.2⟩⟩⟩⟩⟩⟩⟩⟩⟩⟩⟩)), (by (with_reducible repeat (first | apply Kd.R_alloc | apply Kd.R_drewN | apply Kd.R_drew)); exact Kd.R_mono HO376.out (fun _ hk => ⟨hk.1.1.1.1.1.1.1.1.1.1.1.1.2, ⟨hk.1.1.1.1.1.1.1.1.1.1.1.2, ⟨hk.1.1.1.1.1.1.1.2, ⟨hk.1.1.1.2, ⟨hk.1.2, ⟨hk.2, ⟨hk.1.1.1.1.1.1.1.1.1.1.2, ⟨hk.1.1.1.1.1.1.1.1.1.2, ⟨hk.1.1.1.1.1.1.1.1.2, ⟨hk.1.1.1.1.1.1.2, ⟨hk.1.1.1.1.1.2, ⟨hk.1.1.1.1.2, hk.1.1.2⟩⟩⟩⟩⟩⟩⟩⟩⟩⟩⟩⟩)), (by (with_reducible repeat (first | apply Kd.R_alloc | apply Kd.R_drewN | apply Kd.R_drew)); exact Kd.R_mono HO381.out (fun _ hk => ⟨hk.1.1.1.1.1.1.1.1.1.1.2, ⟨hk.1.1.1.1.1.1.1.1.1.2, ⟨hk.1.1.1.1.1.1.1.1.2, ⟨hk.1.1.1.2, ⟨hk.1.2, ⟨hk.2, ⟨hk.1.1.1.1.1.1.1.2, ⟨hk.1.1.1.1.1.1.2, ⟨hk.1.1.1.1.1.2, ⟨hk.1.1.1.1.2, hk.1.1.2⟩⟩⟩⟩⟩⟩⟩⟩⟩⟩)), (by (with_reducible repeat (first | apply Kd.S_alloc | apply Kd.S_drewN | apply Kd.S_drew)); exact Kd.S_mono HO388.out (fun _ hk => ⟨hk.1.1.1.1.1.1.1.1.1.1.1.1.1.2, ⟨hk.1.1.1.1.1.1.1.1.1.1.1.1.2, ⟨hk.1.1.1.1.1.1.1.1.1.1.1.2, ⟨hk.1.1.1.1.1.1.1.1.1.1.2, ⟨hk.1.1.1.1.1.1.1.1.1.2, ⟨hk.1.1.1.1.1.1.1.1.2, ⟨hk.1.1.1.1.2, ⟨hk.1.1.2, ⟨hk.1.2, ⟨hk.2, ⟨hk.1.1.1.1.1.1.1.2, ⟨hk.1.1.1.1.1.1.2, ⟨hk.1.1.1.1.1.2, hk.1.1.1.2⟩⟩⟩⟩⟩⟩⟩⟩⟩⟩⟩⟩⟩)), (by (with_reducible repeat (first | apply Kd.R_alloc | apply Kd.R_drewN | apply Kd.R_drew)); exact Kd.R_mono HO393.out (fun _ hk => ⟨hk.1.1.1.1.1.1.1.2, ⟨hk.1.1.1.1.1.1.2, ⟨hk.1.1.1.1.1.2, ⟨hk.1.1.1.1.2, ⟨hk.1.2, ⟨hk.2, ⟨hk.1.1.1.2, hk.1.1.2⟩⟩⟩⟩⟩⟩⟩)), (by (with_reducible repeat (first | apply Kd.S_alloc | apply Kd.S_drewN | apply Kd.S_drew)); exact Kd.S_mono HO406.out (fun _ hk => ⟨hk.1.1.1.1.1.1.1.1.1.1.2, ⟨hk.1.1.1.1.1.1.1.1.1.2, ⟨hk.1.1.1.1.1.1.1.1.2, ⟨hk.1.1.1.1.1.1.1.2, ⟨hk.1.1.1.1.1.1.2, ⟨hk.1.1.1.1.1.2, ⟨hk.1.1.1.1.2, ⟨hk.1.1.1.2, ⟨hk.1.2, ⟨hk.2, hk.1.1.2⟩⟩⟩⟩⟩⟩⟩⟩⟩⟩)), (by (with_reducible repeat (first | apply Kd.R_alloc | apply Kd.R_drewN | apply Kd.R_drew)); exact Kd.R_mono HO410.out (fun _ hk => ⟨hk.1.1.1.1.1.2, ⟨hk.1.1.1.1.2, ⟨hk.1.1.1.2, ⟨hk.1.1.2, ⟨hk.1.2, hk.2⟩⟩⟩⟩⟩)), (by (with_reducible repeat (first | apply Kd.R_alloc | apply Kd.R_drewN | apply Kd.R_drew)); exact Kd.R_mono HO414.out (fun _ hk => ⟨hk.1.1.1.1.1.2, ⟨hk.1.1.1.1.2, ⟨hk.1.1.1.2, ⟨hk.1.1.2, ⟨hk.1.2, hk.2⟩⟩⟩⟩⟩)), (mb BK350), (mb BK351), (mb BK367), (mb BK372), (mb BK377), (mb BK383), (mb BK416), GW416.out, GE416.out, NB350_416.out, NB416_350.out, NB351_416.out, NB416_351.out, NB367_416.out, NB416_367.out, NB372_416.out, NB416_372.out, NB377_416.out, NB416_377.out, NB383_416.out, NB416_383.out, (ms HB)⟩)
           skip
           refine box_step ?hg (N := 15) ?hd (cs := #[.int .i64 0, .slice none 0 0]) (t := 33) ?hr ?_; (case hd => rfl); (case hg => rfl); (case hr => first | (go_simp; done) | (go_simp; rfl))
           intro gb416 hg w123 hbox hb
           replace HO357 := bS HO357 hb
           replace HO361 := rb HO361 hb
           replace HO365 := rb HO365 hb
           replace HO371 := bS HO371 hb
           replace HO376 := rb HO376 hb
           replace HO381 := rb HO381 hb
           replace HO388 := bS HO388 hb
           replace HO393 := rb HO393 hb
           replace HO406 := bS HO406 hb
           replace HO410 := rb HO410 hb
           have BK416 := Aside0.mk (hbox)
           have GW416 := gw hg HB
           have GE416 := gw hg HB
           replace HB := bs HB hb
           have NB350_416 := nl hg BK350
           have NB416_350 := ng hg BK350
           replace BK350 := bb BK350 hb
           have NB351_416 := nl hg BK351
           have NB416_351 := ng hg BK351
           replace BK351 := bb BK351 hb
           have NB367_416 := nl hg BK367
           have NB416_367 := ng hg BK367
           replace BK367 := bb BK367 hb
           have NB372_416 := nl hg BK372
           have NB416_372 := ng hg BK372
           replace BK372 := bb BK372 hb
           have NB377_416 := nl hg BK377
           have NB416_377 := ng hg BK377
           replace BK377 := bb BK377 hb
           have NB383_416 := nl hg BK383
           have NB416_383 := ng hg BK383
           replace BK383 := bb BK383 hb
           clear hb hbox hg
           obtain ⟨Ao124, co124, eo124⟩ := Kd.S_slice HO406.out
           (first | subst eo124 | (injection eo124 with f1_ f2_ f3_; have f4_ := f1_.symm; have f5_ := f3_.symm; clear f1_ f2_ f3_; subst f4_; subst f5_))
           obtain ⟨Ao125, co125, eo125⟩ := Kd.R_slice HO410.out
           (first | subst eo125 | (injection eo125 with f1_ f2_ f3_; have f4_ := f1_.symm; have f5_ := f3_.symm; clear f1_ f2_ f3_; subst f4_; subst f5_))
           refine hK.out _ _ ⟨(c2 BK350).1, (c2 BK350).2, (c2 BK351).1, (c2 BK351).2⟩ (fun hHeld => ?_)
           clear hK K
           refine norm_ (a' := ?_) ?_ ?_
           rotate_left
           ·show Act.put _ (some 15) _ = _
            simp only [Act.put, z1, z2, z3, i64_w, i32_w]
            rfl
           refine one_ (i := 4) (N := some 99) #[true, true, true, true, true, false, false, false, true, false, false] rfl rfl (one_of HT_.out (by kernel_rfl)) (by decide) (fun K hK => ?_)
           refine gs Try.func15 (by kernel_rfl) rfl #[.agg #[.int .i64 t403, .slice Ao124 t404.length co124], .agg #[.int .i64 t407, .slice Ao125 t408.length co125]] (by rfl) rfl rfl ?_
           with_reducible refine (impl_FindFarkas.calls k t403 _ _ t404 t407 _ _ t408 t411 t412 t415 _ ?side1 ?side2 ?side3 ?side4 A45.out).mono ?_
           (case side1 => exact mc ((Kd.S_reads' HO406.out).2.2))
           (case side2 => exact (Kd.S_reads' HO406.out).2.1)
           (case side3 => exact mc ((Kd.R_reads' HO410.out).2.2))
           (case side4 => exact (Kd.R_reads' HO410.out).2.1)
           rintro e w126 ⟨v413, rfl, ho0, hb⟩
           refine ⟨_, rfl, ?_⟩
           replace HO357 := lS HO357 ho0 hb
           replace HO371 := lS HO371 ho0 hb
           replace HO388 := lS HO388 ho0 hb
           replace HO406 := lS HO406 ho0 hb
           have HO414 := Aside0.mk (Kd.R_lower (Kd.R_new' (Kd.R_new' (Kd.R_new' (Kd.R_new' (Kd.R_new' (Kd.R_new' ho0 (Kd.R_lt (mr HO361))) (Kd.R_lt (mr HO365))) (Kd.R_lt (mr HO376))) (Kd.R_lt (mr HO381))) (Kd.R_lt (mr HO393))) (Kd.R_lt (mr HO410))) (below_size (ms HB)))
           replace HO361 := rl HO361 ho0 hb
           replace HO365 := rl HO365 ho0 hb
           replace HO376 := rl HO376 ho0 hb
           replace HO381 := rl HO381 ho0 hb
           replace HO393 := rl HO393 ho0 hb
           replace HO410 := rl HO410 ho0 hb
           replace BK350 := bb BK350 hb
           replace BK351 := bb BK351 hb
           replace BK367 := bb BK367 hb
           replace BK372 := bb BK372 hb
           replace BK377 := bb BK377 hb
           replace BK383 := bb BK383 hb
           replace BK416 := bb BK416 hb
           replace HB := bs HB hb
           (try clear hb)
           (try clear hb2)
           (try clear hk)
           (try clear hi)
           (try clear ho0)
           refine hK.out _ _ ⟨(c2 BK350).1, (c2 BK350).2, (c2 BK351).1, (c2 BK351).2⟩ (fun hHeld => ?_)
           clear hK K
           refine norm_ (a' := ?_) ?_ ?_
           rotate_left
           ·show Act.put _ (some 99) _ = _
            simp only [Act.put, z1, z2, z3, i64_w, i32_w]
            rfl
           refine pu 5 (some 94) (v := ?_) (a' := ?_) #[true, true, true, true, true, true, false, false, true, false, false] rfl rfl HT_ (fun _ _ _ h => h) (by rfl) ?_ ?_ ?_
           rotate_left
           ·intro w'
            go_simp
            with_reducible rfl
           rotate_left
           ·simp only [Act.put, z1, z2, z3, i64_w, i32_w]
            rfl
           refine pu 6 (some 100) (v := ?_) (a' := ?_) #[true, true, true, true, true, true, true, false, true, false, false] rfl rfl HT_ (fun _ _ _ h => h) (by rfl) ?_ ?_ ?_
           rotate_left
           ·intro w'
            go_simp
            with_reducible rfl
           rotate_left
           ·simp only [Act.put, z1, z2, z3, i64_w, i32_w]
            rfl
           refine pu 7 (some 101) (v := ?_) (a' := ?_) #[true, true, true, true, true, true, true, true, true, false, false] rfl rfl HT_ (fun _ _ _ h => h) (by rfl) ?_ ?_ ?_
           rotate_left
           ·intro w'
            go_simp
            with_reducible rfl
           rotate_left
           ·simp only [Act.put, z1, z2, z3, i64_w, i32_w]
            rfl
           exact norm_ (by simp only [putAll, Act.put, List.setIfInBounds_toArray, List.set_cons_zero, List.set_cons_succ]) (hCont (.slice Ao124 t404.length co124, .slice Ao125 t408.length co125, v413, gb416) _ ⟨hHeld, (by (with_reducible repeat (first | apply Kd.S_alloc | apply Kd.S_drewN | apply Kd.S_drew)); exact Kd.S_mono HO357.out (fun _ hk => ⟨hk.1.1.1.1.1.1.1.1.1.1.1.1.1.1.1.1.1.1.1, ⟨hk.1.1.1.1.1.1.1.1.1.1.1.1.1.1.1.1.1.1.2, ⟨hk.1.1.1.1.1.1.1.1.1.1.1.1.1.1.1.1.2, ⟨hk.1.1.1.1.1.1.1.1.1.1.1.1.1.2, ⟨hk.1.1.1.1.1.1.1.1.1.2, ⟨hk.1.1.1.1.1.1.2, ⟨hk.1.1.1.1.2, ⟨hk.1.1.2, ⟨hk.1.2, ⟨hk.2, ⟨hk.1.1.1.1.1.1.1.1.1.1.1.2, ⟨hk.1.1.1.1.1.1.1.1.1.1.1.1.1.1.1.1.1.2, ⟨hk.1.1.1.1.1.1.1.1.1.1.1.1.1.1.1.2, ⟨hk.1.1.1.1.1.1.1.1.1.1.1.1.1.1.2, ⟨hk.1.1.1.1.1.1.1.1.1.1.1.1.2, ⟨hk.1.1.1.1.1.1.1.1.1.1.2, ⟨hk.1.1.1.1.1.1.1.1.2, ⟨hk.1.1.1.1.1.1.1.2, ⟨hk.1.1.1.1.1.2, hk.1.1.1.2⟩⟩⟩⟩⟩⟩⟩⟩⟩⟩⟩⟩⟩⟩⟩⟩⟩⟩⟩)), (by (with_reducible repeat (first | apply Kd.R_alloc | apply Kd.R_drewN | apply Kd.R_drew)); exact Kd.R_mono HO361.out (fun _ hk => ⟨hk.1.1.1.1.1.1.1.1.1.1.1.1.1.1, ⟨hk.1.1.1.1.1.1.1.1.1.1.2, ⟨hk.1.1.1.1.1.1.1.2, ⟨hk.1.1.1.2, ⟨hk.1.2, ⟨hk.2, ⟨hk.1.1.1.1.1.1.1.1.1.1.1.1.1.2, ⟨hk.1.1.1.1.1.1.1.1.1.1.1.1.2, ⟨hk.1.1.1.1.1.1.1.1.1.1.1.2, ⟨hk.1.1.1.1.1.1.1.1.1.2, ⟨hk.1.1.1.1.1.1.1.1.2, ⟨hk.1.1.1.1.1.1.2, ⟨hk.1.1.1.1.1.2, ⟨hk.1.1.1.1.2, hk.1.1.2⟩⟩⟩⟩⟩⟩⟩⟩⟩⟩⟩⟩⟩⟩)), (by (with_reducible repeat (first | apply Kd.R_alloc | apply Kd.R_drewN | apply Kd.R_drew)); exact Kd.R_mono HO365.out (fun _ hk => ⟨hk.1.1.1.1.1.1.1.1.1.1.1.1.1.1, ⟨hk.1.1.1.1.1.1.1.1.1.1.2, ⟨hk.1.1.1.1.1.1.1.2, ⟨hk.1.1.1.2, ⟨hk.1.2, ⟨hk.2, ⟨hk.1.1.1.1.1.1.1.1.1.1.1.1.1.2, ⟨hk.1.1.1.1.1.1.1.1.1.1.1.1.2, ⟨hk.1.1.1.1.1.1.1.1.1.1.1.2, ⟨hk.1.1.1.1.1.1.1.1.1.2, ⟨hk.1.1.1.1.1.1.1.1.2, ⟨hk.1.1.1.1.1.1.2, ⟨hk.1.1.1.1.1.2, ⟨hk.1.1.1.1.2, hk.1.1.2⟩⟩⟩⟩⟩⟩⟩⟩⟩⟩⟩⟩⟩⟩)), (by (with_reducible repeat (first | apply Kd.S_alloc | apply Kd.S_drewN | apply Kd.S_drew)); exact Kd.S_mono HO371.out (fun _ hk => ⟨hk.1.1.2, ⟨hk.1.2, ⟨hk.2, ⟨hk.1.1.1.1.1, ⟨hk.1.1.1.1.2.1, ⟨hk.1.1.1.1.2.2.1, ⟨hk.1.1.1.1.2.2.2.1, ⟨hk.1.1.1.1.2.2.2.2.1, ⟨hk.1.1.1.1.2.2.2.2.2.1, ⟨hk.1.1.1.1.2.2.2.2.2.2.1, ⟨hk.1.1.1.1.2.2.2.2.2.2.2, hk.1.1.1.2⟩⟩⟩⟩⟩⟩⟩⟩⟩⟩⟩)), (by (with_reducible repeat (first | apply Kd.R_alloc | apply Kd.R_drewN | apply Kd.R_drew)); exact Kd.R_mono HO376.out (fun _ hk => ⟨hk.1.1.1.1.1.1.1.1.1.1.1.1.2, ⟨hk.1.1.1.1.1.1.1.1.1.1.1.2, ⟨hk.1.1.1.1.1.1.1.2, ⟨hk.1.1.1.2, ⟨hk.1.2, ⟨hk.2, ⟨hk.1.1.1.1.1.1.1.1.1.1.2, ⟨hk.1.1.1.1.1.1.1.1.1.2, ⟨hk.1.1.1.1.1.1.1.1.2, ⟨hk.1.1.1.1.1.1.2, ⟨hk.1.1.1.1.1.2, ⟨hk.1.1.1.1.2, hk.1.1.2⟩⟩⟩⟩⟩⟩⟩⟩⟩⟩⟩⟩)), (by (with_reducible repeat (first | apply Kd.R_alloc | apply Kd.R_drewN | apply Kd.R_drew)); exact Kd.R_mono HO381.out (fun _ hk => ⟨hk.1.1.1.1.1.1.1.1.1.1.2, ⟨hk.1.1.1.1.1.1.1.1.1.2, ⟨hk.1.1.1.1.1.1.1.1.2, ⟨hk.1.1.1.2, ⟨hk.1.2, ⟨hk.2, ⟨hk.1.1.1.1.1.1.1.2, ⟨hk.1.1.1.1.1.1.2, ⟨hk.1.1.1.1.1.2, ⟨hk.1.1.1.1.2, hk.1.1.2⟩⟩⟩⟩⟩⟩⟩⟩⟩⟩)), (by (with_reducible repeat (first | apply Kd.S_alloc | apply Kd.S_drewN | apply Kd.S_drew)); exact Kd.S_mono HO388.out (fun _ hk => ⟨hk.1.1.1.1.1.1.1.1.1.1.1.1.1.2, ⟨hk.1.1.1.1.1.1.1.1.1.1.1.1.2, ⟨hk.1.1.1.1.1.1.1.1.1.1.1.2, ⟨hk.1.1.1.1.1.1.1.1.1.1.2, ⟨hk.1.1.1.1.1.1.1.1.1.2, ⟨hk.1.1.1.1.1.1.1.1.2, ⟨hk.1.1.1.1.2, ⟨hk.1.1.2, ⟨hk.1.2, ⟨hk.2, ⟨hk.1.1.1.1.1.1.1.2, ⟨hk.1.1.1.1.1.1.2, ⟨hk.1.1.1.1.1.2, hk.1.1.1.2⟩⟩⟩⟩⟩⟩⟩⟩⟩⟩⟩⟩⟩)), (by (with_reducible repeat (first | apply Kd.R_alloc | apply Kd.R_drewN | apply Kd.R_drew)); exact Kd.R_mono HO393.out (fun _ hk => ⟨hk.1.1.1.1.1.1.1.2, ⟨hk.1.1.1.1.1.1.2, ⟨hk.1.1.1.1.1.2, ⟨hk.1.1.1.1.2, ⟨hk.1.2, ⟨hk.2, ⟨hk.1.1.1.2, hk.1.1.2⟩⟩⟩⟩⟩⟩⟩)), (by (with_reducible repeat (first | apply Kd.S_alloc | apply Kd.S_drewN | apply Kd.S_drew)); exact Kd.S_mono HO406.out (fun _ hk => ⟨hk.1.1.1.1.1.1.1.1.1.1.2, ⟨hk.1.1.1.1.1.1.1.1.1.2, ⟨hk.1.1.1.1.1.1.1.1.2, ⟨hk.1.1.1.1.1.1.1.2, ⟨hk.1.1.1.1.1.1.2, ⟨hk.1.1.1.1.1.2, ⟨hk.1.1.1.1.2, ⟨hk.1.1.1.2, ⟨hk.1.2, ⟨hk.2, hk.1.1.2⟩⟩⟩⟩⟩⟩⟩⟩⟩⟩)), (by (with_reducible repeat (first | apply Kd.R_alloc | apply Kd.R_drewN | apply Kd.R_drew)); exact Kd.R_mono HO410.out (fun _ hk => ⟨hk.1.1.1.1.1.2, ⟨hk.1.1.1.1.2, ⟨hk.1.1.1.2, ⟨hk.1.1.2, ⟨hk.1.2, hk.2⟩⟩⟩⟩⟩)), (by (with_reducible repeat (first | apply Kd.R_alloc | apply Kd.R_drewN | apply Kd.R_drew)); exact Kd.R_mono HO414.out (fun _ hk => ⟨hk.1.1.1.1.1.2, ⟨hk.1.1.1.1.2, ⟨hk.1.1.1.2, ⟨hk.1.1.2, ⟨hk.1.2, hk.2⟩⟩⟩⟩⟩)), (mb BK350), (mb BK351), (mb BK367), (mb BK372), (mb BK377), (mb BK383), (mb BK416), GW416.out, GE416.out, NB350_416.out, NB416_350.out, NB351_416.out, NB416_351.out, NB367_416.out, NB416_367.out, NB372_416.out, NB416_372.out, NB377_416.out, NB416_377.out, NB383_416.out, NB416_383.out, (ms HB)⟩)
          skip
          refine box_step ?hg (N := 15) ?hd (cs := #[.int .i64 0, .slice none 0 0]) (t := 33) ?hr ?_; (case hd => rfl); (case hg => rfl); (case hr => first | (go_simp; done) | (go_simp; rfl))
          intro gb416 hg w122 hbox hb
          replace HO357 := bS HO357 hb
          replace HO361 := rb HO361 hb
          replace HO365 := rb HO365 hb
          replace HO371 := bS HO371 hb
          replace HO376 := rb HO376 hb
          replace HO381 := rb HO381 hb
          replace HO388 := bS HO388 hb
          replace HO393 := rb HO393 hb
          replace HO406 := bS HO406 hb
          have BK416 := Aside0.mk (hbox)
          have GW416 := gw hg HB
          have GE416 := gw hg HB
          replace HB := bs HB hb
          have NB350_416 := nl hg BK350
          have NB416_350 := ng hg BK350
          replace BK350 := bb BK350 hb
          have NB351_416 := nl hg BK351
          have NB416_351 := ng hg BK351
          replace BK351 := bb BK351 hb
          have NB367_416 := nl hg BK367
          have NB416_367 := ng hg BK367
          replace BK367 := bb BK367 hb
          have NB372_416 := nl hg BK372
          have NB416_372 := ng hg BK372
          replace BK372 := bb BK372 hb
          have NB377_416 := nl hg BK377
          have NB416_377 := ng hg BK377
          replace BK377 := bb BK377 hb
          have NB383_416 := nl hg BK383
          have NB416_383 := ng hg BK383
          replace BK383 := bb BK383 hb
          clear hb hbox hg
          refine hK.out _ _ ⟨(c2 BK350).1, (c2 BK350).2, (c2 BK351).1, (c2 BK351).2⟩ (fun hHeld => ?_)
          clear hK K
          refine norm_ (a' := ?_) ?_ ?_
          rotate_left
          ·show Act.put _ (some 15) _ = _
           simp only [Act.put, z1, z2, z3, i64_w, i32_w]
           rfl
          refine one_ (i := 3) (N := some 98) #[true, true, true, true, false, false, false, false, true, false, false] rfl rfl (one_of HT_.out (by kernel_rfl)) (by decide) (fun K hK => ?_)
          refine gs Try.func26 (by kernel_rfl) rfl #[.agg #[.int .i64 a1_0, .slice A1_1 l1_1.length c1_1]] (by rfl) rfl rfl ?_
          with_reducible refine (laws_toLin.calls k a1_0 _ _ l1_1 t407 t408 _ ?side1 ?side2 A44.out).mono ?_
          (case side1 => exact mc ((Kd.C_below HR1_1.out HB.out)))
          (case side2 => exact HC1_1.out)
          rintro e w123 ⟨v409, rfl, ho0, hb⟩
          refine ⟨_, rfl, ?_⟩
          replace HO357 := lS HO357 ho0 hb
          replace HO371 := lS HO371 ho0 hb
          replace HO388 := lS HO388 ho0 hb
          replace HO406 := lS HO406 ho0 hb
          have HO410 := Aside0.mk (Kd.R_lower (Kd.R_new' (Kd.R_new' (Kd.R_new' (Kd.R_new' (Kd.R_new' ho0 (Kd.R_lt (mr HO361))) (Kd.R_lt (mr HO365))) (Kd.R_lt (mr HO376))) (Kd.R_lt (mr HO381))) (Kd.R_lt (mr HO393))) (below_size (ms HB)))
          replace HO361 := rl HO361 ho0 hb
          replace HO365 := rl HO365 ho0 hb
          replace HO376 := rl HO376 ho0 hb
          replace HO381 := rl HO381 ho0 hb
          replace HO393 := rl HO393 ho0 hb
          replace BK350 := bb BK350 hb
          replace BK351 := bb BK351 hb
          replace BK367 := bb BK367 hb
          replace BK372 := bb BK372 hb
          replace BK377 := bb BK377 hb
          replace BK383 := bb BK383 hb
          replace BK416 := bb BK416 hb
          replace HB := bs HB hb
          (try clear hb)
          (try clear hb2)
          (try clear hk)
          (try clear hi)
          (try clear ho0)
          obtain ⟨Ao124, co124, eo124⟩ := Kd.S_slice HO406.out
          (first | subst eo124 | (injection eo124 with f1_ f2_ f3_; have f4_ := f1_.symm; have f5_ := f3_.symm; clear f1_ f2_ f3_; subst f4_; subst f5_))
          obtain ⟨Ao125, co125, eo125⟩ := Kd.R_slice HO410.out
          (first | subst eo125 | (injection eo125 with f1_ f2_ f3_; have f4_ := f1_.symm; have f5_ := f3_.symm; clear f1_ f2_ f3_; subst f4_; subst f5_))
          refine hK.out _ _ ⟨(c2 BK350).1, (c2 BK350).2, (c2 BK351).1, (c2 BK351).2⟩ (fun hHeld => ?_)
          clear hK K
          refine norm_ (a' := ?_) ?_ ?_
          rotate_left
          ·show Act.put _ (some 98) _ = _
           simp only [Act.put, z1, z2, z3, i64_w, i32_w]
           rfl
          refine one_ (i := 4) (N := some 99) #[true, true, true, true, true, false, false, false, true, false, false] rfl rfl (one_of HT_.out (by kernel_rfl)) (by decide) (fun K hK => ?_)
          refine gs Try.func15 (by kernel_rfl) rfl #[.agg #[.int .i64 t403, .slice Ao124 t404.length co124], .agg #[.int .i64 t407, .slice Ao125 t408.length co125]] (by rfl) rfl rfl ?_
          with_reducible refine (impl_FindFarkas.calls k t403 _ _ t404 t407 _ _ t408 t411 t412 t415 _ ?side1 ?side2 ?side3 ?side4 A45.out).mono ?_
          (case side1 => exact mc ((Kd.S_reads' HO406.out).2.2))
          (case side2 => exact (Kd.S_reads' HO406.out).2.1)
          (case side3 => exact mc ((Kd.R_reads' HO410.out).2.2))
          (case side4 => exact (Kd.R_reads' HO410.out).2.1)
          rintro e w126 ⟨v413, rfl, ho0, hb⟩
          refine ⟨_, rfl, ?_⟩
          replace HO357 := lS HO357 ho0 hb
          replace HO371 := lS HO371 ho0 hb
          replace HO388 := lS HO388 ho0 hb
          replace HO406 := lS HO406 ho0 hb
          have HO414 := Aside0.mk (Kd.R_lower (Kd.R_new' (Kd.R_new' (Kd.R_new' (Kd.R_new' (Kd.R_new' (Kd.R_new' ho0 (Kd.R_lt (mr HO361))) (Kd.R_lt (mr HO365))) (Kd.R_lt (mr HO376))) (Kd.R_lt (mr HO381))) (Kd.R_lt (mr HO393))) (Kd.R_lt (mr HO410))) (below_size (ms HB)))
          replace HO361 := rl HO361 ho0 hb
          replace HO365 := rl HO365 ho0 hb
          replace HO376 := rl HO376 ho0 hb
          replace HO381 := rl HO381 ho0 hb
          replace HO393 := rl HO393 ho0 hb
          replace HO410 := rl HO410 ho0 hb
          replace BK350 := bb BK350 hb
          replace BK351 := bb BK351 hb
          replace BK367 := bb BK367 hb
          replace BK372 := bb BK372 hb
          replace BK377 := bb BK377 hb
          replace BK383 := bb BK383 hb
          replace BK416 := bb BK416 hb
          replace HB := bs HB hb
          (try clear hb)
          (try clear hb2)
          (try clear hk)
          (try clear hi)
          (try clear ho0)
          refine hK.out _ _ ⟨(c2 BK350).1, (c2 BK350).2, (c2 BK351).1, (c2 BK351).2⟩ (fun hHeld => ?_)
          clear hK K
          refine norm_ (a' := ?_) ?_ ?_
          rotate_left
          ·show Act.put _ (some 99) _ = _
           simp only [Act.put, z1, z2, z3, i64_w, i32_w]
           rfl
          refine pu 5 (some 94) (v := ?_) (a' := ?_) #[true, true, true, true, true, true, false, false, true, false, false] rfl rfl HT_ (fun _ _ _ h => h) (by rfl) ?_ ?_ ?_
          rotate_left
          ·intro w'
           go_simp
           with_reducible rfl
          rotate_left
          ·simp only [Act.put, z1, z2, z3, i64_w, i32_w]
           rfl
          refine pu 6 (some 100) (v := ?_) (a' := ?_) #[true, true, true, true, true, true, true, false, true, false, false] rfl rfl HT_ (fun _ _ _ h => h) (by rfl) ?_ ?_ ?_
          rotate_left
          ·intro w'
           go_simp
           with_reducible rfl
          rotate_left
          ·simp only [Act.put, z1, z2, z3, i64_w, i32_w]
           rfl
          refine pu 7 (some 101) (v := ?_) (a' := ?_) #[true, true, true, true, true, true, true, true, true, false, false] rfl rfl HT_ (fun _ _ _ h => h) (by rfl) ?_ ?_ ?_
          rotate_left
          ·intro w'
           go_simp
           with_reducible rfl
          rotate_left
          ·simp only [Act.put, z1, z2, z3, i64_w, i32_w]
           rfl
          exact norm_ (by simp only [putAll, Act.put, List.setIfInBounds_toArray, List.set_cons_zero, List.set_cons_succ]) (hCont (.slice Ao124 t404.length co124, .slice Ao125 t408.length co125, v413, gb416) _ ⟨hHeld, (by (with_reducible repeat (first | apply Kd.S_alloc | apply Kd.S_drewN | apply Kd.S_drew)); exact Kd.S_mono HO357.out (fun _ hk => ⟨hk.1.1.1.1.1.1.1.1.1.1.1.1.1.1.1.1.1.1.1, ⟨hk.1.1.1.1.1.1.1.1.1.1.1.1.1.1.1.1.1.1.2, ⟨hk.1.1.1.1.1.1.1.1.1.1.1.1.1.1.1.1.2, ⟨hk.1.1.1.1.1.1.1.1.1.1.1.1.1.2, ⟨hk.1.1.1.1.1.1.1.1.1.2, ⟨hk.1.1.1.1.1.1.2, ⟨hk.1.1.1.1.2, ⟨hk.1.1.2, ⟨hk.1.2, ⟨hk.2, ⟨hk.1.1.1.1.1.1.1.1.1.1.1.2, ⟨hk.1.1.1.1.1.1.1.1.1.1.1.1.1.1.1.1.1.2, ⟨hk.1.1.1.1.1.1.1.1.1.1.1.1.1.1.1.2, ⟨hk.1.1.1.1.1.1.1.1.1.1.1.1.1.1.2, ⟨hk.1.1.1.1.1.1.1.1.1.1.1.1.2, ⟨hk.1.1.1.1.1.1.1.1.1.1.2, ⟨hk.1.1.1.1.1.1.1.1.2, ⟨hk.1.1.1.1.1.1.1.2, ⟨hk.1.1.1.1.1.2, hk.1.1.1.2⟩⟩⟩⟩⟩⟩⟩⟩⟩⟩⟩⟩⟩⟩⟩⟩⟩⟩⟩)), (by (with_reducible repeat (first | apply Kd.R_alloc | apply Kd.R_drewN | apply Kd.R_drew)); exact Kd.R_mono HO361.out (fun _ hk => ⟨hk.1.1.1.1.1.1.1.1.1.1.1.1.1.1, ⟨hk.1.1.1.1.1.1.1.1.1.1.2, ⟨hk.1.1.1.1.1.1.1.2, ⟨hk.1.1.1.2, ⟨hk.1.2, ⟨hk.2, ⟨hk.1.1.1.1.1.1.1.1.1.1.1.1.1.2, ⟨hk.1.1.1.1.1.1.1.1.1.1.1.1.2, ⟨hk.1.1.1.1.1.1.1.1.1.1.1.2, ⟨hk.1.1.1.1.1.1.1.1.1.2, ⟨hk.1.1.1.1.1.1.1.1.2, ⟨hk.1.1.1.1.1.1.2, ⟨hk.1.1.1.1.1.2, ⟨hk.1.1.1.1.2, hk.1.1.2⟩⟩⟩⟩⟩⟩⟩⟩⟩⟩⟩⟩⟩⟩)), (by (with_reducible repeat (first | apply Kd.R_alloc | apply Kd.R_drewN | apply Kd.R_drew)); exact Kd.R_mono HO365.out (fun _ hk => ⟨hk.1.1.1.1.1.1.1.1.1.1.1.1.1.1, ⟨hk.1.1.1.1.1.1.1.1.1.1.2, ⟨hk.1.1.1.1.1.1.1.2, ⟨hk.1.1.1.2, ⟨hk.1.2, ⟨hk.2, ⟨hk.1.1.1.1.1.1.1.1.1.1.1.1.1.2, ⟨hk.1.1.1.1.1.1.1.1.1.1.1.1.2, ⟨hk.1.1.1.1.1.1.1.1.1.1.1.2, ⟨hk.1.1.1.1.1.1.1.1.1.2, ⟨hk.1.1.1.1.1.1.1.1.2, ⟨hk.1.1.1.1.1.1.2, ⟨hk.1.1.1.1.1.2, ⟨hk.1.1.1.1.2, hk.1.1.2⟩⟩⟩⟩⟩⟩⟩⟩⟩⟩⟩⟩⟩⟩)), (by (with_reducible repeat (first | apply Kd.S_alloc | apply Kd.S_drewN | apply Kd.S_drew)); exact Kd.S_mono HO371.out (fun _ hk => ⟨hk.1.1.2, ⟨hk.1.2, ⟨hk.2, ⟨hk.1.1.1.1.1, ⟨hk.1.1.1.1.2.1, ⟨hk.1.1.1.1.2.2.1, ⟨hk.1.1.1.1.2.2.2.1, ⟨hk.1.1.1.1.2.2.2.2.1, ⟨hk.1.1.1.1.2.2.2.2.2.1, ⟨hk.1.1.1.1.2.2.2.2.2.2.1, ⟨hk.1.1.1.1.2.2.2.2.2.2.2, hk.1.1.1.2⟩⟩⟩⟩⟩⟩⟩⟩⟩⟩⟩)), (by (with_reducible repeat (first | apply Kd.R_alloc | apply Kd.R_drewN | apply Kd.R_drew)); exact Kd.R_mono HO376.out (fun _ hk => ⟨hk.1.1.1.1.1.1.1.1.1.1.1.1.2, ⟨hk.1.1.1.1.1.1.1.1.1.1.1.2, ⟨hk.1.1.1.1.1.1.1.2, ⟨hk.1.1.1.2, ⟨hk.1.2, ⟨hk.2, ⟨hk.1.1.1.1.1.1.1.1.1.1.2, ⟨hk.1.1.1.1.1.1.1.1.1.2, ⟨hk.1.1.1.1.1.1.1.1.2, ⟨hk.1.1.1.1.1.1.2, ⟨hk.1.1.1.1.1.2, ⟨hk.1.1.1.1.2, hk.1.1.2⟩⟩⟩⟩⟩⟩⟩⟩⟩⟩⟩⟩)), (by (with_reducible repeat (first | apply Kd.R_alloc | apply Kd.R_drewN | apply Kd.R_drew)); exact Kd.R_mono HO381.out (fun _ hk => ⟨hk.1.1.1.1.1.1.1.1.1.1.2, ⟨hk.1.1.1.1.1.1.1.1.1.2, ⟨hk.1.1.1.1.1.1.1.1.2, ⟨hk.1.1.1.2, ⟨hk.1.2, ⟨hk.2, ⟨hk.1.1.1.1.1.1.1.2, ⟨hk.1.1.1.1.1.1.2, ⟨hk.1.1.1.1.1.2, ⟨hk.1.1.1.1.2, hk.1.1.2⟩⟩⟩⟩⟩⟩⟩⟩⟩⟩)), (by (with_reducible repeat (first | apply Kd.S_alloc | apply Kd.S_drewN | apply Kd.S_drew)); exact Kd.S_mono HO388.out (fun _ hk => ⟨hk.1.1.1.1.1.1.1.1.1.1.1.1.1.2, ⟨hk.1.1.1.1.1.1.1.1.1.1.1.1.2, ⟨hk.1.1.1.1.1.1.1.1.1.1.1.2, ⟨hk.1.1.1.1.1.1.1.1.1.1.2, ⟨hk.1.1.1.1.1.1.1.1.1.2, ⟨hk.1.1.1.1.1.1.1.1.2, ⟨hk.1.1.1.1.2, ⟨hk.1.1.2, ⟨hk.1.2, ⟨hk.2, ⟨hk.1.1.1.1.1.1.1.2, ⟨hk.1.1.1.1.1.1.2, ⟨hk.1.1.1.1.1.2, hk.1.1.1.2⟩⟩⟩⟩⟩⟩⟩⟩⟩⟩⟩⟩⟩)), (by (with_reducible repeat (first | apply Kd.R_alloc | apply Kd.R_drewN | apply Kd.R_drew)); exact Kd.R_mono HO393.out (fun _ hk => ⟨hk.1.1.1.1.1.1.1.2, ⟨hk.1.1.1.1.1.1.2, ⟨hk.1.1.1.1.1.2, ⟨hk.1.1.1.1.2, ⟨hk.1.2, ⟨hk.2, ⟨hk.1.1.1.2, hk.1.1.2⟩⟩⟩⟩⟩⟩⟩)), (by (with_reducible repeat (first | apply Kd.S_alloc | apply Kd.S_drewN | apply Kd.S_drew)); exact Kd.S_mono HO406.out (fun _ hk => ⟨hk.1.1.1.1.1.1.1.1.1.1.2, ⟨hk.1.1.1.1.1.1.1.1.1.2, ⟨hk.1.1.1.1.1.1.1.1.2, ⟨hk.1.1.1.1.1.1.1.2, ⟨hk.1.1.1.1.1.1.2, ⟨hk.1.1.1.1.1.2, ⟨hk.1.1.1.1.2, ⟨hk.1.1.1.2, ⟨hk.1.2, ⟨hk.2, hk.1.1.2⟩⟩⟩⟩⟩⟩⟩⟩⟩⟩)), (by (with_reducible repeat (first | apply Kd.R_alloc | apply Kd.R_drewN | apply Kd.R_drew)); exact Kd.R_mono HO410.out (fun _ hk => ⟨hk.1.1.1.1.1.2, ⟨hk.1.1.1.1.2, ⟨hk.1.1.1.2, ⟨hk.1.1.2, ⟨hk.1.2, hk.2⟩⟩⟩⟩⟩)), (by (with_reducible repeat (first | apply Kd.R_alloc | apply Kd.R_drewN | apply Kd.R_drew)); exact Kd.R_mono HO414.out (fun _ hk => ⟨hk.1.1.1.1.1.2, ⟨hk.1.1.1.1.2, ⟨hk.1.1.1.2, ⟨hk.1.1.2, ⟨hk.1.2, hk.2⟩⟩⟩⟩⟩)), (mb BK350), (mb BK351), (mb BK367), (mb BK372), (mb BK377), (mb BK383), (mb BK416), GW416.out, GE416.out, NB350_416.out, NB416_350.out, NB351_416.out, NB416_351.out, NB367_416.out, NB416_367.out, NB372_416.out, NB416_372.out, NB377_416.out, NB416_377.out, NB383_416.out, NB416_383.out, (ms HB)⟩)
         skip
         refine box_step ?hg (N := 15) ?hd (cs := #[.int .i64 0, .slice none 0 0]) (t := 33) ?hr ?_; (case hd => rfl); (case hg => rfl); (case hr => first | (go_simp; done) | (go_simp; rfl))
         intro gb416 hg w121 hbox hb
         replace HO357 := bS HO357 hb
         replace HO361 := rb HO361 hb
         replace HO365 := rb HO365 hb
         replace HO371 := bS HO371 hb
         replace HO376 := rb HO376 hb
         replace HO381 := rb HO381 hb
         replace HO388 := bS HO388 hb
         replace HO393 := rb HO393 hb
         have BK416 := Aside0.mk (hbox)
         have GW416 := gw hg HB
         have GE416 := gw hg HB
         replace HB := bs HB hb
         have NB350_416 := nl hg BK350
         have NB416_350 := ng hg BK350
         replace BK350 := bb BK350 hb
         have NB351_416 := nl hg BK351
         have NB416_351 := ng hg BK351
         replace BK351 := bb BK351 hb
         have NB367_416 := nl hg BK367
         have NB416_367 := ng hg BK367
         replace BK367 := bb BK367 hb
         have NB372_416 := nl hg BK372
         have NB416_372 := ng hg BK372
         replace BK372 := bb BK372 hb
         have NB377_416 := nl hg BK377
         have NB416_377 := ng hg BK377
         replace BK377 := bb BK377 hb
         have NB383_416 := nl hg BK383
         have NB416_383 := ng hg BK383
         replace BK383 := bb BK383 hb
         clear hb hbox hg
         refine hK.out _ _ ⟨(c2 BK350).1, (c2 BK350).2, (c2 BK351).1, (c2 BK351).2⟩ (fun hHeld => ?_)
         clear hK K
         refine norm_ (a' := ?_) ?_ ?_
         rotate_left
         ·show Act.put _ (some 15) _ = _
          simp only [Act.put, z1, z2, z3, i64_w, i32_w]
          rfl
         refine one_ (i := 1) (N := some 96) #[true, true, true, false, false, false, false, false, true, false, false] rfl rfl (one_of HT_.out (by kernel_rfl)) (by decide) (fun K hK => ?_)
         refine gs Try.func25 (by kernel_rfl) rfl #[.agg #[.int .i64 a0_0, .slice A0_1 l0_1.length c0_1]] (by rfl) rfl rfl ?_
         with_reducible refine (laws_toSystem.calls k a0_0 _ _ l0_1 t403 t404 _ ?side1 ?side2 A43.out).mono ?_
         (case side1 => exact mc ((Kd.C_below HR0_1.out HB.out)))
         (case side2 => exact HC0_1.out)
         rintro e w122 ⟨v405, rfl, ho0, hb⟩
         refine ⟨_, rfl, ?_⟩
         have HO406 := Aside0.mk (Kd.S_lower (Kd.S_newB (Kd.S_new' (Kd.S_new' (Kd.S_new' (Kd.S_new' (Kd.S_new' (Kd.S_new' (Kd.S_new' (Kd.S_new' ho0 (Kd.S_lt (mS HO357))) (Kd.R_lt (mr HO361))) (Kd.R_lt (mr HO365))) (Kd.S_lt (mS HO371))) (Kd.R_lt (mr HO376))) (Kd.R_lt (mr HO381))) (Kd.S_lt (mS HO388))) (Kd.R_lt (mr HO393))) (g := gb377) (o := .cells #[.int .i64 t373, .slice Ao88 t374.length co88] 29 (0, 0)) (mb BK377)) (below_size (ms HB)))
         replace HO357 := Aside0.mk (Kd.S_elder' (mS HO357) (Kd.S_base ho0) hb)
         replace HO361 := rb HO361 hb
         replace HO365 := rb HO365 hb
         replace HO371 := Aside0.mk (Kd.S_elder' (mS HO371) (Kd.S_base ho0) hb)
         replace HO376 := rb HO376 hb
         replace HO381 := rb HO381 hb
         replace HO388 := Aside0.mk (Kd.S_elder' (mS HO388) (Kd.S_base ho0) hb)
         replace HO393 := rb HO393 hb
         replace BK350 := bb BK350 hb
         replace BK351 := bb BK351 hb
         replace BK367 := bb BK367 hb
         replace BK372 := bb BK372 hb
         replace BK377 := bb BK377 hb
         replace BK383 := bb BK383 hb
         replace BK416 := bb BK416 hb
         replace HB := bs HB hb
         (try clear hb)
         (try clear hb2)
         (try clear hk)
         (try clear hi)
         (try clear ho0)
         refine hK.out _ _ ⟨(c2 BK350).1, (c2 BK350).2, (c2 BK351).1, (c2 BK351).2⟩ (fun hHeld => ?_)
         clear hK K
         refine norm_ (a' := ?_) ?_ ?_
         rotate_left
         ·show Act.put _ (some 96) _ = _
          simp only [Act.put, z1, z2, z3, i64_w, i32_w]
          rfl
         refine one_ (i := 3) (N := some 98) #[true, true, true, true, false, false, false, false, true, false, false] rfl rfl (one_of HT_.out (by kernel_rfl)) (by decide) (fun K hK => ?_)
         refine gs Try.func26 (by kernel_rfl) rfl #[.agg #[.int .i64 a1_0, .slice A1_1 l1_1.length c1_1]] (by rfl) rfl rfl ?_
         with_reducible refine (laws_toLin.calls k a1_0 _ _ l1_1 t407 t408 _ ?side1 ?side2 A44.out).mono ?_
         (case side1 => exact mc ((Kd.C_below HR1_1.out HB.out)))
         (case side2 => exact HC1_1.out)
         rintro e w123 ⟨v409, rfl, ho0, hb⟩
         refine ⟨_, rfl, ?_⟩
         replace HO357 := lS HO357 ho0 hb
         replace HO371 := lS HO371 ho0 hb
         replace HO388 := lS HO388 ho0 hb
         replace HO406 := lS HO406 ho0 hb
         have HO410 := Aside0.mk (Kd.R_lower (Kd.R_new' (Kd.R_new' (Kd.R_new' (Kd.R_new' (Kd.R_new' ho0 (Kd.R_lt (mr HO361))) (Kd.R_lt (mr HO365))) (Kd.R_lt (mr HO376))) (Kd.R_lt (mr HO381))) (Kd.R_lt (mr HO393))) (below_size (ms HB)))
         replace HO361 := rl HO361 ho0 hb
         replace HO365 := rl HO365 ho0 hb
         replace HO376 := rl HO376 ho0 hb
         replace HO381 := rl HO381 ho0 hb
         replace HO393 := rl HO393 ho0 hb
         replace BK350 := bb BK350 hb
         replace BK351 := bb BK351 hb
         replace BK367 := bb BK367 hb
         replace BK372 := bb BK372 hb
         replace BK377 := bb BK377 hb
         replace BK383 := bb BK383 hb
         replace BK416 := bb BK416 hb
         replace HB := bs HB hb
         (try clear hb)
         (try clear hb2)
         (try clear hk)
         (try clear hi)
         (try clear ho0)
         obtain ⟨Ao124, co124, eo124⟩ := Kd.S_slice HO406.out
         (first | subst eo124 | (injection eo124 with f1_ f2_ f3_; have f4_ := f1_.symm; have f5_ := f3_.symm; clear f1_ f2_ f3_; subst f4_; subst f5_))
         obtain ⟨Ao125, co125, eo125⟩ := Kd.R_slice HO410.out
         (first | subst eo125 | (injection eo125 with f1_ f2_ f3_; have f4_ := f1_.symm; have f5_ := f3_.symm; clear f1_ f2_ f3_; subst f4_; subst f5_))
         refine hK.out _ _ ⟨(c2 BK350).1, (c2 BK350).2, (c2 BK351).1, (c2 BK351).2⟩ (fun hHeld => ?_)
         clear hK K
         refine norm_ (a' := ?_) ?_ ?_
         rotate_left
         ·show Act.put _ (some 98) _ = _
          simp only [Act.put, z1, z2, z3, i64_w, i32_w]
          rfl
         refine one_ (i := 4) (N := some 99) #[true, true, true, true, true, false, false, false, true, false, false] rfl rfl (one_of HT_.out (by kernel_rfl)) (by decide) (fun K hK => ?_)
         refine gs Try.func15 (by kernel_rfl) rfl #[.agg #[.int .i64 t403, .slice Ao124 t404.length co124], .agg #[.int .i64 t407, .slice Ao125 t408.length co125]] (by rfl) rfl rfl ?_
         with_reducible refine (impl_FindFarkas.calls k t403 _ _ t404 t407 _ _ t408 t411 t412 t415 _ ?side1 ?side2 ?side3 ?side4 A45.out).mono ?_
         (case side1 => exact mc ((Kd.S_reads' HO406.out).2.2))
         (case side2 => exact (Kd.S_reads' HO406.out).2.1)
         (case side3 => exact mc ((Kd.R_reads' HO410.out).2.2))
         (case side4 => exact (Kd.R_reads' HO410.out).2.1)
         rintro e w126 ⟨v413, rfl, ho0, hb⟩
         refine ⟨_, rfl, ?_⟩
         replace HO357 := lS HO357 ho0 hb
         replace HO371 := lS HO371 ho0 hb
         replace HO388 := lS HO388 ho0 hb
         replace HO406 := lS HO406 ho0 hb
         have HO414 := Aside0.mk (Kd.R_lower (Kd.R_new' (Kd.R_new' (Kd.R_new' (Kd.R_new' (Kd.R_new' (Kd.R_new' ho0 (Kd.R_lt (mr HO361))) (Kd.R_lt (mr HO365))) (Kd.R_lt (mr HO376))) (Kd.R_lt (mr HO381))) (Kd.R_lt (mr HO393))) (Kd.R_lt (mr HO410))) (below_size (ms HB)))
         replace HO361 := rl HO361 ho0 hb
         replace HO365 := rl HO365 ho0 hb
         replace HO376 := rl HO376 ho0 hb
         replace HO381 := rl HO381 ho0 hb
         replace HO393 := rl HO393 ho0 hb
         replace HO410 := rl HO410 ho0 hb
         replace BK350 := bb BK350 hb
         replace BK351 := bb BK351 hb
         replace BK367 := bb BK367 hb
         replace BK372 := bb BK372 hb
         replace BK377 := bb BK377 hb
         replace BK383 := bb BK383 hb
         replace BK416 := bb BK416 hb
         replace HB := bs HB hb
         (try clear hb)
         (try clear hb2)
         (try clear hk)
         (try clear hi)
         (try clear ho0)
         refine hK.out _ _ ⟨(c2 BK350).1, (c2 BK350).2, (c2 BK351).1, (c2 BK351).2⟩ (fun hHeld => ?_)
         clear hK K
         refine norm_ (a' := ?_) ?_ ?_
         rotate_left
         ·show Act.put _ (some 99) _ = _
          simp only [Act.put, z1, z2, z3, i64_w, i32_w]
          rfl
         refine pu 5 (some 94) (v := ?_) (a' := ?_) #[true, true, true, true, true, true, false, false, true, false, false] rfl rfl HT_ (fun _ _ _ h => h) (by rfl) ?_ ?_ ?_
         rotate_left
         ·intro w'
          go_simp
          with_reducible rfl
         rotate_left
         ·simp only [Act.put, z1, z2, z3, i64_w, i32_w]
          rfl
         refine pu 6 (some 100) (v := ?_) (a' := ?_) #[true, true, true, true, true, true, true, false, true, false, false] rfl rfl HT_ (fun _ _ _ h => h) (by rfl) ?_ ?_ ?_
         rotate_left
         ·intro w'
          go_simp
          with_reducible rfl
         rotate_left
         ·simp only [Act.put, z1, z2, z3, i64_w, i32_w]
          rfl
         refine pu 7 (some 101) (v := ?_) (a' := ?_) #[true, true, true, true, true, true, true, true, true, false, false] rfl rfl HT_ (fun _ _ _ h => h) (by rfl) ?_ ?_ ?_
         rotate_left
         ·intro w'
          go_simp
          with_reducible rfl
         rotate_left
         ·simp only [Act.put, z1, z2, z3, i64_w, i32_w]
          rfl
         exact norm_ (by simp only [putAll, Act.put, List.setIfInBounds_toArray, List.set_cons_zero, List.set_cons_succ]) (hCont (.slice Ao124 t404.length co124, .slice Ao125 t408.length co125, v413, gb416) _ ⟨hHeld, (by (with_reducible repeat (first | apply Kd.S_alloc | apply Kd.S_drewN | apply Kd.S_drew)); exact Kd.S_mono HO357.out (fun _ hk => ⟨hk.1.1.1.1.1.1.1.1.1.1.1.1.1.1.1.1.1.1.1, ⟨hk.1.1.1.1.1.1.1.1.1.1.1.1.1.1.1.1.1.1.2, ⟨hk.1.1.1.1.1.1.1.1.1.1.1.1.1.1.1.1.2, ⟨hk.1.1.1.1.1.1.1.1.1.1.1.1.1.2, ⟨hk.1.1.1.1.1.1.1.1.1.2, ⟨hk.1.1.1.1.1.1.2, ⟨hk.1.1.1.1.2, ⟨hk.1.1.2, ⟨hk.1.2, ⟨hk.2, ⟨hk.1.1.1.1.1.1.1.1.1.1.1.2, ⟨hk.1.1.1.1.1.1.1.1.1.1.1.1.1.1.1.1.1.2, ⟨hk.1.1.1.1.1.1.1.1.1.1.1.1.1.1.1.2, ⟨hk.1.1.1.1.1.1.1.1.1.1.1.1.1.1.2, ⟨hk.1.1.1.1.1.1.1.1.1.1.1.1.2, ⟨hk.1.1.1.1.1.1.1.1.1.1.2, ⟨hk.1.1.1.1.1.1.1.1.2, ⟨hk.1.1.1.1.1.1.1.2, ⟨hk.1.1.1.1.1.2, hk.1.1.1.2⟩⟩⟩⟩⟩⟩⟩⟩⟩⟩⟩⟩⟩⟩⟩⟩⟩⟩⟩)), (by (with_reducible repeat (first | apply Kd.R_alloc | apply Kd.R_drewN | apply Kd.R_drew)); exact Kd.R_mono HO361.out (fun _ hk => ⟨hk.1.1.1.1.1.1.1.1.1.1.1.1.1.1, ⟨hk.1.1.1.1.1.1.1.1.1.1.2, ⟨hk.1.1.1.1.1.1.1.2, ⟨hk.1.1.1.2, ⟨hk.1.2, ⟨hk.2, ⟨hk.1.1.1.1.1.1.1.1.1.1.1.1.1.2, ⟨hk.1.1.1.1.1.1.1.1.1.1.1.1.2, ⟨hk.1.1.1.1.1.1.1.1.1.1.1.2, ⟨hk.1.1.1.1.1.1.1.1.1.2, ⟨hk.1.1.1.1.1.1.1.1.2, ⟨hk.1.1.1.1.1.1.2, ⟨hk.1.1.1.1.1.2, ⟨hk.1.1.1.1.2, hk.1.1.2⟩⟩⟩⟩⟩⟩⟩⟩⟩⟩⟩⟩⟩⟩)), (by (with_reducible repeat (first | apply Kd.R_alloc | apply Kd.R_drewN | apply Kd.R_drew)); exact Kd.R_mono HO365.out (fun _ hk => ⟨hk.1.1.1.1.1.1.1.1.1.1.1.1.1.1, ⟨hk.1.1.1.1.1.1.1.1.1.1.2, ⟨hk.1.1.1.1.1.1.1.2, ⟨hk.1.1.1.2, ⟨hk.1.2, ⟨hk.2, ⟨hk.1.1.1.1.1.1.1.1.1.1.1.1.1.2, ⟨hk.1.1.1.1.1.1.1.1.1.1.1.1.2, ⟨hk.1.1.1.1.1.1.1.1.1.1.1.2, ⟨hk.1.1.1.1.1.1.1.1.1.2, ⟨hk.1.1.1.1.1.1.1.1.2, ⟨hk.1.1.1.1.1.1.2, ⟨hk.1.1.1.1.1.2, ⟨hk.1.1.1.1.2, hk.1.1.2⟩⟩⟩⟩⟩⟩⟩⟩⟩⟩⟩⟩⟩⟩)), (by (with_reducible repeat (first | apply Kd.S_alloc | apply Kd.S_drewN | apply Kd.S_drew)); exact Kd.S_mono HO371.out (fun _ hk => ⟨hk.1.1.2, ⟨hk.1.2, ⟨hk.2, ⟨hk.1.1.1.1.1, ⟨hk.1.1.1.1.2.1, ⟨hk.1.1.1.1.2.2.1, ⟨hk.1.1.1.1.2.2.2.1, ⟨hk.1.1.1.1.2.2.2.2.1, ⟨hk.1.1.1.1.2.2.2.2.2.1, ⟨hk.1.1.1.1.2.2.2.2.2.2.1, ⟨hk.1.1.1.1.2.2.2.2.2.2.2, hk.1.1.1.2⟩⟩⟩⟩⟩⟩⟩⟩⟩⟩⟩)), (by (with_reducible repeat (first | apply Kd.R_alloc | apply Kd.R_drewN | apply Kd.R_drew)); exact Kd.R_mono HO376.out (fun _ hk => ⟨hk.1.1.1.1.1.1.1.1.1.1.1.1.2, ⟨hk.1.1.1.1.1.1.1.1.1.1.1.2, ⟨hk.1.1.1.1.1.1.1.2, ⟨hk.1.1.1.2, ⟨hk.1.2, ⟨hk.2, ⟨hk.1.1.1.1.1.1.1.1.1.1.2, ⟨hk.1.1.1.1.1.1.1.1.1.2, ⟨hk.1.1.1.1.1.1.1.1.2, ⟨hk.1.1.1.1.1.1.2, ⟨hk.1.1.1.1.1.2, ⟨hk.1.1.1.1.2, hk.1.1.2⟩⟩⟩⟩⟩⟩⟩⟩⟩⟩⟩⟩)), (by (with_reducible repeat (first | apply Kd.R_alloc | apply Kd.R_drewN | apply Kd.R_drew)); exact Kd.R_mono HO381.out (fun _ hk => ⟨hk.1.1.1.1.1.1.1.1.1.1.2, ⟨hk.1.1.1.1.1.1.1.1.1.2, ⟨hk.1.1.1.1.1.1.1.1.2, ⟨hk.1.1.1.2, ⟨hk.1.2, ⟨hk.2, ⟨hk.1.1.1.1.1.1.1.2, ⟨hk.1.1.1.1.1.1.2, ⟨hk.1.1.1.1.1.2, ⟨hk.1.1.1.1.2, hk.1.1.2⟩⟩⟩⟩⟩⟩⟩⟩⟩⟩)), (by (with_reducible repeat (first | apply Kd.S_alloc | apply Kd.S_drewN | apply Kd.S_drew)); exact Kd.S_mono HO388.out (fun _ hk => ⟨hk.1.1.1.1.1.1.1.1.1.1.1.1.1.2, ⟨hk.1.1.1.1.1.1.1.1.1.1.1.1.2, ⟨hk.1.1.1.1.1.1.1.1.1.1.1.2, ⟨hk.1.1.1.1.1.1.1.1.1.1.2, ⟨hk.1.1.1.1.1.1.1.1.1.2, ⟨hk.1.1.1.1.1.1.1.1.2, ⟨hk.1.1.1.1.2, ⟨hk.1.1.2, ⟨hk.1.2, ⟨hk.2, ⟨hk.1.1.1.1.1.1.1.2, ⟨hk.1.1.1.1.1.1.2, ⟨hk.1.1.1.1.1.2, hk.1.1.1.2⟩⟩⟩⟩⟩⟩⟩⟩⟩⟩⟩⟩⟩)), (by (with_reducible repeat (first | apply Kd.R_alloc | apply Kd.R_drewN | apply Kd.R_drew)); exact Kd.R_mono HO393.out (fun _ hk => ⟨hk.1.1.1.1.1.1.1.2, ⟨hk.1.1.1.1.1.1.2, ⟨hk.1.1.1.1.1.2, ⟨hk.1.1.1.1.2, ⟨hk.1.2, ⟨hk.2, ⟨hk.1.1.1.2, hk.1.1.2⟩⟩⟩⟩⟩⟩⟩)), (by (with_reducible repeat (first | apply Kd.S_alloc | apply Kd.S_drewN | apply Kd.S_drew)); exact Kd.S_mono HO406.out (fun _ hk => ⟨hk.1.1.1.1.1.1.1.1.1.1.2, ⟨hk.1.1.1.1.1.1.1.1.1.2, ⟨hk.1.1.1.1.1.1.1.1.2, ⟨hk.1.1.1.1.1.1.1.2, ⟨hk.1.1.1.1.1.1.2, ⟨hk.1.1.1.1.1.2, ⟨hk.1.1.1.1.2, ⟨hk.1.1.1.2, ⟨hk.1.2, ⟨hk.2, hk.1.1.2⟩⟩⟩⟩⟩⟩⟩⟩⟩⟩)), (by (with_reducible repeat (first | apply Kd.R_alloc | apply Kd.R_drewN | apply Kd.R_drew)); exact Kd.R_mono HO410.out (fun _ hk => ⟨hk.1.1.1.1.1.2, ⟨hk.1.1.1.1.2, ⟨hk.1.1.1.2, ⟨hk.1.1.2, ⟨hk.1.2, hk.2⟩⟩⟩⟩⟩)), (by (with_reducible repeat (first | apply Kd.R_alloc | apply Kd.R_drewN | apply Kd.R_drew)); exact Kd.R_mono HO414.out (fun _ hk => ⟨hk.1.1.1.1.1.2, ⟨hk.1.1.1.1.2, ⟨hk.1.1.1.2, ⟨hk.1.1.2, ⟨hk.1.2, hk.2⟩⟩⟩⟩⟩)), (mb BK350), (mb BK351), (mb BK367), (mb BK372), (mb BK377), (mb BK383), (mb BK416), GW416.out, GE416.out, NB350_416.out, NB416_350.out, NB351_416.out, NB416_351.out, NB367_416.out, NB416_367.out, NB372_416.out, NB416_372.out, NB377_416.out, NB416_377.out, NB383_416.out, NB416_383.out, (ms HB)⟩)
        rintro ⟨v405, v409, v413, gb416⟩ w127 ⟨hS_, h0_, h1_, h2_, h3_, h4_, h5_, h6_, h7_, h8_, h9_, h10_, h11_, h12_, h13_, h14_, h15_, h16_, h17_, h18_, h19_, h20_, h21_, h22_, h23_, h24_, h25_, h26_, h27_, h28_, h29_, h30_, h31_, h32_⟩
        have n0_ : Aside0 (Kd.S k29 29 w127 w.heap.size (fun k_ => some k_ ≠ (v360 : Value).ownBlock ∧ some k_ ≠ (.slice Ao68 t363.length co68 : Value).ownBlock ∧ some k_ ≠ (.slice Ao78 t369.length co78 : Value).ownBlock ∧ some k_ ≠ (.slice Ao88 t374.length co88 : Value).ownBlock ∧ some k_ ≠ (.slice Ao98 t379.length co98 : Value).ownBlock ∧ some k_ ≠ (.slice Ao103 t386.length co103 : Value).ownBlock ∧ some k_ ≠ (.slice Ao107 t391.length co107 : Value).ownBlock ∧ some k_ ≠ (v405 : Value).ownBlock ∧ some k_ ≠ (v409 : Value).ownBlock ∧ some k_ ≠ (v413 : Value).ownBlock ∧ k_ ≠ gb377 ∧ k_ < w66.heap.size ∧ k_ < w72.heap.size ∧ k_ < w73.heap.size ∧ k_ < w81.heap.size ∧ k_ < w82.heap.size ∧ k_ < w90.heap.size ∧ k_ < w100.heap.size ∧ k_ < w104.heap.size ∧ k_ < w119.heap.size) v356 t355) := ⟨h0_⟩
        have n1_ : Aside0 (Kd.R (Kd.int .i64) 3 w127 w.heap.size (fun k_ => some k_ ≠ (.slice Ao68 t363.length co68 : Value).ownBlock ∧ some k_ ≠ (.slice Ao88 t374.length co88 : Value).ownBlock ∧ some k_ ≠ (.slice Ao98 t379.length co98 : Value).ownBlock ∧ some k_ ≠ (.slice Ao107 t391.length co107 : Value).ownBlock ∧ some k_ ≠ (v409 : Value).ownBlock ∧ some k_ ≠ (v413 : Value).ownBlock ∧ k_ < w66.heap.size ∧ k_ < w72.heap.size ∧ k_ < w73.heap.size ∧ k_ < w81.heap.size ∧ k_ < w82.heap.size ∧ k_ < w90.heap.size ∧ k_ < w100.heap.size ∧ k_ < w104.heap.size ∧ k_ < w119.heap.size) v360 t359) := ⟨h1_⟩
        have n2_ : Aside0 (Kd.R (Kd.int .i64) 3 w127 w.heap.size (fun k_ => some k_ ≠ (v360 : Value).ownBlock ∧ some k_ ≠ (.slice Ao88 t374.length co88 : Value).ownBlock ∧ some k_ ≠ (.slice Ao98 t379.length co98 : Value).ownBlock ∧ some k_ ≠ (.slice Ao107 t391.length co107 : Value).ownBlock ∧ some k_ ≠ (v409 : Value).ownBlock ∧ some k_ ≠ (v413 : Value).ownBlock ∧ k_ < w66.heap.size ∧ k_ < w72.heap.size ∧ k_ < w73.heap.size ∧ k_ < w81.heap.size ∧ k_ < w82.heap.size ∧ k_ < w90.heap.size ∧ k_ < w100.heap.size ∧ k_ < w104.heap.size ∧ k_ < w119.heap.size) (.slice Ao68 t363.length co68) t363) := ⟨h2_⟩
        have n3_ : Aside0 (Kd.S k29 29 w127 w.heap.size (fun k_ => some k_ ≠ (v405 : Value).ownBlock ∧ some k_ ≠ (v409 : Value).ownBlock ∧ some k_ ≠ (v413 : Value).ownBlock ∧ w66.heap.size ≤ k_ ∧ k_ < w72.heap.size ∧ k_ < w73.heap.size ∧ k_ < w81.heap.size ∧ k_ < w82.heap.size ∧ k_ < w90.heap.size ∧ k_ < w100.heap.size ∧ k_ < w104.heap.size ∧ k_ < w119.heap.size) (.slice Ao78 t369.length co78) t396) := ⟨h3_⟩
        have n4_ : Aside0 (Kd.R (Kd.int .i64) 3 w127 w.heap.size (fun k_ => some k_ ≠ (v360 : Value).ownBlock ∧ some k_ ≠ (.slice Ao68 t363.length co68 : Value).ownBlock ∧ some k_ ≠ (.slice Ao98 t379.length co98 : Value).ownBlock ∧ some k_ ≠ (.slice Ao107 t391.length co107 : Value).ownBlock ∧ some k_ ≠ (v409 : Value).ownBlock ∧ some k_ ≠ (v413 : Value).ownBlock ∧ w73.heap.size ≤ k_ ∧ k_ < w81.heap.size ∧ k_ < w82.heap.size ∧ k_ < w90.heap.size ∧ k_ < w100.heap.size ∧ k_ < w104.heap.size ∧ k_ < w119.heap.size) (.slice Ao88 t374.length co88) t398) := ⟨h4_⟩
        have n5_ : Aside0 (Kd.R (Kd.int .i64) 3 w127 w.heap.size (fun k_ => some k_ ≠ (v360 : Value).ownBlock ∧ some k_ ≠ (.slice Ao68 t363.length co68 : Value).ownBlock ∧ some k_ ≠ (.slice Ao88 t374.length co88 : Value).ownBlock ∧ some k_ ≠ (.slice Ao107 t391.length co107 : Value).ownBlock ∧ some k_ ≠ (v409 : Value).ownBlock ∧ some k_ ≠ (v413 : Value).ownBlock ∧ w82.heap.size ≤ k_ ∧ k_ < w90.heap.size ∧ k_ < w100.heap.size ∧ k_ < w104.heap.size ∧ k_ < w119.heap.size) (.slice Ao98 t379.length co98) t401) := ⟨h5_⟩
        have n6_ : Aside0 (Kd.S k29 29 w127 w.heap.size (fun k_ => some k_ ≠ (v356 : Value).ownBlock ∧ some k_ ≠ (v360 : Value).ownBlock ∧ some k_ ≠ (.slice Ao68 t363.length co68 : Value).ownBlock ∧ some k_ ≠ (.slice Ao78 t369.length co78 : Value).ownBlock ∧ some k_ ≠ (.slice Ao88 t374.length co88 : Value).ownBlock ∧ some k_ ≠ (.slice Ao98 t379.length co98 : Value).ownBlock ∧ some k_ ≠ (.slice Ao107 t391.length co107 : Value).ownBlock ∧ some k_ ≠ (v405 : Value).ownBlock ∧ some k_ ≠ (v409 : Value).ownBlock ∧ some k_ ≠ (v413 : Value).ownBlock ∧ k_ ≠ gb377 ∧ w100.heap.size ≤ k_ ∧ k_ < w104.heap.size ∧ k_ < w119.heap.size) (.slice Ao103 t386.length co103) t386) := ⟨h6_⟩
        have n7_ : Aside0 (Kd.R (Kd.int .i64) 3 w127 w.heap.size (fun k_ => some k_ ≠ (v360 : Value).ownBlock ∧ some k_ ≠ (.slice Ao68 t363.length co68 : Value).ownBlock ∧ some k_ ≠ (.slice Ao88 t374.length co88 : Value).ownBlock ∧ some k_ ≠ (.slice Ao98 t379.length co98 : Value).ownBlock ∧ some k_ ≠ (v409 : Value).ownBlock ∧ some k_ ≠ (v413 : Value).ownBlock ∧ w104.heap.size ≤ k_ ∧ k_ < w119.heap.size) (.slice Ao107 t391.length co107) t391) := ⟨h7_⟩
        have n8_ : Aside0 (Kd.S k29 29 w127 w.heap.size (fun k_ => some k_ ≠ (v356 : Value).ownBlock ∧ some k_ ≠ (v360 : Value).ownBlock ∧ some k_ ≠ (.slice Ao68 t363.length co68 : Value).ownBlock ∧ some k_ ≠ (.slice Ao78 t369.length co78 : Value).ownBlock ∧ some k_ ≠ (.slice Ao88 t374.length co88 : Value).ownBlock ∧ some k_ ≠ (.slice Ao98 t379.length co98 : Value).ownBlock ∧ some k_ ≠ (.slice Ao103 t386.length co103 : Value).ownBlock ∧ some k_ ≠ (.slice Ao107 t391.length co107 : Value).ownBlock ∧ some k_ ≠ (v409 : Value).ownBlock ∧ some k_ ≠ (v413 : Value).ownBlock ∧ k_ ≠ gb377) v405 t404) := ⟨h8_⟩
        have n9_ : Aside0 (Kd.R (Kd.int .i64) 3 w127 w.heap.size (fun k_ => some k_ ≠ (v360 : Value).ownBlock ∧ some k_ ≠ (.slice Ao68 t363.length co68 : Value).ownBlock ∧ some k_ ≠ (.slice Ao88 t374.length co88 : Value).ownBlock ∧ some k_ ≠ (.slice Ao98 t379.length co98 : Value).ownBlock ∧ some k_ ≠ (.slice Ao107 t391.length co107 : Value).ownBlock ∧ some k_ ≠ (v413 : Value).ownBlock) v409 t408) := ⟨h9_⟩
        have n10_ : Aside0 (Kd.R (Kd.int .i64) 3 w127 w.heap.size (fun k_ => some k_ ≠ (v360 : Value).ownBlock ∧ some k_ ≠ (.slice Ao68 t363.length co68 : Value).ownBlock ∧ some k_ ≠ (.slice Ao88 t374.length co88 : Value).ownBlock ∧ some k_ ≠ (.slice Ao98 t379.length co98 : Value).ownBlock ∧ some k_ ≠ (.slice Ao107 t391.length co107 : Value).ownBlock ∧ some k_ ≠ (v409 : Value).ownBlock) v413 t412) := ⟨h10_⟩
        have n11_ : Aside0 (w127.heap[gb350]? = some (.cells #[.int .i64 a0_0, .slice A0_1 l0_1.length c0_1] 42 (0, 0))) := ⟨h11_⟩
        have n12_ : Aside0 (w127.heap[gb351]? = some (.cells #[.int .i64 a1_0, .slice A1_1 l1_1.length c1_1] 43 (0, 0))) := ⟨h12_⟩
        have n13_ : Aside0 (w127.heap[gb367]? = some (.cells #[.int .i64 t362, .slice Ao68 t363.length co68] 33 (0, 0))) := ⟨h13_⟩
        have n14_ : Aside0 (w127.heap[gb372]? = some (.cells #[.int .i64 t368, .slice Ao78 t369.length co78] 26 (0, 0))) := ⟨h14_⟩
        have n15_ : Aside0 (w127.heap[gb377]? = some (.cells #[.int .i64 t373, .slice Ao88 t374.length co88] 29 (0, 0))) := ⟨h15_⟩
        have n16_ : Aside0 (w127.heap[gb383]? = some (.cells #[.int .i64 t378, .slice Ao98 t379.length co98] 33 (0, 0))) := ⟨h16_⟩
        have n17_ : Aside0 (w127.heap[gb416]? = some (.cells #[.int .i64 0, .slice none 0 0] 33 (0, 0))) := ⟨h17_⟩
        have n18_ : Aside0 (w.heap.size ≤ gb416) := ⟨h18_⟩
        have n19_ : Aside0 (w.heap.size ≤ gb416) := ⟨h19_⟩
        have n20_ : Aside0 (gb350 ≠ gb416) := ⟨h20_⟩
        have n21_ : Aside0 (gb416 ≠ gb350) := ⟨h21_⟩
        have n22_ : Aside0 (gb351 ≠ gb416) := ⟨h22_⟩
        have n23_ : Aside0 (gb416 ≠ gb351) := ⟨h23_⟩
        have n24_ : Aside0 (gb367 ≠ gb416) := ⟨h24_⟩
        have n25_ : Aside0 (gb416 ≠ gb367) := ⟨h25_⟩
        have n26_ : Aside0 (gb372 ≠ gb416) := ⟨h26_⟩
        have n27_ : Aside0 (gb416 ≠ gb372) := ⟨h27_⟩
        have n28_ : Aside0 (gb377 ≠ gb416) := ⟨h28_⟩
        have n29_ : Aside0 (gb416 ≠ gb377) := ⟨h29_⟩
        have n30_ : Aside0 (gb383 ≠ gb416) := ⟨h30_⟩
        have n31_ : Aside0 (gb416 ≠ gb383) := ⟨h31_⟩
        have n32_ : Aside0 (Below w.heap.size w w127) := ⟨h32_⟩
        clear HO357
        clear HO361
        clear HO365
        clear HO371
        clear HO376
        clear HO381
        clear HO388
        clear HO393
        clear BK350
        clear BK351
        clear BK367
        clear BK372
        clear BK377
        clear BK383
        clear HB
        clear h0_ h1_ h2_ h3_ h4_ h5_ h6_ h7_ h8_ h9_ h10_ h11_ h12_ h13_ h14_ h15_ h16_ h17_ h18_ h19_ h20_ h21_ h22_ h23_ h24_ h25_ h26_ h27_ h28_ h29_ h30_ h31_ h32_
        have HO357 := n0_
        have HO361 := n1_
        have HO365 := n2_
        have HO371 := n3_
        have HO376 := n4_
        have HO381 := n5_
        have HO388 := n6_
        have HO393 := n7_
        have HO406 := n8_
        have HO410 := n9_
        have HO414 := n10_
        have BK350 := n11_
        have BK351 := n12_
        have BK367 := n13_
        have BK372 := n14_
        have BK377 := n15_
        have BK383 := n16_
        have BK416 := n17_
        have GW416 := n18_
        have GE416 := n19_
        have NB350_416 := n20_
        have NB416_350 := n21_
        have NB351_416 := n22_
        have NB416_351 := n23_
        have NB367_416 := n24_
        have NB416_367 := n25_
        have NB372_416 := n26_
        have NB416_372 := n27_
        have NB377_416 := n28_
        have NB416_377 := n29_
        have NB383_416 := n30_
        have NB416_383 := n31_
        have HB := n32_
        clear n0_ n1_ n2_ n3_ n4_ n5_ n6_ n7_ n8_ n9_ n10_ n11_ n12_ n13_ n14_ n15_ n16_ n17_ n18_ n19_ n20_ n21_ n22_ n23_ n24_ n25_ n26_ n27_ n28_ n29_ n30_ n31_ n32_
        have hHeld : w127.cell? ⟨gb350, 0, none⟩ = some (.int .i64 a0_0) ∧ w127.cell? ⟨gb350, 1, none⟩ = some (.slice A0_1 l0_1.length c0_1) ∧ w127.cell? ⟨gb351, 0, none⟩ = some (.int .i64 a1_0) ∧ w127.cell? ⟨gb351, 1, none⟩ = some (.slice A1_1 l1_1.length c1_1) := hS_
        obtain ⟨Ao129, co129, eo129⟩ := Kd.R_slice HO414.out
        (first | subst eo129 | (injection eo129 with f1_ f2_ f3_; have f4_ := f1_.symm; have f5_ := f3_.symm; clear f1_ f2_ f3_; subst f4_; subst f5_))
        refine norm_ (a' := ?_) ?_ ?_
        rotate_left
        ·simp only [putAll, Act.put, List.setIfInBounds_toArray, List.set_cons_zero, List.set_cons_succ]
         rfl
        refine one_ (i := 9) (N := none) #[true, true, true, true, true, true, true, true, true, true, false] rfl rfl (one_of HT_.out (by kernel_rfl)) (by decide) (fun K hK => ?_)
        have hs128 : w127.cell? ⟨gb416, 0, none⟩ = some (.int .i64 0) := (blk_cell BK416.out 0).trans rfl
        have hfs128 := blk_frozen BK416.out 0
        have hns128_0 := NB350_416.out
        have hns128_1 := NB351_416.out
        have hns128_2 := NB367_416.out
        have hns128_3 := NB372_416.out
        have hns128_4 := NB377_416.out
        have hns128_5 := NB383_416.out
        have hms128_0 := NB416_350.out
        have hms128_1 := NB416_351.out
        have hms128_2 := NB416_367.out
        have hms128_3 := NB416_372.out
        have hms128_4 := NB416_377.out
        have hms128_5 := NB416_383.out
        have hs130 : w127.cell? ⟨gb416, 1, none⟩ = some (.slice none 0 0) := (blk_cell BK416.out 1).trans rfl
        have hfs130 := blk_frozen BK416.out 1
        have hns130_0 := NB350_416.out
        have hns130_1 := NB351_416.out
        have hns130_2 := NB367_416.out
        have hns130_3 := NB372_416.out
        have hns130_4 := NB377_416.out
        have hns130_5 := NB383_416.out
        have hms130_0 := NB416_350.out
        have hms130_1 := NB416_351.out
        have hms130_2 := NB416_367.out
        have hms130_3 := NB416_372.out
        have hms130_4 := NB416_377.out
        have hms130_5 := NB416_383.out
        refine skip_ (w1 := ?_) (by rfl) rfl ?_ ?_
        rotate_left
        ·go_simp
         rfl
        refine hK.out _ _ ⟨((cell_far (p := ⟨gb416, _, none⟩) NB350_416.out _).trans (((cell_far (p := ⟨gb416, _, none⟩) NB350_416.out _).trans (hHeld.1)))), ((cell_far (p := ⟨gb416, _, none⟩) NB350_416.out _).trans (((cell_far (p := ⟨gb416, _, none⟩) NB350_416.out _).trans (hHeld.2.1)))), ((cell_far (p := ⟨gb416, _, none⟩) NB351_416.out _).trans (((cell_far (p := ⟨gb416, _, none⟩) NB351_416.out _).trans (hHeld.2.2.1)))), ((cell_far (p := ⟨gb416, _, none⟩) NB351_416.out _).trans (((cell_far (p := ⟨gb416, _, none⟩) NB351_416.out _).trans (hHeld.2.2.2))))⟩ (fun hHeld => ?_)
        clear hK K
        refine pu 10 (some 16) (v := ?_) (a' := ?_) #[true, true, true, true, true, true, true, true, true, true, true] rfl rfl HT_ (fun _ _ _ h => h) (by rfl) ?_ ?_ ?_
        rotate_left
        ·intro w'
         go_simp
         with_reducible rfl
        rotate_left
        ·simp only [Act.put, z1, z2, z3, i64_w, i32_w]
         rfl
        refine done_ (done_of HT_.out (by kernel_rfl)) ?_
        have := NB416_350.out
        have := NB350_416.out
        have := NB416_351.out
        have := NB351_416.out
        have := NB416_367.out
        have := NB367_416.out
        have := NB416_372.out
        have := NB372_416.out
        have := NB416_377.out
        have := NB377_416.out
        have := NB416_383.out
        have := NB383_416.out
        obtain ⟨_, _, _, _⟩ := cFour BK416
        obtain ⟨_, _, _, _⟩ := cFour BK367
        try go_wp2_with (first | ((with_reducible refine gate_callee (f := 40) rfl ?_); refine gl (some 104) rfl rfl Try.func40 (by kernel_rfl) rfl #[.agg #[.int .i64 t411, .slice Ao129 t412.length co129], .agg #[.int .i64 t362, .slice Ao68 t363.length co68]] rfl ?_; (with_reducible refine (laws_eqFarkas.calls k t411 _ _ t412 t362 _ _ t363 true _ ?side1 ?side2 ?side3 ?side4 A46.out).mono ?_); (case side1 => refine (Kd.R_reads' (e := 3) (base := w.heap.size) (ok := fun k_ => (some k_ ≠ (v360 : Value).ownBlock ∧ (some k_ ≠ (.slice Ao68 t363.length co68 : Value).ownBlock ∧ (some k_ ≠ (.slice Ao88 t374.length co88 : Value).ownBlock ∧ (some k_ ≠ (.slice Ao98 t379.length co98 : Value).ownBlock ∧ (some k_ ≠ (.slice Ao107 t391.length co107 : Value).ownBlock ∧ some k_ ≠ (v409 : Value).ownBlock)))))) (n := t412.length) (c := co129) ?_).2.2; exact (by (with_reducible repeat (first | apply Kd.R_alloc | apply Kd.R_drewN | apply Kd.R_drew)); exact (rTwo HO414 BK416))); (case side2 => exact (Kd.R_reads' HO414.out).2.1); (case side3 => refine (Kd.R_reads' (e := 3) (base := w.heap.size) (ok := fun k_ => (some k_ ≠ (v360 : Value).ownBlock ∧ (some k_ ≠ (.slice Ao88 t374.length co88 : Value).ownBlock ∧ (some k_ ≠ (.slice Ao98 t379.length co98 : Value).ownBlock ∧ (some k_ ≠ (.slice Ao107 t391.length co107 : Value).ownBlock ∧ (some k_ ≠ (v409 : Value).ownBlock ∧ (some k_ ≠ (.slice Ao129 t412.length co129 : Value).ownBlock ∧ (k_ < w66.heap.size ∧ (k_ < w72.heap.size ∧ (k_ < w73.heap.size ∧ (k_ < w81.heap.size ∧ (k_ < w82.heap.size ∧ (k_ < w90.heap.size ∧ (k_ < w100.heap.size ∧ (k_ < w104.heap.size ∧ k_ < w119.heap.size))))))))))))))) (n := t363.length) (c := co68) ?_).2.2; exact (by (with_reducible repeat (first | apply Kd.R_alloc | apply Kd.R_drewN | apply Kd.R_drew)); exact (rTwo HO365 BK416))); (case side4 => exact (Kd.R_reads' HO365.out).2.1); rintro e w139 ⟨rfl, hb⟩; refine ⟨_, rfl, ?_⟩; have n0_ := Aside0.mk (Kd.S_below (by (with_reducible repeat (first | apply Kd.S_alloc | apply Kd.S_drewN | apply Kd.S_drew)); exact (Kd.S_mono (Kd.S_far (p := ⟨gb416, 1, none⟩) (Kd.S_far (p := ⟨gb416, 0, none⟩) (Kd.S_types HO357.out BK416.out (by decide)) (fun _ hk => hk.2) (.int .i64 t411)) (fun _ hk => hk.2) (.slice Ao129 t412.length co129)) (fun _ h_ => h_.1))) hb); have n1_ := Aside0.mk (Kd.R_below (by (with_reducible repeat (first | apply Kd.R_alloc | apply Kd.R_drewN | apply Kd.R_drew)); exact (rTwo HO361 BK416)) hb); have n2_ := Aside0.mk (Kd.R_below (by (with_reducible repeat (first | apply Kd.R_alloc | apply Kd.R_drewN | apply Kd.R_drew)); exact (rTwo HO365 BK416)) hb); have n3_ := Aside0.mk (Kd.S_below (by (with_reducible repeat (first | apply Kd.S_alloc | apply Kd.S_drewN | apply Kd.S_drew)); exact (Kd.S_mono (Kd.S_far (p := ⟨gb416, 1, none⟩) (Kd.S_far (p := ⟨gb416, 0, none⟩) (Kd.S_types HO371.out BK416.out (by decide)) (fun _ hk => hk.2) (.int .i64 t411)) (fun _ hk => hk.2) (.slice Ao129 t412.length co129)) (fun _ h_ => h_.1))) hb); have n4_ := Aside0.mk (Kd.R_below (by (with_reducible repeat (first | apply Kd.R_alloc | apply Kd.R_drewN | apply Kd.R_drew)); exact (rTwo HO376 BK416)) hb); have n5_ := Aside0.mk (Kd.R_below (by (with_reducible repeat (first | apply Kd.R_alloc | apply Kd.R_drewN | apply Kd.R_drew)); exact (rTwo HO381 BK416)) hb); have n6_ := Aside0.mk (Kd.S_below (by (with_reducible repeat (first | apply Kd.S_alloc | apply Kd.S_drewN | apply Kd.S_drew)); exact (Kd.S_mono (Kd.S_far (p := ⟨gb416, 1, none⟩) (Kd.S_far (p := ⟨gb416, 0, none⟩) (Kd.S_types HO388.out BK416.out (by decide)) (fun _ hk => hk.2) (.int .i64 t411)) (fun _ hk => hk.2) (.slice Ao129 t412.length co129)) (fun _ h_ => h_.1))) hb); have n7_ := Aside0.mk (Kd.R_below (by (with_reducible repeat (first | apply Kd.R_alloc | apply Kd.R_drewN | apply Kd.R_drew)); exact (rTwo HO393 BK416)) hb); have n8_ := Aside0.mk (Kd.S_below (by (with_reducible repeat (first | apply Kd.S_alloc | apply Kd.S_drewN | apply Kd.S_drew)); exact (Kd.S_mono (Kd.S_far (p := ⟨gb416, 1, none⟩) (Kd.S_far (p := ⟨gb416, 0, none⟩) (Kd.S_types HO406.out BK416.out (by decide)) (fun _ hk => hk.2) (.int .i64 t411)) (fun _ hk => hk.2) (.slice Ao129 t412.length co129)) (fun _ h_ => h_.1))) hb); have n9_ := Aside0.mk (Kd.R_below (by (with_reducible repeat (first | apply Kd.R_alloc | apply Kd.R_drewN | apply Kd.R_drew)); exact (rTwo HO410 BK416)) hb); have n10_ := Aside0.mk (Kd.R_below (by (with_reducible repeat (first | apply Kd.R_alloc | apply Kd.R_drewN | apply Kd.R_drew)); exact (rTwo HO414 BK416)) hb); have n11_ := bf BK350 hb; have n12_ := bf BK351 hb; have n13_ := bf BK367 hb; have n14_ := bf BK372 hb; have n15_ := bf BK377 hb; have n16_ := bf BK383 hb; have n17_ := bp BK416 hb; have n18_ := bs HB hb; clear HO357 HO361 HO365 HO371 HO376 HO381 HO388 HO393 HO406 HO410 HO414 BK350 BK351 BK367 BK372 BK377 BK383 BK416 HB; have HO357 := n0_; have HO361 := n1_; have HO365 := n2_; have HO371 := n3_; have HO376 := n4_; have HO381 := n5_; have HO388 := n6_; have HO393 := n7_; have HO406 := n8_; have HO410 := n9_; have HO414 := n10_; have BK350 := n11_; have BK351 := n12_; have BK367 := n13_; have BK372 := n14_; have BK377 := n15_; have BK383 := n16_; have BK416 := n17_; have HB := n18_; clear n0_ n1_ n2_ n3_ n4_ n5_ n6_ n7_ n8_ n9_ n10_ n11_ n12_ n13_ n14_ n15_ n16_ n17_ n18_; (try clear hb); obtain ⟨_, _, _, _⟩ := cFour BK383) | ((with_reducible refine gate_callee (f := 42) rfl ?_); refine goesL_ (some 113) rfl rfl Try.func42 (by kernel_rfl) rfl #[.agg #[.int .i64 t378, .slice Ao98 t401.length co98], .int .i64 1] rfl (by (try simp only [List.map_toArray, List.map_cons, List.map_nil]); first | done | (rw [show t401.length = t379.length from (Kd.R_reads' HO381.out).1.symm] <;> rfl) | rfl | (simp only [List.length_drop, List.length_take]; rfl)) ?_; (with_reducible refine (laws_heldFarkas.calls k t378 _ _ t401 1 t418 _ ?side1 ?side2 A49.out).mono ?_); (case side1 => exact mc ((Kd.R_reads' HO381.out).2.2)); (case side2 => rw [show t401.length = t379.length from (Kd.R_reads' HO381.out).1.symm]; exact (Kd.R_reads' HO381.out).2.1); rintro e w141 ⟨rfl, hb⟩; refine ⟨_, rfl, ?_⟩; replace HO357 := bS HO357 hb; replace HO361 := rb HO361 hb; replace HO365 := rb HO365 hb; replace HO371 := bS HO371 hb; replace HO376 := rb HO376 hb; replace HO381 := rb HO381 hb; replace HO388 := bS HO388 hb; replace HO393 := rb HO393 hb; replace HO406 := bS HO406 hb; replace HO410 := rb HO410 hb; replace HO414 := rb HO414 hb; replace BK350 := bb BK350 hb; replace BK351 := bb BK351 hb; replace BK367 := bb BK367 hb; replace BK372 := bb BK372 hb; replace BK377 := bb BK377 hb; replace BK383 := bb BK383 hb; replace BK416 := bb BK416 hb; replace HB := bs HB hb; (try clear hb)))
        go_ret
        exact ⟨by first | rfl | (simp [errW_none, errW_some] <;> rfl) | (simp [*, errW_none, errW_some] <;> rfl), ms HB⟩
       rw [if_neg c51] at H
       have c51b0 : (t418 == t400) = false := beq_eq_false_iff_ne.mpr c51
       have c51b1 : (t418 != t400) = true := bne_iff_ne.mpr c51
       obtain rfl := Option.some.inj H
       exact absurd hT_ (by decide)
      replace c47 := Bool.eq_false_iff.mpr c47
      subst c47
      have H1 : (some false) = some r := by rw [if_neg (show ¬ (false = true) by decide)] at H; exact H
      clear H
      have H := H1
      clear H1
      obtain rfl := Option.some.inj H
      exact absurd hT_ (by decide)
     rw [if_neg c42] at H
     have c42b0 : (t402 == t400) = false := beq_eq_false_iff_ne.mpr c42
     have c42b1 : (t402 != t400) = true := bne_iff_ne.mpr c42
     obtain rfl := Option.some.inj H
     exact absurd hT_ (by decide)
    replace c38 := Bool.eq_false_iff.mpr c38
    subst c38
    have H1 : (some false) = some r := by rw [if_neg (show ¬ (false = true) by decide)] at H; exact H
    clear H
    have H := H1
    clear H1
    obtain rfl := Option.some.inj H
    exact absurd hT_ (by decide)
   replace c33 := Bool.eq_false_iff.mpr c33
   subst c33
   have H1 : (some false) = some r := by rw [if_neg (show ¬ (false = true) by decide)] at H; exact H
   clear H
   have H := H1
   clear H1
   obtain rfl := Option.some.inj H
   exact absurd hT_ (by decide)
  replace c30 := Bool.eq_false_iff.mpr c30
  subst c30
  have H1 : (some false) = some r := by rw [if_neg (show ¬ (false = true) by decide)] at H; exact H
  clear H
  have H := H1
  clear H1
  obtain rfl := Option.some.inj H
  exact absurd hT_ (by decide)
 replace c26 := Bool.eq_false_iff.mpr c26
 subst c26
 have H1 : (some false) = some r := by rw [if_neg (show ¬ (false = true) by decide)] at H; exact H
 clear H
 have H := H1
 clear H1
 obtain rfl := Option.some.inj H
 exact absurd hT_ (by decide)

/-- THE ONE PURE STATEMENT of laws_FnExactFindFarkas. -/
def laws_FnExactFindFarkas.Pure : Prop := ∀ (a0_0 : Int) (l0_1 : List (S43)) (a1_0 : Int) (l1_1 : List Int), ((Lit.int .i64 a0_0).wf = true) → (l0_1.length ≤ 9223372036854775807 ∧ ∀ x0 ∈ l0_1, ((Lit.int .i64 x0.f0).wf = true) ∧ (x0.f1.length ≤ 9223372036854775807 ∧ ∀ x1 ∈ x0.f1, (Lit.int .i64 x1).wf = true)) → ((Lit.int .i64 a1_0).wf = true) → (l1_1.length ≤ 9223372036854775807 ∧ ∀ x0 ∈ l1_1, (Lit.int .i64 x0).wf = true) → ∃ k, laws_FnExactFindFarkas.f k a0_0 l0_1 a1_0 l1_1 = some true

end Go.Proofs.Ytlencemmlgkflaa.QFnExactFindFarkas
