-- Made by a program of this claim's own (wip/print): not the kit's print as it stands.
import Derived.Test.YtlencemmlgkflaaUFnExactAddRowTri
import Derived.Test.YtlencemmlgkflaaQFnExactAddRowx0
import Derived.Test.YtlencemmlgkflaaQFnExactAddRowx1
import Derived.Test.YtlencemmlgkflaaQFnExactAddRowx3
import Derived.Test.YtlencemmlgkflaaQFnExactAddRowx4
import Derived.Test.YtlencemmlgkflaaQFnExactAddRowx6
import Derived.Test.YtlencemmlgkflaaQFnExactAddRowx7
import Derived.Test.YtlencemmlgkflaaQFnExactAddRowx8
namespace Go.Proofs.Ytlencemmlgkflaa.QFnExactAddRow
open Go.RowKit Go.Proofs.YtlencemmlgkflaaV.PrintWords Go.Proofs.YtlencemmlgkflaaV.PrintLast Go.Proofs.YtlencemmlgkflaaV.PrintMore
attribute [local go_sem] max2_int min2_int max_two min_two max_three min_three max_four min_four   -- for this text's walks alone
set_option linter.unusedVariables false
set_option linter.unusedSimpArgs false

/-! ### laws_FnExactAddRow: function 4 -/
def laws_FnExactAddRow.f (k : Nat) (a0_0 : Int) (l0_1 : List (S43)) (a1_0 : Int) (l1_1 : List Int) : Option (Bool) := (laws_szSystem.f k a0_0 l0_1 1048576).bind fun t274 => (if t274 < 0 then (some true) else ((laws_szLin.f a1_0 l1_1 t274).bind fun t275 => (if t275 < 0 then (some true) else ((laws_toSystem.f k a0_0 l0_1).bind fun bt276 => ((laws_toLin.f k a1_0 l1_1).bind fun bt280 => ((spec_AddRow.f k bt276.1 bt276.2 bt280.1 bt280.2).bind fun bt284 => ((laws_toSystem.f k a0_0 l0_1).bind fun bt290 => ((laws_toLin.f k a1_0 l1_1).bind fun bt295 => ((impl_AddRow.f k bt290.1 bt290.2 bt295.1 bt295.2).bind fun bt300 => ((laws_eqSystem.f k bt300.1 bt300.2.1 bt284.1 bt284.2.1).bind fun t306 => (if t306 = true then (if (bt300.2.2 != bt284.2.2) = true then (some false) else ((laws_toSystem.f k a0_0 l0_1).bind fun bt307 => ((laws_eqSystem.f k bt290.1 bt290.2 bt307.1 bt307.2).bind fun t311 => (if t311 = true then ((laws_toLin.f k a1_0 l1_1).bind fun bt312 => ((laws_eqLin.f k bt295.1 bt295.2 bt312.1 bt312.2).bind fun t316 => (if t316 = true then ((laws_markSystem.f k bt290.1 bt290.2 1).bind fun bt317 => ((laws_markLin.f k bt295.1 bt295.2 bt317.1).bind fun bt319 => (if bt319.1 < 0 then (some false) else ((laws_eqSystem.f k bt300.1 bt300.2.1 bt284.1 bt284.2.1).bind fun t321 => (if t321 = true then ((laws_markSystem.f k bt300.1 bt300.2.1 1).bind fun bt322 => ((laws_heldSystem.f k bt300.1 bt322.2 1).bind fun t324 => (if t324 < 0 then (some false) else (if t324 = bt322.1 then ((laws_toSystem.f k a0_0 l0_1).bind fun bt325 => ((laws_toLin.f k a1_0 l1_1).bind fun bt329 => ((impl_AddRow.f k bt325.1 bt325.2 bt329.1 bt329.2).bind fun bt333 => ((laws_eqSystem.f k bt333.1 bt333.2.1 bt284.1 bt284.2.1).bind fun t339 => (if t339 = true then (if (bt333.2.2 != bt284.2.2) = true then (some false) else ((laws_heldSystem.f k bt300.1 bt322.2 1).bind fun t340 => (if t340 < 0 then (some false) else (if t340 = bt322.1 then (some true) else (some false))))) else (some false)))))) else (some false))))) else (some false)))))) else (some false)))) else (some false))))) else (some false))))))))))))
theorem laws_FnExactAddRow.mono : ∀ a0 a1 a2 a3 k, LeO (laws_FnExactAddRow.f k a0 a1 a2 a3) (laws_FnExactAddRow.f (k + 1) a0 a1 a2 a3) := by
 intro a0 a1 a2 a3 k
 unfold laws_FnExactAddRow.f
 repeat' first
   | (with_reducible exact impl_AddRow.mono _ _ _ _ _)
   | (with_reducible exact laws_eqLin.mono _ _ _ _ _)
   | (with_reducible exact laws_eqSystem.mono _ _ _ _ _)
   | (with_reducible exact laws_heldSystem.mono _ _ _ _)
   | (with_reducible exact laws_markLin.mono _ _ _ _)
   | (with_reducible exact laws_markSystem.mono _ _ _ _)
   | (with_reducible exact laws_szSystem.mono _ _ _ _)
   | (with_reducible exact laws_toLin.mono _ _ _)
   | (with_reducible exact laws_toSystem.mono _ _ _)
   | (with_reducible exact spec_AddRow.mono _ _ _ _ _)
   | (with_reducible exact LeO.refl _)
   | (with_reducible exact LeO.none _)
   | (with_reducible refine LeO.ite ?_ ?_)
   | (with_reducible refine LeO.bind ?_ (fun _ => ?_))
   | exact impl_AddRow.mono _ _ _ _ _
   | exact laws_eqLin.mono _ _ _ _ _
   | exact laws_eqSystem.mono _ _ _ _ _
   | exact laws_heldSystem.mono _ _ _ _
   | exact laws_markLin.mono _ _ _ _
   | exact laws_markSystem.mono _ _ _ _
   | exact laws_szSystem.mono _ _ _ _
   | exact laws_toLin.mono _ _ _
   | exact laws_toSystem.mono _ _ _
   | exact spec_AddRow.mono _ _ _ _ _
   | exact LeO.none _
   | refine LeO.ite ?_ ?_
   | refine LeO.bind ?_ (fun _ => ?_)
def laws_FnExactAddRow.T8 : Bool × List (List Nat × List Nat) := (true, [([], []), ([0], [0]), ([], []), ([2, 1], [2]), ([1, 3, 3], [1, 3]), ([4], [4]), ([5], [5]), ([5], [5]), ([], []), ([8, 6, 4, 0, 1, 2, 3, 4, 5, 6, 8], [6, 8]), ([7, 9, 0, 1, 2, 3, 4, 5, 6, 7, 8, 9], [7])])
def laws_FnExactAddRow.B8 : List Nat := [0, 1, 0, 7, 15, 31, 63, 63, 0, 383, 1023]
theorem laws_FnExactAddRow.tab8 : rtab .any (opsOf Try.f4 8) = laws_FnExactAddRow.T8 := by kernel_rfl
theorem laws_FnExactAddRow.bits8 : waitsOk laws_FnExactAddRow.T8.2 laws_FnExactAddRow.B8 = true := by kernel_rfl
def laws_FnExactAddRow.T31 : Bool × List (List Nat × List Nat) := (true, [([], []), ([0], [0]), ([], []), ([2, 1], [2]), ([1, 3, 3], [1, 3]), ([4], [4]), ([5], [5]), ([5], [5]), ([], []), ([8, 6, 4, 0, 1, 2, 3, 4, 5, 6, 8], [6, 8]), ([7, 9, 0, 1, 2, 3, 4, 5, 6, 7, 8, 9], [7])])
def laws_FnExactAddRow.B31 : List Nat := [0, 1, 0, 7, 15, 31, 63, 63, 0, 383, 1023]
theorem laws_FnExactAddRow.tab31 : rtab .any (opsOf Try.f4 31) = laws_FnExactAddRow.T31 := by kernel_rfl
theorem laws_FnExactAddRow.bits31 : waitsOk laws_FnExactAddRow.T31.2 laws_FnExactAddRow.B31 = true := by kernel_rfl
set_option maxHeartbeats 8000000 in
set_option maxRecDepth 100000 in
theorem laws_FnExactAddRow.calls (k : Nat) (a0_0 : Int) (A0_1 : Option Addr) (c0_1 : Nat) (l0_1 : List (S43)) (a1_0 : Int) (A1_1 : Option Addr) (c1_1 : Nat) (l1_1 : List Int) (r : Bool) (w : World) (hr0_1 : Kd.C k43 w A0_1 l0_1.length l0_1) (hc0_1 : l0_1.length ≤ c0_1) (hr1_1 : Kd.C (Kd.int .i64) w A1_1 l1_1.length l1_1) (hc1_1 : l1_1.length ≤ c1_1) (hT_ : r = true) (h : laws_FnExactAddRow.f k a0_0 l0_1 a1_0 l1_1 = some r) :
  Calls Try.prog 4 #[.agg #[.int .i64 a0_0, .slice A0_1 l0_1.length c0_1], .agg #[.int .i64 a1_0, .slice A1_1 l1_1.length c1_1]] w fun e w' => e = .returned (.bool r) ∧ Below w.heap.size w w' := by
 have hu42 := Try.underlying42
 have hu43 := Try.underlying43
 have hu26 := Try.underlying26
 have hu29 := Try.underlying29
 have HR0_1 := Aside0.mk hr0_1
 have HC0_1 := Aside0.mk hc0_1
 clear hr0_1 hc0_1
 have HR1_1 := Aside0.mk hr1_1
 have HC1_1 := Aside0.mk hc1_1
 clear hr1_1 hc1_1
 have HB := Aside0.mk (Below.refl w.heap.size w)
 have H : ((laws_szSystem.f k a0_0 l0_1 1048576).bind fun t274 => (if t274 < 0 then (some true) else ((laws_szLin.f a1_0 l1_1 t274).bind fun t275 => (if t275 < 0 then (some true) else ((laws_toSystem.f k a0_0 l0_1).bind fun bt276 => ((laws_toLin.f k a1_0 l1_1).bind fun bt280 => ((spec_AddRow.f k bt276.1 bt276.2 bt280.1 bt280.2).bind fun bt284 => ((laws_toSystem.f k a0_0 l0_1).bind fun bt290 => ((laws_toLin.f k a1_0 l1_1).bind fun bt295 => ((impl_AddRow.f k bt290.1 bt290.2 bt295.1 bt295.2).bind fun bt300 => ((laws_eqSystem.f k bt300.1 bt300.2.1 bt284.1 bt284.2.1).bind fun t306 => (if t306 = true then (if (bt300.2.2 != bt284.2.2) = true then (some false) else ((laws_toSystem.f k a0_0 l0_1).bind fun bt307 => ((laws_eqSystem.f k bt290.1 bt290.2 bt307.1 bt307.2).bind fun t311 => (if t311 = true then ((laws_toLin.f k a1_0 l1_1).bind fun bt312 => ((laws_eqLin.f k bt295.1 bt295.2 bt312.1 bt312.2).bind fun t316 => (if t316 = true then ((laws_markSystem.f k bt290.1 bt290.2 1).bind fun bt317 => ((laws_markLin.f k bt295.1 bt295.2 bt317.1).bind fun bt319 => (if bt319.1 < 0 then (some false) else ((laws_eqSystem.f k bt300.1 bt300.2.1 bt284.1 bt284.2.1).bind fun t321 => (if t321 = true then ((laws_markSystem.f k bt300.1 bt300.2.1 1).bind fun bt322 => ((laws_heldSystem.f k bt300.1 bt322.2 1).bind fun t324 => (if t324 < 0 then (some false) else (if t324 = bt322.1 then ((laws_toSystem.f k a0_0 l0_1).bind fun bt325 => ((laws_toLin.f k a1_0 l1_1).bind fun bt329 => ((impl_AddRow.f k bt325.1 bt325.2 bt329.1 bt329.2).bind fun bt333 => ((laws_eqSystem.f k bt333.1 bt333.2.1 bt284.1 bt284.2.1).bind fun t339 => (if t339 = true then (if (bt333.2.2 != bt284.2.2) = true then (some false) else ((laws_heldSystem.f k bt300.1 bt322.2 1).bind fun t340 => (if t340 < 0 then (some false) else (if t340 = bt322.1 then (some true) else (some false))))) else (some false)))))) else (some false))))) else (some false)))))) else (some false)))) else (some false))))) else (some false))))))))))))) = some r := h
 clear h
 replace H := Option.bind_eq_some_iff.mp H
 obtain ⟨t274, A30, H⟩ := H
 replace H : (if t274 < 0 then (some true) else ((laws_szLin.f a1_0 l1_1 t274).bind fun t275 => (if t275 < 0 then (some true) else ((laws_toSystem.f k a0_0 l0_1).bind fun bt276 => ((laws_toLin.f k a1_0 l1_1).bind fun bt280 => ((spec_AddRow.f k bt276.1 bt276.2 bt280.1 bt280.2).bind fun bt284 => ((laws_toSystem.f k a0_0 l0_1).bind fun bt290 => ((laws_toLin.f k a1_0 l1_1).bind fun bt295 => ((impl_AddRow.f k bt290.1 bt290.2 bt295.1 bt295.2).bind fun bt300 => ((laws_eqSystem.f k bt300.1 bt300.2.1 bt284.1 bt284.2.1).bind fun t306 => (if t306 = true then (if (bt300.2.2 != bt284.2.2) = true then (some false) else ((laws_toSystem.f k a0_0 l0_1).bind fun bt307 => ((laws_eqSystem.f k bt290.1 bt290.2 bt307.1 bt307.2).bind fun t311 => (if t311 = true then ((laws_toLin.f k a1_0 l1_1).bind fun bt312 => ((laws_eqLin.f k bt295.1 bt295.2 bt312.1 bt312.2).bind fun t316 => (if t316 = true then ((laws_markSystem.f k bt290.1 bt290.2 1).bind fun bt317 => ((laws_markLin.f k bt295.1 bt295.2 bt317.1).bind fun bt319 => (if bt319.1 < 0 then (some false) else ((laws_eqSystem.f k bt300.1 bt300.2.1 bt284.1 bt284.2.1).bind fun t321 => (if t321 = true then ((laws_markSystem.f k bt300.1 bt300.2.1 1).bind fun bt322 => ((laws_heldSystem.f k bt300.1 bt322.2 1).bind fun t324 => (if t324 < 0 then (some false) else (if t324 = bt322.1 then ((laws_toSystem.f k a0_0 l0_1).bind fun bt325 => ((laws_toLin.f k a1_0 l1_1).bind fun bt329 => ((impl_AddRow.f k bt325.1 bt325.2 bt329.1 bt329.2).bind fun bt333 => ((laws_eqSystem.f k bt333.1 bt333.2.1 bt284.1 bt284.2.1).bind fun t339 => (if t339 = true then (if (bt333.2.2 != bt284.2.2) = true then (some false) else ((laws_heldSystem.f k bt300.1 bt322.2 1).bind fun t340 => (if t340 < 0 then (some false) else (if t340 = bt322.1 then (some true) else (some false))))) else (some false)))))) else (some false))))) else (some false)))))) else (some false)))) else (some false))))) else (some false)))))))))))) = some r := H
 have A3 := Aside0.mk A30
 clear A30
 by_cases c4 : t274 < 0
 ·rw [if_pos c4] at H
  have c4b0 : decide (t274 < 0) = true := decide_eq_true c4
  clear c4
  obtain rfl := Option.some.inj H
  go_enter Try.func4, Try.ntmps4
  go_wp2_with (first | ((with_reducible refine gate_dst (N := 2) rfl ?_); refine box_event ?hg (N := 2) ?hd (cs := #[.int .i64 a0_0, .slice A0_1 l0_1.length c0_1]) (t := 42) ?hr ?_; (case hd => rfl); (case hg => rfl); (case hr => first | (go_simp; done) | (go_simp; rfl)); intro gb272 hg w5 hbox hb; have n0_ := Aside0.mk ((by rw [hg]; exact (show Kept w _ (fun _ => True) from by repeat (first | exact Kept.refl _ _ | apply Kept.alloc | apply Kept.drewN | apply Kept.drew | refine Kept.setCell ?_ (.inl trivial) _)).1 : w.heap.size ≤ gb272)); have n1_ := bs HB hb; have n2_ := Aside0.mk (hbox); have n3_ := gw hg HB; have n4_ := gw hg HB; clear HB; have SG272_w := n0_; have HB := n1_; have BK272 := n2_; have GW272 := n3_; have GE272 := n4_; clear n0_ n1_ n2_ n3_ n4_; clear hb hbox hg; have SL272_w5 := Aside0.mk (blk_lt BK272.out : gb272 < w5.heap.size)) | ((with_reducible refine gate_dst (N := 3) rfl ?_); refine box_event ?hg (N := 3) ?hd (cs := #[.int .i64 a1_0, .slice A1_1 l1_1.length c1_1]) (t := 43) ?hr ?_; (case hd => rfl); (case hg => rfl); (case hr => first | (go_simp; done) | (go_simp; rfl)); intro gb273 hg w6 hbox hb; have n0_ := Aside0.mk ((by rw [hg]; exact (show Kept w5 _ (fun _ => True) from by repeat (first | exact Kept.refl _ _ | apply Kept.alloc | apply Kept.drewN | apply Kept.drew | refine Kept.setCell ?_ (.inl trivial) _)).1 : w5.heap.size ≤ gb273)); have n1_ := bb BK272 hb; have n2_ := bs HB hb; have n3_ := Aside0.mk (hbox); have n4_ := gw hg HB; have n5_ := gw hg HB; have n6_ := nl hg BK272; have n7_ := ng hg BK272; clear BK272 HB; have SG273_w5 := n0_; have BK272 := n1_; have HB := n2_; have BK273 := n3_; have GW273 := n4_; have GE273 := n5_; have NB272_273 := n6_; have NB273_272 := n7_; clear n0_ n1_ n2_ n3_ n4_ n5_ n6_ n7_; clear hb hbox hg; have hnb7 := NB272_273.out; have hnc7 := NB273_272.out; obtain ⟨hcz8_0, hcz8_1⟩ := c2 BK272; have hfz8_0 := blk_frozen BK272.out 0; have hfz8_1 := blk_frozen BK272.out 1) | ((with_reducible refine gate_callee (f := 22) rfl ?_); refine gl (some 19) rfl rfl Try.func22 (by kernel_rfl) rfl #[.agg #[.int .i64 a0_0, .slice A0_1 l0_1.length c0_1], .int .i64 1048576] rfl ?_; (with_reducible refine (laws_szSystem.calls k a0_0 _ _ l0_1 1048576 t274 _ ?side1 ?side2 A3.out).mono ?_); (case side1 => exact mc ((Kd.C_below HR0_1.out HB.out))); (case side2 => exact HC0_1.out); rintro e w9 ⟨rfl, hb⟩; refine ⟨_, rfl, ?_⟩; replace BK272 := bb BK272 hb; replace BK273 := bb BK273 hb; replace HB := bs HB hb; (try clear hb)))
  go_ret
  exact ⟨by first | rfl | (simp [errW_none, errW_some] <;> rfl) | (simp [*, errW_none, errW_some] <;> rfl), ms HB⟩
 ·rw [if_neg c4] at H
  have c4b0 : decide (t274 < 0) = false := decide_eq_false c4
  clear c4
  replace H := Option.bind_eq_some_iff.mp H
  obtain ⟨t275, A100, H⟩ := H
  replace H : (if t275 < 0 then (some true) else ((laws_toSystem.f k a0_0 l0_1).bind fun bt276 => ((laws_toLin.f k a1_0 l1_1).bind fun bt280 => ((spec_AddRow.f k bt276.1 bt276.2 bt280.1 bt280.2).bind fun bt284 => ((laws_toSystem.f k a0_0 l0_1).bind fun bt290 => ((laws_toLin.f k a1_0 l1_1).bind fun bt295 => ((impl_AddRow.f k bt290.1 bt290.2 bt295.1 bt295.2).bind fun bt300 => ((laws_eqSystem.f k bt300.1 bt300.2.1 bt284.1 bt284.2.1).bind fun t306 => (if t306 = true then (if (bt300.2.2 != bt284.2.2) = true then (some false) else ((laws_toSystem.f k a0_0 l0_1).bind fun bt307 => ((laws_eqSystem.f k bt290.1 bt290.2 bt307.1 bt307.2).bind fun t311 => (if t311 = true then ((laws_toLin.f k a1_0 l1_1).bind fun bt312 => ((laws_eqLin.f k bt295.1 bt295.2 bt312.1 bt312.2).bind fun t316 => (if t316 = true then ((laws_markSystem.f k bt290.1 bt290.2 1).bind fun bt317 => ((laws_markLin.f k bt295.1 bt295.2 bt317.1).bind fun bt319 => (if bt319.1 < 0 then (some false) else ((laws_eqSystem.f k bt300.1 bt300.2.1 bt284.1 bt284.2.1).bind fun t321 => (if t321 = true then ((laws_markSystem.f k bt300.1 bt300.2.1 1).bind fun bt322 => ((laws_heldSystem.f k bt300.1 bt322.2 1).bind fun t324 => (if t324 < 0 then (some false) else (if t324 = bt322.1 then ((laws_toSystem.f k a0_0 l0_1).bind fun bt325 => ((laws_toLin.f k a1_0 l1_1).bind fun bt329 => ((impl_AddRow.f k bt325.1 bt325.2 bt329.1 bt329.2).bind fun bt333 => ((laws_eqSystem.f k bt333.1 bt333.2.1 bt284.1 bt284.2.1).bind fun t339 => (if t339 = true then (if (bt333.2.2 != bt284.2.2) = true then (some false) else ((laws_heldSystem.f k bt300.1 bt322.2 1).bind fun t340 => (if t340 < 0 then (some false) else (if t340 = bt322.1 then (some true) else (some false))))) else (some false)))))) else (some false))))) else (some false)))))) else (some false)))) else (some false))))) else (some false)))))))))) = some r := H
  have A10 := Aside0.mk A100
  clear A100
  by_cases c11 : t275 < 0
  ·rw [if_pos c11] at H
   have c11b0 : decide (t275 < 0) = true := decide_eq_true c11
   clear c11
   obtain rfl := Option.some.inj H
   go_enter Try.func4, Try.ntmps4
   go_wp2_with (first | ((with_reducible refine gate_dst (N := 2) rfl ?_); refine box_event ?hg (N := 2) ?hd (cs := #[.int .i64 a0_0, .slice A0_1 l0_1.length c0_1]) (t := 42) ?hr ?_; (case hd => rfl); (case hg => rfl); (case hr => first | (go_simp; done) | (go_simp; rfl)); intro gb272 hg w12 hbox hb; have n0_ := Aside0.mk ((by rw [hg]; exact (show Kept w _ (fun _ => True) from by repeat (first | exact Kept.refl _ _ | apply Kept.alloc | apply Kept.drewN | apply Kept.drew | refine Kept.setCell ?_ (.inl trivial) _)).1 : w.heap.size ≤ gb272)); have n1_ := bs HB hb; have n2_ := Aside0.mk (hbox); have n3_ := gw hg HB; have n4_ := gw hg HB; clear HB; have SG272_w := n0_; have HB := n1_; have BK272 := n2_; have GW272 := n3_; have GE272 := n4_; clear n0_ n1_ n2_ n3_ n4_; clear hb hbox hg; have SL272_w12 := Aside0.mk (blk_lt BK272.out : gb272 < w12.heap.size)) | ((with_reducible refine gate_dst (N := 3) rfl ?_); refine box_event ?hg (N := 3) ?hd (cs := #[.int .i64 a1_0, .slice A1_1 l1_1.length c1_1]) (t := 43) ?hr ?_; (case hd => rfl); (case hg => rfl); (case hr => first | (go_simp; done) | (go_simp; rfl)); intro gb273 hg w13 hbox hb; have n0_ := Aside0.mk ((by rw [hg]; exact (show Kept w12 _ (fun _ => True) from by repeat (first | exact Kept.refl _ _ | apply Kept.alloc | apply Kept.drewN | apply Kept.drew | refine Kept.setCell ?_ (.inl trivial) _)).1 : w12.heap.size ≤ gb273)); have n1_ := bb BK272 hb; have n2_ := bs HB hb; have n3_ := Aside0.mk (hbox); have n4_ := gw hg HB; have n5_ := gw hg HB; have n6_ := nl hg BK272; have n7_ := ng hg BK272; clear BK272 HB; have SG273_w12 := n0_; have BK272 := n1_; have HB := n2_; have BK273 := n3_; have GW273 := n4_; have GE273 := n5_; have NB272_273 := n6_; have NB273_272 := n7_; clear n0_ n1_ n2_ n3_ n4_ n5_ n6_ n7_; clear hb hbox hg; have hnb14 := NB272_273.out; have hnc14 := NB273_272.out; obtain ⟨hcz15_0, hcz15_1⟩ := c2 BK272; have hfz15_0 := blk_frozen BK272.out 0; have hfz15_1 := blk_frozen BK272.out 1) | ((with_reducible refine gate_callee (f := 22) rfl ?_); refine gl (some 19) rfl rfl Try.func22 (by kernel_rfl) rfl #[.agg #[.int .i64 a0_0, .slice A0_1 l0_1.length c0_1], .int .i64 1048576] rfl ?_; (with_reducible refine (laws_szSystem.calls k a0_0 _ _ l0_1 1048576 t274 _ ?side1 ?side2 A3.out).mono ?_); (case side1 => exact mc ((Kd.C_below HR0_1.out HB.out))); (case side2 => exact HC0_1.out); rintro e w16 ⟨rfl, hb⟩; refine ⟨_, rfl, ?_⟩; replace BK272 := bb BK272 hb; replace BK273 := bb BK273 hb; replace HB := bs HB hb; (try clear hb); obtain ⟨hcz17_0, hcz17_1⟩ := c2 BK273; have hfz17_0 := blk_frozen BK273.out 0; have hfz17_1 := blk_frozen BK273.out 1) | ((with_reducible refine gate_callee (f := 23) rfl ?_); refine gl (some 24) rfl rfl Try.func23 (by kernel_rfl) rfl #[.agg #[.int .i64 a1_0, .slice A1_1 l1_1.length c1_1], .int .i64 t274] rfl ?_; (with_reducible refine (laws_szLin.calls a1_0 _ _ l1_1 t274 t275 _ ?side1 ?side2 A10.out).mono ?_); (case side1 => exact mc ((Kd.C_below HR1_1.out HB.out))); (case side2 => exact HC1_1.out); rintro e w18 ⟨rfl, hb⟩; refine ⟨_, rfl, ?_⟩; replace BK272 := bb BK272 hb; replace BK273 := bb BK273 hb; replace HB := bs HB hb; (try clear hb)))
   go_ret
   exact ⟨by first | rfl | (simp [errW_none, errW_some] <;> rfl) | (simp [*, errW_none, errW_some] <;> rfl), ms HB⟩
  ·rw [if_neg c11] at H
   have c11b0 : decide (t275 < 0) = false := decide_eq_false c11
   clear c11
   replace H := Option.bind_eq_some_iff.mp H
   obtain ⟨⟨t276, t277⟩, A190, H⟩ := H
   replace H : ((laws_toLin.f k a1_0 l1_1).bind fun bt280 => ((spec_AddRow.f k t276 t277 bt280.1 bt280.2).bind fun bt284 => ((laws_toSystem.f k a0_0 l0_1).bind fun bt290 => ((laws_toLin.f k a1_0 l1_1).bind fun bt295 => ((impl_AddRow.f k bt290.1 bt290.2 bt295.1 bt295.2).bind fun bt300 => ((laws_eqSystem.f k bt300.1 bt300.2.1 bt284.1 bt284.2.1).bind fun t306 => (if t306 = true then (if (bt300.2.2 != bt284.2.2) = true then (some false) else ((laws_toSystem.f k a0_0 l0_1).bind fun bt307 => ((laws_eqSystem.f k bt290.1 bt290.2 bt307.1 bt307.2).bind fun t311 => (if t311 = true then ((laws_toLin.f k a1_0 l1_1).bind fun bt312 => ((laws_eqLin.f k bt295.1 bt295.2 bt312.1 bt312.2).bind fun t316 => (if t316 = true then ((laws_markSystem.f k bt290.1 bt290.2 1).bind fun bt317 => ((laws_markLin.f k bt295.1 bt295.2 bt317.1).bind fun bt319 => (if bt319.1 < 0 then (some false) else ((laws_eqSystem.f k bt300.1 bt300.2.1 bt284.1 bt284.2.1).bind fun t321 => (if t321 = true then ((laws_markSystem.f k bt300.1 bt300.2.1 1).bind fun bt322 => ((laws_heldSystem.f k bt300.1 bt322.2 1).bind fun t324 => (if t324 < 0 then (some false) else (if t324 = bt322.1 then ((laws_toSystem.f k a0_0 l0_1).bind fun bt325 => ((laws_toLin.f k a1_0 l1_1).bind fun bt329 => ((impl_AddRow.f k bt325.1 bt325.2 bt329.1 bt329.2).bind fun bt333 => ((laws_eqSystem.f k bt333.1 bt333.2.1 bt284.1 bt284.2.1).bind fun t339 => (if t339 = true then (if (bt333.2.2 != bt284.2.2) = true then (some false) else ((laws_heldSystem.f k bt300.1 bt322.2 1).bind fun t340 => (if t340 < 0 then (some false) else (if t340 = bt322.1 then (some true) else (some false))))) else (some false)))))) else (some false))))) else (some false)))))) else (some false)))) else (some false))))) else (some false)))))))) = some r := H
   have A19 := Aside0.mk A190
   clear A190
   replace H := Option.bind_eq_some_iff.mp H
   obtain ⟨⟨t280, t281⟩, A200, H⟩ := H
   replace H : ((spec_AddRow.f k t276 t277 t280 t281).bind fun bt284 => ((laws_toSystem.f k a0_0 l0_1).bind fun bt290 => ((laws_toLin.f k a1_0 l1_1).bind fun bt295 => ((impl_AddRow.f k bt290.1 bt290.2 bt295.1 bt295.2).bind fun bt300 => ((laws_eqSystem.f k bt300.1 bt300.2.1 bt284.1 bt284.2.1).bind fun t306 => (if t306 = true then (if (bt300.2.2 != bt284.2.2) = true then (some false) else ((laws_toSystem.f k a0_0 l0_1).bind fun bt307 => ((laws_eqSystem.f k bt290.1 bt290.2 bt307.1 bt307.2).bind fun t311 => (if t311 = true then ((laws_toLin.f k a1_0 l1_1).bind fun bt312 => ((laws_eqLin.f k bt295.1 bt295.2 bt312.1 bt312.2).bind fun t316 => (if t316 = true then ((laws_markSystem.f k bt290.1 bt290.2 1).bind fun bt317 => ((laws_markLin.f k bt295.1 bt295.2 bt317.1).bind fun bt319 => (if bt319.1 < 0 then (some false) else ((laws_eqSystem.f k bt300.1 bt300.2.1 bt284.1 bt284.2.1).bind fun t321 => (if t321 = true then ((laws_markSystem.f k bt300.1 bt300.2.1 1).bind fun bt322 => ((laws_heldSystem.f k bt300.1 bt322.2 1).bind fun t324 => (if t324 < 0 then (some false) else (if t324 = bt322.1 then ((laws_toSystem.f k a0_0 l0_1).bind fun bt325 => ((laws_toLin.f k a1_0 l1_1).bind fun bt329 => ((impl_AddRow.f k bt325.1 bt325.2 bt329.1 bt329.2).bind fun bt333 => ((laws_eqSystem.f k bt333.1 bt333.2.1 bt284.1 bt284.2.1).bind fun t339 => (if t339 = true then (if (bt333.2.2 != bt284.2.2) = true then (some false) else ((laws_heldSystem.f k bt300.1 bt322.2 1).bind fun t340 => (if t340 < 0 then (some false) else (if t340 = bt322.1 then (some true) else (some false))))) else (some false)))))) else (some false))))) else (some false)))))) else (some false)))) else (some false))))) else (some false))))))) = some r := H
   have A20 := Aside0.mk A200
   clear A200
   replace H := Option.bind_eq_some_iff.mp H
   obtain ⟨⟨t284, t285, t288⟩, A210, H⟩ := H
   replace H : ((laws_toSystem.f k a0_0 l0_1).bind fun bt290 => ((laws_toLin.f k a1_0 l1_1).bind fun bt295 => ((impl_AddRow.f k bt290.1 bt290.2 bt295.1 bt295.2).bind fun bt300 => ((laws_eqSystem.f k bt300.1 bt300.2.1 t284 t285).bind fun t306 => (if t306 = true then (if (bt300.2.2 != t288) = true then (some false) else ((laws_toSystem.f k a0_0 l0_1).bind fun bt307 => ((laws_eqSystem.f k bt290.1 bt290.2 bt307.1 bt307.2).bind fun t311 => (if t311 = true then ((laws_toLin.f k a1_0 l1_1).bind fun bt312 => ((laws_eqLin.f k bt295.1 bt295.2 bt312.1 bt312.2).bind fun t316 => (if t316 = true then ((laws_markSystem.f k bt290.1 bt290.2 1).bind fun bt317 => ((laws_markLin.f k bt295.1 bt295.2 bt317.1).bind fun bt319 => (if bt319.1 < 0 then (some false) else ((laws_eqSystem.f k bt300.1 bt300.2.1 t284 t285).bind fun t321 => (if t321 = true then ((laws_markSystem.f k bt300.1 bt300.2.1 1).bind fun bt322 => ((laws_heldSystem.f k bt300.1 bt322.2 1).bind fun t324 => (if t324 < 0 then (some false) else (if t324 = bt322.1 then ((laws_toSystem.f k a0_0 l0_1).bind fun bt325 => ((laws_toLin.f k a1_0 l1_1).bind fun bt329 => ((impl_AddRow.f k bt325.1 bt325.2 bt329.1 bt329.2).bind fun bt333 => ((laws_eqSystem.f k bt333.1 bt333.2.1 t284 t285).bind fun t339 => (if t339 = true then (if (bt333.2.2 != t288) = true then (some false) else ((laws_heldSystem.f k bt300.1 bt322.2 1).bind fun t340 => (if t340 < 0 then (some false) else (if t340 = bt322.1 then (some true) else (some false))))) else (some false)))))) else (some false))))) else (some false)))))) else (some false)))) else (some false))))) else (some false)))))) = some r := H
   have A21 := Aside0.mk A210
   clear A210
   replace H := Option.bind_eq_some_iff.mp H
   obtain ⟨⟨t290, t291⟩, A220, H⟩ := H
   replace H : ((laws_toLin.f k a1_0 l1_1).bind fun bt295 => ((impl_AddRow.f k t290 t291 bt295.1 bt295.2).bind fun bt300 => ((laws_eqSystem.f k bt300.1 bt300.2.1 t284 t285).bind fun t306 => (if t306 = true then (if (bt300.2.2 != t288) = true then (some false) else ((laws_toSystem.f k a0_0 l0_1).bind fun bt307 => ((laws_eqSystem.f k t290 t291 bt307.1 bt307.2).bind fun t311 => (if t311 = true then ((laws_toLin.f k a1_0 l1_1).bind fun bt312 => ((laws_eqLin.f k bt295.1 bt295.2 bt312.1 bt312.2).bind fun t316 => (if t316 = true then ((laws_markSystem.f k t290 t291 1).bind fun bt317 => ((laws_markLin.f k bt295.1 bt295.2 bt317.1).bind fun bt319 => (if bt319.1 < 0 then (some false) else ((laws_eqSystem.f k bt300.1 bt300.2.1 t284 t285).bind fun t321 => (if t321 = true then ((laws_markSystem.f k bt300.1 bt300.2.1 1).bind fun bt322 => ((laws_heldSystem.f k bt300.1 bt322.2 1).bind fun t324 => (if t324 < 0 then (some false) else (if t324 = bt322.1 then ((laws_toSystem.f k a0_0 l0_1).bind fun bt325 => ((laws_toLin.f k a1_0 l1_1).bind fun bt329 => ((impl_AddRow.f k bt325.1 bt325.2 bt329.1 bt329.2).bind fun bt333 => ((laws_eqSystem.f k bt333.1 bt333.2.1 t284 t285).bind fun t339 => (if t339 = true then (if (bt333.2.2 != t288) = true then (some false) else ((laws_heldSystem.f k bt300.1 bt322.2 1).bind fun t340 => (if t340 < 0 then (some false) else (if t340 = bt322.1 then (some true) else (some false))))) else (some false)))))) else (some false))))) else (some false)))))) else (some false)))) else (some false))))) else (some false))))) = some r := H
   have A22 := Aside0.mk A220
   clear A220
   replace H := Option.bind_eq_some_iff.mp H
   obtain ⟨⟨t295, t296⟩, A230, H⟩ := H
   replace H : ((impl_AddRow.f k t290 t291 t295 t296).bind fun bt300 => ((laws_eqSystem.f k bt300.1 bt300.2.1 t284 t285).bind fun t306 => (if t306 = true then (if (bt300.2.2 != t288) = true then (some false) else ((laws_toSystem.f k a0_0 l0_1).bind fun bt307 => ((laws_eqSystem.f k t290 t291 bt307.1 bt307.2).bind fun t311 => (if t311 = true then ((laws_toLin.f k a1_0 l1_1).bind fun bt312 => ((laws_eqLin.f k t295 t296 bt312.1 bt312.2).bind fun t316 => (if t316 = true then ((laws_markSystem.f k t290 t291 1).bind fun bt317 => ((laws_markLin.f k t295 t296 bt317.1).bind fun bt319 => (if bt319.1 < 0 then (some false) else ((laws_eqSystem.f k bt300.1 bt300.2.1 t284 t285).bind fun t321 => (if t321 = true then ((laws_markSystem.f k bt300.1 bt300.2.1 1).bind fun bt322 => ((laws_heldSystem.f k bt300.1 bt322.2 1).bind fun t324 => (if t324 < 0 then (some false) else (if t324 = bt322.1 then ((laws_toSystem.f k a0_0 l0_1).bind fun bt325 => ((laws_toLin.f k a1_0 l1_1).bind fun bt329 => ((impl_AddRow.f k bt325.1 bt325.2 bt329.1 bt329.2).bind fun bt333 => ((laws_eqSystem.f k bt333.1 bt333.2.1 t284 t285).bind fun t339 => (if t339 = true then (if (bt333.2.2 != t288) = true then (some false) else ((laws_heldSystem.f k bt300.1 bt322.2 1).bind fun t340 => (if t340 < 0 then (some false) else (if t340 = bt322.1 then (some true) else (some false))))) else (some false)))))) else (some false))))) else (some false)))))) else (some false)))) else (some false))))) else (some false)))) = some r := H
   have A23 := Aside0.mk A230
   clear A230
   replace H := Option.bind_eq_some_iff.mp H
   obtain ⟨⟨t300, t301, t304⟩, A240, H⟩ := H
   replace H : ((laws_eqSystem.f k t300 t301 t284 t285).bind fun t306 => (if t306 = true then (if (t304 != t288) = true then (some false) else ((laws_toSystem.f k a0_0 l0_1).bind fun bt307 => ((laws_eqSystem.f k t290 t291 bt307.1 bt307.2).bind fun t311 => (if t311 = true then ((laws_toLin.f k a1_0 l1_1).bind fun bt312 => ((laws_eqLin.f k t295 t296 bt312.1 bt312.2).bind fun t316 => (if t316 = true then ((laws_markSystem.f k t290 t291 1).bind fun bt317 => ((laws_markLin.f k t295 t296 bt317.1).bind fun bt319 => (if bt319.1 < 0 then (some false) else ((laws_eqSystem.f k t300 t301 t284 t285).bind fun t321 => (if t321 = true then ((laws_markSystem.f k t300 t301 1).bind fun bt322 => ((laws_heldSystem.f k t300 bt322.2 1).bind fun t324 => (if t324 < 0 then (some false) else (if t324 = bt322.1 then ((laws_toSystem.f k a0_0 l0_1).bind fun bt325 => ((laws_toLin.f k a1_0 l1_1).bind fun bt329 => ((impl_AddRow.f k bt325.1 bt325.2 bt329.1 bt329.2).bind fun bt333 => ((laws_eqSystem.f k bt333.1 bt333.2.1 t284 t285).bind fun t339 => (if t339 = true then (if (bt333.2.2 != t288) = true then (some false) else ((laws_heldSystem.f k t300 bt322.2 1).bind fun t340 => (if t340 < 0 then (some false) else (if t340 = bt322.1 then (some true) else (some false))))) else (some false)))))) else (some false))))) else (some false)))))) else (some false)))) else (some false))))) else (some false))) = some r := H
   have A24 := Aside0.mk A240
   clear A240
   replace H := Option.bind_eq_some_iff.mp H
   obtain ⟨t306, A250, H⟩ := H
   replace H : (if t306 = true then (if (t304 != t288) = true then (some false) else ((laws_toSystem.f k a0_0 l0_1).bind fun bt307 => ((laws_eqSystem.f k t290 t291 bt307.1 bt307.2).bind fun t311 => (if t311 = true then ((laws_toLin.f k a1_0 l1_1).bind fun bt312 => ((laws_eqLin.f k t295 t296 bt312.1 bt312.2).bind fun t316 => (if t316 = true then ((laws_markSystem.f k t290 t291 1).bind fun bt317 => ((laws_markLin.f k t295 t296 bt317.1).bind fun bt319 => (if bt319.1 < 0 then (some false) else ((laws_eqSystem.f k t300 t301 t284 t285).bind fun t321 => (if t321 = true then ((laws_markSystem.f k t300 t301 1).bind fun bt322 => ((laws_heldSystem.f k t300 bt322.2 1).bind fun t324 => (if t324 < 0 then (some false) else (if t324 = bt322.1 then ((laws_toSystem.f k a0_0 l0_1).bind fun bt325 => ((laws_toLin.f k a1_0 l1_1).bind fun bt329 => ((impl_AddRow.f k bt325.1 bt325.2 bt329.1 bt329.2).bind fun bt333 => ((laws_eqSystem.f k bt333.1 bt333.2.1 t284 t285).bind fun t339 => (if t339 = true then (if (bt333.2.2 != t288) = true then (some false) else ((laws_heldSystem.f k t300 bt322.2 1).bind fun t340 => (if t340 < 0 then (some false) else (if t340 = bt322.1 then (some true) else (some false))))) else (some false)))))) else (some false))))) else (some false)))))) else (some false)))) else (some false))))) else (some false)) = some r := H
   have A25 := Aside0.mk A250
   clear A250
   by_cases c26 : t306 = true
   ·subst c26
    have H1 : (if (t304 != t288) = true then (some false) else ((laws_toSystem.f k a0_0 l0_1).bind fun bt307 => ((laws_eqSystem.f k t290 t291 bt307.1 bt307.2).bind fun t311 => (if t311 = true then ((laws_toLin.f k a1_0 l1_1).bind fun bt312 => ((laws_eqLin.f k t295 t296 bt312.1 bt312.2).bind fun t316 => (if t316 = true then ((laws_markSystem.f k t290 t291 1).bind fun bt317 => ((laws_markLin.f k t295 t296 bt317.1).bind fun bt319 => (if bt319.1 < 0 then (some false) else ((laws_eqSystem.f k t300 t301 t284 t285).bind fun t321 => (if t321 = true then ((laws_markSystem.f k t300 t301 1).bind fun bt322 => ((laws_heldSystem.f k t300 bt322.2 1).bind fun t324 => (if t324 < 0 then (some false) else (if t324 = bt322.1 then ((laws_toSystem.f k a0_0 l0_1).bind fun bt325 => ((laws_toLin.f k a1_0 l1_1).bind fun bt329 => ((impl_AddRow.f k bt325.1 bt325.2 bt329.1 bt329.2).bind fun bt333 => ((laws_eqSystem.f k bt333.1 bt333.2.1 t284 t285).bind fun t339 => (if t339 = true then (if (bt333.2.2 != t288) = true then (some false) else ((laws_heldSystem.f k t300 bt322.2 1).bind fun t340 => (if t340 < 0 then (some false) else (if t340 = bt322.1 then (some true) else (some false))))) else (some false)))))) else (some false))))) else (some false)))))) else (some false)))) else (some false))))) = some r := by rw [if_pos rfl] at H; exact H
    clear H
    have H := H1
    clear H1
    by_cases c27 : (t304 != t288) = true
    ·rw [if_pos c27] at H
     have c27b0 : (t304 != t288) = true := c27
     (try (have c27b1 : decide (t304 = t288) = false := by simpa using c27))
     (try (have c27b2 : (t304 == t288) = false := by simpa using c27))
     (try (have c27b3 : ¬ (t304 = t288) := by simpa using c27))
     clear c27
     obtain rfl := Option.some.inj H
     exact absurd hT_ (by decide)
    ·rw [if_neg c27] at H
     have c27b0 : (t304 != t288) = false := by simpa using c27
     (try (have c27b1 : decide (t304 = t288) = true := by simpa using c27))
     (try (have c27b2 : (t304 == t288) = true := by simpa using c27))
     clear c27
     replace H := Option.bind_eq_some_iff.mp H
     obtain ⟨⟨t307, t308⟩, A280, H⟩ := H
     replace H : ((laws_eqSystem.f k t290 t291 t307 t308).bind fun t311 => (if t311 = true then ((laws_toLin.f k a1_0 l1_1).bind fun bt312 => ((laws_eqLin.f k t295 t296 bt312.1 bt312.2).bind fun t316 => (if t316 = true then ((laws_markSystem.f k t290 t291 1).bind fun bt317 => ((laws_markLin.f k t295 t296 bt317.1).bind fun bt319 => (if bt319.1 < 0 then (some false) else ((laws_eqSystem.f k t300 t301 t284 t285).bind fun t321 => (if t321 = true then ((laws_markSystem.f k t300 t301 1).bind fun bt322 => ((laws_heldSystem.f k t300 bt322.2 1).bind fun t324 => (if t324 < 0 then (some false) else (if t324 = bt322.1 then ((laws_toSystem.f k a0_0 l0_1).bind fun bt325 => ((laws_toLin.f k a1_0 l1_1).bind fun bt329 => ((impl_AddRow.f k bt325.1 bt325.2 bt329.1 bt329.2).bind fun bt333 => ((laws_eqSystem.f k bt333.1 bt333.2.1 t284 t285).bind fun t339 => (if t339 = true then (if (bt333.2.2 != t288) = true then (some false) else ((laws_heldSystem.f k t300 bt322.2 1).bind fun t340 => (if t340 < 0 then (some false) else (if t340 = bt322.1 then (some true) else (some false))))) else (some false)))))) else (some false))))) else (some false)))))) else (some false)))) else (some false))) = some r := H
     have A28 := Aside0.mk A280
     clear A280
     replace H := Option.bind_eq_some_iff.mp H
     obtain ⟨t311, A290, H⟩ := H
     replace H : (if t311 = true then ((laws_toLin.f k a1_0 l1_1).bind fun bt312 => ((laws_eqLin.f k t295 t296 bt312.1 bt312.2).bind fun t316 => (if t316 = true then ((laws_markSystem.f k t290 t291 1).bind fun bt317 => ((laws_markLin.f k t295 t296 bt317.1).bind fun bt319 => (if bt319.1 < 0 then (some false) else ((laws_eqSystem.f k t300 t301 t284 t285).bind fun t321 => (if t321 = true then ((laws_markSystem.f k t300 t301 1).bind fun bt322 => ((laws_heldSystem.f k t300 bt322.2 1).bind fun t324 => (if t324 < 0 then (some false) else (if t324 = bt322.1 then ((laws_toSystem.f k a0_0 l0_1).bind fun bt325 => ((laws_toLin.f k a1_0 l1_1).bind fun bt329 => ((impl_AddRow.f k bt325.1 bt325.2 bt329.1 bt329.2).bind fun bt333 => ((laws_eqSystem.f k bt333.1 bt333.2.1 t284 t285).bind fun t339 => (if t339 = true then (if (bt333.2.2 != t288) = true then (some false) else ((laws_heldSystem.f k t300 bt322.2 1).bind fun t340 => (if t340 < 0 then (some false) else (if t340 = bt322.1 then (some true) else (some false))))) else (some false)))))) else (some false))))) else (some false)))))) else (some false)))) else (some false)) = some r := H
     have A29 := Aside0.mk A290
     clear A290
     by_cases c30 : t311 = true
     ·subst c30
      have H1 : ((laws_toLin.f k a1_0 l1_1).bind fun bt312 => ((laws_eqLin.f k t295 t296 bt312.1 bt312.2).bind fun t316 => (if t316 = true then ((laws_markSystem.f k t290 t291 1).bind fun bt317 => ((laws_markLin.f k t295 t296 bt317.1).bind fun bt319 => (if bt319.1 < 0 then (some false) else ((laws_eqSystem.f k t300 t301 t284 t285).bind fun t321 => (if t321 = true then ((laws_markSystem.f k t300 t301 1).bind fun bt322 => ((laws_heldSystem.f k t300 bt322.2 1).bind fun t324 => (if t324 < 0 then (some false) else (if t324 = bt322.1 then ((laws_toSystem.f k a0_0 l0_1).bind fun bt325 => ((laws_toLin.f k a1_0 l1_1).bind fun bt329 => ((impl_AddRow.f k bt325.1 bt325.2 bt329.1 bt329.2).bind fun bt333 => ((laws_eqSystem.f k bt333.1 bt333.2.1 t284 t285).bind fun t339 => (if t339 = true then (if (bt333.2.2 != t288) = true then (some false) else ((laws_heldSystem.f k t300 bt322.2 1).bind fun t340 => (if t340 < 0 then (some false) else (if t340 = bt322.1 then (some true) else (some false))))) else (some false)))))) else (some false))))) else (some false)))))) else (some false)))) = some r := by rw [if_pos rfl] at H; exact H
      clear H
      have H := H1
      clear H1
      replace H := Option.bind_eq_some_iff.mp H
      obtain ⟨⟨t312, t313⟩, A310, H⟩ := H
      replace H : ((laws_eqLin.f k t295 t296 t312 t313).bind fun t316 => (if t316 = true then ((laws_markSystem.f k t290 t291 1).bind fun bt317 => ((laws_markLin.f k t295 t296 bt317.1).bind fun bt319 => (if bt319.1 < 0 then (some false) else ((laws_eqSystem.f k t300 t301 t284 t285).bind fun t321 => (if t321 = true then ((laws_markSystem.f k t300 t301 1).bind fun bt322 => ((laws_heldSystem.f k t300 bt322.2 1).bind fun t324 => (if t324 < 0 then (some false) else (if t324 = bt322.1 then ((laws_toSystem.f k a0_0 l0_1).bind fun bt325 => ((laws_toLin.f k a1_0 l1_1).bind fun bt329 => ((impl_AddRow.f k bt325.1 bt325.2 bt329.1 bt329.2).bind fun bt333 => ((laws_eqSystem.f k bt333.1 bt333.2.1 t284 t285).bind fun t339 => (if t339 = true then (if (bt333.2.2 != t288) = true then (some false) else ((laws_heldSystem.f k t300 bt322.2 1).bind fun t340 => (if t340 < 0 then (some false) else (if t340 = bt322.1 then (some true) else (some false))))) else (some false)))))) else (some false))))) else (some false)))))) else (some false))) = some r := H
      have A31 := Aside0.mk A310
      clear A310
      replace H := Option.bind_eq_some_iff.mp H
      obtain ⟨t316, A320, H⟩ := H
      replace H : (if t316 = true then ((laws_markSystem.f k t290 t291 1).bind fun bt317 => ((laws_markLin.f k t295 t296 bt317.1).bind fun bt319 => (if bt319.1 < 0 then (some false) else ((laws_eqSystem.f k t300 t301 t284 t285).bind fun t321 => (if t321 = true then ((laws_markSystem.f k t300 t301 1).bind fun bt322 => ((laws_heldSystem.f k t300 bt322.2 1).bind fun t324 => (if t324 < 0 then (some false) else (if t324 = bt322.1 then ((laws_toSystem.f k a0_0 l0_1).bind fun bt325 => ((laws_toLin.f k a1_0 l1_1).bind fun bt329 => ((impl_AddRow.f k bt325.1 bt325.2 bt329.1 bt329.2).bind fun bt333 => ((laws_eqSystem.f k bt333.1 bt333.2.1 t284 t285).bind fun t339 => (if t339 = true then (if (bt333.2.2 != t288) = true then (some false) else ((laws_heldSystem.f k t300 bt322.2 1).bind fun t340 => (if t340 < 0 then (some false) else (if t340 = bt322.1 then (some true) else (some false))))) else (some false)))))) else (some false))))) else (some false)))))) else (some false)) = some r := H
      have A32 := Aside0.mk A320
      clear A320
      by_cases c33 : t316 = true
      ·subst c33
       have H1 : ((laws_markSystem.f k t290 t291 1).bind fun bt317 => ((laws_markLin.f k t295 t296 bt317.1).bind fun bt319 => (if bt319.1 < 0 then (some false) else ((laws_eqSystem.f k t300 t301 t284 t285).bind fun t321 => (if t321 = true then ((laws_markSystem.f k t300 t301 1).bind fun bt322 => ((laws_heldSystem.f k t300 bt322.2 1).bind fun t324 => (if t324 < 0 then (some false) else (if t324 = bt322.1 then ((laws_toSystem.f k a0_0 l0_1).bind fun bt325 => ((laws_toLin.f k a1_0 l1_1).bind fun bt329 => ((impl_AddRow.f k bt325.1 bt325.2 bt329.1 bt329.2).bind fun bt333 => ((laws_eqSystem.f k bt333.1 bt333.2.1 t284 t285).bind fun t339 => (if t339 = true then (if (bt333.2.2 != t288) = true then (some false) else ((laws_heldSystem.f k t300 bt322.2 1).bind fun t340 => (if t340 < 0 then (some false) else (if t340 = bt322.1 then (some true) else (some false))))) else (some false)))))) else (some false))))) else (some false)))))) = some r := by rw [if_pos rfl] at H; exact H
       clear H
       have H := H1
       clear H1
       replace H := Option.bind_eq_some_iff.mp H
       obtain ⟨⟨t317, t318⟩, A340, H⟩ := H
       replace H : ((laws_markLin.f k t295 t296 t317).bind fun bt319 => (if bt319.1 < 0 then (some false) else ((laws_eqSystem.f k t300 t301 t284 t285).bind fun t321 => (if t321 = true then ((laws_markSystem.f k t300 t301 1).bind fun bt322 => ((laws_heldSystem.f k t300 bt322.2 1).bind fun t324 => (if t324 < 0 then (some false) else (if t324 = bt322.1 then ((laws_toSystem.f k a0_0 l0_1).bind fun bt325 => ((laws_toLin.f k a1_0 l1_1).bind fun bt329 => ((impl_AddRow.f k bt325.1 bt325.2 bt329.1 bt329.2).bind fun bt333 => ((laws_eqSystem.f k bt333.1 bt333.2.1 t284 t285).bind fun t339 => (if t339 = true then (if (bt333.2.2 != t288) = true then (some false) else ((laws_heldSystem.f k t300 bt322.2 1).bind fun t340 => (if t340 < 0 then (some false) else (if t340 = bt322.1 then (some true) else (some false))))) else (some false)))))) else (some false))))) else (some false))))) = some r := H
       have A34 := Aside0.mk A340
       clear A340
       replace H := Option.bind_eq_some_iff.mp H
       obtain ⟨⟨t319, t320⟩, A350, H⟩ := H
       replace H : (if t319 < 0 then (some false) else ((laws_eqSystem.f k t300 t301 t284 t285).bind fun t321 => (if t321 = true then ((laws_markSystem.f k t300 t301 1).bind fun bt322 => ((laws_heldSystem.f k t300 bt322.2 1).bind fun t324 => (if t324 < 0 then (some false) else (if t324 = bt322.1 then ((laws_toSystem.f k a0_0 l0_1).bind fun bt325 => ((laws_toLin.f k a1_0 l1_1).bind fun bt329 => ((impl_AddRow.f k bt325.1 bt325.2 bt329.1 bt329.2).bind fun bt333 => ((laws_eqSystem.f k bt333.1 bt333.2.1 t284 t285).bind fun t339 => (if t339 = true then (if (bt333.2.2 != t288) = true then (some false) else ((laws_heldSystem.f k t300 bt322.2 1).bind fun t340 => (if t340 < 0 then (some false) else (if t340 = bt322.1 then (some true) else (some false))))) else (some false)))))) else (some false))))) else (some false)))) = some r := H
       have A35 := Aside0.mk A350
       clear A350
       by_cases c36 : t319 < 0
       ·rw [if_pos c36] at H
        have c36b0 : decide (t319 < 0) = true := decide_eq_true c36
        clear c36
        obtain rfl := Option.some.inj H
        exact absurd hT_ (by decide)
       ·rw [if_neg c36] at H
        have c36b0 : decide (t319 < 0) = false := decide_eq_false c36
        clear c36
        replace H := Option.bind_eq_some_iff.mp H
        obtain ⟨t321, A370, H⟩ := H
        replace H : (if t321 = true then ((laws_markSystem.f k t300 t301 1).bind fun bt322 => ((laws_heldSystem.f k t300 bt322.2 1).bind fun t324 => (if t324 < 0 then (some false) else (if t324 = bt322.1 then ((laws_toSystem.f k a0_0 l0_1).bind fun bt325 => ((laws_toLin.f k a1_0 l1_1).bind fun bt329 => ((impl_AddRow.f k bt325.1 bt325.2 bt329.1 bt329.2).bind fun bt333 => ((laws_eqSystem.f k bt333.1 bt333.2.1 t284 t285).bind fun t339 => (if t339 = true then (if (bt333.2.2 != t288) = true then (some false) else ((laws_heldSystem.f k t300 bt322.2 1).bind fun t340 => (if t340 < 0 then (some false) else (if t340 = bt322.1 then (some true) else (some false))))) else (some false)))))) else (some false))))) else (some false)) = some r := H
        have A37 := Aside0.mk A370
        clear A370
        by_cases c38 : t321 = true
        ·subst c38
         have H1 : ((laws_markSystem.f k t300 t301 1).bind fun bt322 => ((laws_heldSystem.f k t300 bt322.2 1).bind fun t324 => (if t324 < 0 then (some false) else (if t324 = bt322.1 then ((laws_toSystem.f k a0_0 l0_1).bind fun bt325 => ((laws_toLin.f k a1_0 l1_1).bind fun bt329 => ((impl_AddRow.f k bt325.1 bt325.2 bt329.1 bt329.2).bind fun bt333 => ((laws_eqSystem.f k bt333.1 bt333.2.1 t284 t285).bind fun t339 => (if t339 = true then (if (bt333.2.2 != t288) = true then (some false) else ((laws_heldSystem.f k t300 bt322.2 1).bind fun t340 => (if t340 < 0 then (some false) else (if t340 = bt322.1 then (some true) else (some false))))) else (some false)))))) else (some false))))) = some r := by rw [if_pos rfl] at H; exact H
         clear H
         have H := H1
         clear H1
         replace H := Option.bind_eq_some_iff.mp H
         obtain ⟨⟨t322, t323⟩, A390, H⟩ := H
         replace H : ((laws_heldSystem.f k t300 t323 1).bind fun t324 => (if t324 < 0 then (some false) else (if t324 = t322 then ((laws_toSystem.f k a0_0 l0_1).bind fun bt325 => ((laws_toLin.f k a1_0 l1_1).bind fun bt329 => ((impl_AddRow.f k bt325.1 bt325.2 bt329.1 bt329.2).bind fun bt333 => ((laws_eqSystem.f k bt333.1 bt333.2.1 t284 t285).bind fun t339 => (if t339 = true then (if (bt333.2.2 != t288) = true then (some false) else ((laws_heldSystem.f k t300 t323 1).bind fun t340 => (if t340 < 0 then (some false) else (if t340 = t322 then (some true) else (some false))))) else (some false)))))) else (some false)))) = some r := H
         have A39 := Aside0.mk A390
         clear A390
         replace H := Option.bind_eq_some_iff.mp H
         obtain ⟨t324, A400, H⟩ := H
         replace H : (if t324 < 0 then (some false) else (if t324 = t322 then ((laws_toSystem.f k a0_0 l0_1).bind fun bt325 => ((laws_toLin.f k a1_0 l1_1).bind fun bt329 => ((impl_AddRow.f k bt325.1 bt325.2 bt329.1 bt329.2).bind fun bt333 => ((laws_eqSystem.f k bt333.1 bt333.2.1 t284 t285).bind fun t339 => (if t339 = true then (if (bt333.2.2 != t288) = true then (some false) else ((laws_heldSystem.f k t300 t323 1).bind fun t340 => (if t340 < 0 then (some false) else (if t340 = t322 then (some true) else (some false))))) else (some false)))))) else (some false))) = some r := H
         have A40 := Aside0.mk A400
         clear A400
         by_cases c41 : t324 < 0
         ·rw [if_pos c41] at H
          have c41b0 : decide (t324 < 0) = true := decide_eq_true c41
          clear c41
          obtain rfl := Option.some.inj H
          exact absurd hT_ (by decide)
         ·rw [if_neg c41] at H
          have c41b0 : decide (t324 < 0) = false := decide_eq_false c41
          clear c41
          by_cases c42 : t324 = t322
          ·rw [if_pos c42] at H
           have c42b0 : (t324 == t322) = true := beq_iff_eq.mpr c42
           have c42b1 : (t324 != t322) = false := bne_eq_false_iff_eq.mpr c42
           clear c42
           replace H := Option.bind_eq_some_iff.mp H
           obtain ⟨⟨t325, t326⟩, A430, H⟩ := H
           replace H : ((laws_toLin.f k a1_0 l1_1).bind fun bt329 => ((impl_AddRow.f k t325 t326 bt329.1 bt329.2).bind fun bt333 => ((laws_eqSystem.f k bt333.1 bt333.2.1 t284 t285).bind fun t339 => (if t339 = true then (if (bt333.2.2 != t288) = true then (some false) else ((laws_heldSystem.f k t300 t323 1).bind fun t340 => (if t340 < 0 then (some false) else (if t340 = t322 then (some true) else (some false))))) else (some false))))) = some r := H
           have A43 := Aside0.mk A430
           clear A430
           replace H := Option.bind_eq_some_iff.mp H
           obtain ⟨⟨t329, t330⟩, A440, H⟩ := H
           replace H : ((impl_AddRow.f k t325 t326 t329 t330).bind fun bt333 => ((laws_eqSystem.f k bt333.1 bt333.2.1 t284 t285).bind fun t339 => (if t339 = true then (if (bt333.2.2 != t288) = true then (some false) else ((laws_heldSystem.f k t300 t323 1).bind fun t340 => (if t340 < 0 then (some false) else (if t340 = t322 then (some true) else (some false))))) else (some false)))) = some r := H
           have A44 := Aside0.mk A440
           clear A440
           replace H := Option.bind_eq_some_iff.mp H
           obtain ⟨⟨t333, t334, t337⟩, A450, H⟩ := H
           replace H : ((laws_eqSystem.f k t333 t334 t284 t285).bind fun t339 => (if t339 = true then (if (t337 != t288) = true then (some false) else ((laws_heldSystem.f k t300 t323 1).bind fun t340 => (if t340 < 0 then (some false) else (if t340 = t322 then (some true) else (some false))))) else (some false))) = some r := H
           have A45 := Aside0.mk A450
           clear A450
           replace H := Option.bind_eq_some_iff.mp H
           obtain ⟨t339, A460, H⟩ := H
           replace H : (if t339 = true then (if (t337 != t288) = true then (some false) else ((laws_heldSystem.f k t300 t323 1).bind fun t340 => (if t340 < 0 then (some false) else (if t340 = t322 then (some true) else (some false))))) else (some false)) = some r := H
           have A46 := Aside0.mk A460
           clear A460
           by_cases c47 : t339 = true
           ·subst c47
            have H1 : (if (t337 != t288) = true then (some false) else ((laws_heldSystem.f k t300 t323 1).bind fun t340 => (if t340 < 0 then (some false) else (if t340 = t322 then (some true) else (some false))))) = some r := by rw [if_pos rfl] at H; exact H
            clear H
            have H := H1
            clear H1
            by_cases c48 : (t337 != t288) = true
            ·rw [if_pos c48] at H
             have c48b0 : (t337 != t288) = true := c48
             (try (have c48b1 : decide (t337 = t288) = false := by simpa using c48))
             (try (have c48b2 : (t337 == t288) = false := by simpa using c48))
             (try (have c48b3 : ¬ (t337 = t288) := by simpa using c48))
             clear c48
             obtain rfl := Option.some.inj H
             exact absurd hT_ (by decide)
            ·rw [if_neg c48] at H
             have c48b0 : (t337 != t288) = false := by simpa using c48
             (try (have c48b1 : decide (t337 = t288) = true := by simpa using c48))
             (try (have c48b2 : (t337 == t288) = true := by simpa using c48))
             clear c48
             replace H := Option.bind_eq_some_iff.mp H
             obtain ⟨t340, A490, H⟩ := H
             replace H : (if t340 < 0 then (some false) else (if t340 = t322 then (some true) else (some false))) = some r := H
             have A49 := Aside0.mk A490
             clear A490
             by_cases c50 : t340 < 0
             ·rw [if_pos c50] at H
              have c50b0 : decide (t340 < 0) = true := decide_eq_true c50
              clear c50
              obtain rfl := Option.some.inj H
              exact absurd hT_ (by decide)
             ·rw [if_neg c50] at H
              have c50b0 : decide (t340 < 0) = false := decide_eq_false c50
              clear c50
              by_cases c51 : t340 = t322
              ·rw [if_pos c51] at H
               have c51b0 : (t340 == t322) = true := beq_iff_eq.mpr c51
               have c51b1 : (t340 != t322) = false := bne_eq_false_iff_eq.mpr c51
               clear c51
               obtain rfl := Option.some.inj H
               go_enter Try.func4, Try.ntmps4
               try go_wp2_with (first | ((with_reducible refine gate_dst (N := 2) rfl ?_); refine box_event ?hg (N := 2) ?hd (cs := #[.int .i64 a0_0, .slice A0_1 l0_1.length c0_1]) (t := 42) ?hr ?_; (case hd => rfl); (case hg => rfl); (case hr => first | (go_simp; done) | (go_simp; rfl)); intro gb272 hg w52 hbox hb; have n0_ := Aside0.mk ((by rw [hg]; exact (show Kept w _ (fun _ => True) from by repeat (first | exact Kept.refl _ _ | apply Kept.alloc | apply Kept.drewN | apply Kept.drew | refine Kept.setCell ?_ (.inl trivial) _)).1 : w.heap.size ≤ gb272)); have n1_ := bs HB hb; have n2_ := Aside0.mk (hbox); have n3_ := gw hg HB; have n4_ := gw hg HB; clear HB; have SG272_w := n0_; have HB := n1_; have BK272 := n2_; have GW272 := n3_; have GE272 := n4_; clear n0_ n1_ n2_ n3_ n4_; clear hb hbox hg; have SL272_w52 := Aside0.mk (blk_lt BK272.out : gb272 < w52.heap.size)) | ((with_reducible refine gate_dst (N := 3) rfl ?_); refine box_event ?hg (N := 3) ?hd (cs := #[.int .i64 a1_0, .slice A1_1 l1_1.length c1_1]) (t := 43) ?hr ?_; (case hd => rfl); (case hg => rfl); (case hr => first | (go_simp; done) | (go_simp; rfl)); intro gb273 hg w53 hbox hb; have n0_ := Aside0.mk ((by rw [hg]; exact (show Kept w52 _ (fun _ => True) from by repeat (first | exact Kept.refl _ _ | apply Kept.alloc | apply Kept.drewN | apply Kept.drew | refine Kept.setCell ?_ (.inl trivial) _)).1 : w52.heap.size ≤ gb273)); have n1_ := bb BK272 hb; have n2_ := bs HB hb; have n3_ := Aside0.mk (hbox); have n4_ := gw hg HB; have n5_ := gw hg HB; have n6_ := nl hg BK272; have n7_ := ng hg BK272; clear BK272 HB; have SG273_w52 := n0_; have BK272 := n1_; have HB := n2_; have BK273 := n3_; have GW273 := n4_; have GE273 := n5_; have NB272_273 := n6_; have NB273_272 := n7_; clear n0_ n1_ n2_ n3_ n4_ n5_ n6_ n7_; clear hb hbox hg; have hnb54 := NB272_273.out; have hnc54 := NB273_272.out; obtain ⟨hcz55_0, hcz55_1⟩ := c2 BK272; have hfz55_0 := blk_frozen BK272.out 0; have hfz55_1 := blk_frozen BK272.out 1) | ((with_reducible refine gate_callee (f := 22) rfl ?_); refine gl (some 19) rfl rfl Try.func22 (by kernel_rfl) rfl #[.agg #[.int .i64 a0_0, .slice A0_1 l0_1.length c0_1], .int .i64 1048576] rfl ?_; (with_reducible refine (laws_szSystem.calls k a0_0 _ _ l0_1 1048576 t274 _ ?side1 ?side2 A3.out).mono ?_); (case side1 => exact mc ((Kd.C_below HR0_1.out HB.out))); (case side2 => exact HC0_1.out); rintro e w56 ⟨rfl, hb⟩; refine ⟨_, rfl, ?_⟩; replace BK272 := bb BK272 hb; replace BK273 := bb BK273 hb; replace HB := bs HB hb; (try clear hb); obtain ⟨hcz57_0, hcz57_1⟩ := c2 BK273; have hfz57_0 := blk_frozen BK273.out 0; have hfz57_1 := blk_frozen BK273.out 1) | ((with_reducible refine gate_callee (f := 23) rfl ?_); refine gl (some 24) rfl rfl Try.func23 (by kernel_rfl) rfl #[.agg #[.int .i64 a1_0, .slice A1_1 l1_1.length c1_1], .int .i64 t274] rfl ?_; (with_reducible refine (laws_szLin.calls a1_0 _ _ l1_1 t274 t275 _ ?side1 ?side2 A10.out).mono ?_); (case side1 => exact mc ((Kd.C_below HR1_1.out HB.out))); (case side2 => exact HC1_1.out); rintro e w58 ⟨rfl, hb⟩; refine ⟨_, rfl, ?_⟩; replace BK272 := bb BK272 hb; replace BK273 := bb BK273 hb; replace HB := bs HB hb; (try clear hb)))
               have SL272_w58 := Aside0.mk (blk_lt BK272.out : gb272 < w58.heap.size)
               have SL273_w58 := Aside0.mk (blk_lt BK273.out : gb273 < w58.heap.size)
               replace BK272 := Aside0.mk (blk_drew BK272.out)
               replace BK273 := Aside0.mk (blk_drew BK273.out)
               replace HB := Aside0.mk (below_drew1 HB.out)
               have LWw59 := Aside0.mk (show w58.heap.size ≤ w58.drew.heap.size from Nat.le_refl _)
               refine start_ (n := 11) (S := fun w' => w'.cell? ⟨gb272, 0, none⟩ = some (.int .i64 a0_0) ∧ w'.cell? ⟨gb272, 1, none⟩ = some (.slice A0_1 l0_1.length c0_1) ∧ w'.cell? ⟨gb273, 0, none⟩ = some (.int .i64 a1_0) ∧ w'.cell? ⟨gb273, 1, none⟩ = some (.slice A1_1 l1_1.length c1_1)) (ds := []) #[false, false, false, false, false, false, false, false, false, false, false] (by kernel_rfl) rfl rfl ⟨(c2 BK272).1, (c2 BK272).2, (c2 BK273).1, (c2 BK273).2⟩ (fun hHeld => ?_); refine with_tabW laws_FnExactAddRow.tab8 laws_FnExactAddRow.bits8 (fun HT_ HW_ => ?_)
               generalize w58.drew = w59 at BK272 BK273 HB LWw59 hHeld ⊢
               refine take_ (i := 0) (N := some 28) (v := ?_) (a' := ?_) #[true, false, false, false, false, false, false, false, false, false, false] rfl rfl (take_ofW HT_.out HW_.out (by kernel_rfl)) (fun _ _ _ h => h) (Or.inl ⟨by rfl, ?_⟩) hHeld ?_ ?_
               rotate_left
               ·rintro w' ⟨s0, s1, s2, s3⟩
                go_simp
                with_reducible rfl
               rotate_left
               ·simp only [Act.put, List.setIfInBounds_toArray, List.set_cons_zero, List.set_cons_succ, i64_w, i32_w]
                rfl
               refine take_ (i := 2) (N := some 30) (v := ?_) (a' := ?_) #[true, false, true, false, false, false, false, false, false, false, false] rfl rfl (take_ofW HT_.out HW_.out (by kernel_rfl)) (fun _ _ _ h => h) (Or.inl ⟨by rfl, ?_⟩) hHeld ?_ ?_
               rotate_left
               ·rintro w' ⟨s0, s1, s2, s3⟩
                go_simp
                with_reducible rfl
               rotate_left
               ·simp only [Act.put, List.setIfInBounds_toArray, List.set_cons_zero, List.set_cons_succ, i64_w, i32_w]
                rfl
               refine join_ (σ := Value × Value × Value × Nat) 2 #[true, true, true, true, true, true, true, true, true, false, false] (fun s_ => [(29, .agg #[.int .i64 t276, s_.1]), (31, .agg #[.int .i64 t280, s_.2.1]), (32, .tuple #[.agg #[.int .i64 t284, s_.2.2.1], .bool t288]), (6, .pointer (some ⟨s_.2.2.2, 0, none⟩)), (27, .tuple #[.agg #[.int .i64 t284, s_.2.2.1], .bool t288]), (33, .agg #[.int .i64 t284, s_.2.2.1]), (34, .bool t288)]) (fun s_ w' => (w'.cell? ⟨gb272, 0, none⟩ = some (.int .i64 a0_0) ∧ w'.cell? ⟨gb272, 1, none⟩ = some (.slice A0_1 l0_1.length c0_1) ∧ w'.cell? ⟨gb273, 0, none⟩ = some (.int .i64 a1_0) ∧ w'.cell? ⟨gb273, 1, none⟩ = some (.slice A1_1 l1_1.length c1_1)) ∧ (Kd.S k29 29 w' w.heap.size (fun k_ => some k_ ≠ (s_.2.1 : Value).ownBlock ∧ some k_ ≠ (s_.2.2.1 : Value).ownBlock) s_.1 t277) ∧ (Kd.R (Kd.int .i64) 3 w' w.heap.size (fun _ => True) s_.2.1 t281) ∧ (Kd.S k29 29 w' w.heap.size (fun k_ => some k_ ≠ (s_.1 : Value).ownBlock ∧ some k_ ≠ (s_.2.1 : Value).ownBlock) s_.2.2.1 t285) ∧ (w'.heap[gb272]? = some (.cells #[.int .i64 a0_0, .slice A0_1 l0_1.length c0_1] 42 (0, 0))) ∧ (w'.heap[gb273]? = some (.cells #[.int .i64 a1_0, .slice A1_1 l1_1.length c1_1] 43 (0, 0))) ∧ (w'.heap[s_.2.2.2]? = some (.cells #[.int .i64 0, .slice none 0 0] 26 (0, 0))) ∧ (w.heap.size ≤ s_.2.2.2) ∧ (w.heap.size ≤ s_.2.2.2) ∧ (gb272 ≠ s_.2.2.2) ∧ (s_.2.2.2 ≠ gb272) ∧ (gb273 ≠ s_.2.2.2) ∧ (s_.2.2.2 ≠ gb273) ∧ (Below w.heap.size w w')) ?_ ?_
               rotate_left
               ·intro hCont
                refine two_ (i := 1) (j := 8) (Ni := some 29) (Nj := some 6) #[true, true, true, false, false, false, false, false, false, false, false] #[true, false, true, false, false, false, false, false, true, false, false] rfl rfl rfl rfl (two_of HT_.out (by kernel_rfl)) (by decide) (by decide) (fun K hK => ?_) (fun K hK => ?_)
                ·skip
                 refine gs Try.func25 (by kernel_rfl) rfl #[.agg #[.int .i64 a0_0, .slice A0_1 l0_1.length c0_1]] (by rfl) rfl rfl ?_
                 with_reducible refine (laws_toSystem.calls k a0_0 _ _ l0_1 t276 t277 _ ?side1 ?side2 A19.out).mono ?_
                 (case side1 => exact mc ((Kd.C_below HR0_1.out HB.out)))
                 (case side2 => exact HC0_1.out)
                 rintro e w60 ⟨v278, rfl, ho0, hb⟩
                 refine ⟨_, rfl, ?_⟩
                 have HO279 := Aside0.mk (Kd.S_lower ho0 (below_size (ms HB)))
                 replace BK272 := bb BK272 hb
                 replace BK273 := bb BK273 hb
                 replace HB := bs HB hb
                 (try clear hb)
                 (try clear hb2)
                 (try clear hk)
                 (try clear hi)
                 (try clear ho0)
                 refine hK.out _ _ ⟨(c2 BK272).1, (c2 BK272).2, (c2 BK273).1, (c2 BK273).2⟩ (fun hHeld => ?_)
                 clear hK K
                 refine norm_ (a' := ?_) ?_ ?_
                 rotate_left
                 ·show Act.put _ (some 29) _ = _
                  simp only [Act.put, List.setIfInBounds_toArray, List.set_cons_zero, List.set_cons_succ, i64_w, i32_w]
                  rfl
                 refine two_ (i := 3) (j := 8) (Ni := some 31) (Nj := some 6) #[true, true, true, true, false, false, false, false, false, false, false] #[true, true, true, false, false, false, false, false, true, false, false] rfl rfl rfl rfl (two_of HT_.out (by kernel_rfl)) (by decide) (by decide) (fun K hK => ?_) (fun K hK => ?_)
                 ·skip
                  refine gs Try.func26 (by kernel_rfl) rfl #[.agg #[.int .i64 a1_0, .slice A1_1 l1_1.length c1_1]] (by rfl) rfl rfl ?_
                  with_reducible refine (laws_toLin.calls k a1_0 _ _ l1_1 t280 t281 _ ?side1 ?side2 A20.out).mono ?_
                  (case side1 => exact mc ((Kd.C_below HR1_1.out HB.out)))
                  (case side2 => exact HC1_1.out)
                  rintro e w61 ⟨v282, rfl, ho0, hb⟩
                  refine ⟨_, rfl, ?_⟩
                  replace HO279 := lS HO279 ho0 hb
                  have HO283 := Aside0.mk (Kd.R_lower ho0 (below_size (ms HB)))
                  replace BK272 := bb BK272 hb
                  replace BK273 := bb BK273 hb
                  replace HB := bs HB hb
                  (try clear hb)
                  (try clear hb2)
                  (try clear hk)
                  (try clear hi)
                  (try clear ho0)
                  obtain ⟨Ao62, co62, eo62⟩ := Kd.S_slice HO279.out
                  (first | subst eo62 | (injection eo62 with f1_ f2_ f3_; have f4_ := f1_.symm; have f5_ := f3_.symm; clear f1_ f2_ f3_; subst f4_; subst f5_))
                  obtain ⟨Ao63, co63, eo63⟩ := Kd.R_slice HO283.out
                  (first | subst eo63 | (injection eo63 with f1_ f2_ f3_; have f4_ := f1_.symm; have f5_ := f3_.symm; clear f1_ f2_ f3_; subst f4_; subst f5_))
                  refine hK.out _ _ ⟨(c2 BK272).1, (c2 BK272).2, (c2 BK273).1, (c2 BK273).2⟩ (fun hHeld => ?_)
                  clear hK K
                  refine norm_ (a' := ?_) ?_ ?_
                  rotate_left
                  ·show Act.put _ (some 31) _ = _
                   simp only [Act.put, List.setIfInBounds_toArray, List.set_cons_zero, List.set_cons_succ, i64_w, i32_w]
                   rfl
                  refine two_ (i := 4) (j := 8) (Ni := some 32) (Nj := some 6) #[true, true, true, true, true, false, false, false, false, false, false] #[true, true, true, true, false, false, false, false, true, false, false] rfl rfl rfl rfl (two_of HT_.out (by kernel_rfl)) (by decide) (by decide) (fun K hK => ?_) (fun K hK => ?_)
                  ·skip
                   refine gs Try.func24 (by kernel_rfl) rfl #[.agg #[.int .i64 t276, .slice Ao62 t277.length co62], .agg #[.int .i64 t280, .slice Ao63 t281.length co63]] (by rfl) rfl rfl ?_
                   with_reducible refine (spec_AddRow.calls k t276 _ _ t277 t280 _ _ t281 t284 t285 t288 _ ?side1 ?side2 ?side3 ?side4 A21.out).mono ?_
                   (case side1 => exact mc ((Kd.S_reads' HO279.out).2.2))
                   (case side2 => exact (Kd.S_reads' HO279.out).2.1)
                   (case side3 => exact mc ((Kd.R_reads' HO283.out).2.2))
                   (case side4 => exact (Kd.R_reads' HO283.out).2.1)
                   rintro e w64 ⟨v286, rfl, ho0, hb⟩
                   refine ⟨_, rfl, ?_⟩
                   have HO287 := Aside0.mk (Kd.S_lower (Kd.S_new' (Kd.S_new' ho0 (Kd.S_lt (mS HO279))) (Kd.R_lt (mr HO283))) (below_size (ms HB)))
                   replace HO279 := Aside0.mk (Kd.S_elder' (mS HO279) (Kd.S_base ho0) hb)
                   replace HO283 := rb HO283 hb
                   replace BK272 := bb BK272 hb
                   replace BK273 := bb BK273 hb
                   replace HB := bs HB hb
                   (try clear hb)
                   (try clear hb2)
                   (try clear hk)
                   (try clear hi)
                   (try clear ho0)
                   refine hK.out _ _ ⟨(c2 BK272).1, (c2 BK272).2, (c2 BK273).1, (c2 BK273).2⟩ (fun hHeld => ?_)
                   clear hK K
                   refine norm_ (a' := ?_) ?_ ?_
                   rotate_left
                   ·show Act.put _ (some 32) _ = _
                    simp only [Act.put, List.setIfInBounds_toArray, List.set_cons_zero, List.set_cons_succ, i64_w, i32_w]
                    rfl
                   refine pure_ (i := 5) (N := some 27) (v := ?_) (a' := ?_) #[true, true, true, true, true, true, false, false, false, false, false] rfl rfl (any_of HT_.out (by kernel_rfl)) (fun _ _ _ h => h) (Or.inl ⟨by rfl, ?_⟩) ?_ ?_
                   rotate_left
                   ·intro w'
                    go_simp
                    with_reducible rfl
                   rotate_left
                   ·simp only [Act.put, List.setIfInBounds_toArray, List.set_cons_zero, List.set_cons_succ, i64_w, i32_w]
                    rfl
                   refine pure_ (i := 6) (N := some 33) (v := ?_) (a' := ?_) #[true, true, true, true, true, true, true, false, false, false, false] rfl rfl (any_of HT_.out (by kernel_rfl)) (fun _ _ _ h => h) (Or.inl ⟨by rfl, ?_⟩) ?_ ?_
                   rotate_left
                   ·intro w'
                    go_simp
                    with_reducible rfl
                   rotate_left
                   ·simp only [Act.put, List.setIfInBounds_toArray, List.set_cons_zero, List.set_cons_succ, i64_w, i32_w]
                    rfl
                   refine pure_ (i := 7) (N := some 34) (v := ?_) (a' := ?_) #[true, true, true, true, true, true, true, true, false, false, false] rfl rfl (any_of HT_.out (by kernel_rfl)) (fun _ _ _ h => h) (Or.inl ⟨by rfl, ?_⟩) ?_ ?_
                   rotate_left
                   ·intro w'
                    go_simp
                    with_reducible rfl
                   rotate_left
                   ·simp only [Act.put, List.setIfInBounds_toArray, List.set_cons_zero, List.set_cons_succ, i64_w, i32_w]
                    rfl
                   refine one_ (i := 8) (N := some 6) #[true, true, true, true, true, true, true, true, true, false, false] rfl rfl (one_of HT_.out (by kernel_rfl)) (by decide) (fun K hK => ?_)
                   refine box_step ?hg (N := 6) ?hd (cs := #[.int .i64 0, .slice none 0 0]) (t := 26) ?hr ?_; (case hd => rfl); (case hg => rfl); (case hr => first | (go_simp; done) | (go_simp; rfl))
                   intro gb289 hg w65 hbox hb
                   replace HO279 := bS HO279 hb
                   replace HO283 := rb HO283 hb
                   replace HO287 := bS HO287 hb
                   have BK289 := Aside0.mk (hbox)
                   have GW289 := gw hg HB
                   have GE289 := gw hg HB
                   replace HB := bs HB hb
                   have NB272_289 := nl hg BK272
                   have NB289_272 := ng hg BK272
                   replace BK272 := bb BK272 hb
                   have NB273_289 := nl hg BK273
                   have NB289_273 := ng hg BK273
                   replace BK273 := bb BK273 hb
                   clear hb hbox hg
                   refine hK.out _ _ ⟨(c2 BK272).1, (c2 BK272).2, (c2 BK273).1, (c2 BK273).2⟩ (fun hHeld => ?_)
                   clear hK K
                   refine norm_ (a' := ?_) ?_ ?_
                   rotate_left
                   ·show Act.put _ (some 6) _ = _
                    simp only [Act.put, List.setIfInBounds_toArray, List.set_cons_zero, List.set_cons_succ, i64_w, i32_w]
                    rfl
                   exact norm_ (by simp only [putAll, Act.put, List.setIfInBounds_toArray, List.set_cons_zero, List.set_cons_succ]) (hCont (.slice Ao62 t277.length co62, .slice Ao63 t281.length co63, v286, gb289) _ ⟨hHeld, (by (with_reducible repeat (first | apply Kd.S_alloc | apply Kd.S_drewN | apply Kd.S_drew)); exact Kd.S_mono HO279.out (fun _ hk => ⟨hk.1.2, hk.2⟩)), (mr HO283), (by (with_reducible repeat (first | apply Kd.S_alloc | apply Kd.S_drewN | apply Kd.S_drew)); exact Kd.S_mono HO287.out (fun _ hk => ⟨hk.1.2, hk.2⟩)), (mb BK272), (mb BK273), (mb BK289), GW289.out, GE289.out, NB272_289.out, NB289_272.out, NB273_289.out, NB289_273.out, (ms HB)⟩)
                  ·skip
                   refine box_step ?hg (N := 6) ?hd (cs := #[.int .i64 0, .slice none 0 0]) (t := 26) ?hr ?_; (case hd => rfl); (case hg => rfl); (case hr => first | (go_simp; done) | (go_simp; rfl))
                   intro gb289 hg w62 hbox hb
                   replace HO279 := bS HO279 hb
                   replace HO283 := rb HO283 hb
                   have BK289 := Aside0.mk (hbox)
                   have GW289 := gw hg HB
                   have GE289 := gw hg HB
                   replace HB := bs HB hb
                   have NB272_289 := nl hg BK272
                   have NB289_272 := ng hg BK272
                   replace BK272 := bb BK272 hb
                   have NB273_289 := nl hg BK273
                   have NB289_273 := ng hg BK273
                   replace BK273 := bb BK273 hb
                   clear hb hbox hg
                   obtain ⟨Ao63, co63, eo63⟩ := Kd.S_slice HO279.out
                   (first | subst eo63 | (injection eo63 with f1_ f2_ f3_; have f4_ := f1_.symm; have f5_ := f3_.symm; clear f1_ f2_ f3_; subst f4_; subst f5_))
                   obtain ⟨Ao64, co64, eo64⟩ := Kd.R_slice HO283.out
                   (first | subst eo64 | (injection eo64 with f1_ f2_ f3_; have f4_ := f1_.symm; have f5_ := f3_.symm; clear f1_ f2_ f3_; subst f4_; subst f5_))
                   refine hK.out _ _ ⟨(c2 BK272).1, (c2 BK272).2, (c2 BK273).1, (c2 BK273).2⟩ (fun hHeld => ?_)
                   clear hK K
                   refine norm_ (a' := ?_) ?_ ?_
                   rotate_left
                   ·show Act.put _ (some 6) _ = _
                    simp only [Act.put, List.setIfInBounds_toArray, List.set_cons_zero, List.set_cons_succ, i64_w, i32_w]
                    rfl
                   refine one_ (i := 4) (N := some 32) #[true, true, true, true, true, false, false, false, true, false, false] rfl rfl (one_of HT_.out (by kernel_rfl)) (by decide) (fun K hK => ?_)
                   refine gs Try.func24 (by kernel_rfl) rfl #[.agg #[.int .i64 t276, .slice Ao63 t277.length co63], .agg #[.int .i64 t280, .slice Ao64 t281.length co64]] (by rfl) rfl rfl ?_
                   with_reducible refine (spec_AddRow.calls k t276 _ _ t277 t280 _ _ t281 t284 t285 t288 _ ?side1 ?side2 ?side3 ?side4 A21.out).mono ?_
                   (case side1 => exact mc ((Kd.S_reads' HO279.out).2.2))
                   (case side2 => exact (Kd.S_reads' HO279.out).2.1)
                   (case side3 => exact mc ((Kd.R_reads' HO283.out).2.2))
                   (case side4 => exact (Kd.R_reads' HO283.out).2.1)
                   rintro e w65 ⟨v286, rfl, ho0, hb⟩
                   refine ⟨_, rfl, ?_⟩
                   have HO287 := Aside0.mk (Kd.S_lower (Kd.S_new' (Kd.S_new' ho0 (Kd.S_lt (mS HO279))) (Kd.R_lt (mr HO283))) (below_size (ms HB)))
                   replace HO279 := Aside0.mk (Kd.S_elder' (mS HO279) (Kd.S_base ho0) hb)
                   replace HO283 := rb HO283 hb
                   replace BK272 := bb BK272 hb
                   replace BK273 := bb BK273 hb
                   replace BK289 := bb BK289 hb
                   replace HB := bs HB hb
                   (try clear hb)
                   (try clear hb2)
                   (try clear hk)
                   (try clear hi)
                   (try clear ho0)
                   refine hK.out _ _ ⟨(c2 BK272).1, (c2 BK272).2, (c2 BK273).1, (c2 BK273).2⟩ (fun hHeld => ?_)
                   clear hK K
                   refine norm_ (a' := ?_) ?_ ?_
                   rotate_left
                   ·show Act.put _ (some 32) _ = _
                    simp only [Act.put, List.setIfInBounds_toArray, List.set_cons_zero, List.set_cons_succ, i64_w, i32_w]
                    rfl
                   refine pure_ (i := 5) (N := some 27) (v := ?_) (a' := ?_) #[true, true, true, true, true, true, false, false, true, false, false] rfl rfl (any_of HT_.out (by kernel_rfl)) (fun _ _ _ h => h) (Or.inl ⟨by rfl, ?_⟩) ?_ ?_
                   rotate_left
                   ·intro w'
                    go_simp
                    with_reducible rfl
                   rotate_left
                   ·simp only [Act.put, List.setIfInBounds_toArray, List.set_cons_zero, List.set_cons_succ, i64_w, i32_w]
                    rfl
                   refine pure_ (i := 6) (N := some 33) (v := ?_) (a' := ?_) #[true, true, true, true, true, true, true, false, true, false, false] rfl rfl (any_of HT_.out (by kernel_rfl)) (fun _ _ _ h => h) (Or.inl ⟨by rfl, ?_⟩) ?_ ?_
                   rotate_left
                   ·intro w'
                    go_simp
                    with_reducible rfl
                   rotate_left
                   ·simp only [Act.put, List.setIfInBounds_toArray, List.set_cons_zero, List.set_cons_succ, i64_w, i32_w]
                    rfl
                   refine pure_ (i := 7) (N := some 34) (v := ?_) (a' := ?_) #[true, true, true, true, true, true, true, true, true, false, false] rfl rfl (any_of HT_.out (by kernel_rfl)) (fun _ _ _ h => h) (Or.inl ⟨by rfl, ?_⟩) ?_ ?_
                   rotate_left
                   ·intro w'
                    go_simp
                    with_reducible rfl
                   rotate_left
                   ·simp only [Act.put, List.setIfInBounds_toArray, List.set_cons_zero, List.set_cons_succ, i64_w, i32_w]
                    rfl
                   exact norm_ (by simp only [putAll, Act.put, List.setIfInBounds_toArray, List.set_cons_zero, List.set_cons_succ]) (hCont (.slice Ao63 t277.length co63, .slice Ao64 t281.length co64, v286, gb289) _ ⟨hHeld, (by (with_reducible repeat (first | apply Kd.S_alloc | apply Kd.S_drewN | apply Kd.S_drew)); exact Kd.S_mono HO279.out (fun _ hk => ⟨hk.1.2, hk.2⟩)), (mr HO283), (by (with_reducible repeat (first | apply Kd.S_alloc | apply Kd.S_drewN | apply Kd.S_drew)); exact Kd.S_mono HO287.out (fun _ hk => ⟨hk.1.2, hk.2⟩)), (mb BK272), (mb BK273), (mb BK289), GW289.out, GE289.out, NB272_289.out, NB289_272.out, NB273_289.out, NB289_273.out, (ms HB)⟩)
                 ·skip
                  refine box_step ?hg (N := 6) ?hd (cs := #[.int .i64 0, .slice none 0 0]) (t := 26) ?hr ?_; (case hd => rfl); (case hg => rfl); (case hr => first | (go_simp; done) | (go_simp; rfl))
                  intro gb289 hg w61 hbox hb
                  replace HO279 := bS HO279 hb
                  have BK289 := Aside0.mk (hbox)
                  have GW289 := gw hg HB
                  have GE289 := gw hg HB
                  replace HB := bs HB hb
                  have NB272_289 := nl hg BK272
                  have NB289_272 := ng hg BK272
                  replace BK272 := bb BK272 hb
                  have NB273_289 := nl hg BK273
                  have NB289_273 := ng hg BK273
                  replace BK273 := bb BK273 hb
                  clear hb hbox hg
                  refine hK.out _ _ ⟨(c2 BK272).1, (c2 BK272).2, (c2 BK273).1, (c2 BK273).2⟩ (fun hHeld => ?_)
                  clear hK K
                  refine norm_ (a' := ?_) ?_ ?_
                  rotate_left
                  ·show Act.put _ (some 6) _ = _
                   simp only [Act.put, List.setIfInBounds_toArray, List.set_cons_zero, List.set_cons_succ, i64_w, i32_w]
                   rfl
                  refine one_ (i := 3) (N := some 31) #[true, true, true, true, false, false, false, false, true, false, false] rfl rfl (one_of HT_.out (by kernel_rfl)) (by decide) (fun K hK => ?_)
                  refine gs Try.func26 (by kernel_rfl) rfl #[.agg #[.int .i64 a1_0, .slice A1_1 l1_1.length c1_1]] (by rfl) rfl rfl ?_
                  with_reducible refine (laws_toLin.calls k a1_0 _ _ l1_1 t280 t281 _ ?side1 ?side2 A20.out).mono ?_
                  (case side1 => exact mc ((Kd.C_below HR1_1.out HB.out)))
                  (case side2 => exact HC1_1.out)
                  rintro e w62 ⟨v282, rfl, ho0, hb⟩
                  refine ⟨_, rfl, ?_⟩
                  replace HO279 := lS HO279 ho0 hb
                  have HO283 := Aside0.mk (Kd.R_lower ho0 (below_size (ms HB)))
                  replace BK272 := bb BK272 hb
                  replace BK273 := bb BK273 hb
                  replace BK289 := bb BK289 hb
                  replace HB := bs HB hb
                  (try clear hb)
                  (try clear hb2)
                  (try clear hk)
                  (try clear hi)
                  (try clear ho0)
                  obtain ⟨Ao63, co63, eo63⟩ := Kd.S_slice HO279.out
                  (first | subst eo63 | (injection eo63 with f1_ f2_ f3_; have f4_ := f1_.symm; have f5_ := f3_.symm; clear f1_ f2_ f3_; subst f4_; subst f5_))
                  obtain ⟨Ao64, co64, eo64⟩ := Kd.R_slice HO283.out
                  (first | subst eo64 | (injection eo64 with f1_ f2_ f3_; have f4_ := f1_.symm; have f5_ := f3_.symm; clear f1_ f2_ f3_; subst f4_; subst f5_))
                  refine hK.out _ _ ⟨(c2 BK272).1, (c2 BK272).2, (c2 BK273).1, (c2 BK273).2⟩ (fun hHeld => ?_)
                  clear hK K
                  refine norm_ (a' := ?_) ?_ ?_
                  rotate_left
                  ·show Act.put _ (some 31) _ = _
                   simp only [Act.put, List.setIfInBounds_toArray, List.set_cons_zero, List.set_cons_succ, i64_w, i32_w]
                   rfl
                  refine one_ (i := 4) (N := some 32) #[true, true, true, true, true, false, false, false, true, false, false] rfl rfl (one_of HT_.out (by kernel_rfl)) (by decide) (fun K hK => ?_)
                  refine gs Try.func24 (by kernel_rfl) rfl #[.agg #[.int .i64 t276, .slice Ao63 t277.length co63], .agg #[.int .i64 t280, .slice Ao64 t281.length co64]] (by rfl) rfl rfl ?_
                  with_reducible refine (spec_AddRow.calls k t276 _ _ t277 t280 _ _ t281 t284 t285 t288 _ ?side1 ?side2 ?side3 ?side4 A21.out).mono ?_
                  (case side1 => exact mc ((Kd.S_reads' HO279.out).2.2))
                  (case side2 => exact (Kd.S_reads' HO279.out).2.1)
                  (case side3 => exact mc ((Kd.R_reads' HO283.out).2.2))
                  (case side4 => exact (Kd.R_reads' HO283.out).2.1)
                  rintro e w65 ⟨v286, rfl, ho0, hb⟩
                  refine ⟨_, rfl, ?_⟩
                  have HO287 := Aside0.mk (Kd.S_lower (Kd.S_new' (Kd.S_new' ho0 (Kd.S_lt (mS HO279))) (Kd.R_lt (mr HO283))) (below_size (ms HB)))
                  replace HO279 := Aside0.mk (Kd.S_elder' (mS HO279) (Kd.S_base ho0) hb)
                  replace HO283 := rb HO283 hb
                  replace BK272 := bb BK272 hb
                  replace BK273 := bb BK273 hb
                  replace BK289 := bb BK289 hb
                  replace HB := bs HB hb
                  (try clear hb)
                  (try clear hb2)
                  (try clear hk)
                  (try clear hi)
                  (try clear ho0)
                  refine hK.out _ _ ⟨(c2 BK272).1, (c2 BK272).2, (c2 BK273).1, (c2 BK273).2⟩ (fun hHeld => ?_)
                  clear hK K
                  refine norm_ (a' := ?_) ?_ ?_
                  rotate_left
                  ·show Act.put _ (some 32) _ = _
                   simp only [Act.put, List.setIfInBounds_toArray, List.set_cons_zero, List.set_cons_succ, i64_w, i32_w]
                   rfl
                  refine pure_ (i := 5) (N := some 27) (v := ?_) (a' := ?_) #[true, true, true, true, true, true, false, false, true, false, false] rfl rfl (any_of HT_.out (by kernel_rfl)) (fun _ _ _ h => h) (Or.inl ⟨by rfl, ?_⟩) ?_ ?_
                  rotate_left
                  ·intro w'
                   go_simp
                   with_reducible rfl
                  rotate_left
                  ·simp only [Act.put, List.setIfInBounds_toArray, List.set_cons_zero, List.set_cons_succ, i64_w, i32_w]
                   rfl
                  refine pure_ (i := 6) (N := some 33) (v := ?_) (a' := ?_) #[true, true, true, true, true, true, true, false, true, false, false] rfl rfl (any_of HT_.out (by kernel_rfl)) (fun _ _ _ h => h) (Or.inl ⟨by rfl, ?_⟩) ?_ ?_
                  rotate_left
                  ·intro w'
                   go_simp
                   with_reducible rfl
                  rotate_left
                  ·simp only [Act.put, List.setIfInBounds_toArray, List.set_cons_zero, List.set_cons_succ, i64_w, i32_w]
                   rfl
                  refine pure_ (i := 7) (N := some 34) (v := ?_) (a' := ?_) #[true, true, true, true, true, true, true, true, true, false, false] rfl rfl (any_of HT_.out (by kernel_rfl)) (fun _ _ _ h => h) (Or.inl ⟨by rfl, ?_⟩) ?_ ?_
                  rotate_left
                  ·intro w'
                   go_simp
                   with_reducible rfl
                  rotate_left
                  ·simp only [Act.put, List.setIfInBounds_toArray, List.set_cons_zero, List.set_cons_succ, i64_w, i32_w]
                   rfl
                  exact norm_ (by simp only [putAll, Act.put, List.setIfInBounds_toArray, List.set_cons_zero, List.set_cons_succ]) (hCont (.slice Ao63 t277.length co63, .slice Ao64 t281.length co64, v286, gb289) _ ⟨hHeld, (by (with_reducible repeat (first | apply Kd.S_alloc | apply Kd.S_drewN | apply Kd.S_drew)); exact Kd.S_mono HO279.out (fun _ hk => ⟨hk.1.2, hk.2⟩)), (mr HO283), (by (with_reducible repeat (first | apply Kd.S_alloc | apply Kd.S_drewN | apply Kd.S_drew)); exact Kd.S_mono HO287.out (fun _ hk => ⟨hk.1.2, hk.2⟩)), (mb BK272), (mb BK273), (mb BK289), GW289.out, GE289.out, NB272_289.out, NB289_272.out, NB273_289.out, NB289_273.out, (ms HB)⟩)
                ·skip
                 refine box_step ?hg (N := 6) ?hd (cs := #[.int .i64 0, .slice none 0 0]) (t := 26) ?hr ?_; (case hd => rfl); (case hg => rfl); (case hr => first | (go_simp; done) | (go_simp; rfl))
                 intro gb289 hg w60 hbox hb
                 have BK289 := Aside0.mk (hbox)
                 have GW289 := gw hg HB
                 have GE289 := gw hg HB
                 replace HB := bs HB hb
                 have NB272_289 := nl hg BK272
                 have NB289_272 := ng hg BK272
                 replace BK272 := bb BK272 hb
                 have NB273_289 := nl hg BK273
                 have NB289_273 := ng hg BK273
                 replace BK273 := bb BK273 hb
                 clear hb hbox hg
                 refine hK.out _ _ ⟨(c2 BK272).1, (c2 BK272).2, (c2 BK273).1, (c2 BK273).2⟩ (fun hHeld => ?_)
                 clear hK K
                 refine norm_ (a' := ?_) ?_ ?_
                 rotate_left
                 ·show Act.put _ (some 6) _ = _
                  simp only [Act.put, List.setIfInBounds_toArray, List.set_cons_zero, List.set_cons_succ, i64_w, i32_w]
                  rfl
                 refine one_ (i := 1) (N := some 29) #[true, true, true, false, false, false, false, false, true, false, false] rfl rfl (one_of HT_.out (by kernel_rfl)) (by decide) (fun K hK => ?_)
                 refine gs Try.func25 (by kernel_rfl) rfl #[.agg #[.int .i64 a0_0, .slice A0_1 l0_1.length c0_1]] (by rfl) rfl rfl ?_
                 with_reducible refine (laws_toSystem.calls k a0_0 _ _ l0_1 t276 t277 _ ?side1 ?side2 A19.out).mono ?_
                 (case side1 => exact mc ((Kd.C_below HR0_1.out HB.out)))
                 (case side2 => exact HC0_1.out)
                 rintro e w61 ⟨v278, rfl, ho0, hb⟩
                 refine ⟨_, rfl, ?_⟩
                 have HO279 := Aside0.mk (Kd.S_lower ho0 (below_size (ms HB)))
                 replace BK272 := bb BK272 hb
                 replace BK273 := bb BK273 hb
                 replace BK289 := bb BK289 hb
                 replace HB := bs HB hb
                 (try clear hb)
                 (try clear hb2)
                 (try clear hk)
                 (try clear hi)
                 (try clear ho0)
                 refine hK.out _ _ ⟨(c2 BK272).1, (c2 BK272).2, (c2 BK273).1, (c2 BK273).2⟩ (fun hHeld => ?_)
                 clear hK K
                 refine norm_ (a' := ?_) ?_ ?_
                 rotate_left
                 ·show Act.put _ (some 29) _ = _
                  simp only [Act.put, List.setIfInBounds_toArray, List.set_cons_zero, List.set_cons_succ, i64_w, i32_w]
                  rfl
                 refine one_ (i := 3) (N := some 31) #[true, true, true, true, false, false, false, false, true, false, false] rfl rfl (one_of HT_.out (by kernel_rfl)) (by decide) (fun K hK => ?_)
                 refine gs Try.func26 (by kernel_rfl) rfl #[.agg #[.int .i64 a1_0, .slice A1_1 l1_1.length c1_1]] (by rfl) rfl rfl ?_
                 with_reducible refine (laws_toLin.calls k a1_0 _ _ l1_1 t280 t281 _ ?side1 ?side2 A20.out).mono ?_
                 (case side1 => exact mc ((Kd.C_below HR1_1.out HB.out)))
                 (case side2 => exact HC1_1.out)
                 rintro e w62 ⟨v282, rfl, ho0, hb⟩
                 refine ⟨_, rfl, ?_⟩
                 replace HO279 := lS HO279 ho0 hb
                 have HO283 := Aside0.mk (Kd.R_lower ho0 (below_size (ms HB)))
                 replace BK272 := bb BK272 hb
                 replace BK273 := bb BK273 hb
                 replace BK289 := bb BK289 hb
                 replace HB := bs HB hb
                 (try clear hb)
                 (try clear hb2)
                 (try clear hk)
                 (try clear hi)
                 (try clear ho0)
                 obtain ⟨Ao63, co63, eo63⟩ := Kd.S_slice HO279.out
                 (first | subst eo63 | (injection eo63 with f1_ f2_ f3_; have f4_ := f1_.symm; have f5_ := f3_.symm; clear f1_ f2_ f3_; subst f4_; subst f5_))
                 obtain ⟨Ao64, co64, eo64⟩ := Kd.R_slice HO283.out
                 (first | subst eo64 | (injection eo64 with f1_ f2_ f3_; have f4_ := f1_.symm; have f5_ := f3_.symm; clear f1_ f2_ f3_; subst f4_; subst f5_))
                 refine hK.out _ _ ⟨(c2 BK272).1, (c2 BK272).2, (c2 BK273).1, (c2 BK273).2⟩ (fun hHeld => ?_)
                 clear hK K
                 refine norm_ (a' := ?_) ?_ ?_
                 rotate_left
                 ·show Act.put _ (some 31) _ = _
                  simp only [Act.put, List.setIfInBounds_toArray, List.set_cons_zero, List.set_cons_succ, i64_w, i32_w]
                  rfl
                 refine one_ (i := 4) (N := some 32) #[true, true, true, true, true, false, false, false, true, false, false] rfl rfl (one_of HT_.out (by kernel_rfl)) (by decide) (fun K hK => ?_)
                 refine gs Try.func24 (by kernel_rfl) rfl #[.agg #[.int .i64 t276, .slice Ao63 t277.length co63], .agg #[.int .i64 t280, .slice Ao64 t281.length co64]] (by rfl) rfl rfl ?_
                 with_reducible refine (spec_AddRow.calls k t276 _ _ t277 t280 _ _ t281 t284 t285 t288 _ ?side1 ?side2 ?side3 ?side4 A21.out).mono ?_
                 (case side1 => exact mc ((Kd.S_reads' HO279.out).2.2))
                 (case side2 => exact (Kd.S_reads' HO279.out).2.1)
                 (case side3 => exact mc ((Kd.R_reads' HO283.out).2.2))
                 (case side4 => exact (Kd.R_reads' HO283.out).2.1)
                 rintro e w65 ⟨v286, rfl, ho0, hb⟩
                 refine ⟨_, rfl, ?_⟩
                 have HO287 := Aside0.mk (Kd.S_lower (Kd.S_new' (Kd.S_new' ho0 (Kd.S_lt (mS HO279))) (Kd.R_lt (mr HO283))) (below_size (ms HB)))
                 replace HO279 := Aside0.mk (Kd.S_elder' (mS HO279) (Kd.S_base ho0) hb)
                 replace HO283 := rb HO283 hb
                 replace BK272 := bb BK272 hb
                 replace BK273 := bb BK273 hb
                 replace BK289 := bb BK289 hb
                 replace HB := bs HB hb
                 (try clear hb)
                 (try clear hb2)
                 (try clear hk)
                 (try clear hi)
                 (try clear ho0)
                 refine hK.out _ _ ⟨(c2 BK272).1, (c2 BK272).2, (c2 BK273).1, (c2 BK273).2⟩ (fun hHeld => ?_)
                 clear hK K
                 refine norm_ (a' := ?_) ?_ ?_
                 rotate_left
                 ·show Act.put _ (some 32) _ = _
                  simp only [Act.put, List.setIfInBounds_toArray, List.set_cons_zero, List.set_cons_succ, i64_w, i32_w]
                  rfl
                 refine pure_ (i := 5) (N := some 27) (v := ?_) (a' := ?_) #[true, true, true, true, true, true, false, false, true, false, false] rfl rfl (any_of HT_.out (by kernel_rfl)) (fun _ _ _ h => h) (Or.inl ⟨by rfl, ?_⟩) ?_ ?_
                 rotate_left
                 ·intro w'
                  go_simp
                  with_reducible rfl
                 rotate_left
                 ·simp only [Act.put, List.setIfInBounds_toArray, List.set_cons_zero, List.set_cons_succ, i64_w, i32_w]
                  rfl
                 refine pure_ (i := 6) (N := some 33) (v := ?_) (a' := ?_) #[true, true, true, true, true, true, true, false, true, false, false] rfl rfl (any_of HT_.out (by kernel_rfl)) (fun _ _ _ h => h) (Or.inl ⟨by rfl, ?_⟩) ?_ ?_
                 rotate_left
                 ·intro w'
                  go_simp
                  with_reducible rfl
                 rotate_left
                 ·simp only [Act.put, List.setIfInBounds_toArray, List.set_cons_zero, List.set_cons_succ, i64_w, i32_w]
                  rfl
                 refine pure_ (i := 7) (N := some 34) (v := ?_) (a' := ?_) #[true, true, true, true, true, true, true, true, true, false, false] rfl rfl (any_of HT_.out (by kernel_rfl)) (fun _ _ _ h => h) (Or.inl ⟨by rfl, ?_⟩) ?_ ?_
                 rotate_left
                 ·intro w'
                  go_simp
                  with_reducible rfl
                 rotate_left
                 ·simp only [Act.put, List.setIfInBounds_toArray, List.set_cons_zero, List.set_cons_succ, i64_w, i32_w]
                  rfl
                 exact norm_ (by simp only [putAll, Act.put, List.setIfInBounds_toArray, List.set_cons_zero, List.set_cons_succ]) (hCont (.slice Ao63 t277.length co63, .slice Ao64 t281.length co64, v286, gb289) _ ⟨hHeld, (by (with_reducible repeat (first | apply Kd.S_alloc | apply Kd.S_drewN | apply Kd.S_drew)); exact Kd.S_mono HO279.out (fun _ hk => ⟨hk.1.2, hk.2⟩)), (mr HO283), (by (with_reducible repeat (first | apply Kd.S_alloc | apply Kd.S_drewN | apply Kd.S_drew)); exact Kd.S_mono HO287.out (fun _ hk => ⟨hk.1.2, hk.2⟩)), (mb BK272), (mb BK273), (mb BK289), GW289.out, GE289.out, NB272_289.out, NB289_272.out, NB273_289.out, NB289_273.out, (ms HB)⟩)
               rintro ⟨v278, v282, v286, gb289⟩ w66 ⟨hS_, h0_, h1_, h2_, h3_, h4_, h5_, h6_, h7_, h8_, h9_, h10_, h11_, h12_⟩
               have n0_ : Aside0 (Kd.S k29 29 w66 w.heap.size (fun k_ => some k_ ≠ (v282 : Value).ownBlock ∧ some k_ ≠ (v286 : Value).ownBlock) v278 t277) := ⟨h0_⟩
               have n1_ : Aside0 (Kd.R (Kd.int .i64) 3 w66 w.heap.size (fun _ => True) v282 t281) := ⟨h1_⟩
               have n2_ : Aside0 (Kd.S k29 29 w66 w.heap.size (fun k_ => some k_ ≠ (v278 : Value).ownBlock ∧ some k_ ≠ (v282 : Value).ownBlock) v286 t285) := ⟨h2_⟩
               have n3_ : Aside0 (w66.heap[gb272]? = some (.cells #[.int .i64 a0_0, .slice A0_1 l0_1.length c0_1] 42 (0, 0))) := ⟨h3_⟩
               have n4_ : Aside0 (w66.heap[gb273]? = some (.cells #[.int .i64 a1_0, .slice A1_1 l1_1.length c1_1] 43 (0, 0))) := ⟨h4_⟩
               have n5_ : Aside0 (w66.heap[gb289]? = some (.cells #[.int .i64 0, .slice none 0 0] 26 (0, 0))) := ⟨h5_⟩
               have n6_ : Aside0 (w.heap.size ≤ gb289) := ⟨h6_⟩
               have n7_ : Aside0 (w.heap.size ≤ gb289) := ⟨h7_⟩
               have n8_ : Aside0 (gb272 ≠ gb289) := ⟨h8_⟩
               have n9_ : Aside0 (gb289 ≠ gb272) := ⟨h9_⟩
               have n10_ : Aside0 (gb273 ≠ gb289) := ⟨h10_⟩
               have n11_ : Aside0 (gb289 ≠ gb273) := ⟨h11_⟩
               have n12_ : Aside0 (Below w.heap.size w w66) := ⟨h12_⟩
               clear BK272
               clear BK273
               clear HB
               clear h0_ h1_ h2_ h3_ h4_ h5_ h6_ h7_ h8_ h9_ h10_ h11_ h12_
               have HO279 := n0_
               have HO283 := n1_
               have HO287 := n2_
               have BK272 := n3_
               have BK273 := n4_
               have BK289 := n5_
               have GW289 := n6_
               have GE289 := n7_
               have NB272_289 := n8_
               have NB289_272 := n9_
               have NB273_289 := n10_
               have NB289_273 := n11_
               have HB := n12_
               clear n0_ n1_ n2_ n3_ n4_ n5_ n6_ n7_ n8_ n9_ n10_ n11_ n12_
               have hHeld : w66.cell? ⟨gb272, 0, none⟩ = some (.int .i64 a0_0) ∧ w66.cell? ⟨gb272, 1, none⟩ = some (.slice A0_1 l0_1.length c0_1) ∧ w66.cell? ⟨gb273, 0, none⟩ = some (.int .i64 a1_0) ∧ w66.cell? ⟨gb273, 1, none⟩ = some (.slice A1_1 l1_1.length c1_1) := hS_
               obtain ⟨Ao68, co68, eo68⟩ := Kd.S_slice HO287.out
               (first | subst eo68 | (injection eo68 with f1_ f2_ f3_; have f4_ := f1_.symm; have f5_ := f3_.symm; clear f1_ f2_ f3_; subst f4_; subst f5_))
               refine norm_ (a' := ?_) ?_ ?_
               rotate_left
               ·simp only [putAll, Act.put, List.setIfInBounds_toArray, List.set_cons_zero, List.set_cons_succ]
                rfl
               refine one_ (i := 9) (N := none) #[true, true, true, true, true, true, true, true, true, true, false] rfl rfl (one_of HT_.out (by kernel_rfl)) (by decide) (fun K hK => ?_)
               have hs67 : w66.cell? ⟨gb289, 0, none⟩ = some (.int .i64 0) := (blk_cell BK289.out 0).trans rfl
               have hfs67 := blk_frozen BK289.out 0
               have hns67_0 := NB272_289.out
               have hns67_1 := NB273_289.out
               have hms67_0 := NB289_272.out
               have hms67_1 := NB289_273.out
               have hs69 : w66.cell? ⟨gb289, 1, none⟩ = some (.slice none 0 0) := (blk_cell BK289.out 1).trans rfl
               have hfs69 := blk_frozen BK289.out 1
               have hns69_0 := NB272_289.out
               have hns69_1 := NB273_289.out
               have hms69_0 := NB289_272.out
               have hms69_1 := NB289_273.out
               refine skip_ (w1 := ?_) (by rfl) rfl ?_ ?_
               rotate_left
               ·go_simp
                rfl
               refine hK.out _ _ ⟨((cell_far (p := ⟨gb289, _, none⟩) NB272_289.out _).trans (((cell_far (p := ⟨gb289, _, none⟩) NB272_289.out _).trans (hHeld.1)))), ((cell_far (p := ⟨gb289, _, none⟩) NB272_289.out _).trans (((cell_far (p := ⟨gb289, _, none⟩) NB272_289.out _).trans (hHeld.2.1)))), ((cell_far (p := ⟨gb289, _, none⟩) NB273_289.out _).trans (((cell_far (p := ⟨gb289, _, none⟩) NB273_289.out _).trans (hHeld.2.2.1)))), ((cell_far (p := ⟨gb289, _, none⟩) NB273_289.out _).trans (((cell_far (p := ⟨gb289, _, none⟩) NB273_289.out _).trans (hHeld.2.2.2))))⟩ (fun hHeld => ?_)
               clear hK K
               refine pure_ (i := 10) (N := some 7) (v := ?_) (a' := ?_) #[true, true, true, true, true, true, true, true, true, true, true] rfl rfl (any_of HT_.out (by kernel_rfl)) (fun _ _ _ h => h) (Or.inl ⟨by rfl, ?_⟩) ?_ ?_
               rotate_left
               ·intro w'
                go_simp
                with_reducible rfl
               rotate_left
               ·simp only [Act.put, List.setIfInBounds_toArray, List.set_cons_zero, List.set_cons_succ, i64_w, i32_w]
                rfl
               refine done_ (done_of HT_.out (by kernel_rfl)) ?_
               have hnb70 := NB272_289.out
               have hnc70 := NB289_272.out
               obtain ⟨hcz71_0, hcz71_1⟩ := c2 BK272
               have hfz71_0 := blk_frozen BK272.out 0
               have hfz71_1 := blk_frozen BK272.out 1
               have SL272_w66 := Aside0.mk (blk_lt BK272.out : gb272 < w66.heap.size)
               have SL273_w66 := Aside0.mk (blk_lt BK273.out : gb273 < w66.heap.size)
               have n_ := Aside0.mk (Kd.S_mono (Kd.S_bound HO279.out) (fun k_ hk_ => (⟨hk_.1, hk_.2.2.1⟩ : _ ∧ k_ < w66.heap.size)))
               clear HO279
               have HO279 := n_
               clear n_
               have n_ := Aside0.mk (Kd.R_mono (Kd.R_bound HO283.out) (fun k_ hk_ => (hk_.2.2.1 : k_ < w66.heap.size)))
               clear HO283
               have HO283 := n_
               clear n_
               have n_ := Aside0.mk (Kd.S_mono (Kd.S_bound HO287.out) (fun k_ hk_ => (⟨hk_.1, hk_.2.2.1⟩ : _ ∧ k_ < w66.heap.size)))
               clear HO287
               have HO287 := n_
               clear n_
               have SL289_w66 := Aside0.mk (blk_lt BK289.out : gb289 < w66.heap.size)
               try go_wp2_with (first | ((with_reducible refine gate_callee (f := 25) rfl ?_); refine gl (some 36) rfl rfl Try.func25 (by kernel_rfl) rfl #[.agg #[.int .i64 a0_0, .slice A0_1 l0_1.length c0_1]] rfl ?_; (with_reducible refine (laws_toSystem.calls k a0_0 _ _ l0_1 t290 t291 _ ?side1 ?side2 A22.out).mono ?_); (case side1 => exact Kd.C_below HR0_1.out (ms HB)); (case side2 => exact HC0_1.out); rintro e w72 ⟨v292, rfl, ho0, hb⟩; refine ⟨_, rfl, ?_⟩; have n0_ := Aside0.mk (Kd.S_elder' (by (with_reducible repeat (first | apply Kd.S_alloc | apply Kd.S_drewN | apply Kd.S_drew)); exact (Kd.S_mono (Kd.S_far (p := ⟨gb289, 1, none⟩) (Kd.S_far (p := ⟨gb289, 0, none⟩) (Kd.S_types HO279.out BK289.out (by decide)) (fun _ hk => hk.2) (.int .i64 t284)) (fun _ hk => hk.2) (.slice Ao68 t285.length co68)) (fun _ h_ => h_.1))) (Kd.S_base ho0) hb); have n1_ := Aside0.mk (Kd.R_below (by (with_reducible repeat (first | apply Kd.R_alloc | apply Kd.R_drewN | apply Kd.R_drew)); exact (Kd.R_mono (Kd.R_far (p := ⟨gb289, 1, none⟩) (Kd.R_far (p := ⟨gb289, 0, none⟩) (Kd.R_types HO283.out BK289.out (by decide)) (fun _ hk => hk.2) (.int .i64 t284)) (fun _ hk => hk.2) (.slice Ao68 t285.length co68)) (fun _ h_ => h_.1))) hb); have n2_ := Aside0.mk (Kd.S_elder' (by (with_reducible repeat (first | apply Kd.S_alloc | apply Kd.S_drewN | apply Kd.S_drew)); exact (Kd.S_mono (Kd.S_far (p := ⟨gb289, 1, none⟩) (Kd.S_far (p := ⟨gb289, 0, none⟩) (Kd.S_types HO287.out BK289.out (by decide)) (fun _ hk => hk.2) (.int .i64 t284)) (fun _ hk => hk.2) (.slice Ao68 t285.length co68)) (fun _ h_ => h_.1))) (Kd.S_base ho0) hb); have n3_ := Aside0.mk ((Kd.S_newer (Kd.andM_iso _ _ (Kd.andM_pair (Kd.andM_scalar _ _) (Kd.andM_slice _ rfl))) ho0 (Kd.S_lower (Kd.S_new' (Kd.S_new' (Kd.S_new' ho0 (Kd.S_lt (by (with_reducible repeat (first | apply Kd.S_alloc | apply Kd.S_drewN | apply Kd.S_drew)); exact (Kd.S_mono (Kd.S_far (p := ⟨gb289, 1, none⟩) (Kd.S_far (p := ⟨gb289, 0, none⟩) (Kd.S_types HO279.out BK289.out (by decide)) (fun _ hk => hk.2) (.int .i64 t284)) (fun _ hk => hk.2) (.slice Ao68 t285.length co68)) (fun _ h_ => h_.1))))) (Kd.R_lt (by (with_reducible repeat (first | apply Kd.R_alloc | apply Kd.R_drewN | apply Kd.R_drew)); exact (Kd.R_mono (Kd.R_far (p := ⟨gb289, 1, none⟩) (Kd.R_far (p := ⟨gb289, 0, none⟩) (Kd.R_types HO283.out BK289.out (by decide)) (fun _ hk => hk.2) (.int .i64 t284)) (fun _ hk => hk.2) (.slice Ao68 t285.length co68)) (fun _ h_ => h_.1))))) (Kd.S_lt (by (with_reducible repeat (first | apply Kd.S_alloc | apply Kd.S_drewN | apply Kd.S_drew)); exact (Kd.S_mono (Kd.S_far (p := ⟨gb289, 1, none⟩) (Kd.S_far (p := ⟨gb289, 0, none⟩) (Kd.S_types HO287.out BK289.out (by decide)) (fun _ hk => hk.2) (.int .i64 t284)) (fun _ hk => hk.2) (.slice Ao68 t285.length co68)) (fun _ h_ => h_.1))))) (below_size (ms HB))) (N := w66.heap.size) (show Kept w66 _ (fun _ => True) from by repeat (first | exact Kept.refl _ _ | apply Kept.alloc | apply Kept.drewN | apply Kept.drew | refine Kept.setCell ?_ (.inl trivial) _)).1 (below_size (ms HB)))); have n4_ := bf BK272 hb; have n5_ := bf BK273 hb; have n6_ := Aside0.mk (blk_below (g := gb289) (o := .cells #[.int .i64 t284, .slice Ao68 t285.length co68] 26 (0, 0)) (by (with_reducible repeat (first | refine blk_drewN ?_ _ | refine blk_drew ?_ | refine blk_alloc ?_ _)); refine blk_put (cs := #[.int .i64 t284, .slice none 0 0]) ?_ 1 _ rfl; (with_reducible repeat (first | refine blk_drewN ?_ _ | refine blk_drew ?_ | refine blk_alloc ?_ _)); refine blk_put (cs := #[.int .i64 0, .slice none 0 0]) ?_ 0 _ rfl; (with_reducible repeat (first | refine blk_drewN ?_ _ | refine blk_drew ?_ | refine blk_alloc ?_ _)); exact BK289.out) hb); have n7_ := bs HB hb; clear HO279 HO283 HO287 BK272 BK273 BK289 HB; have HO279 := n0_; have HO283 := n1_; have HO287 := n2_; have HO293 := n3_; have BK272 := n4_; have BK273 := n5_; have BK289 := n6_; have HB := n7_; clear n0_ n1_ n2_ n3_ n4_ n5_ n6_ n7_; (try clear hb); (try clear ho0); have SL272_w72 := Aside0.mk (blk_lt BK272.out : gb272 < w72.heap.size); have SL273_w72 := Aside0.mk (blk_lt BK273.out : gb273 < w72.heap.size); have n_ := Aside0.mk (Kd.S_mono (Kd.S_bound HO279.out) (fun k_ hk_ => (⟨hk_.1, hk_.2.2.1⟩ : _ ∧ k_ < w72.heap.size))); clear HO279; have HO279 := n_; clear n_; have n_ := Aside0.mk (Kd.R_mono (Kd.R_bound HO283.out) (fun k_ hk_ => (⟨hk_.1, hk_.2.2.1⟩ : _ ∧ k_ < w72.heap.size))); clear HO283; have HO283 := n_; clear n_; have n_ := Aside0.mk (Kd.S_mono (Kd.S_bound HO287.out) (fun k_ hk_ => (⟨hk_.1, hk_.2.2.1⟩ : _ ∧ k_ < w72.heap.size))); clear HO287; have HO287 := n_; clear n_; have SL289_w72 := Aside0.mk (blk_lt BK289.out : gb289 < w72.heap.size); have n_ := Aside0.mk (Kd.S_mono (Kd.S_bound HO293.out) (fun k_ hk_ => (⟨hk_.1, hk_.2.2.1⟩ : _ ∧ k_ < w72.heap.size))); clear HO293; have HO293 := n_; clear n_) | ((with_reducible refine gate_dst (N := 8) rfl ?_); refine box_event ?hg (N := 8) ?hd (cs := #[.int .i64 0, .slice none 0 0]) (t := 26) ?hr ?_; (case hd => rfl); (case hg => rfl); (case hr => first | (go_simp; done) | (go_simp; rfl)); intro gb294 hg w73 hbox hb; have n0_ := Aside0.mk ((by rw [hg]; exact (show Kept w72 _ (fun _ => True) from by repeat (first | exact Kept.refl _ _ | apply Kept.alloc | apply Kept.drewN | apply Kept.drew | refine Kept.setCell ?_ (.inl trivial) _)).1 : w72.heap.size ≤ gb294)); have n1_ := bS HO279 hb; have n2_ := rb HO283 hb; have n3_ := bS HO287 hb; have n4_ := bS HO293 hb; have n5_ := bb BK272 hb; have n6_ := bb BK273 hb; have n7_ := bb BK289 hb; have n8_ := bs HB hb; have n9_ := Aside0.mk (hbox); have n10_ := gw hg HB; have n11_ := gw hg HB; have n12_ := nl hg BK272; have n13_ := ng hg BK272; have n14_ := nl hg BK273; have n15_ := ng hg BK273; have n16_ := nl hg BK289; have n17_ := ng hg BK289; clear HO279 HO283 HO287 HO293 BK272 BK273 BK289 HB; have SG294_w72 := n0_; have HO279 := n1_; have HO283 := n2_; have HO287 := n3_; have HO293 := n4_; have BK272 := n5_; have BK273 := n6_; have BK289 := n7_; have HB := n8_; have BK294 := n9_; have GW294 := n10_; have GE294 := n11_; have NB272_294 := n12_; have NB294_272 := n13_; have NB273_294 := n14_; have NB294_273 := n15_; have NB289_294 := n16_; have NB294_289 := n17_; clear n0_ n1_ n2_ n3_ n4_ n5_ n6_ n7_ n8_ n9_ n10_ n11_ n12_ n13_ n14_ n15_ n16_ n17_; clear hb hbox hg; have hnb74 := NB294_272.out; have hnc74 := NB272_294.out; have hnb75 := NB294_273.out; have hnc75 := NB273_294.out; have hnb76 := NB294_289.out; have hnc76 := NB289_294.out; obtain ⟨hcz77_0, hcz77_1⟩ := c2 BK294; have hfz77_0 := blk_frozen BK294.out 0; have hfz77_1 := blk_frozen BK294.out 1; obtain ⟨Ao78, co78, eo78⟩ := Kd.S_slice HO293.out; subst eo78; have hnb79 := NB273_289.out; have hnc79 := NB289_273.out; obtain ⟨hcz80_0, hcz80_1⟩ := c2 BK273; have hfz80_0 := blk_frozen BK273.out 0; have hfz80_1 := blk_frozen BK273.out 1; have SL272_w73 := Aside0.mk (blk_lt BK272.out : gb272 < w73.heap.size); have SL273_w73 := Aside0.mk (blk_lt BK273.out : gb273 < w73.heap.size); have n_ := Aside0.mk (Kd.S_mono (Kd.S_bound HO279.out) (fun k_ hk_ => (⟨hk_.1, hk_.2.2.1⟩ : _ ∧ k_ < w73.heap.size))); clear HO279; have HO279 := n_; clear n_; have n_ := Aside0.mk (Kd.R_mono (Kd.R_bound HO283.out) (fun k_ hk_ => (⟨hk_.1, hk_.2.2.1⟩ : _ ∧ k_ < w73.heap.size))); clear HO283; have HO283 := n_; clear n_; have n_ := Aside0.mk (Kd.S_mono (Kd.S_bound HO287.out) (fun k_ hk_ => (⟨hk_.1, hk_.2.2.1⟩ : _ ∧ k_ < w73.heap.size))); clear HO287; have HO287 := n_; clear n_; have SL289_w73 := Aside0.mk (blk_lt BK289.out : gb289 < w73.heap.size); have n_ := Aside0.mk (Kd.S_mono (Kd.S_bound HO293.out) (fun k_ hk_ => (⟨hk_.1, hk_.2.2.1⟩ : _ ∧ k_ < w73.heap.size))); clear HO293; have HO293 := n_; clear n_; have SL294_w73 := Aside0.mk (blk_lt BK294.out : gb294 < w73.heap.size)) | ((with_reducible refine gate_callee (f := 26) rfl ?_); refine gl (some 38) rfl rfl Try.func26 (by kernel_rfl) rfl #[.agg #[.int .i64 a1_0, .slice A1_1 l1_1.length c1_1]] rfl ?_; (with_reducible refine (laws_toLin.calls k a1_0 _ _ l1_1 t295 t296 _ ?side1 ?side2 A23.out).mono ?_); (case side1 => exact Kd.C_below HR1_1.out (ms HB)); (case side2 => exact HC1_1.out); rintro e w81 ⟨v297, rfl, ho0, hb⟩; refine ⟨_, rfl, ?_⟩; have n0_ := Aside0.mk (Kd.S_elder' (by (with_reducible repeat (first | apply Kd.S_alloc | apply Kd.S_drewN | apply Kd.S_drew)); exact (Kd.S_mono (Kd.S_far (p := ⟨gb294, 1, none⟩) (Kd.S_far (p := ⟨gb294, 0, none⟩) (Kd.S_types HO279.out BK294.out (by decide)) (fun _ hk => hk.2) (.int .i64 t290)) (fun _ hk => hk.2) (.slice Ao78 t291.length co78)) (fun _ h_ => h_.1))) (Kd.R_base ho0) hb); have n1_ := Aside0.mk (Kd.R_elder' (by (with_reducible repeat (first | apply Kd.R_alloc | apply Kd.R_drewN | apply Kd.R_drew)); exact (Kd.R_mono (Kd.R_far (p := ⟨gb294, 1, none⟩) (Kd.R_far (p := ⟨gb294, 0, none⟩) (Kd.R_types HO283.out BK294.out (by decide)) (fun _ hk => hk.2) (.int .i64 t290)) (fun _ hk => hk.2) (.slice Ao78 t291.length co78)) (fun _ h_ => h_.1))) (Kd.R_base ho0) hb); have n2_ := Aside0.mk (Kd.S_elder' (by (with_reducible repeat (first | apply Kd.S_alloc | apply Kd.S_drewN | apply Kd.S_drew)); exact (Kd.S_mono (Kd.S_far (p := ⟨gb294, 1, none⟩) (Kd.S_far (p := ⟨gb294, 0, none⟩) (Kd.S_types HO287.out BK294.out (by decide)) (fun _ hk => hk.2) (.int .i64 t290)) (fun _ hk => hk.2) (.slice Ao78 t291.length co78)) (fun _ h_ => h_.1))) (Kd.R_base ho0) hb); have n3_ := Aside0.mk (Kd.S_elder' (by (with_reducible repeat (first | apply Kd.S_alloc | apply Kd.S_drewN | apply Kd.S_drew)); exact (Kd.S_mono (Kd.S_far (p := ⟨gb294, 1, none⟩) (Kd.S_far (p := ⟨gb294, 0, none⟩) (Kd.S_types HO293.out BK294.out (by decide)) (fun _ hk => hk.2) (.int .i64 t290)) (fun _ hk => hk.2) (.slice Ao78 t291.length co78)) (fun _ h_ => h_.1))) (Kd.R_base ho0) hb); have n4_ := Aside0.mk ((Kd.R_newer rfl ho0 (Kd.R_lower (Kd.R_new' ho0 (Kd.R_lt (by (with_reducible repeat (first | apply Kd.R_alloc | apply Kd.R_drewN | apply Kd.R_drew)); exact (Kd.R_mono (Kd.R_far (p := ⟨gb294, 1, none⟩) (Kd.R_far (p := ⟨gb294, 0, none⟩) (Kd.R_types HO283.out BK294.out (by decide)) (fun _ hk => hk.2) (.int .i64 t290)) (fun _ hk => hk.2) (.slice Ao78 t291.length co78)) (fun _ h_ => h_.1))))) (below_size (ms HB))) (N := w73.heap.size) (show Kept w73 _ (fun _ => True) from by repeat (first | exact Kept.refl _ _ | apply Kept.alloc | apply Kept.drewN | apply Kept.drew | refine Kept.setCell ?_ (.inl trivial) _)).1)); have n5_ := bf BK272 hb; have n6_ := bf BK273 hb; have n7_ := bf BK289 hb; have n8_ := Aside0.mk (blk_below (g := gb294) (o := .cells #[.int .i64 t290, .slice Ao78 t291.length co78] 26 (0, 0)) (by (with_reducible repeat (first | refine blk_drewN ?_ _ | refine blk_drew ?_ | refine blk_alloc ?_ _)); refine blk_put (cs := #[.int .i64 t290, .slice none 0 0]) ?_ 1 _ rfl; (with_reducible repeat (first | refine blk_drewN ?_ _ | refine blk_drew ?_ | refine blk_alloc ?_ _)); refine blk_put (cs := #[.int .i64 0, .slice none 0 0]) ?_ 0 _ rfl; (with_reducible repeat (first | refine blk_drewN ?_ _ | refine blk_drew ?_ | refine blk_alloc ?_ _)); exact BK294.out) hb); have n9_ := bs HB hb; clear HO279 HO283 HO287 HO293 BK272 BK273 BK289 BK294 HB; have HO279 := n0_; have HO283 := n1_; have HO287 := n2_; have HO293 := n3_; have HO298 := n4_; have BK272 := n5_; have BK273 := n6_; have BK289 := n7_; have BK294 := n8_; have HB := n9_; clear n0_ n1_ n2_ n3_ n4_ n5_ n6_ n7_ n8_ n9_; (try clear hb); (try clear ho0); have SL272_w81 := Aside0.mk (blk_lt BK272.out : gb272 < w81.heap.size); have SL273_w81 := Aside0.mk (blk_lt BK273.out : gb273 < w81.heap.size); have n_ := Aside0.mk (Kd.S_mono (Kd.S_bound HO279.out) (fun k_ hk_ => (⟨hk_.1, hk_.2.2.1⟩ : _ ∧ k_ < w81.heap.size))); clear HO279; have HO279 := n_; clear n_; have n_ := Aside0.mk (Kd.R_mono (Kd.R_bound HO283.out) (fun k_ hk_ => (⟨hk_.1, hk_.2.2.1⟩ : _ ∧ k_ < w81.heap.size))); clear HO283; have HO283 := n_; clear n_; have n_ := Aside0.mk (Kd.S_mono (Kd.S_bound HO287.out) (fun k_ hk_ => (⟨hk_.1, hk_.2.2.1⟩ : _ ∧ k_ < w81.heap.size))); clear HO287; have HO287 := n_; clear n_; have SL289_w81 := Aside0.mk (blk_lt BK289.out : gb289 < w81.heap.size); have n_ := Aside0.mk (Kd.S_mono (Kd.S_bound HO293.out) (fun k_ hk_ => (⟨hk_.1, hk_.2.2.1⟩ : _ ∧ k_ < w81.heap.size))); clear HO293; have HO293 := n_; clear n_; have SL294_w81 := Aside0.mk (blk_lt BK294.out : gb294 < w81.heap.size); have n_ := Aside0.mk (Kd.R_mono (Kd.R_bound HO298.out) (fun k_ hk_ => (⟨hk_.1, hk_.2.2.1⟩ : _ ∧ k_ < w81.heap.size))); clear HO298; have HO298 := n_; clear n_) | ((with_reducible refine gate_dst (N := 9) rfl ?_); refine box_event ?hg (N := 9) ?hd (cs := #[.int .i64 0, .slice none 0 0]) (t := 29) ?hr ?_; (case hd => rfl); (case hg => rfl); (case hr => first | (go_simp; done) | (go_simp; rfl)); intro gb299 hg w82 hbox hb; have n0_ := Aside0.mk ((by rw [hg]; exact (show Kept w81 _ (fun _ => True) from by repeat (first | exact Kept.refl _ _ | apply Kept.alloc | apply Kept.drewN | apply Kept.drew | refine Kept.setCell ?_ (.inl trivial) _)).1 : w81.heap.size ≤ gb299)); have n1_ := Aside0.mk (Kd.S_below (Kd.S_elderB (mS HO279) gb299 (Nat.le_of_eq hg.symm)) hb); have n2_ := rb HO283 hb; have n3_ := Aside0.mk (Kd.S_below (Kd.S_elderB (mS HO287) gb299 (Nat.le_of_eq hg.symm)) hb); have n4_ := Aside0.mk (Kd.S_below (Kd.S_elderB (mS HO293) gb299 (Nat.le_of_eq hg.symm)) hb); have n5_ := rb HO298 hb; have n6_ := bb BK272 hb; have n7_ := bb BK273 hb; have n8_ := bb BK289 hb; have n9_ := bb BK294 hb; have n10_ := bs HB hb; have n11_ := Aside0.mk (hbox); have n12_ := gw hg HB; have n13_ := gw hg HB; have n14_ := nl hg BK272; have n15_ := ng hg BK272; have n16_ := nl hg BK273; have n17_ := ng hg BK273; have n18_ := nl hg BK289; have n19_ := ng hg BK289; have n20_ := nl hg BK294; have n21_ := ng hg BK294; clear HO279 HO283 HO287 HO293 HO298 BK272 BK273 BK289 BK294 HB; have SG299_w81 := n0_; have HO279 := n1_; have HO283 := n2_; have HO287 := n3_; have HO293 := n4_; have HO298 := n5_; have BK272 := n6_; have BK273 := n7_; have BK289 := n8_; have BK294 := n9_; have HB := n10_; have BK299 := n11_; have GW299 := n12_; have GE299 := n13_; have NB272_299 := n14_; have NB299_272 := n15_; have NB273_299 := n16_; have NB299_273 := n17_; have NB289_299 := n18_; have NB299_289 := n19_; have NB294_299 := n20_; have NB299_294 := n21_; clear n0_ n1_ n2_ n3_ n4_ n5_ n6_ n7_ n8_ n9_ n10_ n11_ n12_ n13_ n14_ n15_ n16_ n17_ n18_ n19_ n20_ n21_; clear hb hbox hg; have hnb83 := NB299_272.out; have hnc83 := NB272_299.out; have hnb84 := NB299_273.out; have hnc84 := NB273_299.out; have hnb85 := NB299_289.out; have hnc85 := NB289_299.out; have hnb86 := NB299_294.out; have hnc86 := NB294_299.out; obtain ⟨hcz87_0, hcz87_1⟩ := c2 BK299; have hfz87_0 := blk_frozen BK299.out 0; have hfz87_1 := blk_frozen BK299.out 1; obtain ⟨Ao88, co88, eo88⟩ := Kd.R_slice HO298.out; subst eo88; obtain ⟨hcz89_0, hcz89_1⟩ := c2 BK294; have hfz89_0 := blk_frozen BK294.out 0; have hfz89_1 := blk_frozen BK294.out 1; have SL272_w82 := Aside0.mk (blk_lt BK272.out : gb272 < w82.heap.size); have SL273_w82 := Aside0.mk (blk_lt BK273.out : gb273 < w82.heap.size); have n_ := Aside0.mk (Kd.S_mono (Kd.S_bound HO279.out) (fun k_ hk_ => (⟨hk_.1, hk_.2.2.1⟩ : _ ∧ k_ < w82.heap.size))); clear HO279; have HO279 := n_; clear n_; have n_ := Aside0.mk (Kd.R_mono (Kd.R_bound HO283.out) (fun k_ hk_ => (⟨hk_.1, hk_.2.2.1⟩ : _ ∧ k_ < w82.heap.size))); clear HO283; have HO283 := n_; clear n_; have n_ := Aside0.mk (Kd.S_mono (Kd.S_bound HO287.out) (fun k_ hk_ => (⟨hk_.1, hk_.2.2.1⟩ : _ ∧ k_ < w82.heap.size))); clear HO287; have HO287 := n_; clear n_; have SL289_w82 := Aside0.mk (blk_lt BK289.out : gb289 < w82.heap.size); have n_ := Aside0.mk (Kd.S_mono (Kd.S_bound HO293.out) (fun k_ hk_ => (⟨hk_.1, hk_.2.2.1⟩ : _ ∧ k_ < w82.heap.size))); clear HO293; have HO293 := n_; clear n_; have SL294_w82 := Aside0.mk (blk_lt BK294.out : gb294 < w82.heap.size); have n_ := Aside0.mk (Kd.R_mono (Kd.R_bound HO298.out) (fun k_ hk_ => (⟨hk_.1, hk_.2.2.1⟩ : _ ∧ k_ < w82.heap.size))); clear HO298; have HO298 := n_; clear n_; have SL299_w82 := Aside0.mk (blk_lt BK299.out : gb299 < w82.heap.size)) | ((with_reducible refine gate_callee (f := 27) rfl ?_); refine gl (some 42) rfl rfl Try.func27 (by kernel_rfl) rfl #[.agg #[.int .i64 t290, .slice Ao78 t291.length co78], .agg #[.int .i64 t295, .slice Ao88 t296.length co88]] rfl ?_; (with_reducible refine (impl_AddRow.calls k t290 _ _ t291 t295 _ _ t296 t300 t301 t304 _ ?side1 ?side2 ?side3 ?side4 A24.out).mono ?_); (case side1 => refine (Kd.S_reads' (e := 29) (base := w.heap.size) (ok := fun k_ => ((((((((((True ∧ some k_ ≠ (v278 : Value).ownBlock) ∧ some k_ ≠ (v282 : Value).ownBlock) ∧ some k_ ≠ (.slice Ao68 t285.length co68 : Value).ownBlock) ∧ w66.heap.size ≤ k_) ∧ k_ < w72.heap.size) ∧ k_ < w73.heap.size) ∧ some k_ ≠ (.slice Ao88 t296.length co88 : Value).ownBlock) ∧ k_ < w81.heap.size) ∧ k_ ≠ gb299) ∧ k_ < w82.heap.size)) (n := t291.length) (c := co78) ?_).2.2; exact (by (with_reducible repeat (first | apply Kd.S_alloc | apply Kd.S_drewN | apply Kd.S_drew)); exact (Kd.S_mono (Kd.S_far (p := ⟨gb299, 1, none⟩) (Kd.S_far (p := ⟨gb299, 0, none⟩) (Kd.S_mono HO293.out (fun k_ hk => (⟨hk, hk.1.2⟩ : _ ∧ k_ ≠ gb299))) (fun _ hk => hk.2) (.int .i64 t295)) (fun _ hk => hk.2) (.slice Ao88 t296.length co88)) (fun _ h_ => h_.1)))); (case side2 => exact (Kd.S_reads' HO293.out).2.1); (case side3 => refine (Kd.R_reads' (e := 3) (base := w.heap.size) (ok := fun k_ => ((((True ∧ some k_ ≠ (v282 : Value).ownBlock) ∧ w73.heap.size ≤ k_) ∧ k_ < w81.heap.size) ∧ k_ < w82.heap.size)) (n := t296.length) (c := co88) ?_).2.2; exact (by (with_reducible repeat (first | apply Kd.R_alloc | apply Kd.R_drewN | apply Kd.R_drew)); exact (Kd.R_mono (Kd.R_far (p := ⟨gb299, 1, none⟩) (Kd.R_far (p := ⟨gb299, 0, none⟩) (Kd.R_types HO298.out BK299.out (by decide)) (fun _ hk => hk.2) (.int .i64 t295)) (fun _ hk => hk.2) (.slice Ao88 t296.length co88)) (fun _ h_ => h_.1)))); (case side4 => exact (Kd.R_reads' HO298.out).2.1); rintro e w90 ⟨v302, rfl, ho0, hb⟩; refine ⟨_, rfl, ?_⟩; have n0_ := Aside0.mk (Kd.S_elder' (by (with_reducible repeat (first | apply Kd.S_alloc | apply Kd.S_drewN | apply Kd.S_drew)); exact (Kd.S_mono (Kd.S_far (p := ⟨gb299, 1, none⟩) (Kd.S_far (p := ⟨gb299, 0, none⟩) (Kd.S_mono HO279.out (fun k_ hk => (⟨hk, hk.1.2⟩ : _ ∧ k_ ≠ gb299))) (fun _ hk => hk.2) (.int .i64 t295)) (fun _ hk => hk.2) (.slice Ao88 t296.length co88)) (fun _ h_ => h_.1))) (Kd.S_base ho0) hb); have n1_ := Aside0.mk (Kd.R_below (by (with_reducible repeat (first | apply Kd.R_alloc | apply Kd.R_drewN | apply Kd.R_drew)); exact (Kd.R_mono (Kd.R_far (p := ⟨gb299, 1, none⟩) (Kd.R_far (p := ⟨gb299, 0, none⟩) (Kd.R_types HO283.out BK299.out (by decide)) (fun _ hk => hk.2) (.int .i64 t295)) (fun _ hk => hk.2) (.slice Ao88 t296.length co88)) (fun _ h_ => h_.1))) hb); have n2_ := Aside0.mk (Kd.S_elder' (by (with_reducible repeat (first | apply Kd.S_alloc | apply Kd.S_drewN | apply Kd.S_drew)); exact (Kd.S_mono (Kd.S_far (p := ⟨gb299, 1, none⟩) (Kd.S_far (p := ⟨gb299, 0, none⟩) (Kd.S_mono HO287.out (fun k_ hk => (⟨hk, hk.1.2⟩ : _ ∧ k_ ≠ gb299))) (fun _ hk => hk.2) (.int .i64 t295)) (fun _ hk => hk.2) (.slice Ao88 t296.length co88)) (fun _ h_ => h_.1))) (Kd.S_base ho0) hb); have n3_ := Aside0.mk (Kd.S_elder' (by (with_reducible repeat (first | apply Kd.S_alloc | apply Kd.S_drewN | apply Kd.S_drew)); exact (Kd.S_mono (Kd.S_far (p := ⟨gb299, 1, none⟩) (Kd.S_far (p := ⟨gb299, 0, none⟩) (Kd.S_mono HO293.out (fun k_ hk => (⟨hk, hk.1.2⟩ : _ ∧ k_ ≠ gb299))) (fun _ hk => hk.2) (.int .i64 t295)) (fun _ hk => hk.2) (.slice Ao88 t296.length co88)) (fun _ h_ => h_.1))) (Kd.S_base ho0) hb); have n4_ := Aside0.mk (Kd.R_below (by (with_reducible repeat (first | apply Kd.R_alloc | apply Kd.R_drewN | apply Kd.R_drew)); exact (Kd.R_mono (Kd.R_far (p := ⟨gb299, 1, none⟩) (Kd.R_far (p := ⟨gb299, 0, none⟩) (Kd.R_types HO298.out BK299.out (by decide)) (fun _ hk => hk.2) (.int .i64 t295)) (fun _ hk => hk.2) (.slice Ao88 t296.length co88)) (fun _ h_ => h_.1))) hb); have n5_ := Aside0.mk ((Kd.S_newer (Kd.andM_iso _ _ (Kd.andM_pair (Kd.andM_scalar _ _) (Kd.andM_slice _ rfl))) ho0 (Kd.S_lower (Kd.S_newB (Kd.S_new' (Kd.S_new' (Kd.S_new' (Kd.S_new' (Kd.S_new' ho0 (Kd.S_lt (by (with_reducible repeat (first | apply Kd.S_alloc | apply Kd.S_drewN | apply Kd.S_drew)); exact (Kd.S_mono (Kd.S_far (p := ⟨gb299, 1, none⟩) (Kd.S_far (p := ⟨gb299, 0, none⟩) (Kd.S_mono HO279.out (fun k_ hk => (⟨hk, hk.1.2⟩ : _ ∧ k_ ≠ gb299))) (fun _ hk => hk.2) (.int .i64 t295)) (fun _ hk => hk.2) (.slice Ao88 t296.length co88)) (fun _ h_ => h_.1))))) (Kd.R_lt (by (with_reducible repeat (first | apply Kd.R_alloc | apply Kd.R_drewN | apply Kd.R_drew)); exact (Kd.R_mono (Kd.R_far (p := ⟨gb299, 1, none⟩) (Kd.R_far (p := ⟨gb299, 0, none⟩) (Kd.R_types HO283.out BK299.out (by decide)) (fun _ hk => hk.2) (.int .i64 t295)) (fun _ hk => hk.2) (.slice Ao88 t296.length co88)) (fun _ h_ => h_.1))))) (Kd.S_lt (by (with_reducible repeat (first | apply Kd.S_alloc | apply Kd.S_drewN | apply Kd.S_drew)); exact (Kd.S_mono (Kd.S_far (p := ⟨gb299, 1, none⟩) (Kd.S_far (p := ⟨gb299, 0, none⟩) (Kd.S_mono HO287.out (fun k_ hk => (⟨hk, hk.1.2⟩ : _ ∧ k_ ≠ gb299))) (fun _ hk => hk.2) (.int .i64 t295)) (fun _ hk => hk.2) (.slice Ao88 t296.length co88)) (fun _ h_ => h_.1))))) (Kd.S_lt (by (with_reducible repeat (first | apply Kd.S_alloc | apply Kd.S_drewN | apply Kd.S_drew)); exact (Kd.S_mono (Kd.S_far (p := ⟨gb299, 1, none⟩) (Kd.S_far (p := ⟨gb299, 0, none⟩) (Kd.S_mono HO293.out (fun k_ hk => (⟨hk, hk.1.2⟩ : _ ∧ k_ ≠ gb299))) (fun _ hk => hk.2) (.int .i64 t295)) (fun _ hk => hk.2) (.slice Ao88 t296.length co88)) (fun _ h_ => h_.1))))) (Kd.R_lt (by (with_reducible repeat (first | apply Kd.R_alloc | apply Kd.R_drewN | apply Kd.R_drew)); exact (Kd.R_mono (Kd.R_far (p := ⟨gb299, 1, none⟩) (Kd.R_far (p := ⟨gb299, 0, none⟩) (Kd.R_types HO298.out BK299.out (by decide)) (fun _ hk => hk.2) (.int .i64 t295)) (fun _ hk => hk.2) (.slice Ao88 t296.length co88)) (fun _ h_ => h_.1))))) (g := gb299) (o := .cells #[.int .i64 t295, .slice Ao88 t296.length co88] 29 (0, 0)) (by (with_reducible repeat (first | refine blk_drewN ?_ _ | refine blk_drew ?_ | refine blk_alloc ?_ _)); refine blk_put (cs := #[.int .i64 t295, .slice none 0 0]) ?_ 1 _ rfl; (with_reducible repeat (first | refine blk_drewN ?_ _ | refine blk_drew ?_ | refine blk_alloc ?_ _)); refine blk_put (cs := #[.int .i64 0, .slice none 0 0]) ?_ 0 _ rfl; (with_reducible repeat (first | refine blk_drewN ?_ _ | refine blk_drew ?_ | refine blk_alloc ?_ _)); exact BK299.out)) (below_size (ms HB))) (N := w82.heap.size) (show Kept w82 _ (fun _ => True) from by repeat (first | exact Kept.refl _ _ | apply Kept.alloc | apply Kept.drewN | apply Kept.drew | refine Kept.setCell ?_ (.inl trivial) _)).1 (below_size (ms HB)))); have n6_ := bf BK272 hb; have n7_ := bf BK273 hb; have n8_ := bf BK289 hb; have n9_ := bf BK294 hb; have n10_ := Aside0.mk (blk_below (g := gb299) (o := .cells #[.int .i64 t295, .slice Ao88 t296.length co88] 29 (0, 0)) (by (with_reducible repeat (first | refine blk_drewN ?_ _ | refine blk_drew ?_ | refine blk_alloc ?_ _)); refine blk_put (cs := #[.int .i64 t295, .slice none 0 0]) ?_ 1 _ rfl; (with_reducible repeat (first | refine blk_drewN ?_ _ | refine blk_drew ?_ | refine blk_alloc ?_ _)); refine blk_put (cs := #[.int .i64 0, .slice none 0 0]) ?_ 0 _ rfl; (with_reducible repeat (first | refine blk_drewN ?_ _ | refine blk_drew ?_ | refine blk_alloc ?_ _)); exact BK299.out) hb); have n11_ := bs HB hb; clear HO279 HO283 HO287 HO293 HO298 BK272 BK273 BK289 BK294 BK299 HB; have HO279 := n0_; have HO283 := n1_; have HO287 := n2_; have HO293 := n3_; have HO298 := n4_; have HO303 := n5_; have BK272 := n6_; have BK273 := n7_; have BK289 := n8_; have BK294 := n9_; have BK299 := n10_; have HB := n11_; clear n0_ n1_ n2_ n3_ n4_ n5_ n6_ n7_ n8_ n9_ n10_ n11_; (try clear hb); (try clear ho0); have SL272_w90 := Aside0.mk (blk_lt BK272.out : gb272 < w90.heap.size); have SL273_w90 := Aside0.mk (blk_lt BK273.out : gb273 < w90.heap.size); have n_ := Aside0.mk (Kd.S_mono (Kd.S_bound HO279.out) (fun k_ hk_ => (⟨hk_.1, hk_.2.2.1⟩ : _ ∧ k_ < w90.heap.size))); clear HO279; have HO279 := n_; clear n_; have n_ := Aside0.mk (Kd.R_mono (Kd.R_bound HO283.out) (fun k_ hk_ => (⟨hk_.1, hk_.2.2.1⟩ : _ ∧ k_ < w90.heap.size))); clear HO283; have HO283 := n_; clear n_; have n_ := Aside0.mk (Kd.S_mono (Kd.S_bound HO287.out) (fun k_ hk_ => (⟨hk_.1, hk_.2.2.1⟩ : _ ∧ k_ < w90.heap.size))); clear HO287; have HO287 := n_; clear n_; have SL289_w90 := Aside0.mk (blk_lt BK289.out : gb289 < w90.heap.size); have n_ := Aside0.mk (Kd.S_mono (Kd.S_bound HO293.out) (fun k_ hk_ => (⟨hk_.1, hk_.2.2.1⟩ : _ ∧ k_ < w90.heap.size))); clear HO293; have HO293 := n_; clear n_; have SL294_w90 := Aside0.mk (blk_lt BK294.out : gb294 < w90.heap.size); have n_ := Aside0.mk (Kd.R_mono (Kd.R_bound HO298.out) (fun k_ hk_ => (⟨hk_.1, hk_.2.2.1⟩ : _ ∧ k_ < w90.heap.size))); clear HO298; have HO298 := n_; clear n_; have SL299_w90 := Aside0.mk (blk_lt BK299.out : gb299 < w90.heap.size); have n_ := Aside0.mk (Kd.S_mono (Kd.S_bound HO303.out) (fun k_ hk_ => (⟨hk_.1, hk_.2.2.1⟩ : _ ∧ k_ < w90.heap.size))); clear HO303; have HO303 := n_; clear n_) | ((with_reducible refine gate_dst (N := 10) rfl ?_); refine box_event ?hg (N := 10) ?hd (cs := #[.int .i64 0, .slice none 0 0]) (t := 26) ?hr ?_; (case hd => rfl); (case hg => rfl); (case hr => first | (go_simp; done) | (go_simp; rfl)); intro gb305 hg w91 hbox hb; have n0_ := Aside0.mk ((by rw [hg]; exact (show Kept w90 _ (fun _ => True) from by repeat (first | exact Kept.refl _ _ | apply Kept.alloc | apply Kept.drewN | apply Kept.drew | refine Kept.setCell ?_ (.inl trivial) _)).1 : w90.heap.size ≤ gb305)); have n1_ := bS HO279 hb; have n2_ := rb HO283 hb; have n3_ := bS HO287 hb; have n4_ := bS HO293 hb; have n5_ := rb HO298 hb; have n6_ := bS HO303 hb; have n7_ := bb BK272 hb; have n8_ := bb BK273 hb; have n9_ := bb BK289 hb; have n10_ := bb BK294 hb; have n11_ := bb BK299 hb; have n12_ := bs HB hb; have n13_ := Aside0.mk (hbox); have n14_ := gw hg HB; have n15_ := gw hg HB; have n16_ := nl hg BK272; have n17_ := ng hg BK272; have n18_ := nl hg BK273; have n19_ := ng hg BK273; have n20_ := nl hg BK289; have n21_ := ng hg BK289; have n22_ := nl hg BK294; have n23_ := ng hg BK294; have n24_ := nl hg BK299; have n25_ := ng hg BK299; clear HO279 HO283 HO287 HO293 HO298 HO303 BK272 BK273 BK289 BK294 BK299 HB; have SG305_w90 := n0_; have HO279 := n1_; have HO283 := n2_; have HO287 := n3_; have HO293 := n4_; have HO298 := n5_; have HO303 := n6_; have BK272 := n7_; have BK273 := n8_; have BK289 := n9_; have BK294 := n10_; have BK299 := n11_; have HB := n12_; have BK305 := n13_; have GW305 := n14_; have GE305 := n15_; have NB272_305 := n16_; have NB305_272 := n17_; have NB273_305 := n18_; have NB305_273 := n19_; have NB289_305 := n20_; have NB305_289 := n21_; have NB294_305 := n22_; have NB305_294 := n23_; have NB299_305 := n24_; have NB305_299 := n25_; clear n0_ n1_ n2_ n3_ n4_ n5_ n6_ n7_ n8_ n9_ n10_ n11_ n12_ n13_ n14_ n15_ n16_ n17_ n18_ n19_ n20_ n21_ n22_ n23_ n24_ n25_; clear hb hbox hg; have hnb92 := NB305_272.out; have hnc92 := NB272_305.out; have hnb93 := NB305_273.out; have hnc93 := NB273_305.out; have hnb94 := NB305_289.out; have hnc94 := NB289_305.out; have hnb95 := NB305_294.out; have hnc95 := NB294_305.out; have hnb96 := NB305_299.out; have hnc96 := NB299_305.out; obtain ⟨hcz97_0, hcz97_1⟩ := c2 BK305; have hfz97_0 := blk_frozen BK305.out 0; have hfz97_1 := blk_frozen BK305.out 1; obtain ⟨Ao98, co98, eo98⟩ := Kd.S_slice HO303.out; subst eo98; obtain ⟨hcz99_0, hcz99_1⟩ := c2 BK289; have hfz99_0 := blk_frozen BK289.out 0; have hfz99_1 := blk_frozen BK289.out 1) | ((with_reducible refine gate_callee (f := 28) rfl ?_); refine gl (some 47) rfl rfl Try.func28 (by kernel_rfl) rfl #[.agg #[.int .i64 t300, .slice Ao98 t301.length co98], .agg #[.int .i64 t284, .slice Ao68 t285.length co68]] rfl ?_; (with_reducible refine (laws_eqSystem.calls k t300 _ _ t301 t284 _ _ t285 true _ ?side1 ?side2 ?side3 ?side4 A25.out).mono ?_); (case side1 => refine (Kd.S_reads' (e := 29) (base := w.heap.size) (ok := fun k_ => ((((((((True ∧ some k_ ≠ (v278 : Value).ownBlock) ∧ some k_ ≠ (v282 : Value).ownBlock) ∧ some k_ ≠ (.slice Ao68 t285.length co68 : Value).ownBlock) ∧ some k_ ≠ (.slice Ao78 t291.length co78 : Value).ownBlock) ∧ some k_ ≠ (.slice Ao88 t296.length co88 : Value).ownBlock) ∧ k_ ≠ gb299) ∧ w82.heap.size ≤ k_) ∧ k_ < w90.heap.size)) (n := t301.length) (c := co98) ?_).2.2; exact (by (with_reducible repeat (first | apply Kd.S_alloc | apply Kd.S_drewN | apply Kd.S_drew)); exact (Kd.S_mono (Kd.S_far (p := ⟨gb305, 1, none⟩) (Kd.S_far (p := ⟨gb305, 0, none⟩) (Kd.S_types HO303.out BK305.out (by decide)) (fun _ hk => hk.2) (.int .i64 t300)) (fun _ hk => hk.2) (.slice Ao98 t301.length co98)) (fun _ h_ => h_.1)))); (case side2 => exact (Kd.S_reads' HO303.out).2.1); (case side3 => refine (Kd.S_reads' (e := 29) (base := w.heap.size) (ok := fun k_ => (((((((((((some k_ ≠ (v278 : Value).ownBlock ∧ some k_ ≠ (v282 : Value).ownBlock) ∧ k_ < w66.heap.size) ∧ some k_ ≠ (.slice Ao78 t291.length co78 : Value).ownBlock) ∧ k_ < w72.heap.size) ∧ k_ < w73.heap.size) ∧ some k_ ≠ (.slice Ao88 t296.length co88 : Value).ownBlock) ∧ k_ < w81.heap.size) ∧ k_ ≠ gb299) ∧ k_ < w82.heap.size) ∧ some k_ ≠ (.slice Ao98 t301.length co98 : Value).ownBlock) ∧ k_ < w90.heap.size)) (n := t285.length) (c := co68) ?_).2.2; exact (by (with_reducible repeat (first | apply Kd.S_alloc | apply Kd.S_drewN | apply Kd.S_drew)); exact (Kd.S_mono (Kd.S_far (p := ⟨gb305, 1, none⟩) (Kd.S_far (p := ⟨gb305, 0, none⟩) (Kd.S_types HO287.out BK305.out (by decide)) (fun _ hk => hk.2) (.int .i64 t300)) (fun _ hk => hk.2) (.slice Ao98 t301.length co98)) (fun _ h_ => h_.1)))); (case side4 => exact (Kd.S_reads' HO287.out).2.1); rintro e w100 ⟨rfl, hb⟩; refine ⟨_, rfl, ?_⟩; have n0_ := Aside0.mk (Kd.S_below (by (with_reducible repeat (first | apply Kd.S_alloc | apply Kd.S_drewN | apply Kd.S_drew)); exact (Kd.S_mono (Kd.S_far (p := ⟨gb305, 1, none⟩) (Kd.S_far (p := ⟨gb305, 0, none⟩) (Kd.S_types HO279.out BK305.out (by decide)) (fun _ hk => hk.2) (.int .i64 t300)) (fun _ hk => hk.2) (.slice Ao98 t301.length co98)) (fun _ h_ => h_.1))) hb); have n1_ := Aside0.mk (Kd.R_below (by (with_reducible repeat (first | apply Kd.R_alloc | apply Kd.R_drewN | apply Kd.R_drew)); exact (Kd.R_mono (Kd.R_far (p := ⟨gb305, 1, none⟩) (Kd.R_far (p := ⟨gb305, 0, none⟩) (Kd.R_types HO283.out BK305.out (by decide)) (fun _ hk => hk.2) (.int .i64 t300)) (fun _ hk => hk.2) (.slice Ao98 t301.length co98)) (fun _ h_ => h_.1))) hb); have n2_ := Aside0.mk (Kd.S_below (by (with_reducible repeat (first | apply Kd.S_alloc | apply Kd.S_drewN | apply Kd.S_drew)); exact (Kd.S_mono (Kd.S_far (p := ⟨gb305, 1, none⟩) (Kd.S_far (p := ⟨gb305, 0, none⟩) (Kd.S_types HO287.out BK305.out (by decide)) (fun _ hk => hk.2) (.int .i64 t300)) (fun _ hk => hk.2) (.slice Ao98 t301.length co98)) (fun _ h_ => h_.1))) hb); have n3_ := Aside0.mk (Kd.S_below (by (with_reducible repeat (first | apply Kd.S_alloc | apply Kd.S_drewN | apply Kd.S_drew)); exact (Kd.S_mono (Kd.S_far (p := ⟨gb305, 1, none⟩) (Kd.S_far (p := ⟨gb305, 0, none⟩) (Kd.S_types HO293.out BK305.out (by decide)) (fun _ hk => hk.2) (.int .i64 t300)) (fun _ hk => hk.2) (.slice Ao98 t301.length co98)) (fun _ h_ => h_.1))) hb); have n4_ := Aside0.mk (Kd.R_below (by (with_reducible repeat (first | apply Kd.R_alloc | apply Kd.R_drewN | apply Kd.R_drew)); exact (Kd.R_mono (Kd.R_far (p := ⟨gb305, 1, none⟩) (Kd.R_far (p := ⟨gb305, 0, none⟩) (Kd.R_types HO298.out BK305.out (by decide)) (fun _ hk => hk.2) (.int .i64 t300)) (fun _ hk => hk.2) (.slice Ao98 t301.length co98)) (fun _ h_ => h_.1))) hb); have n5_ := Aside0.mk (Kd.S_below (by (with_reducible repeat (first | apply Kd.S_alloc | apply Kd.S_drewN | apply Kd.S_drew)); exact (Kd.S_mono (Kd.S_far (p := ⟨gb305, 1, none⟩) (Kd.S_far (p := ⟨gb305, 0, none⟩) (Kd.S_types HO303.out BK305.out (by decide)) (fun _ hk => hk.2) (.int .i64 t300)) (fun _ hk => hk.2) (.slice Ao98 t301.length co98)) (fun _ h_ => h_.1))) hb); have n6_ := bf BK272 hb; have n7_ := bf BK273 hb; have n8_ := bf BK289 hb; have n9_ := bf BK294 hb; have n10_ := bf BK299 hb; have n11_ := Aside0.mk (blk_below (g := gb305) (o := .cells #[.int .i64 t300, .slice Ao98 t301.length co98] 26 (0, 0)) (by (with_reducible repeat (first | refine blk_drewN ?_ _ | refine blk_drew ?_ | refine blk_alloc ?_ _)); refine blk_put (cs := #[.int .i64 t300, .slice none 0 0]) ?_ 1 _ rfl; (with_reducible repeat (first | refine blk_drewN ?_ _ | refine blk_drew ?_ | refine blk_alloc ?_ _)); refine blk_put (cs := #[.int .i64 0, .slice none 0 0]) ?_ 0 _ rfl; (with_reducible repeat (first | refine blk_drewN ?_ _ | refine blk_drew ?_ | refine blk_alloc ?_ _)); exact BK305.out) hb); have n12_ := bs HB hb; clear HO279 HO283 HO287 HO293 HO298 HO303 BK272 BK273 BK289 BK294 BK299 BK305 HB; have HO279 := n0_; have HO283 := n1_; have HO287 := n2_; have HO293 := n3_; have HO298 := n4_; have HO303 := n5_; have BK272 := n6_; have BK273 := n7_; have BK289 := n8_; have BK294 := n9_; have BK299 := n10_; have BK305 := n11_; have HB := n12_; clear n0_ n1_ n2_ n3_ n4_ n5_ n6_ n7_ n8_ n9_ n10_ n11_ n12_; (try clear hb)))
               have SL272_w100 := Aside0.mk (blk_lt BK272.out : gb272 < w100.heap.size)
               have SL273_w100 := Aside0.mk (blk_lt BK273.out : gb273 < w100.heap.size)
               have n_ := Aside0.mk (Kd.S_mono (Kd.S_bound HO279.out) (fun k_ hk_ => (⟨hk_.1, hk_.2.2.1⟩ : _ ∧ k_ < w100.heap.size)))
               clear HO279
               have HO279 := n_
               clear n_
               have n_ := Aside0.mk (Kd.R_mono (Kd.R_bound HO283.out) (fun k_ hk_ => (⟨hk_.1, hk_.2.2.1⟩ : _ ∧ k_ < w100.heap.size)))
               clear HO283
               have HO283 := n_
               clear n_
               have n_ := Aside0.mk (Kd.S_mono (Kd.S_bound HO287.out) (fun k_ hk_ => (⟨hk_.1, hk_.2.2.1⟩ : _ ∧ k_ < w100.heap.size)))
               clear HO287
               have HO287 := n_
               clear n_
               have SL289_w100 := Aside0.mk (blk_lt BK289.out : gb289 < w100.heap.size)
               have n_ := Aside0.mk (Kd.S_mono (Kd.S_bound HO293.out) (fun k_ hk_ => (⟨hk_.1, hk_.2.2.1⟩ : _ ∧ k_ < w100.heap.size)))
               clear HO293
               have HO293 := n_
               clear n_
               have SL294_w100 := Aside0.mk (blk_lt BK294.out : gb294 < w100.heap.size)
               have n_ := Aside0.mk (Kd.R_mono (Kd.R_bound HO298.out) (fun k_ hk_ => (⟨hk_.1, hk_.2.2.1⟩ : _ ∧ k_ < w100.heap.size)))
               clear HO298
               have HO298 := n_
               clear n_
               have SL299_w100 := Aside0.mk (blk_lt BK299.out : gb299 < w100.heap.size)
               have n_ := Aside0.mk (Kd.S_mono (Kd.S_bound HO303.out) (fun k_ hk_ => (⟨hk_.1, hk_.2.2.1⟩ : _ ∧ k_ < w100.heap.size)))
               clear HO303
               have HO303 := n_
               clear n_
               have SL305_w100 := Aside0.mk (blk_lt BK305.out : gb305 < w100.heap.size)
               replace HO279 := Aside0.mk (Kd.S_drew HO279.out)
               replace HO283 := Aside0.mk (Kd.R_drew HO283.out)
               replace HO287 := Aside0.mk (Kd.S_drew HO287.out)
               replace HO293 := Aside0.mk (Kd.S_drew HO293.out)
               replace HO298 := Aside0.mk (Kd.R_drew HO298.out)
               replace HO303 := Aside0.mk (Kd.S_drew HO303.out)
               replace BK272 := Aside0.mk (blk_drew BK272.out)
               replace BK273 := Aside0.mk (blk_drew BK273.out)
               replace BK289 := Aside0.mk (blk_drew BK289.out)
               replace BK294 := Aside0.mk (blk_drew BK294.out)
               replace BK299 := Aside0.mk (blk_drew BK299.out)
               replace BK305 := Aside0.mk (blk_drew BK305.out)
               replace HB := Aside0.mk (below_drew1 HB.out)
               have LWw101 := Aside0.mk (show w100.heap.size ≤ w100.drew.heap.size from Nat.le_refl _)
               refine start_ (n := 5) (S := fun w' => w'.cell? ⟨gb294, 0, none⟩ = some (.int .i64 t290) ∧ w'.cell? ⟨gb294, 1, none⟩ = some (.slice Ao78 t291.length co78) ∧ w'.cell? ⟨gb272, 0, none⟩ = some (.int .i64 a0_0) ∧ w'.cell? ⟨gb272, 1, none⟩ = some (.slice A0_1 l0_1.length c0_1)) (ds := []) #[false, false, false, false, false] (by kernel_rfl) rfl rfl ⟨(c2 BK294).1, (c2 BK294).2, (c2 BK272).1, (c2 BK272).2⟩ (fun hHeld => ?_)
               generalize w100.drew = w101 at HO279 HO283 HO287 HO293 HO298 HO303 BK272 BK273 BK289 BK294 BK299 BK305 HB LWw101 hHeld ⊢
               refine take_ (i := 0) (N := some 54) (v := ?_) (a' := ?_) #[true, false, false, false, false] rfl rfl (by kernel_rfl) (fun _ _ _ h => h) (Or.inl ⟨by rfl, ?_⟩) hHeld ?_ ?_
               rotate_left
               ·rintro w' ⟨s0, s1, s2, s3⟩
                go_simp
                with_reducible rfl
               rotate_left
               ·simp only [Act.put, List.setIfInBounds_toArray, List.set_cons_zero, List.set_cons_succ, i64_w, i32_w]
                rfl
               refine take_ (i := 1) (N := some 55) (v := ?_) (a' := ?_) #[true, true, false, false, false] rfl rfl (by kernel_rfl) (fun _ _ _ h => h) (Or.inl ⟨by rfl, ?_⟩) hHeld ?_ ?_
               rotate_left
               ·rintro w' ⟨s0, s1, s2, s3⟩
                go_simp
                with_reducible rfl
               rotate_left
               ·simp only [Act.put, List.setIfInBounds_toArray, List.set_cons_zero, List.set_cons_succ, i64_w, i32_w]
                rfl
               refine one_ (i := 2) (N := some 56) #[true, true, true, false, false] rfl rfl (by kernel_rfl) (by decide) (fun K hK => ?_)
               refine gs Try.func25 (by kernel_rfl) rfl #[.agg #[.int .i64 a0_0, .slice A0_1 l0_1.length c0_1]] (by rfl) rfl rfl ?_
               with_reducible refine (laws_toSystem.calls k a0_0 _ _ l0_1 t307 t308 _ ?side1 ?side2 A28.out).mono ?_
               (case side1 => exact mc ((Kd.C_below HR0_1.out HB.out)))
               (case side2 => exact HC0_1.out)
               rintro e w102 ⟨v309, rfl, ho0, hb⟩
               refine ⟨_, rfl, ?_⟩
               have HO310 := Aside0.mk ((Kd.S_newer (Kd.andM_iso _ _ (Kd.andM_pair (Kd.andM_scalar _ _) (Kd.andM_slice _ rfl))) ho0 (Kd.S_lower (Kd.S_newB (Kd.S_new' (Kd.S_new' (Kd.S_new' (Kd.S_new' (Kd.S_new' (Kd.S_new' ho0 (Kd.S_lt (mS HO279))) (Kd.R_lt (mr HO283))) (Kd.S_lt (mS HO287))) (Kd.S_lt (mS HO293))) (Kd.R_lt (mr HO298))) (Kd.S_lt (mS HO303))) (g := gb299) (o := .cells #[.int .i64 t295, .slice Ao88 t296.length co88] 29 (0, 0)) (mb BK299)) (below_size (ms HB))) (N := w100.heap.size) (Nat.le_trans LWw101.out (show Kept w101 _ (fun _ => True) from by repeat (first | exact Kept.refl _ _ | apply Kept.alloc | apply Kept.drewN | apply Kept.drew | refine Kept.setCell ?_ (.inl trivial) _)).1) (below_size (ms HB))))
               replace HO279 := Aside0.mk (Kd.S_elder' (mS HO279) (Kd.S_base ho0) hb)
               replace HO283 := rb HO283 hb
               replace HO287 := Aside0.mk (Kd.S_elder' (mS HO287) (Kd.S_base ho0) hb)
               replace HO293 := Aside0.mk (Kd.S_elder' (mS HO293) (Kd.S_base ho0) hb)
               replace HO298 := rb HO298 hb
               replace HO303 := Aside0.mk (Kd.S_elder' (mS HO303) (Kd.S_base ho0) hb)
               replace BK272 := bb BK272 hb
               replace BK273 := bb BK273 hb
               replace BK289 := bb BK289 hb
               replace BK294 := bb BK294 hb
               replace BK299 := bb BK299 hb
               replace BK305 := bb BK305 hb
               have LWw102 := Aside0.mk ((Nat.le_trans (Nat.le_trans LWw101.out (show Kept w101 _ (fun _ => True) from by repeat (first | exact Kept.refl _ _ | apply Kept.alloc | apply Kept.drewN | apply Kept.drew | refine Kept.setCell ?_ (.inl trivial) _)).1) hb.size : w100.heap.size ≤ w102.heap.size))
               replace HB := bs HB hb
               (try clear hb)
               (try clear hb2)
               (try clear hk)
               (try clear hi)
               (try clear ho0)
               obtain ⟨Ao103, co103, eo103⟩ := Kd.S_slice HO310.out
               (first | subst eo103 | (injection eo103 with f1_ f2_ f3_; have f4_ := f1_.symm; have f5_ := f3_.symm; clear f1_ f2_ f3_; subst f4_; subst f5_))
               refine hK.out _ _ ⟨(c2 BK294).1, (c2 BK294).2, (c2 BK272).1, (c2 BK272).2⟩ (fun hHeld => ?_)
               clear hK K
               refine norm_ (a' := ?_) ?_ ?_
               rotate_left
               ·show Act.put _ (some 56) _ = _
                simp only [Act.put, List.setIfInBounds_toArray, List.set_cons_zero, List.set_cons_succ, i64_w, i32_w]
                rfl
               refine one_ (i := 3) (N := some 57) #[true, true, true, true, false] rfl rfl (by kernel_rfl) (by decide) (fun K hK => ?_)
               refine gs Try.func28 (by kernel_rfl) rfl #[.agg #[.int .i64 t290, .slice Ao78 t291.length co78], .agg #[.int .i64 t307, .slice Ao103 t308.length co103]] (by rfl) rfl rfl ?_
               with_reducible refine (laws_eqSystem.calls k t290 _ _ t291 t307 _ _ t308 true _ ?side1 ?side2 ?side3 ?side4 A29.out).mono ?_
               (case side1 => exact mc ((Kd.S_reads' HO293.out).2.2))
               (case side2 => exact (Kd.S_reads' HO293.out).2.1)
               (case side3 => exact mc ((Kd.S_reads' HO310.out).2.2))
               (case side4 => exact (Kd.S_reads' HO310.out).2.1)
               rintro e w104 ⟨rfl, hb⟩
               refine ⟨_, rfl, ?_⟩
               replace HO279 := bS HO279 hb
               replace HO283 := rb HO283 hb
               replace HO287 := bS HO287 hb
               replace HO293 := bS HO293 hb
               replace HO298 := rb HO298 hb
               replace HO303 := bS HO303 hb
               replace HO310 := bS HO310 hb
               replace BK272 := bb BK272 hb
               replace BK273 := bb BK273 hb
               replace BK289 := bb BK289 hb
               replace BK294 := bb BK294 hb
               replace BK299 := bb BK299 hb
               replace BK305 := bb BK305 hb
               have LWw104 := Aside0.mk ((Nat.le_trans (Nat.le_trans LWw102.out (show Kept w102 _ (fun _ => True) from by repeat (first | exact Kept.refl _ _ | apply Kept.alloc | apply Kept.drewN | apply Kept.drew | refine Kept.setCell ?_ (.inl trivial) _)).1) hb.size : w100.heap.size ≤ w104.heap.size))
               replace HB := bs HB hb
               (try clear hb)
               (try clear hb2)
               (try clear hk)
               (try clear hi)
               refine hK.out _ _ ⟨(c2 BK294).1, (c2 BK294).2, (c2 BK272).1, (c2 BK272).2⟩ (fun hHeld => ?_)
               clear hK K
               refine norm_ (a' := ?_) ?_ ?_
               rotate_left
               ·show Act.put _ (some 57) _ = _
                simp only [Act.put, List.setIfInBounds_toArray, List.set_cons_zero, List.set_cons_succ, i64_w, i32_w]
                rfl
               refine pure_ (i := 4) (N := some 58) (v := ?_) (a' := ?_) #[true, true, true, true, true] rfl rfl (by kernel_rfl) (fun _ _ _ h => h) (Or.inl ⟨by rfl, ?_⟩) ?_ ?_
               rotate_left
               ·intro w'
                go_simp
                with_reducible rfl
               rotate_left
               ·simp only [Act.put, List.setIfInBounds_toArray, List.set_cons_zero, List.set_cons_succ, i64_w, i32_w]
                rfl
               refine done_ (by kernel_rfl) ?_
               try go_wp2
               have SL272_w104 := Aside0.mk (blk_lt BK272.out : gb272 < w104.heap.size)
               have SL273_w104 := Aside0.mk (blk_lt BK273.out : gb273 < w104.heap.size)
               have n_ := Aside0.mk (Kd.S_mono (Kd.S_bound HO279.out) (fun k_ hk_ => (⟨hk_.1, hk_.2.2.1⟩ : _ ∧ k_ < w104.heap.size)))
               clear HO279
               have HO279 := n_
               clear n_
               have n_ := Aside0.mk (Kd.R_mono (Kd.R_bound HO283.out) (fun k_ hk_ => (⟨hk_.1, hk_.2.2.1⟩ : _ ∧ k_ < w104.heap.size)))
               clear HO283
               have HO283 := n_
               clear n_
               have n_ := Aside0.mk (Kd.S_mono (Kd.S_bound HO287.out) (fun k_ hk_ => (⟨hk_.1, hk_.2.2.1⟩ : _ ∧ k_ < w104.heap.size)))
               clear HO287
               have HO287 := n_
               clear n_
               have SL289_w104 := Aside0.mk (blk_lt BK289.out : gb289 < w104.heap.size)
               have n_ := Aside0.mk (Kd.S_mono (Kd.S_bound HO293.out) (fun k_ hk_ => (⟨hk_.1, hk_.2.2.1⟩ : _ ∧ k_ < w104.heap.size)))
               clear HO293
               have HO293 := n_
               clear n_
               have SL294_w104 := Aside0.mk (blk_lt BK294.out : gb294 < w104.heap.size)
               have n_ := Aside0.mk (Kd.R_mono (Kd.R_bound HO298.out) (fun k_ hk_ => (⟨hk_.1, hk_.2.2.1⟩ : _ ∧ k_ < w104.heap.size)))
               clear HO298
               have HO298 := n_
               clear n_
               have SL299_w104 := Aside0.mk (blk_lt BK299.out : gb299 < w104.heap.size)
               have n_ := Aside0.mk (Kd.S_mono (Kd.S_bound HO303.out) (fun k_ hk_ => (⟨hk_.1, hk_.2.2.1⟩ : _ ∧ k_ < w104.heap.size)))
               clear HO303
               have HO303 := n_
               clear n_
               have SL305_w104 := Aside0.mk (blk_lt BK305.out : gb305 < w104.heap.size)
               have n_ := Aside0.mk (Kd.S_mono (Kd.S_bound HO310.out) (fun k_ hk_ => (⟨hk_.1, hk_.2.2.1⟩ : _ ∧ k_ < w104.heap.size)))
               clear HO310
               have HO310 := n_
               clear n_
               replace HO279 := Aside0.mk (Kd.S_drew HO279.out)
               replace HO283 := Aside0.mk (Kd.R_drew HO283.out)
               replace HO287 := Aside0.mk (Kd.S_drew HO287.out)
               replace HO293 := Aside0.mk (Kd.S_drew HO293.out)
               replace HO298 := Aside0.mk (Kd.R_drew HO298.out)
               replace HO303 := Aside0.mk (Kd.S_drew HO303.out)
               replace HO310 := Aside0.mk (Kd.S_drew HO310.out)
               replace BK272 := Aside0.mk (blk_drew BK272.out)
               replace BK273 := Aside0.mk (blk_drew BK273.out)
               replace BK289 := Aside0.mk (blk_drew BK289.out)
               replace BK294 := Aside0.mk (blk_drew BK294.out)
               replace BK299 := Aside0.mk (blk_drew BK299.out)
               replace BK305 := Aside0.mk (blk_drew BK305.out)
               replace HB := Aside0.mk (below_drew1 HB.out)
               have LWw105 := Aside0.mk (show w104.heap.size ≤ w104.drew.heap.size from Nat.le_refl _)
               refine start_ (n := 5) (S := fun w' => w'.cell? ⟨gb299, 0, none⟩ = some (.int .i64 t295) ∧ w'.cell? ⟨gb299, 1, none⟩ = some (.slice Ao88 t296.length co88) ∧ w'.cell? ⟨gb273, 0, none⟩ = some (.int .i64 a1_0) ∧ w'.cell? ⟨gb273, 1, none⟩ = some (.slice A1_1 l1_1.length c1_1)) (ds := []) #[false, false, false, false, false] (by kernel_rfl) rfl rfl ⟨(c2 BK299).1, (c2 BK299).2, (c2 BK273).1, (c2 BK273).2⟩ (fun hHeld => ?_)
               generalize w104.drew = w105 at HO279 HO283 HO287 HO293 HO298 HO303 HO310 BK272 BK273 BK289 BK294 BK299 BK305 HB LWw105 hHeld ⊢
               refine take_ (i := 0) (N := some 59) (v := ?_) (a' := ?_) #[true, false, false, false, false] rfl rfl (by kernel_rfl) (fun _ _ _ h => h) (Or.inl ⟨by rfl, ?_⟩) hHeld ?_ ?_
               rotate_left
               ·rintro w' ⟨s0, s1, s2, s3⟩
                go_simp
                with_reducible rfl
               rotate_left
               ·simp only [Act.put, List.setIfInBounds_toArray, List.set_cons_zero, List.set_cons_succ, i64_w, i32_w]
                rfl
               refine take_ (i := 1) (N := some 60) (v := ?_) (a' := ?_) #[true, true, false, false, false] rfl rfl (by kernel_rfl) (fun _ _ _ h => h) (Or.inl ⟨by rfl, ?_⟩) hHeld ?_ ?_
               rotate_left
               ·rintro w' ⟨s0, s1, s2, s3⟩
                go_simp
                with_reducible rfl
               rotate_left
               ·simp only [Act.put, List.setIfInBounds_toArray, List.set_cons_zero, List.set_cons_succ, i64_w, i32_w]
                rfl
               refine one_ (i := 2) (N := some 61) #[true, true, true, false, false] rfl rfl (by kernel_rfl) (by decide) (fun K hK => ?_)
               refine gs Try.func26 (by kernel_rfl) rfl #[.agg #[.int .i64 a1_0, .slice A1_1 l1_1.length c1_1]] (by rfl) rfl rfl ?_
               with_reducible refine (laws_toLin.calls k a1_0 _ _ l1_1 t312 t313 _ ?side1 ?side2 A31.out).mono ?_
               (case side1 => exact mc ((Kd.C_below HR1_1.out HB.out)))
               (case side2 => exact HC1_1.out)
               rintro e w106 ⟨v314, rfl, ho0, hb⟩
               refine ⟨_, rfl, ?_⟩
               replace HO279 := lS HO279 ho0 hb
               replace HO287 := lS HO287 ho0 hb
               replace HO293 := lS HO293 ho0 hb
               replace HO303 := lS HO303 ho0 hb
               replace HO310 := lS HO310 ho0 hb
               have HO315 := Aside0.mk ((Kd.R_newer rfl ho0 (Kd.R_lower (Kd.R_new' (Kd.R_new' ho0 (Kd.R_lt (mr HO283))) (Kd.R_lt (mr HO298))) (below_size (ms HB))) (N := w104.heap.size) (Nat.le_trans LWw105.out (show Kept w105 _ (fun _ => True) from by repeat (first | exact Kept.refl _ _ | apply Kept.alloc | apply Kept.drewN | apply Kept.drew | refine Kept.setCell ?_ (.inl trivial) _)).1)))
               replace HO283 := rl HO283 ho0 hb
               replace HO298 := rl HO298 ho0 hb
               replace BK272 := bb BK272 hb
               replace BK273 := bb BK273 hb
               replace BK289 := bb BK289 hb
               replace BK294 := bb BK294 hb
               replace BK299 := bb BK299 hb
               replace BK305 := bb BK305 hb
               have LWw106 := Aside0.mk ((Nat.le_trans (Nat.le_trans LWw105.out (show Kept w105 _ (fun _ => True) from by repeat (first | exact Kept.refl _ _ | apply Kept.alloc | apply Kept.drewN | apply Kept.drew | refine Kept.setCell ?_ (.inl trivial) _)).1) hb.size : w104.heap.size ≤ w106.heap.size))
               replace HB := bs HB hb
               (try clear hb)
               (try clear hb2)
               (try clear hk)
               (try clear hi)
               (try clear ho0)
               obtain ⟨Ao107, co107, eo107⟩ := Kd.R_slice HO315.out
               (first | subst eo107 | (injection eo107 with f1_ f2_ f3_; have f4_ := f1_.symm; have f5_ := f3_.symm; clear f1_ f2_ f3_; subst f4_; subst f5_))
               refine hK.out _ _ ⟨(c2 BK299).1, (c2 BK299).2, (c2 BK273).1, (c2 BK273).2⟩ (fun hHeld => ?_)
               clear hK K
               refine norm_ (a' := ?_) ?_ ?_
               rotate_left
               ·show Act.put _ (some 61) _ = _
                simp only [Act.put, List.setIfInBounds_toArray, List.set_cons_zero, List.set_cons_succ, i64_w, i32_w]
                rfl
               refine one_ (i := 3) (N := some 62) #[true, true, true, true, false] rfl rfl (by kernel_rfl) (by decide) (fun K hK => ?_)
               refine gs Try.func29 (by kernel_rfl) rfl #[.agg #[.int .i64 t295, .slice Ao88 t296.length co88], .agg #[.int .i64 t312, .slice Ao107 t313.length co107]] (by rfl) rfl rfl ?_
               with_reducible refine (laws_eqLin.calls k t295 _ _ t296 t312 _ _ t313 true _ ?side1 ?side2 ?side3 ?side4 A32.out).mono ?_
               (case side1 => exact mc ((Kd.R_reads' HO298.out).2.2))
               (case side2 => exact (Kd.R_reads' HO298.out).2.1)
               (case side3 => exact mc ((Kd.R_reads' HO315.out).2.2))
               (case side4 => exact (Kd.R_reads' HO315.out).2.1)
               rintro e w108 ⟨rfl, hb⟩
               refine ⟨_, rfl, ?_⟩
               replace HO279 := bS HO279 hb
               replace HO283 := rb HO283 hb
               replace HO287 := bS HO287 hb
               replace HO293 := bS HO293 hb
               replace HO298 := rb HO298 hb
               replace HO303 := bS HO303 hb
               replace HO310 := bS HO310 hb
               replace HO315 := rb HO315 hb
               replace BK272 := bb BK272 hb
               replace BK273 := bb BK273 hb
               replace BK289 := bb BK289 hb
               replace BK294 := bb BK294 hb
               replace BK299 := bb BK299 hb
               replace BK305 := bb BK305 hb
               have LWw108 := Aside0.mk ((Nat.le_trans (Nat.le_trans LWw106.out (show Kept w106 _ (fun _ => True) from by repeat (first | exact Kept.refl _ _ | apply Kept.alloc | apply Kept.drewN | apply Kept.drew | refine Kept.setCell ?_ (.inl trivial) _)).1) hb.size : w104.heap.size ≤ w108.heap.size))
               replace HB := bs HB hb
               (try clear hb)
               (try clear hb2)
               (try clear hk)
               (try clear hi)
               refine hK.out _ _ ⟨(c2 BK299).1, (c2 BK299).2, (c2 BK273).1, (c2 BK273).2⟩ (fun hHeld => ?_)
               clear hK K
               refine norm_ (a' := ?_) ?_ ?_
               rotate_left
               ·show Act.put _ (some 62) _ = _
                simp only [Act.put, List.setIfInBounds_toArray, List.set_cons_zero, List.set_cons_succ, i64_w, i32_w]
                rfl
               refine pure_ (i := 4) (N := some 63) (v := ?_) (a' := ?_) #[true, true, true, true, true] rfl rfl (by kernel_rfl) (fun _ _ _ h => h) (Or.inl ⟨by rfl, ?_⟩) ?_ ?_
               rotate_left
               ·intro w'
                go_simp
                with_reducible rfl
               rotate_left
               ·simp only [Act.put, List.setIfInBounds_toArray, List.set_cons_zero, List.set_cons_succ, i64_w, i32_w]
                rfl
               refine done_ (by kernel_rfl) ?_
               obtain ⟨hcz109_0, hcz109_1⟩ := c2 BK294
               have hfz109_0 := blk_frozen BK294.out 0
               have hfz109_1 := blk_frozen BK294.out 1
               try go_wp2_with (first | ((with_reducible refine gate_callee (f := 30) rfl ?_); refine gl (some 66) rfl rfl Try.func30 (by kernel_rfl) rfl #[.agg #[.int .i64 t290, .slice Ao78 t291.length co78], .int .i64 1] rfl ?_; (with_reducible refine (laws_markSystem.calls k t290 (fun k_ => w66.heap.size ≤ k_ ∧ k_ < w72.heap.size ∧ k_ < w73.heap.size ∧ k_ < w81.heap.size ∧ k_ < w82.heap.size ∧ k_ < w90.heap.size ∧ k_ < w100.heap.size ∧ k_ < w104.heap.size) (.slice Ao78 t291.length co78) t291 1 t317 t318 w _ ?side1 ?side2 A34.out).mono ?_); (case side1 => repeat (first | (with_reducible first | exact HB.out | apply below_alloc | apply pw_below_drewN | apply below_drew1 | refine below_set ?_ GE272.out | refine below_set ?_ GE273.out | refine below_set ?_ GE289.out | refine below_set ?_ GE294.out | refine below_set ?_ GE299.out | refine below_set ?_ GE305.out) | exact HB.out)); (case side2 => exact (by (with_reducible repeat (first | apply Kd.S_alloc | apply Kd.S_drewN | apply Kd.S_drew)); exact Kd.S_mono (HO293.out) (fun k_ hk_ => ⟨hk_.1.1.1.1.1.1.1.1.1.1.1.1.2, hk_.1.1.1.1.1.1.1.1.1.1.1.2, hk_.1.1.1.1.1.1.1.1.1.1.2, hk_.1.1.1.1.1.1.1.1.2, hk_.1.1.1.1.1.1.2, hk_.1.1.1.1.2, hk_.1.1.1.2, hk_.1.2⟩))); rintro e w110 ⟨rfl, hy0, hb, hkp⟩; refine ⟨_, rfl, ?_⟩; have n0_ := Aside0.mk (blk_kept (mb BK272) hkp (fun hs_ => Nat.lt_irrefl _ (Nat.lt_of_lt_of_le SL272_w66.out hs_.1))); have n1_ := Aside0.mk (blk_kept (mb BK273) hkp (fun hs_ => Nat.lt_irrefl _ (Nat.lt_of_lt_of_le SL273_w66.out hs_.1))); have n2_ := Aside0.mk (Kd.kS (HO279.out) hkp (fun k_ hk_ hs_ => Nat.lt_irrefl _ (Nat.lt_of_lt_of_le hk_.1.1.1.1.1.1.1.1.1.1.1.1.1.2 hs_.1)) (fun h_ => by (with_reducible repeat (first | apply Kd.S_alloc | apply Kd.S_drewN | apply Kd.S_drew)); exact h_)); have n3_ := Aside0.mk (Kd.kR (HO283.out) hkp (fun k_ hk_ hs_ => Nat.lt_irrefl _ (Nat.lt_of_lt_of_le hk_.1.1.1.1.1.1.1.1.1 hs_.1)) (fun h_ => by (with_reducible repeat (first | apply Kd.R_alloc | apply Kd.R_drewN | apply Kd.R_drew)); exact h_)); have n4_ := Aside0.mk (Kd.kS (HO287.out) hkp (fun k_ hk_ hs_ => Nat.lt_irrefl _ (Nat.lt_of_lt_of_le hk_.1.1.1.1.1.1.1.1.1.1.1.1.1.2 hs_.1)) (fun h_ => by (with_reducible repeat (first | apply Kd.S_alloc | apply Kd.S_drewN | apply Kd.S_drew)); exact h_)); have n5_ := Aside0.mk (blk_kept (mb BK289) hkp (fun hs_ => Nat.lt_irrefl _ (Nat.lt_of_lt_of_le SL289_w66.out hs_.1))); have n6_ := Aside0.mk (hy0); have n7_ := Aside0.mk (blk_kept (mb BK294) hkp (fun hs_ => Nat.lt_irrefl _ (Nat.lt_of_lt_of_le hs_.2.1 SG294_w72.out))); have n8_ := Aside0.mk (Kd.kR (HO298.out) hkp (fun k_ hk_ hs_ => Nat.lt_irrefl _ (Nat.lt_of_lt_of_le hs_.2.2.1 hk_.1.1.1.1.1.1.2)) (fun h_ => by (with_reducible repeat (first | apply Kd.R_alloc | apply Kd.R_drewN | apply Kd.R_drew)); exact h_)); have n9_ := Aside0.mk (blk_kept (mb BK299) hkp (fun hs_ => Nat.lt_irrefl _ (Nat.lt_of_lt_of_le hs_.2.2.2.1 SG299_w81.out))); have n10_ := Aside0.mk (Kd.kS (HO303.out) hkp (fun k_ hk_ hs_ => Nat.lt_irrefl _ (Nat.lt_of_lt_of_le hs_.2.2.2.2.1 hk_.1.1.1.1.1.2)) (fun h_ => by (with_reducible repeat (first | apply Kd.S_alloc | apply Kd.S_drewN | apply Kd.S_drew)); exact h_)); have n11_ := Aside0.mk (blk_kept (mb BK305) hkp (fun hs_ => Nat.lt_irrefl _ (Nat.lt_of_lt_of_le hs_.2.2.2.2.2.1 SG305_w90.out))); have n12_ := Aside0.mk (Kd.kS (HO310.out) hkp (fun k_ hk_ hs_ => Nat.lt_irrefl _ (Nat.lt_of_lt_of_le hs_.2.2.2.2.2.2.1 hk_.1.1.2)) (fun h_ => by (with_reducible repeat (first | apply Kd.S_alloc | apply Kd.S_drewN | apply Kd.S_drew)); exact h_)); have n13_ := Aside0.mk (Kd.kR (HO315.out) hkp (fun k_ hk_ hs_ => Nat.lt_irrefl _ (Nat.lt_of_lt_of_le hs_.2.2.2.2.2.2.2 hk_.2)) (fun h_ => by (with_reducible repeat (first | apply Kd.R_alloc | apply Kd.R_drewN | apply Kd.R_drew)); exact h_)); have n14_ := Aside0.mk (hb); clear BK272 BK273 HO279 HO283 HO287 BK289 HO293 BK294 HO298 BK299 HO303 BK305 HO310 HO315 HB; have BK272 := n0_; have BK273 := n1_; have HO279 := n2_; have HO283 := n3_; have HO287 := n4_; have BK289 := n5_; have HO293 := n6_; have BK294 := n7_; have HO298 := n8_; have BK299 := n9_; have HO303 := n10_; have BK305 := n11_; have HO310 := n12_; have HO315 := n13_; have HB := n14_; clear n0_ n1_ n2_ n3_ n4_ n5_ n6_ n7_ n8_ n9_ n10_ n11_ n12_ n13_ n14_; clear hb hkp hy0; obtain ⟨hcz111_0, hcz111_1⟩ := c2 BK299; have hfz111_0 := blk_frozen BK299.out 0; have hfz111_1 := blk_frozen BK299.out 1) | ((with_reducible refine gate_callee (f := 31) rfl ?_); refine gl (some 69) rfl rfl Try.func31 (by kernel_rfl) rfl #[.agg #[.int .i64 t295, .slice Ao88 t296.length co88], .int .i64 t317] rfl ?_; (with_reducible refine (laws_markLin.calls k t295 (fun k_ => w73.heap.size ≤ k_ ∧ k_ < w81.heap.size ∧ k_ < w82.heap.size ∧ k_ < w90.heap.size ∧ k_ < w100.heap.size ∧ k_ < w104.heap.size) (.slice Ao88 t296.length co88) t296 t317 t319 t320 w _ ?side1 ?side2 A35.out).mono ?_); (case side1 => repeat (first | (with_reducible first | exact HB.out | apply below_alloc | apply pw_below_drewN | apply below_drew1 | refine below_set ?_ GE272.out | refine below_set ?_ GE273.out | refine below_set ?_ GE289.out | refine below_set ?_ GE294.out | refine below_set ?_ GE299.out | refine below_set ?_ GE305.out) | exact HB.out)); (case side2 => exact (by (with_reducible repeat (first | apply Kd.R_alloc | apply Kd.R_drewN | apply Kd.R_drew)); exact Kd.R_mono (HO298.out) (fun k_ hk_ => ⟨hk_.1.1.1.1.1.1.2, hk_.1.1.1.1.1.2, hk_.1.1.1.1.2, hk_.1.1.1.2, hk_.1.1.2, hk_.1.2⟩))); rintro e w112 ⟨rfl, hy0, hb, hkp⟩; refine ⟨_, rfl, ?_⟩; have n0_ := Aside0.mk (blk_kept (mb BK272) hkp (fun hs_ => Nat.lt_irrefl _ (Nat.lt_of_lt_of_le SL272_w73.out hs_.1))); have n1_ := Aside0.mk (blk_kept (mb BK273) hkp (fun hs_ => Nat.lt_irrefl _ (Nat.lt_of_lt_of_le SL273_w73.out hs_.1))); have n2_ := Aside0.mk (Kd.kS (HO279.out) hkp (fun k_ hk_ hs_ => Nat.lt_irrefl _ (Nat.lt_of_lt_of_le hk_.1.1.1.1.1.1.1.1.1.1.2 hs_.1)) (fun h_ => by (with_reducible repeat (first | apply Kd.S_alloc | apply Kd.S_drewN | apply Kd.S_drew)); exact h_)); have n3_ := Aside0.mk (Kd.kR (HO283.out) hkp (fun k_ hk_ hs_ => Nat.lt_irrefl _ (Nat.lt_of_lt_of_le hk_.1.1.1.1.1.1.1.2 hs_.1)) (fun h_ => by (with_reducible repeat (first | apply Kd.R_alloc | apply Kd.R_drewN | apply Kd.R_drew)); exact h_)); have n4_ := Aside0.mk (Kd.kS (HO287.out) hkp (fun k_ hk_ hs_ => Nat.lt_irrefl _ (Nat.lt_of_lt_of_le hk_.1.1.1.1.1.1.1.1.1.1.2 hs_.1)) (fun h_ => by (with_reducible repeat (first | apply Kd.S_alloc | apply Kd.S_drewN | apply Kd.S_drew)); exact h_)); have n5_ := Aside0.mk (blk_kept (mb BK289) hkp (fun hs_ => Nat.lt_irrefl _ (Nat.lt_of_lt_of_le SL289_w73.out hs_.1))); have n6_ := Aside0.mk (Kd.kS (HO293.out) hkp (fun k_ hk_ hs_ => Nat.lt_irrefl _ (Nat.lt_of_lt_of_le hk_.2.2.1 hs_.1)) (fun h_ => by (with_reducible repeat (first | apply Kd.S_alloc | apply Kd.S_drewN | apply Kd.S_drew)); exact h_)); have n7_ := Aside0.mk (blk_kept (mb BK294) hkp (fun hs_ => Nat.lt_irrefl _ (Nat.lt_of_lt_of_le SL294_w73.out hs_.1))); have n8_ := Aside0.mk (Kd.R_reok rfl hy0 (fun k_ e_ => HO298.out.1 k_ e_)); have n9_ := Aside0.mk (blk_kept (mb BK299) hkp (fun hs_ => Nat.lt_irrefl _ (Nat.lt_of_lt_of_le hs_.2.1 SG299_w81.out))); have n10_ := Aside0.mk (Kd.kS (HO303.out) hkp (fun k_ hk_ hs_ => Nat.lt_irrefl _ (Nat.lt_of_lt_of_le hs_.2.2.1 hk_.1.1.1.1.1.2)) (fun h_ => by (with_reducible repeat (first | apply Kd.S_alloc | apply Kd.S_drewN | apply Kd.S_drew)); exact h_)); have n11_ := Aside0.mk (blk_kept (mb BK305) hkp (fun hs_ => Nat.lt_irrefl _ (Nat.lt_of_lt_of_le hs_.2.2.2.1 SG305_w90.out))); have n12_ := Aside0.mk (Kd.kS (HO310.out) hkp (fun k_ hk_ hs_ => Nat.lt_irrefl _ (Nat.lt_of_lt_of_le hs_.2.2.2.2.1 hk_.1.1.2)) (fun h_ => by (with_reducible repeat (first | apply Kd.S_alloc | apply Kd.S_drewN | apply Kd.S_drew)); exact h_)); have n13_ := Aside0.mk (Kd.kR (HO315.out) hkp (fun k_ hk_ hs_ => Nat.lt_irrefl _ (Nat.lt_of_lt_of_le hs_.2.2.2.2.2 hk_.2)) (fun h_ => by (with_reducible repeat (first | apply Kd.R_alloc | apply Kd.R_drewN | apply Kd.R_drew)); exact h_)); have n14_ := Aside0.mk (hb); clear BK272 BK273 HO279 HO283 HO287 BK289 HO293 BK294 HO298 BK299 HO303 BK305 HO310 HO315 HB; have BK272 := n0_; have BK273 := n1_; have HO279 := n2_; have HO283 := n3_; have HO287 := n4_; have BK289 := n5_; have HO293 := n6_; have BK294 := n7_; have HO298 := n8_; have BK299 := n9_; have HO303 := n10_; have BK305 := n11_; have HO310 := n12_; have HO315 := n13_; have HB := n14_; clear n0_ n1_ n2_ n3_ n4_ n5_ n6_ n7_ n8_ n9_ n10_ n11_ n12_ n13_ n14_; clear hb hkp hy0; obtain ⟨hcz113_0, hcz113_1⟩ := c2 BK305; have hfz113_0 := blk_frozen BK305.out 0; have hfz113_1 := blk_frozen BK305.out 1; obtain ⟨hcz114_0, hcz114_1⟩ := c2 BK289; have hfz114_0 := blk_frozen BK289.out 0; have hfz114_1 := blk_frozen BK289.out 1) | (go_at_call 28; (with_reducible refine (laws_eqSystem.calls k t300 _ _ t301 t284 _ _ t285 true _ ?side1 ?side2 ?side3 ?side4 A37.out).mono ?_); (case side1 => exact mc ((Kd.S_reads' HO303.out).2.2)); (case side2 => exact (Kd.S_reads' HO303.out).2.1); (case side3 => exact mc ((Kd.S_reads' HO287.out).2.2)); (case side4 => exact (Kd.S_reads' HO287.out).2.1); rintro e w115 ⟨rfl, hb⟩; replace HO279 := bS HO279 hb; replace HO283 := rb HO283 hb; replace HO287 := bS HO287 hb; replace HO293 := bS HO293 hb; replace HO298 := rb HO298 hb; replace HO303 := bS HO303 hb; replace HO310 := bS HO310 hb; replace HO315 := rb HO315 hb; replace BK272 := bb BK272 hb; replace BK273 := bb BK273 hb; replace BK289 := bb BK289 hb; replace BK294 := bb BK294 hb; replace BK299 := bb BK299 hb; replace BK305 := bb BK305 hb; replace HB := bs HB hb; (try clear hb); obtain ⟨hcz116_0, hcz116_1⟩ := c2 BK305; have hfz116_0 := blk_frozen BK305.out 0; have hfz116_1 := blk_frozen BK305.out 1) | ((with_reducible refine gate_callee (f := 30) rfl ?_); refine gl (some 85) rfl rfl Try.func30 (by kernel_rfl) rfl #[.agg #[.int .i64 t300, .slice Ao98 t301.length co98], .int .i64 1] rfl ?_; (with_reducible refine (laws_markSystem.calls k t300 (fun k_ => w82.heap.size ≤ k_ ∧ k_ < w90.heap.size ∧ k_ < w100.heap.size ∧ k_ < w104.heap.size) (.slice Ao98 t301.length co98) t301 1 t322 t323 w _ ?side1 ?side2 A39.out).mono ?_); (case side1 => repeat (first | (with_reducible first | exact HB.out | apply below_alloc | apply pw_below_drewN | apply below_drew1 | refine below_set ?_ GE272.out | refine below_set ?_ GE273.out | refine below_set ?_ GE289.out | refine below_set ?_ GE294.out | refine below_set ?_ GE299.out | refine below_set ?_ GE305.out) | exact HB.out)); (case side2 => exact (by (with_reducible repeat (first | apply Kd.S_alloc | apply Kd.S_drewN | apply Kd.S_drew)); exact Kd.S_mono (HO303.out) (fun k_ hk_ => ⟨hk_.1.1.1.1.1.2, hk_.1.1.1.1.2, hk_.1.1.1.2, hk_.1.2⟩))); rintro e w117 ⟨rfl, hy0, hb, hkp⟩; refine ⟨_, rfl, ?_⟩; have n0_ := Aside0.mk (blk_kept (mb BK272) hkp (fun hs_ => Nat.lt_irrefl _ (Nat.lt_of_lt_of_le SL272_w82.out hs_.1))); have n1_ := Aside0.mk (blk_kept (mb BK273) hkp (fun hs_ => Nat.lt_irrefl _ (Nat.lt_of_lt_of_le SL273_w82.out hs_.1))); have n2_ := Aside0.mk (Kd.kS (HO279.out) hkp (fun k_ hk_ hs_ => Nat.lt_irrefl _ (Nat.lt_of_lt_of_le hk_.1.1.1.1.1.1.2 hs_.1)) (fun h_ => by (with_reducible repeat (first | apply Kd.S_alloc | apply Kd.S_drewN | apply Kd.S_drew)); exact h_)); have n3_ := Aside0.mk (Kd.kR (HO283.out) hkp (fun k_ hk_ hs_ => Nat.lt_irrefl _ (Nat.lt_of_lt_of_le hk_.1.1.1.1.2 hs_.1)) (fun h_ => by (with_reducible repeat (first | apply Kd.R_alloc | apply Kd.R_drewN | apply Kd.R_drew)); exact h_)); have n4_ := Aside0.mk (Kd.kS (HO287.out) hkp (fun k_ hk_ hs_ => Nat.lt_irrefl _ (Nat.lt_of_lt_of_le hk_.1.1.1.1.1.1.2 hs_.1)) (fun h_ => by (with_reducible repeat (first | apply Kd.S_alloc | apply Kd.S_drewN | apply Kd.S_drew)); exact h_)); have n5_ := Aside0.mk (blk_kept (mb BK289) hkp (fun hs_ => Nat.lt_irrefl _ (Nat.lt_of_lt_of_le SL289_w82.out hs_.1))); have n6_ := Aside0.mk (Kd.kS (HO293.out) hkp (fun k_ hk_ hs_ => Nat.lt_irrefl _ (Nat.lt_of_lt_of_le hk_.2.2.2.2.1 hs_.1)) (fun h_ => by (with_reducible repeat (first | apply Kd.S_alloc | apply Kd.S_drewN | apply Kd.S_drew)); exact h_)); have n7_ := Aside0.mk (blk_kept (mb BK294) hkp (fun hs_ => Nat.lt_irrefl _ (Nat.lt_of_lt_of_le SL294_w82.out hs_.1))); have n8_ := Aside0.mk (Kd.kR (HO298.out) hkp (fun k_ hk_ hs_ => Nat.lt_irrefl _ (Nat.lt_of_lt_of_le hk_.1.1.1.1.2 hs_.1)) (fun h_ => by (with_reducible repeat (first | apply Kd.R_alloc | apply Kd.R_drewN | apply Kd.R_drew)); exact h_)); have n9_ := Aside0.mk (blk_kept (mb BK299) hkp (fun hs_ => Nat.lt_irrefl _ (Nat.lt_of_lt_of_le SL299_w82.out hs_.1))); have n10_ := Aside0.mk (hy0); have n11_ := Aside0.mk (blk_kept (mb BK305) hkp (fun hs_ => Nat.lt_irrefl _ (Nat.lt_of_lt_of_le hs_.2.1 SG305_w90.out))); have n12_ := Aside0.mk (Kd.kS (HO310.out) hkp (fun k_ hk_ hs_ => Nat.lt_irrefl _ (Nat.lt_of_lt_of_le hs_.2.2.1 hk_.1.1.2)) (fun h_ => by (with_reducible repeat (first | apply Kd.S_alloc | apply Kd.S_drewN | apply Kd.S_drew)); exact h_)); have n13_ := Aside0.mk (Kd.kR (HO315.out) hkp (fun k_ hk_ hs_ => Nat.lt_irrefl _ (Nat.lt_of_lt_of_le hs_.2.2.2 hk_.2)) (fun h_ => by (with_reducible repeat (first | apply Kd.R_alloc | apply Kd.R_drewN | apply Kd.R_drew)); exact h_)); have n14_ := Aside0.mk (hb); clear BK272 BK273 HO279 HO283 HO287 BK289 HO293 BK294 HO298 BK299 HO303 BK305 HO310 HO315 HB; have BK272 := n0_; have BK273 := n1_; have HO279 := n2_; have HO283 := n3_; have HO287 := n4_; have BK289 := n5_; have HO293 := n6_; have BK294 := n7_; have HO298 := n8_; have BK299 := n9_; have HO303 := n10_; have BK305 := n11_; have HO310 := n12_; have HO315 := n13_; have HB := n14_; clear n0_ n1_ n2_ n3_ n4_ n5_ n6_ n7_ n8_ n9_ n10_ n11_ n12_ n13_ n14_; clear hb hkp hy0; obtain ⟨hcz118_0, hcz118_1⟩ := c2 BK305; have hfz118_0 := blk_frozen BK305.out 0; have hfz118_1 := blk_frozen BK305.out 1) | ((with_reducible refine gate_callee (f := 32) rfl ?_); refine goesL_ (some 88) rfl rfl Try.func32 (by kernel_rfl) rfl #[.agg #[.int .i64 t300, .slice Ao98 t323.length co98], .int .i64 1] rfl (by (try simp only [List.map_toArray, List.map_cons, List.map_nil]); first | done | (rw [show t323.length = t301.length from (Kd.S_reads' HO303.out).1.symm] <;> rfl) | rfl | (simp only [List.length_drop, List.length_take]; rfl)) ?_; (with_reducible refine (laws_heldSystem.calls k t300 _ _ t323 1 t324 _ ?side1 ?side2 A40.out).mono ?_); (case side1 => exact mc ((Kd.S_reads' HO303.out).2.2)); (case side2 => rw [show t323.length = t301.length from (Kd.S_reads' HO303.out).1.symm]; exact (Kd.S_reads' HO303.out).2.1); rintro e w119 ⟨rfl, hb⟩; refine ⟨_, rfl, ?_⟩; replace HO279 := bS HO279 hb; replace HO283 := rb HO283 hb; replace HO287 := bS HO287 hb; replace HO293 := bS HO293 hb; replace HO298 := rb HO298 hb; replace HO303 := bS HO303 hb; replace HO310 := bS HO310 hb; replace HO315 := rb HO315 hb; replace BK272 := bb BK272 hb; replace BK273 := bb BK273 hb; replace BK289 := bb BK289 hb; replace BK294 := bb BK294 hb; replace BK299 := bb BK299 hb; replace BK305 := bb BK305 hb; replace HB := bs HB hb; (try clear hb)))
               have SL272_w119 := Aside0.mk (blk_lt BK272.out : gb272 < w119.heap.size)
               have SL273_w119 := Aside0.mk (blk_lt BK273.out : gb273 < w119.heap.size)
               have n_ := Aside0.mk (Kd.S_mono (Kd.S_bound HO279.out) (fun k_ hk_ => (⟨hk_.1, hk_.2.2.1⟩ : _ ∧ k_ < w119.heap.size)))
               clear HO279
               have HO279 := n_
               clear n_
               have n_ := Aside0.mk (Kd.R_mono (Kd.R_bound HO283.out) (fun k_ hk_ => (⟨hk_.1, hk_.2.2.1⟩ : _ ∧ k_ < w119.heap.size)))
               clear HO283
               have HO283 := n_
               clear n_
               have n_ := Aside0.mk (Kd.S_mono (Kd.S_bound HO287.out) (fun k_ hk_ => (⟨hk_.1, hk_.2.2.1⟩ : _ ∧ k_ < w119.heap.size)))
               clear HO287
               have HO287 := n_
               clear n_
               have SL289_w119 := Aside0.mk (blk_lt BK289.out : gb289 < w119.heap.size)
               have n_ := Aside0.mk (Kd.S_mono (Kd.S_bound HO293.out) (fun k_ hk_ => (⟨hk_.1, hk_.2.2.1⟩ : _ ∧ k_ < w119.heap.size)))
               clear HO293
               have HO293 := n_
               clear n_
               have SL294_w119 := Aside0.mk (blk_lt BK294.out : gb294 < w119.heap.size)
               have n_ := Aside0.mk (Kd.R_mono (Kd.R_bound HO298.out) (fun k_ hk_ => (⟨hk_.1, hk_.2.2.1⟩ : _ ∧ k_ < w119.heap.size)))
               clear HO298
               have HO298 := n_
               clear n_
               have SL299_w119 := Aside0.mk (blk_lt BK299.out : gb299 < w119.heap.size)
               have n_ := Aside0.mk (Kd.S_mono (Kd.S_bound HO303.out) (fun k_ hk_ => (⟨hk_.1, hk_.2.2.1⟩ : _ ∧ k_ < w119.heap.size)))
               clear HO303
               have HO303 := n_
               clear n_
               have SL305_w119 := Aside0.mk (blk_lt BK305.out : gb305 < w119.heap.size)
               have n_ := Aside0.mk (Kd.S_mono (Kd.S_bound HO310.out) (fun k_ hk_ => (⟨hk_.1, hk_.2.2.1⟩ : _ ∧ k_ < w119.heap.size)))
               clear HO310
               have HO310 := n_
               clear n_
               have n_ := Aside0.mk (Kd.R_mono (Kd.R_bound HO315.out) (fun k_ hk_ => (⟨hk_.1, hk_.2.2.1⟩ : _ ∧ k_ < w119.heap.size)))
               clear HO315
               have HO315 := n_
               clear n_
               replace HO279 := Aside0.mk (Kd.S_drew HO279.out)
               replace HO283 := Aside0.mk (Kd.R_drew HO283.out)
               replace HO287 := Aside0.mk (Kd.S_drew HO287.out)
               replace HO293 := Aside0.mk (Kd.S_drew HO293.out)
               replace HO298 := Aside0.mk (Kd.R_drew HO298.out)
               replace HO303 := Aside0.mk (Kd.S_drew HO303.out)
               replace HO310 := Aside0.mk (Kd.S_drew HO310.out)
               replace HO315 := Aside0.mk (Kd.R_drew HO315.out)
               replace BK272 := Aside0.mk (blk_drew BK272.out)
               replace BK273 := Aside0.mk (blk_drew BK273.out)
               replace BK289 := Aside0.mk (blk_drew BK289.out)
               replace BK294 := Aside0.mk (blk_drew BK294.out)
               replace BK299 := Aside0.mk (blk_drew BK299.out)
               replace BK305 := Aside0.mk (blk_drew BK305.out)
               replace HB := Aside0.mk (below_drew1 HB.out)
               have LWw120 := Aside0.mk (show w119.heap.size ≤ w119.drew.heap.size from Nat.le_refl _)
               refine start_ (n := 11) (S := fun w' => w'.cell? ⟨gb272, 0, none⟩ = some (.int .i64 a0_0) ∧ w'.cell? ⟨gb272, 1, none⟩ = some (.slice A0_1 l0_1.length c0_1) ∧ w'.cell? ⟨gb273, 0, none⟩ = some (.int .i64 a1_0) ∧ w'.cell? ⟨gb273, 1, none⟩ = some (.slice A1_1 l1_1.length c1_1)) (ds := []) #[false, false, false, false, false, false, false, false, false, false, false] (by kernel_rfl) rfl rfl ⟨(c2 BK272).1, (c2 BK272).2, (c2 BK273).1, (c2 BK273).2⟩ (fun hHeld => ?_); refine with_tabW laws_FnExactAddRow.tab31 laws_FnExactAddRow.bits31 (fun HT_ HW_ => ?_)
               generalize w119.drew = w120 at HO279 HO283 HO287 HO293 HO298 HO303 HO310 HO315 BK272 BK273 BK289 BK294 BK299 BK305 HB LWw120 hHeld ⊢
               refine take_ (i := 0) (N := some 95) (v := ?_) (a' := ?_) #[true, false, false, false, false, false, false, false, false, false, false] rfl rfl (take_ofW HT_.out HW_.out (by kernel_rfl)) (fun _ _ _ h => h) (Or.inl ⟨by rfl, ?_⟩) hHeld ?_ ?_
               rotate_left
               ·rintro w' ⟨s0, s1, s2, s3⟩
                go_simp
                with_reducible rfl
               rotate_left
               ·simp only [Act.put, List.setIfInBounds_toArray, List.set_cons_zero, List.set_cons_succ, i64_w, i32_w]
                rfl
               refine take_ (i := 2) (N := some 97) (v := ?_) (a' := ?_) #[true, false, true, false, false, false, false, false, false, false, false] rfl rfl (take_ofW HT_.out HW_.out (by kernel_rfl)) (fun _ _ _ h => h) (Or.inl ⟨by rfl, ?_⟩) hHeld ?_ ?_
               rotate_left
               ·rintro w' ⟨s0, s1, s2, s3⟩
                go_simp
                with_reducible rfl
               rotate_left
               ·simp only [Act.put, List.setIfInBounds_toArray, List.set_cons_zero, List.set_cons_succ, i64_w, i32_w]
                rfl
               refine join_ (σ := Value × Value × Value × Nat) 2 #[true, true, true, true, true, true, true, true, true, false, false] (fun s_ => [(96, .agg #[.int .i64 t325, s_.1]), (98, .agg #[.int .i64 t329, s_.2.1]), (99, .tuple #[.agg #[.int .i64 t333, s_.2.2.1], .bool t337]), (15, .pointer (some ⟨s_.2.2.2, 0, none⟩)), (94, .tuple #[.agg #[.int .i64 t333, s_.2.2.1], .bool t337]), (100, .agg #[.int .i64 t333, s_.2.2.1]), (101, .bool t337)]) (fun s_ w' => (w'.cell? ⟨gb272, 0, none⟩ = some (.int .i64 a0_0) ∧ w'.cell? ⟨gb272, 1, none⟩ = some (.slice A0_1 l0_1.length c0_1) ∧ w'.cell? ⟨gb273, 0, none⟩ = some (.int .i64 a1_0) ∧ w'.cell? ⟨gb273, 1, none⟩ = some (.slice A1_1 l1_1.length c1_1)) ∧ (Kd.S k29 29 w' w.heap.size (fun k_ => some k_ ≠ (v282 : Value).ownBlock ∧ some k_ ≠ (.slice Ao68 t285.length co68 : Value).ownBlock ∧ some k_ ≠ (.slice Ao78 t291.length co78 : Value).ownBlock ∧ some k_ ≠ (.slice Ao88 t296.length co88 : Value).ownBlock ∧ some k_ ≠ (.slice Ao98 t301.length co98 : Value).ownBlock ∧ some k_ ≠ (.slice Ao103 t308.length co103 : Value).ownBlock ∧ some k_ ≠ (.slice Ao107 t313.length co107 : Value).ownBlock ∧ some k_ ≠ (s_.1 : Value).ownBlock ∧ some k_ ≠ (s_.2.1 : Value).ownBlock ∧ some k_ ≠ (s_.2.2.1 : Value).ownBlock ∧ k_ ≠ gb299 ∧ k_ < w66.heap.size ∧ k_ < w72.heap.size ∧ k_ < w73.heap.size ∧ k_ < w81.heap.size ∧ k_ < w82.heap.size ∧ k_ < w90.heap.size ∧ k_ < w100.heap.size ∧ k_ < w104.heap.size ∧ k_ < w119.heap.size) v278 t277) ∧ (Kd.R (Kd.int .i64) 3 w' w.heap.size (fun k_ => some k_ ≠ (.slice Ao88 t296.length co88 : Value).ownBlock ∧ some k_ ≠ (.slice Ao107 t313.length co107 : Value).ownBlock ∧ some k_ ≠ (s_.2.1 : Value).ownBlock ∧ k_ < w66.heap.size ∧ k_ < w72.heap.size ∧ k_ < w73.heap.size ∧ k_ < w81.heap.size ∧ k_ < w82.heap.size ∧ k_ < w90.heap.size ∧ k_ < w100.heap.size ∧ k_ < w104.heap.size ∧ k_ < w119.heap.size) v282 t281) ∧ (Kd.S k29 29 w' w.heap.size (fun k_ => some k_ ≠ (v278 : Value).ownBlock ∧ some k_ ≠ (v282 : Value).ownBlock ∧ some k_ ≠ (.slice Ao78 t291.length co78 : Value).ownBlock ∧ some k_ ≠ (.slice Ao88 t296.length co88 : Value).ownBlock ∧ some k_ ≠ (.slice Ao98 t301.length co98 : Value).ownBlock ∧ some k_ ≠ (.slice Ao103 t308.length co103 : Value).ownBlock ∧ some k_ ≠ (.slice Ao107 t313.length co107 : Value).ownBlock ∧ some k_ ≠ (s_.1 : Value).ownBlock ∧ some k_ ≠ (s_.2.1 : Value).ownBlock ∧ some k_ ≠ (s_.2.2.1 : Value).ownBlock ∧ k_ ≠ gb299 ∧ k_ < w66.heap.size ∧ k_ < w72.heap.size ∧ k_ < w73.heap.size ∧ k_ < w81.heap.size ∧ k_ < w82.heap.size ∧ k_ < w90.heap.size ∧ k_ < w100.heap.size ∧ k_ < w104.heap.size ∧ k_ < w119.heap.size) (.slice Ao68 t285.length co68) t285) ∧ (Kd.S k29 29 w' w.heap.size (fun k_ => some k_ ≠ (s_.1 : Value).ownBlock ∧ some k_ ≠ (s_.2.1 : Value).ownBlock ∧ some k_ ≠ (s_.2.2.1 : Value).ownBlock ∧ w66.heap.size ≤ k_ ∧ k_ < w72.heap.size ∧ k_ < w73.heap.size ∧ k_ < w81.heap.size ∧ k_ < w82.heap.size ∧ k_ < w90.heap.size ∧ k_ < w100.heap.size ∧ k_ < w104.heap.size ∧ k_ < w119.heap.size) (.slice Ao78 t291.length co78) t318) ∧ (Kd.R (Kd.int .i64) 3 w' w.heap.size (fun k_ => some k_ ≠ (v282 : Value).ownBlock ∧ some k_ ≠ (.slice Ao107 t313.length co107 : Value).ownBlock ∧ some k_ ≠ (s_.2.1 : Value).ownBlock ∧ w73.heap.size ≤ k_ ∧ k_ < w81.heap.size ∧ k_ < w82.heap.size ∧ k_ < w90.heap.size ∧ k_ < w100.heap.size ∧ k_ < w104.heap.size ∧ k_ < w119.heap.size) (.slice Ao88 t296.length co88) t320) ∧ (Kd.S k29 29 w' w.heap.size (fun k_ => some k_ ≠ (s_.1 : Value).ownBlock ∧ some k_ ≠ (s_.2.1 : Value).ownBlock ∧ some k_ ≠ (s_.2.2.1 : Value).ownBlock ∧ w82.heap.size ≤ k_ ∧ k_ < w90.heap.size ∧ k_ < w100.heap.size ∧ k_ < w104.heap.size ∧ k_ < w119.heap.size) (.slice Ao98 t301.length co98) t323) ∧ (Kd.S k29 29 w' w.heap.size (fun k_ => some k_ ≠ (v278 : Value).ownBlock ∧ some k_ ≠ (v282 : Value).ownBlock ∧ some k_ ≠ (.slice Ao68 t285.length co68 : Value).ownBlock ∧ some k_ ≠ (.slice Ao78 t291.length co78 : Value).ownBlock ∧ some k_ ≠ (.slice Ao88 t296.length co88 : Value).ownBlock ∧ some k_ ≠ (.slice Ao98 t301.length co98 : Value).ownBlock ∧ some k_ ≠ (.slice Ao107 t313.length co107 : Value).ownBlock ∧ some k_ ≠ (s_.1 : Value).ownBlock ∧ some k_ ≠ (s_.2.1 : Value).ownBlock ∧ some k_ ≠ (s_.2.2.1 : Value).ownBlock ∧ k_ ≠ gb299 ∧ w100.heap.size ≤ k_ ∧ k_ < w104.heap.size ∧ k_ < w119.heap.size) (.slice Ao103 t308.length co103) t308) ∧ (Kd.R (Kd.int .i64) 3 w' w.heap.size (fun k_ => some k_ ≠ (v282 : Value).ownBlock ∧ some k_ ≠ (.slice Ao88 t296.length co88 : Value).ownBlock ∧ some k_ ≠ (s_.2.1 : Value).ownBlock ∧ w104.heap.size ≤ k_ ∧ k_ < w119.heap.size) (.slice Ao107 t313.length co107) t313) ∧ (Kd.S k29 29 w' w.heap.size (fun k_ => some k_ ≠ (v278 : Value).ownBlock ∧ some k_ ≠ (v282 : Value).ownBlock ∧ some k_ ≠ (.slice Ao68 t285.length co68 : Value).ownBlock ∧ some k_ ≠ (.slice Ao78 t291.length co78 : Value).ownBlock ∧ some k_ ≠ (.slice Ao88 t296.length co88 : Value).ownBlock ∧ some k_ ≠ (.slice Ao98 t301.length co98 : Value).ownBlock ∧ some k_ ≠ (.slice Ao103 t308.length co103 : Value).ownBlock ∧ some k_ ≠ (.slice Ao107 t313.length co107 : Value).ownBlock ∧ some k_ ≠ (s_.2.1 : Value).ownBlock ∧ some k_ ≠ (s_.2.2.1 : Value).ownBlock ∧ k_ ≠ gb299) s_.1 t326) ∧ (Kd.R (Kd.int .i64) 3 w' w.heap.size (fun k_ => some k_ ≠ (v282 : Value).ownBlock ∧ some k_ ≠ (.slice Ao88 t296.length co88 : Value).ownBlock ∧ some k_ ≠ (.slice Ao107 t313.length co107 : Value).ownBlock) s_.2.1 t330) ∧ (Kd.S k29 29 w' w.heap.size (fun k_ => some k_ ≠ (v278 : Value).ownBlock ∧ some k_ ≠ (v282 : Value).ownBlock ∧ some k_ ≠ (.slice Ao68 t285.length co68 : Value).ownBlock ∧ some k_ ≠ (.slice Ao78 t291.length co78 : Value).ownBlock ∧ some k_ ≠ (.slice Ao88 t296.length co88 : Value).ownBlock ∧ some k_ ≠ (.slice Ao98 t301.length co98 : Value).ownBlock ∧ some k_ ≠ (.slice Ao103 t308.length co103 : Value).ownBlock ∧ some k_ ≠ (.slice Ao107 t313.length co107 : Value).ownBlock ∧ some k_ ≠ (s_.1 : Value).ownBlock ∧ some k_ ≠ (s_.2.1 : Value).ownBlock ∧ k_ ≠ gb299) s_.2.2.1 t334) ∧ (w'.heap[gb272]? = some (.cells #[.int .i64 a0_0, .slice A0_1 l0_1.length c0_1] 42 (0, 0))) ∧ (w'.heap[gb273]? = some (.cells #[.int .i64 a1_0, .slice A1_1 l1_1.length c1_1] 43 (0, 0))) ∧ (w'.heap[gb289]? = some (.cells #[.int .i64 t284, .slice Ao68 t285.length co68] 26 (0, 0))) ∧ (w'.heap[gb294]? = some (.cells #[.int .i64 t290, .slice Ao78 t291.length co78] 26 (0, 0))) ∧ (w'.heap[gb299]? = some (.cells #[.int .i64 t295, .slice Ao88 t296.length co88] 29 (0, 0))) ∧ (w'.heap[gb305]? = some (.cells #[.int .i64 t300, .slice Ao98 t301.length co98] 26 (0, 0))) ∧ (w'.heap[s_.2.2.2]? = some (.cells #[.int .i64 0, .slice none 0 0] 26 (0, 0))) ∧ (w.heap.size ≤ s_.2.2.2) ∧ (w.heap.size ≤ s_.2.2.2) ∧ (gb272 ≠ s_.2.2.2) ∧ (s_.2.2.2 ≠ gb272) ∧ (gb273 ≠ s_.2.2.2) ∧ (s_.2.2.2 ≠ gb273) ∧ (gb289 ≠ s_.2.2.2) ∧ (s_.2.2.2 ≠ gb289) ∧ (gb294 ≠ s_.2.2.2) ∧ (s_.2.2.2 ≠ gb294) ∧ (gb299 ≠ s_.2.2.2) ∧ (s_.2.2.2 ≠ gb299) ∧ (gb305 ≠ s_.2.2.2) ∧ (s_.2.2.2 ≠ gb305) ∧ (Below w.heap.size w w')) ?_ ?_
               rotate_left
               ·intro hCont
                refine two_ (i := 1) (j := 8) (Ni := some 96) (Nj := some 15) #[true, true, true, false, false, false, false, false, false, false, false] #[true, false, true, false, false, false, false, false, true, false, false] rfl rfl rfl rfl (two_of HT_.out (by kernel_rfl)) (by decide) (by decide) (fun K hK => ?_) (fun K hK => ?_)
                ·skip
                 refine gs Try.func25 (by kernel_rfl) rfl #[.agg #[.int .i64 a0_0, .slice A0_1 l0_1.length c0_1]] (by rfl) rfl rfl ?_
                 with_reducible refine (laws_toSystem.calls k a0_0 _ _ l0_1 t325 t326 _ ?side1 ?side2 A43.out).mono ?_
                 (case side1 => exact mc ((Kd.C_below HR0_1.out HB.out)))
                 (case side2 => exact HC0_1.out)
                 rintro e w121 ⟨v327, rfl, ho0, hb⟩
                 refine ⟨_, rfl, ?_⟩
                 have HO328 := Aside0.mk (Kd.S_lower (Kd.S_newB (Kd.S_new' (Kd.S_new' (Kd.S_new' (Kd.S_new' (Kd.S_new' (Kd.S_new' (Kd.S_new' (Kd.S_new' ho0 (Kd.S_lt (mS HO279))) (Kd.R_lt (mr HO283))) (Kd.S_lt (mS HO287))) (Kd.S_lt (mS HO293))) (Kd.R_lt (mr HO298))) (Kd.S_lt (mS HO303))) (Kd.S_lt (mS HO310))) (Kd.R_lt (mr HO315))) (g := gb299) (o := .cells #[.int .i64 t295, .slice Ao88 t296.length co88] 29 (0, 0)) (mb BK299)) (below_size (ms HB)))
                 replace HO279 := Aside0.mk (Kd.S_elder' (mS HO279) (Kd.S_base ho0) hb)
                 replace HO283 := rb HO283 hb
                 replace HO287 := Aside0.mk (Kd.S_elder' (mS HO287) (Kd.S_base ho0) hb)
                 replace HO293 := Aside0.mk (Kd.S_elder' (mS HO293) (Kd.S_base ho0) hb)
                 replace HO298 := rb HO298 hb
                 replace HO303 := Aside0.mk (Kd.S_elder' (mS HO303) (Kd.S_base ho0) hb)
                 replace HO310 := Aside0.mk (Kd.S_elder' (mS HO310) (Kd.S_base ho0) hb)
                 replace HO315 := rb HO315 hb
                 replace BK272 := bb BK272 hb
                 replace BK273 := bb BK273 hb
                 replace BK289 := bb BK289 hb
                 replace BK294 := bb BK294 hb
                 replace BK299 := bb BK299 hb
                 replace BK305 := bb BK305 hb
                 replace HB := bs HB hb
                 (try clear hb)
                 (try clear hb2)
                 (try clear hk)
                 (try clear hi)
                 (try clear ho0)
                 refine hK.out _ _ ⟨(c2 BK272).1, (c2 BK272).2, (c2 BK273).1, (c2 BK273).2⟩ (fun hHeld => ?_)
                 clear hK K
                 refine norm_ (a' := ?_) ?_ ?_
                 rotate_left
                 ·show Act.put _ (some 96) _ = _
                  simp only [Act.put, List.setIfInBounds_toArray, List.set_cons_zero, List.set_cons_succ, i64_w, i32_w]
                  rfl
                 refine two_ (i := 3) (j := 8) (Ni := some 98) (Nj := some 15) #[true, true, true, true, false, false, false, false, false, false, false] #[true, true, true, false, false, false, false, false, true, false, false] rfl rfl rfl rfl (two_of HT_.out (by kernel_rfl)) (by decide) (by decide) (fun K hK => ?_) (fun K hK => ?_)
                 ·skip
                  refine gs Try.func26 (by kernel_rfl) rfl #[.agg #[.int .i64 a1_0, .slice A1_1 l1_1.length c1_1]] (by rfl) rfl rfl ?_
                  with_reducible refine (laws_toLin.calls k a1_0 _ _ l1_1 t329 t330 _ ?side1 ?side2 A44.out).mono ?_
                  (case side1 => exact mc ((Kd.C_below HR1_1.out HB.out)))
                  (case side2 => exact HC1_1.out)
                  rintro e w122 ⟨v331, rfl, ho0, hb⟩
                  refine ⟨_, rfl, ?_⟩
                  replace HO279 := lS HO279 ho0 hb
                  replace HO287 := lS HO287 ho0 hb
                  replace HO293 := lS HO293 ho0 hb
                  replace HO303 := lS HO303 ho0 hb
                  replace HO310 := lS HO310 ho0 hb
                  replace HO328 := lS HO328 ho0 hb
                  have HO332 := Aside0.mk (Kd.R_lower (Kd.R_new' (Kd.R_new' (Kd.R_new' ho0 (Kd.R_lt (mr HO283))) (Kd.R_lt (mr HO298))) (Kd.R_lt (mr HO315))) (below_size (ms HB)))
                  replace HO283 := rl HO283 ho0 hb
                  replace HO298 := rl HO298 ho0 hb
                  replace HO315 := rl HO315 ho0 hb
                  replace BK272 := bb BK272 hb
                  replace BK273 := bb BK273 hb
                  replace BK289 := bb BK289 hb
                  replace BK294 := bb BK294 hb
                  replace BK299 := bb BK299 hb
                  replace BK305 := bb BK305 hb
                  replace HB := bs HB hb
                  (try clear hb)
                  (try clear hb2)
                  (try clear hk)
                  (try clear hi)
                  (try clear ho0)
                  obtain ⟨Ao123, co123, eo123⟩ := Kd.S_slice HO328.out
                  (first | subst eo123 | (injection eo123 with f1_ f2_ f3_; have f4_ := f1_.symm; have f5_ := f3_.symm; clear f1_ f2_ f3_; subst f4_; subst f5_))
                  obtain ⟨Ao124, co124, eo124⟩ := Kd.R_slice HO332.out
                  (first | subst eo124 | (injection eo124 with f1_ f2_ f3_; have f4_ := f1_.symm; have f5_ := f3_.symm; clear f1_ f2_ f3_; subst f4_; subst f5_))
                  refine hK.out _ _ ⟨(c2 BK272).1, (c2 BK272).2, (c2 BK273).1, (c2 BK273).2⟩ (fun hHeld => ?_)
                  clear hK K
                  refine norm_ (a' := ?_) ?_ ?_
                  rotate_left
                  ·show Act.put _ (some 98) _ = _
                   simp only [Act.put, List.setIfInBounds_toArray, List.set_cons_zero, List.set_cons_succ, i64_w, i32_w]
                   rfl
                  refine two_ (i := 4) (j := 8) (Ni := some 99) (Nj := some 15) #[true, true, true, true, true, false, false, false, false, false, false] #[true, true, true, true, false, false, false, false, true, false, false] rfl rfl rfl rfl (two_of HT_.out (by kernel_rfl)) (by decide) (by decide) (fun K hK => ?_) (fun K hK => ?_)
                  ·skip
                   refine gs Try.func27 (by kernel_rfl) rfl #[.agg #[.int .i64 t325, .slice Ao123 t326.length co123], .agg #[.int .i64 t329, .slice Ao124 t330.length co124]] (by rfl) rfl rfl ?_
                   with_reducible refine (impl_AddRow.calls k t325 _ _ t326 t329 _ _ t330 t333 t334 t337 _ ?side1 ?side2 ?side3 ?side4 A45.out).mono ?_
                   (case side1 => exact mc ((Kd.S_reads' HO328.out).2.2))
                   (case side2 => exact (Kd.S_reads' HO328.out).2.1)
                   (case side3 => exact mc ((Kd.R_reads' HO332.out).2.2))
                   (case side4 => exact (Kd.R_reads' HO332.out).2.1)
                   rintro e w125 ⟨v335, rfl, ho0, hb⟩
                   refine ⟨_, rfl, ?_⟩
                   have HO336 := Aside0.mk (Kd.S_lower (Kd.S_newB (Kd.S_new' (Kd.S_new' (Kd.S_new' (Kd.S_new' (Kd.S_new' (Kd.S_new' (Kd.S_new' (Kd.S_new' (Kd.S_new' (Kd.S_new' ho0 (Kd.S_lt (mS HO279))) (Kd.R_lt (mr HO283))) (Kd.S_lt (mS HO287))) (Kd.S_lt (mS HO293))) (Kd.R_lt (mr HO298))) (Kd.S_lt (mS HO303))) (Kd.S_lt (mS HO310))) (Kd.R_lt (mr HO315))) (Kd.S_lt (mS HO328))) (Kd.R_lt (mr HO332))) (g := gb299) (o := .cells #[.int .i64 t295, .slice Ao88 t296.length co88] 29 (0, 0)) (mb BK299)) (below_size (ms HB)))
                   replace HO279 := Aside0.mk (Kd.S_elder' (mS HO279) (Kd.S_base ho0) hb)
                   replace HO283 := rb HO283 hb
                   replace HO287 := Aside0.mk (Kd.S_elder' (mS HO287) (Kd.S_base ho0) hb)
                   replace HO293 := Aside0.mk (Kd.S_elder' (mS HO293) (Kd.S_base ho0) hb)
                   replace HO298 := rb HO298 hb
                   replace HO303 := Aside0.mk (Kd.S_elder' (mS HO303) (Kd.S_base ho0) hb)
                   replace HO310 := Aside0.mk (Kd.S_elder' (mS HO310) (Kd.S_base ho0) hb)
                   replace HO315 := rb HO315 hb
                   replace HO328 := Aside0.mk (Kd.S_elder' (mS HO328) (Kd.S_base ho0) hb)
                   replace HO332 := rb HO332 hb
                   replace BK272 := bb BK272 hb
                   replace BK273 := bb BK273 hb
                   replace BK289 := bb BK289 hb
                   replace BK294 := bb BK294 hb
                   replace BK299 := bb BK299 hb
                   replace BK305 := bb BK305 hb
                   replace HB := bs HB hb
                   (try clear hb)
                   (try clear hb2)
                   (try clear hk)
                   (try clear hi)
                   (try clear ho0)
                   refine hK.out _ _ ⟨(c2 BK272).1, (c2 BK272).2, (c2 BK273).1, (c2 BK273).2⟩ (fun hHeld => ?_)
                   clear hK K
                   refine norm_ (a' := ?_) ?_ ?_
                   rotate_left
                   ·show Act.put _ (some 99) _ = _
                    simp only [Act.put, List.setIfInBounds_toArray, List.set_cons_zero, List.set_cons_succ, i64_w, i32_w]
                    rfl
                   refine pure_ (i := 5) (N := some 94) (v := ?_) (a' := ?_) #[true, true, true, true, true, true, false, false, false, false, false] rfl rfl (any_of HT_.out (by kernel_rfl)) (fun _ _ _ h => h) (Or.inl ⟨by rfl, ?_⟩) ?_ ?_
                   rotate_left
                   ·intro w'
                    go_simp
                    with_reducible rfl
                   rotate_left
                   ·simp only [Act.put, List.setIfInBounds_toArray, List.set_cons_zero, List.set_cons_succ, i64_w, i32_w]
                    rfl
                   refine pure_ (i := 6) (N := some 100) (v := ?_) (a' := ?_) #[true, true, true, true, true, true, true, false, false, false, false] rfl rfl (any_of HT_.out (by kernel_rfl)) (fun _ _ _ h => h) (Or.inl ⟨by rfl, ?_⟩) ?_ ?_
                   rotate_left
                   ·intro w'
                    go_simp
                    with_reducible rfl
                   rotate_left
                   ·simp only [Act.put, List.setIfInBounds_toArray, List.set_cons_zero, List.set_cons_succ, i64_w, i32_w]
                    rfl
                   refine pure_ (i := 7) (N := some 101) (v := ?_) (a' := ?_) #[true, true, true, true, true, true, true, true, false, false, false] rfl rfl (any_of HT_.out (by kernel_rfl)) (fun _ _ _ h => h) (Or.inl ⟨by rfl, ?_⟩) ?_ ?_
                   rotate_left
                   ·intro w'
                    go_simp
                    with_reducible rfl
                   rotate_left
                   ·simp only [Act.put, List.setIfInBounds_toArray, List.set_cons_zero, List.set_cons_succ, i64_w, i32_w]
                    rfl
                   refine one_ (i := 8) (N := some 15) #[true, true, true, true, true, true, true, true, true, false, false] rfl rfl (one_of HT_.out (by kernel_rfl)) (by decide) (fun K hK => ?_)
                   refine box_step ?hg (N := 15) ?hd (cs := #[.int .i64 0, .slice none 0 0]) (t := 26) ?hr ?_; (case hd => rfl); (case hg => rfl); (case hr => first | (go_simp; done) | (go_simp; rfl))
                   intro gb338 hg w126 hbox hb
                   replace HO279 := bS HO279 hb
                   replace HO283 := rb HO283 hb
                   replace HO287 := bS HO287 hb
                   replace HO293 := bS HO293 hb
                   replace HO298 := rb HO298 hb
                   replace HO303 := bS HO303 hb
                   replace HO310 := bS HO310 hb
                   replace HO315 := rb HO315 hb
                   replace HO328 := bS HO328 hb
                   replace HO332 := rb HO332 hb
                   replace HO336 := bS HO336 hb
                   have BK338 := Aside0.mk (hbox)
                   have GW338 := gw hg HB
                   have GE338 := gw hg HB
                   replace HB := bs HB hb
                   have NB272_338 := nl hg BK272
                   have NB338_272 := ng hg BK272
                   replace BK272 := bb BK272 hb
                   have NB273_338 := nl hg BK273
                   have NB338_273 := ng hg BK273
                   replace BK273 := bb BK273 hb
                   have NB289_338 := nl hg BK289
                   have NB338_289 := ng hg BK289
                   replace BK289 := bb BK289 hb
                   have NB294_338 := nl hg BK294
                   have NB338_294 := ng hg BK294
                   replace BK294 := bb BK294 hb
                   have NB299_338 := nl hg BK299
                   have NB338_299 := ng hg BK299
                   replace BK299 := bb BK299 hb
                   have NB305_338 := nl hg BK305
                   have NB338_305 := ng hg BK305
                   replace BK305 := bb BK305 hb
                   clear hb hbox hg
                   refine hK.out _ _ ⟨(c2 BK272).1, (c2 BK272).2, (c2 BK273).1, (c2 BK273).2⟩ (fun hHeld => ?_)
                   clear hK K
                   refine norm_ (a' := ?_) ?_ ?_
                   rotate_left
                   ·show Act.put _ (some 15) _ = _
                    simp only [Act.put, List.setIfInBounds_toArray, List.set_cons_zero, List.set_cons_succ, i64_w, i32_w]
                    rfl
                   exact norm_ (by simp only [putAll, Act.put, List.setIfInBounds_toArray, List.set_cons_zero, List.set_cons_succ]) (hCont (.slice Ao123 t326.length co123, .slice Ao124 t330.length co124, v335, gb338) _ ⟨hHeld, (by (with_reducible repeat (first | apply Kd.S_alloc | apply Kd.S_drewN | apply Kd.S_drew)); exact Kd.S_mono HO279.out (fun _ hk => ⟨hk.1.1.1.1.1.1.1.1.1.1.1.1.1.1.1.1.1.1.1, ⟨hk.1.1.1.1.1.1.1.1.1.1.1.1.1.1.1.1.1.1.2, ⟨hk.1.1.1.1.1.1.1.1.1.1.1.1.1.1.1.1.2, ⟨hk.1.1.1.1.1.1.1.1.1.1.1.1.1.2, ⟨hk.1.1.1.1.1.1.1.1.1.2, ⟨hk.1.1.1.1.1.1.2, ⟨hk.1.1.1.1.2, ⟨hk.1.1.2, ⟨hk.1.2, ⟨hk.2, ⟨hk.1.1.1.1.1.1.1.1.1.1.1.2, ⟨hk.1.1.1.1.1.1.1.1.1.1.1.1.1.1.1.1.1.2, ⟨hk.1.1.1.1.1.1.1.1.1.1.1.1.1.1.1.2, ⟨hk.1.1.1.1.1.1.1.1.1.1.1.1.1.1.2, ⟨hk.1.1.1.1.1.1.1.1.1.1.1.1.2, ⟨hk.1.1.1.1.1.1.1.1.1.1.2, ⟨hk.1.1.1.1.1.1.1.1.2, ⟨hk.1.1.1.1.1.1.1.2, ⟨hk.1.1.1.1.1.2, hk.1.1.1.2⟩⟩⟩⟩⟩⟩⟩⟩⟩⟩⟩⟩⟩⟩⟩⟩⟩⟩⟩)), (by (with_reducible repeat (first | apply Kd.R_alloc | apply Kd.R_drewN | apply Kd.R_drew)); exact Kd.R_mono HO283.out (fun _ hk => ⟨hk.1.1.1.1.1.1.1.1.2, ⟨hk.1.1.2, ⟨hk.2, ⟨hk.1.1.1.1.1.1.1.1.1.1.1, ⟨hk.1.1.1.1.1.1.1.1.1.1.2, ⟨hk.1.1.1.1.1.1.1.1.1.2, ⟨hk.1.1.1.1.1.1.1.2, ⟨hk.1.1.1.1.1.1.2, ⟨hk.1.1.1.1.1.2, ⟨hk.1.1.1.1.2, ⟨hk.1.1.1.2, hk.1.2⟩⟩⟩⟩⟩⟩⟩⟩⟩⟩⟩)), (by (with_reducible repeat (first | apply Kd.S_alloc | apply Kd.S_drewN | apply Kd.S_drew)); exact Kd.S_mono HO287.out (fun _ hk => ⟨hk.1.1.1.1.1.1.1.1.1.1.1.1.1.1.1.1.1.1.1, ⟨hk.1.1.1.1.1.1.1.1.1.1.1.1.1.1.1.1.1.1.2, ⟨hk.1.1.1.1.1.1.1.1.1.1.1.1.1.1.1.1.2, ⟨hk.1.1.1.1.1.1.1.1.1.1.1.1.1.2, ⟨hk.1.1.1.1.1.1.1.1.1.2, ⟨hk.1.1.1.1.1.1.2, ⟨hk.1.1.1.1.2, ⟨hk.1.1.2, ⟨hk.1.2, ⟨hk.2, ⟨hk.1.1.1.1.1.1.1.1.1.1.1.2, ⟨hk.1.1.1.1.1.1.1.1.1.1.1.1.1.1.1.1.1.2, ⟨hk.1.1.1.1.1.1.1.1.1.1.1.1.1.1.1.2, ⟨hk.1.1.1.1.1.1.1.1.1.1.1.1.1.1.2, ⟨hk.1.1.1.1.1.1.1.1.1.1.1.1.2, ⟨hk.1.1.1.1.1.1.1.1.1.1.2, ⟨hk.1.1.1.1.1.1.1.1.2, ⟨hk.1.1.1.1.1.1.1.2, ⟨hk.1.1.1.1.1.2, hk.1.1.1.2⟩⟩⟩⟩⟩⟩⟩⟩⟩⟩⟩⟩⟩⟩⟩⟩⟩⟩⟩)), (by (with_reducible repeat (first | apply Kd.S_alloc | apply Kd.S_drewN | apply Kd.S_drew)); exact Kd.S_mono HO293.out (fun _ hk => ⟨hk.1.1.2, ⟨hk.1.2, ⟨hk.2, ⟨hk.1.1.1.1.1, ⟨hk.1.1.1.1.2.1, ⟨hk.1.1.1.1.2.2.1, ⟨hk.1.1.1.1.2.2.2.1, ⟨hk.1.1.1.1.2.2.2.2.1, ⟨hk.1.1.1.1.2.2.2.2.2.1, ⟨hk.1.1.1.1.2.2.2.2.2.2.1, ⟨hk.1.1.1.1.2.2.2.2.2.2.2, hk.1.1.1.2⟩⟩⟩⟩⟩⟩⟩⟩⟩⟩⟩)), (by (with_reducible repeat (first | apply Kd.R_alloc | apply Kd.R_drewN | apply Kd.R_drew)); exact Kd.R_mono HO298.out (fun _ hk => ⟨hk.1.1.1.1.1.1.1.1.1.2, ⟨hk.1.1.2, ⟨hk.2, ⟨hk.1.1.1.1.1.1.1.1.2, ⟨hk.1.1.1.1.1.1.1.2, ⟨hk.1.1.1.1.1.1.2, ⟨hk.1.1.1.1.1.2, ⟨hk.1.1.1.1.2, ⟨hk.1.1.1.2, hk.1.2⟩⟩⟩⟩⟩⟩⟩⟩⟩)), (by (with_reducible repeat (first | apply Kd.S_alloc | apply Kd.S_drewN | apply Kd.S_drew)); exact Kd.S_mono HO303.out (fun _ hk => ⟨hk.1.1.2, ⟨hk.1.2, ⟨hk.2, ⟨hk.1.1.1.1.1, ⟨hk.1.1.1.1.2.1, ⟨hk.1.1.1.1.2.2.1, ⟨hk.1.1.1.1.2.2.2, hk.1.1.1.2⟩⟩⟩⟩⟩⟩⟩)), (by (with_reducible repeat (first | apply Kd.S_alloc | apply Kd.S_drewN | apply Kd.S_drew)); exact Kd.S_mono HO310.out (fun _ hk => ⟨hk.1.1.1.1.1.1.1.1.1.1.1.1.1.2, ⟨hk.1.1.1.1.1.1.1.1.1.1.1.1.2, ⟨hk.1.1.1.1.1.1.1.1.1.1.1.2, ⟨hk.1.1.1.1.1.1.1.1.1.1.2, ⟨hk.1.1.1.1.1.1.1.1.1.2, ⟨hk.1.1.1.1.1.1.1.1.2, ⟨hk.1.1.1.1.2, ⟨hk.1.1.2, ⟨hk.1.2, ⟨hk.2, ⟨hk.1.1.1.1.1.1.1.2, ⟨hk.1.1.1.1.1.1.2, ⟨hk.1.1.1.1.1.2, hk.1.1.1.2⟩⟩⟩⟩⟩⟩⟩⟩⟩⟩⟩⟩⟩)), (by (with_reducible repeat (first | apply Kd.R_alloc | apply Kd.R_drewN | apply Kd.R_drew)); exact Kd.R_mono HO315.out (fun _ hk => ⟨hk.1.1.1.1.2, ⟨hk.1.1.1.2, ⟨hk.2, ⟨hk.1.1.2, hk.1.2⟩⟩⟩⟩)), (by (with_reducible repeat (first | apply Kd.S_alloc | apply Kd.S_drewN | apply Kd.S_drew)); exact Kd.S_mono HO328.out (fun _ hk => ⟨hk.1.1.1.1.1.1.1.1.1.1.2, ⟨hk.1.1.1.1.1.1.1.1.1.2, ⟨hk.1.1.1.1.1.1.1.1.2, ⟨hk.1.1.1.1.1.1.1.2, ⟨hk.1.1.1.1.1.1.2, ⟨hk.1.1.1.1.1.2, ⟨hk.1.1.1.1.2, ⟨hk.1.1.1.2, ⟨hk.1.2, ⟨hk.2, hk.1.1.2⟩⟩⟩⟩⟩⟩⟩⟩⟩⟩)), (by (with_reducible repeat (first | apply Kd.R_alloc | apply Kd.R_drewN | apply Kd.R_drew)); exact Kd.R_mono HO332.out (fun _ hk => ⟨hk.1.1.2, ⟨hk.1.2, hk.2⟩⟩)), (by (with_reducible repeat (first | apply Kd.S_alloc | apply Kd.S_drewN | apply Kd.S_drew)); exact Kd.S_mono HO336.out (fun _ hk => ⟨hk.1.1.1.1.1.1.1.1.1.1.2, ⟨hk.1.1.1.1.1.1.1.1.1.2, ⟨hk.1.1.1.1.1.1.1.1.2, ⟨hk.1.1.1.1.1.1.1.2, ⟨hk.1.1.1.1.1.1.2, ⟨hk.1.1.1.1.1.2, ⟨hk.1.1.1.1.2, ⟨hk.1.1.1.2, ⟨hk.1.1.2, ⟨hk.1.2, hk.2⟩⟩⟩⟩⟩⟩⟩⟩⟩⟩)), (mb BK272), (mb BK273), (mb BK289), (mb BK294), (mb BK299), (mb BK305), (mb BK338), GW338.out, GE338.out, NB272_338.out, NB338_272.out, NB273_338.out, NB338_273.out, NB289_338.out, NB338_289.out, NB294_338.out, NB338_294.out, NB299_338.out, NB338_299.out, NB305_338.out, NB338_305.out, (ms HB)⟩)
                  ·skip
                   refine box_step ?hg (N := 15) ?hd (cs := #[.int .i64 0, .slice none 0 0]) (t := 26) ?hr ?_; (case hd => rfl); (case hg => rfl); (case hr => first | (go_simp; done) | (go_simp; rfl))
                   intro gb338 hg w123 hbox hb
                   replace HO279 := bS HO279 hb
                   replace HO283 := rb HO283 hb
                   replace HO287 := bS HO287 hb
                   replace HO293 := bS HO293 hb
                   replace HO298 := rb HO298 hb
                   replace HO303 := bS HO303 hb
                   replace HO310 := bS HO310 hb
                   replace HO315 := rb HO315 hb
                   replace HO328 := bS HO328 hb
                   replace HO332 := rb HO332 hb
                   have BK338 := Aside0.mk (hbox)
                   have GW338 := gw hg HB
                   have GE338 := gw hg HB
                   replace HB := bs HB hb
                   have NB272_338 := nl hg BK272
                   have NB338_272 := ng hg BK272
                   replace BK272 := bb BK272 hb
                   have NB273_338 := nl hg BK273
                   have NB338_273 := ng hg BK273
                   replace BK273 := bb BK273 hb
                   have NB289_338 := nl hg BK289
                   have NB338_289 := ng hg BK289
                   replace BK289 := bb BK289 hb
                   have NB294_338 := nl hg BK294
                   have NB338_294 := ng hg BK294
                   replace BK294 := bb BK294 hb
                   have NB299_338 := nl hg BK299
                   have NB338_299 := ng hg BK299
                   replace BK299 := bb BK299 hb
                   have NB305_338 := nl hg BK305
                   have NB338_305 := ng hg BK305
                   replace BK305 := bb BK305 hb
                   clear hb hbox hg
                   obtain ⟨Ao124, co124, eo124⟩ := Kd.S_slice HO328.out
                   (first | subst eo124 | (injection eo124 with f1_ f2_ f3_; have f4_ := f1_.symm; have f5_ := f3_.symm; clear f1_ f2_ f3_; subst f4_; subst f5_))
                   obtain ⟨Ao125, co125, eo125⟩ := Kd.R_slice HO332.out
                   (first | subst eo125 | (injection eo125 with f1_ f2_ f3_; have f4_ := f1_.symm; have f5_ := f3_.symm; clear f1_ f2_ f3_; subst f4_; subst f5_))
                   refine hK.out _ _ ⟨(c2 BK272).1, (c2 BK272).2, (c2 BK273).1, (c2 BK273).2⟩ (fun hHeld => ?_)
                   clear hK K
                   refine norm_ (a' := ?_) ?_ ?_
                   rotate_left
                   ·show Act.put _ (some 15) _ = _
                    simp only [Act.put, List.setIfInBounds_toArray, List.set_cons_zero, List.set_cons_succ, i64_w, i32_w]
                    rfl
                   refine one_ (i := 4) (N := some 99) #[true, true, true, true, true, false, false, false, true, false, false] rfl rfl (one_of HT_.out (by kernel_rfl)) (by decide) (fun K hK => ?_)
                   refine gs Try.func27 (by kernel_rfl) rfl #[.agg #[.int .i64 t325, .slice Ao124 t326.length co124], .agg #[.int .i64 t329, .slice Ao125 t330.length co125]] (by rfl) rfl rfl ?_
                   with_reducible refine (impl_AddRow.calls k t325 _ _ t326 t329 _ _ t330 t333 t334 t337 _ ?side1 ?side2 ?side3 ?side4 A45.out).mono ?_
                   (case side1 => exact mc ((Kd.S_reads' HO328.out).2.2))
                   (case side2 => exact (Kd.S_reads' HO328.out).2.1)
                   (case side3 => exact mc ((Kd.R_reads' HO332.out).2.2))
                   (case side4 => exact (Kd.R_reads' HO332.out).2.1)
                   rintro e w126 ⟨v335, rfl, ho0, hb⟩
                   refine ⟨_, rfl, ?_⟩
                   have HO336 := Aside0.mk (Kd.S_lower (Kd.S_newB (Kd.S_new' (Kd.S_new' (Kd.S_new' (Kd.S_new' (Kd.S_new' (Kd.S_new' (Kd.S_new' (Kd.S_new' (Kd.S_new' (Kd.S_new' ho0 (Kd.S_lt (mS HO279))) (Kd.R_lt (mr HO283))) (Kd.S_lt (mS HO287))) (Kd.S_lt (mS HO293))) (Kd.R_lt (mr HO298))) (Kd.S_lt (mS HO303))) (Kd.S_lt (mS HO310))) (Kd.R_lt (mr HO315))) (Kd.S_lt (mS HO328))) (Kd.R_lt (mr HO332))) (g := gb299) (o := .cells #[.int .i64 t295, .slice Ao88 t296.length co88] 29 (0, 0)) (mb BK299)) (below_size (ms HB)))
                   replace HO279 := Aside0.mk (Kd.S_elder' (mS HO279) (Kd.S_base ho0) hb)
                   replace HO283 := rb HO283 hb
                   replace HO287 := Aside0.mk (Kd.S_elder' (mS HO287) (Kd.S_base ho0) hb)
                   replace HO293 := Aside0.mk (Kd.S_elder' (mS HO293) (Kd.S_base ho0) hb)
                   replace HO298 := rb HO298 hb
                   replace HO303 := Aside0.mk (Kd.S_elder' (mS HO303) (Kd.S_base ho0) hb)
                   replace HO310 := Aside0.mk (Kd.S_elder' (mS HO310) (Kd.S_base ho0) hb)
                   replace HO315 := rb HO315 hb
                   replace HO328 := Aside0.mk (Kd.S_elder' (mS HO328) (Kd.S_base ho0) hb)
                   replace HO332 := rb HO332 hb
                   replace BK272 := bb BK272 hb
                   replace BK273 := bb BK273 hb
                   replace BK289 := bb BK289 hb
                   replace BK294 := bb BK294 hb
                   replace BK299 := bb BK299 hb
                   replace BK305 := bb BK305 hb
                   replace BK338 := bb BK338 hb
                   replace HB := bs HB hb
                   (try clear hb)
                   (try clear hb2)
                   (try clear hk)
                   (try clear hi)
                   (try clear ho0)
                   refine hK.out _ _ ⟨(c2 BK272).1, (c2 BK272).2, (c2 BK273).1, (c2 BK273).2⟩ (fun hHeld => ?_)
                   clear hK K
                   refine norm_ (a' := ?_) ?_ ?_
                   rotate_left
                   ·show Act.put _ (some 99) _ = _
                    simp only [Act.put, List.setIfInBounds_toArray, List.set_cons_zero, List.set_cons_succ, i64_w, i32_w]
                    rfl
                   refine pure_ (i := 5) (N := some 94) (v := ?_) (a' := ?_) #[true, true, true, true, true, true, false, false, true, false, false] rfl rfl (any_of HT_.out (by kernel_rfl)) (fun _ _ _ h => h) (Or.inl ⟨by rfl, ?_⟩) ?_ ?_
                   rotate_left
                   ·intro w'
                    go_simp
                    with_reducible rfl
                   rotate_left
                   ·simp only [Act.put, List.setIfInBounds_toArray, List.set_cons_zero, List.set_cons_succ, i64_w, i32_w]
                    rfl
                   refine pure_ (i := 6) (N := some 100) (v := ?_) (a' := ?_) #[true, true, true, true, true, true, true, false, true, false, false] rfl rfl (any_of HT_.out (by kernel_rfl)) (fun _ _ _ h => h) (Or.inl ⟨by rfl, ?_⟩) ?_ ?_
                   rotate_left
                   ·intro w'
                    go_simp
                    with_reducible rfl
                   rotate_left
                   ·simp only [Act.put, List.setIfInBounds_toArray, List.set_cons_zero, List.set_cons_succ, i64_w, i32_w]
                    rfl
                   refine pure_ (i := 7) (N := some 101) (v := ?_) (a' := ?_) #[true, true, true, true, true, true, true, true, true, false, false] rfl rfl (any_of HT_.out (by kernel_rfl)) (fun _ _ _ h => h) (Or.inl ⟨by rfl, ?_⟩) ?_ ?_
                   rotate_left
                   ·intro w'
                    go_simp
                    with_reducible rfl
                   rotate_left
                   ·simp only [Act.put, List.setIfInBounds_toArray, List.set_cons_zero, List.set_cons_succ, i64_w, i32_w]
                    rfl
                   exact norm_ (by simp only [putAll, Act.put, List.setIfInBounds_toArray, List.set_cons_zero, List.set_cons_succ]) (hCont (.slice Ao124 t326.length co124, .slice Ao125 t330.length co125, v335, gb338) _ ⟨hHeld, (by (with_reducible repeat (first | apply Kd.S_alloc | apply Kd.S_drewN | apply Kd.S_drew)); exact Kd.S_mono HO279.out (fun _ hk => ⟨hk.1.1.1.1.1.1.1.1.1.1.1.1.1.1.1.1.1.1.1, ⟨hk.1.1.1.1.1.1.1.1.1.1.1.1.1.1.1.1.1.1.2, ⟨hk.1.1.1.1.1.1.1.1.1.1.1.1.1.1.1.1.2, ⟨hk.1.1.1.1.1.1.1.1.1.1.1.1.1.2, ⟨hk.1.1.1.1.1.1.1.1.1.2, ⟨hk.1.1.1.1.1.1.2, ⟨hk.1.1.1.1.2, ⟨hk.1.1.2, ⟨hk.1.2, ⟨hk.2, ⟨hk.1.1.1.1.1.1.1.1.1.1.1.2, ⟨hk.1.1.1.1.1.1.1.1.1.1.1.1.1.1.1.1.1.2, ⟨hk.1.1.1.1.1.1.1.1.1.1.1.1.1.1.1.2, ⟨hk.1.1.1.1.1.1.1.1.1.1.1.1.1.1.2, ⟨hk.1.1.1.1.1.1.1.1.1.1.1.1.2, ⟨hk.1.1.1.1.1.1.1.1.1.1.2, ⟨hk.1.1.1.1.1.1.1.1.2, ⟨hk.1.1.1.1.1.1.1.2, ⟨hk.1.1.1.1.1.2, hk.1.1.1.2⟩⟩⟩⟩⟩⟩⟩⟩⟩⟩⟩⟩⟩⟩⟩⟩⟩⟩⟩)), (by (with_reducible repeat (first | apply Kd.R_alloc | apply Kd.R_drewN | apply Kd.R_drew)); exact Kd.R_mono HO283.out (fun _ hk => ⟨hk.1.1.1.1.1.1.1.1.2, ⟨hk.1.1.2, ⟨hk.2, ⟨hk.1.1.1.1.1.1.1.1.1.1.1, ⟨hk.1.1.1.1.1.1.1.1.1.1.2, ⟨hk.1.1.1.1.1.1.1.1.1.2, ⟨hk.1.1.1.1.1.1.1.2, ⟨hk.1.1.1.1.1.1.2, ⟨hk.1.1.1.1.1.2, ⟨hk.1.1.1.1.2, ⟨hk.1.1.1.2, hk.1.2⟩⟩⟩⟩⟩⟩⟩⟩⟩⟩⟩)), (by (with_reducible repeat (first | apply Kd.S_alloc | apply Kd.S_drewN | apply Kd.S_drew)); exact Kd.S_mono HO287.out (fun _ hk => ⟨hk.1.1.1.1.1.1.1.1.1.1.1.1.1.1.1.1.1.1.1, ⟨hk.1.1.1.1.1.1.1.1.1.1.1.1.1.1.1.1.1.1.2, ⟨hk.1.1.1.1.1.1.1.1.1.1.1.1.1.1.1.1.2, ⟨hk.1.1.1.1.1.1.1.1.1.1.1.1.1.2, ⟨hk.1.1.1.1.1.1.1.1.1.2, ⟨hk.1.1.1.1.1.1.2, ⟨hk.1.1.1.1.2, ⟨hk.1.1.2, ⟨hk.1.2, ⟨hk.2, ⟨hk.1.1.1.1.1.1.1.1.1.1.1.2, ⟨hk.1.1.1.1.1.1.1.1.1.1.1.1.1.1.1.1.1.2, ⟨hk.1.1.1.1.1.1.1.1.1.1.1.1.1.1.1.2, ⟨hk.1.1.1.1.1.1.1.1.1.1.1.1.1.1.2, ⟨hk.1.1.1.1.1.1.1.1.1.1.1.1.2, ⟨hk.1.1.1.1.1.1.1.1.1.1.2, ⟨hk.1.1.1.1.1.1.1.1.2, ⟨hk.1.1.1.1.1.1.1.2, ⟨hk.1.1.1.1.1.2, hk.1.1.1.2⟩⟩⟩⟩⟩⟩⟩⟩⟩⟩⟩⟩⟩⟩⟩⟩⟩⟩⟩)), (by (with_reducible repeat (first | apply Kd.S_alloc | apply Kd.S_drewN | apply Kd.S_drew)); exact Kd.S_mono HO293.out (fun _ hk => ⟨hk.1.1.2, ⟨hk.1.2, ⟨hk.2, ⟨hk.1.1.1.1.1, ⟨hk.1.1.1.1.2.1, ⟨hk.1.1.1.1.2.2.1, ⟨hk.1.1.1.1.2.2.2.1, ⟨hk.1.1.1.1.2.2.2.2.1, ⟨hk.1.1.1.1.2.2.2.2.2.1, ⟨hk.1.1.1.1.2.2.2.2.2.2.1, ⟨hk.1.1.1.1.2.2.2.2.2.2.2, hk.1.1.1.2⟩⟩⟩⟩⟩⟩⟩⟩⟩⟩⟩)), (by (with_reducible repeat (first | apply Kd.R_alloc | apply Kd.R_drewN | apply Kd.R_drew)); exact Kd.R_mono HO298.out (fun _ hk => ⟨hk.1.1.1.1.1.1.1.1.1.2, ⟨hk.1.1.2, ⟨hk.2, ⟨hk.1.1.1.1.1.1.1.1.2, ⟨hk.1.1.1.1.1.1.1.2, ⟨hk.1.1.1.1.1.1.2, ⟨hk.1.1.1.1.1.2, ⟨hk.1.1.1.1.2, ⟨hk.1.1.1.2, hk.1.2⟩⟩⟩⟩⟩⟩⟩⟩⟩)), (by (with_reducible repeat (first | apply Kd.S_alloc | apply Kd.S_drewN | apply Kd.S_drew)); exact Kd.S_mono HO303.out (fun _ hk => ⟨hk.1.1.2, ⟨hk.1.2, ⟨hk.2, ⟨hk.1.1.1.1.1, ⟨hk.1.1.1.1.2.1, ⟨hk.1.1.1.1.2.2.1, ⟨hk.1.1.1.1.2.2.2, hk.1.1.1.2⟩⟩⟩⟩⟩⟩⟩)), (by (with_reducible repeat (first | apply Kd.S_alloc | apply Kd.S_drewN | apply Kd.S_drew)); exact Kd.S_mono HO310.out (fun _ hk => ⟨hk.1.1.1.1.1.1.1.1.1.1.1.1.1.2, ⟨hk.1.1.1.1.1.1.1.1.1.1.1.1.2, ⟨hk.1.1.1.1.1.1.1.1.1.1.1.2, ⟨hk.1.1.1.1.1.1.1.1.1.1.2, ⟨hk.1.1.1.1.1.1.1.1.1.2, ⟨hk.1.1.1.1.1.1.1.1.2, ⟨hk.1.1.1.1.2, ⟨hk.1.1.2, ⟨hk.1.2, ⟨hk.2, ⟨hk.1.1.1.1.1.1.1.2, ⟨hk.1.1.1.1.1.1.2, ⟨hk.1.1.1.1.1.2, hk.1.1.1.2⟩⟩⟩⟩⟩⟩⟩⟩⟩⟩⟩⟩⟩)), (by (with_reducible repeat (first | apply Kd.R_alloc | apply Kd.R_drewN | apply Kd.R_drew)); exact Kd.R_mono HO315.out (fun _ hk => ⟨hk.1.1.1.1.2, ⟨hk.1.1.1.2, ⟨hk.2, ⟨hk.1.1.2, hk.1.2⟩⟩⟩⟩)), (by (with_reducible repeat (first | apply Kd.S_alloc | apply Kd.S_drewN | apply Kd.S_drew)); exact Kd.S_mono HO328.out (fun _ hk => ⟨hk.1.1.1.1.1.1.1.1.1.1.2, ⟨hk.1.1.1.1.1.1.1.1.1.2, ⟨hk.1.1.1.1.1.1.1.1.2, ⟨hk.1.1.1.1.1.1.1.2, ⟨hk.1.1.1.1.1.1.2, ⟨hk.1.1.1.1.1.2, ⟨hk.1.1.1.1.2, ⟨hk.1.1.1.2, ⟨hk.1.2, ⟨hk.2, hk.1.1.2⟩⟩⟩⟩⟩⟩⟩⟩⟩⟩)), (by (with_reducible repeat (first | apply Kd.R_alloc | apply Kd.R_drewN | apply Kd.R_drew)); exact Kd.R_mono HO332.out (fun _ hk => ⟨hk.1.1.2, ⟨hk.1.2, hk.2⟩⟩)), (by (with_reducible repeat (first | apply Kd.S_alloc | apply Kd.S_drewN | apply Kd.S_drew)); exact Kd.S_mono HO336.out (fun _ hk => ⟨hk.1.1.1.1.1.1.1.1.1.1.2, ⟨hk.1.1.1.1.1.1.1.1.1.2, ⟨hk.1.1.1.1.1.1.1.1.2, ⟨hk.1.1.1.1.1.1.1.2, ⟨hk.1.1.1.1.1.1.2, ⟨hk.1.1.1.1.1.2, ⟨hk.1.1.1.1.2, ⟨hk.1.1.1.2, ⟨hk.1.1.2, ⟨hk.1.2, hk.2⟩⟩⟩⟩⟩⟩⟩⟩⟩⟩)), (mb BK272), (mb BK273), (mb BK289), (mb BK294), (mb BK299), (mb BK305), (mb BK338), GW338.out, GE338.out, NB272_338.out, NB338_272.out, NB273_338.out, NB338_273.out, NB289_338.out, NB338_289.out, NB294_338.out, NB338_294.out, NB299_338.out, NB338_299.out, NB305_338.out, NB338_305.out, (ms HB)⟩)
                 ·skip
                  refine box_step ?hg (N := 15) ?hd (cs := #[.int .i64 0, .slice none 0 0]) (t := 26) ?hr ?_; (case hd => rfl); (case hg => rfl); (case hr => first | (go_simp; done) | (go_simp; rfl))
                  intro gb338 hg w122 hbox hb
                  replace HO279 := bS HO279 hb
                  replace HO283 := rb HO283 hb
                  replace HO287 := bS HO287 hb
                  replace HO293 := bS HO293 hb
                  replace HO298 := rb HO298 hb
                  replace HO303 := bS HO303 hb
                  replace HO310 := bS HO310 hb
                  replace HO315 := rb HO315 hb
                  replace HO328 := bS HO328 hb
                  have BK338 := Aside0.mk (hbox)
                  have GW338 := gw hg HB
                  have GE338 := gw hg HB
                  replace HB := bs HB hb
                  have NB272_338 := nl hg BK272
                  have NB338_272 := ng hg BK272
                  replace BK272 := bb BK272 hb
                  have NB273_338 := nl hg BK273
                  have NB338_273 := ng hg BK273
                  replace BK273 := bb BK273 hb
                  have NB289_338 := nl hg BK289
                  have NB338_289 := ng hg BK289
                  replace BK289 := bb BK289 hb
                  have NB294_338 := nl hg BK294
                  have NB338_294 := ng hg BK294
                  replace BK294 := bb BK294 hb
                  have NB299_338 := nl hg BK299
                  have NB338_299 := ng hg BK299
                  replace BK299 := bb BK299 hb
                  have NB305_338 := nl hg BK305
                  have NB338_305 := ng hg BK305
                  replace BK305 := bb BK305 hb
                  clear hb hbox hg
                  refine hK.out _ _ ⟨(c2 BK272).1, (c2 BK272).2, (c2 BK273).1, (c2 BK273).2⟩ (fun hHeld => ?_)
                  clear hK K
                  refine norm_ (a' := ?_) ?_ ?_
                  rotate_left
                  ·show Act.put _ (some 15) _ = _
                   simp only [Act.put, List.setIfInBounds_toArray, List.set_cons_zero, List.set_cons_succ, i64_w, i32_w]
                   rfl
                  refine one_ (i := 3) (N := some 98) #[true, true, true, true, false, false, false, false, true, false, false] rfl rfl (one_of HT_.out (by kernel_rfl)) (by decide) (fun K hK => ?_)
                  refine gs Try.func26 (by kernel_rfl) rfl #[.agg #[.int .i64 a1_0, .slice A1_1 l1_1.length c1_1]] (by rfl) rfl rfl ?_
                  with_reducible refine (laws_toLin.calls k a1_0 _ _ l1_1 t329 t330 _ ?side1 ?side2 A44.out).mono ?_
                  (case side1 => exact mc ((Kd.C_below HR1_1.out HB.out)))
                  (case side2 => exact HC1_1.out)
                  rintro e w123 ⟨v331, rfl, ho0, hb⟩
                  refine ⟨_, rfl, ?_⟩
                  replace HO279 := lS HO279 ho0 hb
                  replace HO287 := lS HO287 ho0 hb
                  replace HO293 := lS HO293 ho0 hb
                  replace HO303 := lS HO303 ho0 hb
                  replace HO310 := lS HO310 ho0 hb
                  replace HO328 := lS HO328 ho0 hb
                  have HO332 := Aside0.mk (Kd.R_lower (Kd.R_new' (Kd.R_new' (Kd.R_new' ho0 (Kd.R_lt (mr HO283))) (Kd.R_lt (mr HO298))) (Kd.R_lt (mr HO315))) (below_size (ms HB)))
                  replace HO283 := rl HO283 ho0 hb
                  replace HO298 := rl HO298 ho0 hb
                  replace HO315 := rl HO315 ho0 hb
                  replace BK272 := bb BK272 hb
                  replace BK273 := bb BK273 hb
                  replace BK289 := bb BK289 hb
                  replace BK294 := bb BK294 hb
                  replace BK299 := bb BK299 hb
                  replace BK305 := bb BK305 hb
                  replace BK338 := bb BK338 hb
                  replace HB := bs HB hb
                  (try clear hb)
                  (try clear hb2)
                  (try clear hk)
                  (try clear hi)
                  (try clear ho0)
                  obtain ⟨Ao124, co124, eo124⟩ := Kd.S_slice HO328.out
                  (first | subst eo124 | (injection eo124 with f1_ f2_ f3_; have f4_ := f1_.symm; have f5_ := f3_.symm; clear f1_ f2_ f3_; subst f4_; subst f5_))
                  obtain ⟨Ao125, co125, eo125⟩ := Kd.R_slice HO332.out
                  (first | subst eo125 | (injection eo125 with f1_ f2_ f3_; have f4_ := f1_.symm; have f5_ := f3_.symm; clear f1_ f2_ f3_; subst f4_; subst f5_))
                  refine hK.out _ _ ⟨(c2 BK272).1, (c2 BK272).2, (c2 BK273).1, (c2 BK273).2⟩ (fun hHeld => ?_)
                  clear hK K
                  refine norm_ (a' := ?_) ?_ ?_
                  rotate_left
                  ·show Act.put _ (some 98) _ = _
                   simp only [Act.put, List.setIfInBounds_toArray, List.set_cons_zero, List.set_cons_succ, i64_w, i32_w]
                   rfl
                  refine one_ (i := 4) (N := some 99) #[true, true, true, true, true, false, false, false, true, false, false] rfl rfl (one_of HT_.out (by kernel_rfl)) (by decide) (fun K hK => ?_)
                  refine gs Try.func27 (by kernel_rfl) rfl #[.agg #[.int .i64 t325, .slice Ao124 t326.length co124], .agg #[.int .i64 t329, .slice Ao125 t330.length co125]] (by rfl) rfl rfl ?_
                  with_reducible refine (impl_AddRow.calls k t325 _ _ t326 t329 _ _ t330 t333 t334 t337 _ ?side1 ?side2 ?side3 ?side4 A45.out).mono ?_
                  (case side1 => exact mc ((Kd.S_reads' HO328.out).2.2))
                  (case side2 => exact (Kd.S_reads' HO328.out).2.1)
                  (case side3 => exact mc ((Kd.R_reads' HO332.out).2.2))
                  (case side4 => exact (Kd.R_reads' HO332.out).2.1)
                  rintro e w126 ⟨v335, rfl, ho0, hb⟩
                  refine ⟨_, rfl, ?_⟩
                  have HO336 := Aside0.mk (Kd.S_lower (Kd.S_newB (Kd.S_new' (Kd.S_new' (Kd.S_new' (Kd.S_new' (Kd.S_new' (Kd.S_new' (Kd.S_new' (Kd.S_new' (Kd.S_new' (Kd.S_new' ho0 (Kd.S_lt (mS HO279))) (Kd.R_lt (mr HO283))) (Kd.S_lt (mS HO287))) (Kd.S_lt (mS HO293))) (Kd.R_lt (mr HO298))) (Kd.S_lt (mS HO303))) (Kd.S_lt (mS HO310))) (Kd.R_lt (mr HO315))) (Kd.S_lt (mS HO328))) (Kd.R_lt (mr HO332))) (g := gb299) (o := .cells #[.int .i64 t295, .slice Ao88 t296.length co88] 29 (0, 0)) (mb BK299)) (below_size (ms HB)))
                  replace HO279 := Aside0.mk (Kd.S_elder' (mS HO279) (Kd.S_base ho0) hb)
                  replace HO283 := rb HO283 hb
                  replace HO287 := Aside0.mk (Kd.S_elder' (mS HO287) (Kd.S_base ho0) hb)
                  replace HO293 := Aside0.mk (Kd.S_elder' (mS HO293) (Kd.S_base ho0) hb)
                  replace HO298 := rb HO298 hb
                  replace HO303 := Aside0.mk (Kd.S_elder' (mS HO303) (Kd.S_base ho0) hb)
                  replace HO310 := Aside0.mk (Kd.S_elder' (mS HO310) (Kd.S_base ho0) hb)
                  replace HO315 := rb HO315 hb
                  replace HO328 := Aside0.mk (Kd.S_elder' (mS HO328) (Kd.S_base ho0) hb)
                  replace HO332 := rb HO332 hb
                  replace BK272 := bb BK272 hb
                  replace BK273 := bb BK273 hb
                  replace BK289 := bb BK289 hb
                  replace BK294 := bb BK294 hb
                  replace BK299 := bb BK299 hb
                  replace BK305 := bb BK305 hb
                  replace BK338 := bb BK338 hb
                  replace HB := bs HB hb
                  (try clear hb)
                  (try clear hb2)
                  (try clear hk)
                  (try clear hi)
                  (try clear ho0)
                  refine hK.out _ _ ⟨(c2 BK272).1, (c2 BK272).2, (c2 BK273).1, (c2 BK273).2⟩ (fun hHeld => ?_)
                  clear hK K
                  refine norm_ (a' := ?_) ?_ ?_
                  rotate_left
                  ·show Act.put _ (some 99) _ = _
                   simp only [Act.put, List.setIfInBounds_toArray, List.set_cons_zero, List.set_cons_succ, i64_w, i32_w]
                   rfl
                  refine pure_ (i := 5) (N := some 94) (v := ?_) (a' := ?_) #[true, true, true, true, true, true, false, false, true, false, false] rfl rfl (any_of HT_.out (by kernel_rfl)) (fun _ _ _ h => h) (Or.inl ⟨by rfl, ?_⟩) ?_ ?_
                  rotate_left
                  ·intro w'
                   go_simp
                   with_reducible rfl
                  rotate_left
                  ·simp only [Act.put, List.setIfInBounds_toArray, List.set_cons_zero, List.set_cons_succ, i64_w, i32_w]
                   rfl
                  refine pure_ (i := 6) (N := some 100) (v := ?_) (a' := ?_) #[true, true, true, true, true, true, true, false, true, false, false] rfl rfl (any_of HT_.out (by kernel_rfl)) (fun _ _ _ h => h) (Or.inl ⟨by rfl, ?_⟩) ?_ ?_
                  rotate_left
                  ·intro w'
                   go_simp
                   with_reducible rfl
                  rotate_left
                  ·simp only [Act.put, List.setIfInBounds_toArray, List.set_cons_zero, List.set_cons_succ, i64_w, i32_w]
                   rfl
                  refine pure_ (i := 7) (N := some 101) (v := ?_) (a' := ?_) #[true, true, true, true, true, true, true, true, true, false, false] rfl rfl (any_of HT_.out (by kernel_rfl)) (fun _ _ _ h => h) (Or.inl ⟨by rfl, ?_⟩) ?_ ?_
                  rotate_left
                  ·intro w'
                   go_simp
                   with_reducible rfl
                  rotate_left
                  ·simp only [Act.put, List.setIfInBounds_toArray, List.set_cons_zero, List.set_cons_succ, i64_w, i32_w]
                   rfl
                  exact norm_ (by simp only [putAll, Act.put, List.setIfInBounds_toArray, List.set_cons_zero, List.set_cons_succ]) (hCont (.slice Ao124 t326.length co124, .slice Ao125 t330.length co125, v335, gb338) _ ⟨hHeld, (by (with_reducible repeat (first | apply Kd.S_alloc | apply Kd.S_drewN | apply Kd.S_drew)); exact Kd.S_mono HO279.out (fun _ hk => ⟨hk.1.1.1.1.1.1.1.1.1.1.1.1.1.1.1.1.1.1.1, ⟨hk.1.1.1.1.1.1.1.1.1.1.1.1.1.1.1.1.1.1.2, ⟨hk.1.1.1.1.1.1.1.1.1.1.1.1.1.1.1.1.2, ⟨hk.1.1.1.1.1.1.1.1.1.1.1.1.1.2, ⟨hk.1.1.1.1.1.1.1.1.1.2, ⟨hk.1.1.1.1.1.1.2, ⟨hk.1.1.1.1.2, ⟨hk.1.1.2, ⟨hk.1.2, ⟨hk.2, ⟨hk.1.1.1.1.1.1.1.1.1.1.1.2, ⟨hk.1.1.1.1.1.1.1.1.1.1.1.1.1.1.1.1.1.2, ⟨hk.1.1.1.1.1.1.1.1.1.1.1.1.1.1.1.2, ⟨hk.1.1.1.1.1.1.1.1.1.1.1.1.1.1.2, ⟨hk.1.1.1.1.1.1.1.1.1.1.1.1.2, ⟨hk.1.1.1.1.1.1.1.1.1.1.2, ⟨hk.1.1.1.1.1.1.1.1.2, ⟨hk.1.1.1.1.1.1.1.2, ⟨hk.1.1.1.1.1.2, hk.1.1.1.2⟩⟩⟩⟩⟩⟩⟩⟩⟩⟩⟩⟩⟩⟩⟩⟩⟩⟩⟩)), (by (with_reducible repeat (first | apply Kd.R_alloc | apply Kd.R_drewN | apply Kd.R_drew)); exact Kd.R_mono HO283.out (fun _ hk => ⟨hk.1.1.1.1.1.1.1.1.2, ⟨hk.1.1.2, ⟨hk.2, ⟨hk.1.1.1.1.1.1.1.1.1.1.1, ⟨hk.1.1.1.1.1.1.1.1.1.1.2, ⟨hk.1.1.1.1.1.1.1.1.1.2, ⟨hk.1.1.1.1.1.1.1.2, ⟨hk.1.1.1.1.1.1.2, ⟨hk.1.1.1.1.1.2, ⟨hk.1.1.1.1.2, ⟨hk.1.1.1.2, hk.1.2⟩⟩⟩⟩⟩⟩⟩⟩⟩⟩⟩)), (by (with_reducible repeat (first | apply Kd.S_alloc | apply Kd.S_drewN | apply Kd.S_drew)); exact Kd.S_mono HO287.out (fun _ hk => ⟨hk.1.1.1.1.1.1.1.1.1.1.1.1.1.1.1.1.1.1.1, ⟨hk.1.1.1.1.1.1.1.1.1.1.1.1.1.1.1.1.1.1.2, ⟨hk.1.1.1.1.1.1.1.1.1.1.1.1.1.1.1.1.2, ⟨hk.1.1.1.1.1.1.1.1.1.1.1.1.1.2, ⟨hk.1.1.1.1.1.1.1.1.1.2, ⟨hk.1.1.1.1.1.1.2, ⟨hk.1.1.1.1.2, ⟨hk.1.1.2, ⟨hk.1.2, ⟨hk.2, ⟨hk.1.1.1.1.1.1.1.1.1.1.1.2, ⟨hk.1.1.1.1.1.1.1.1.1.1.1.1.1.1.1.1.1.2, ⟨hk.1.1.1.1.1.1.1.1.1.1.1.1.1.1.1.2, ⟨hk.1.1.1.1.1.1.1.1.1.1.1.1.1.1.2, ⟨hk.1.1.1.1.1.1.1.1.1.1.1.1.2, ⟨hk.1.1.1.1.1.1.1.1.1.1.2, ⟨hk.1.1.1.1.1.1.1.1.2, ⟨hk.1.1.1.1.1.1.1.2, ⟨hk.1.1.1.1.1.2, hk.1.1.1.2⟩⟩⟩⟩⟩⟩⟩⟩⟩⟩⟩⟩⟩⟩⟩⟩⟩⟩⟩)), (by (with_reducible repeat (first | apply Kd.S_alloc | apply Kd.S_drewN | apply Kd.S_drew)); exact Kd.S_mono HO293.out (fun _ hk => ⟨hk.1.1.2, ⟨hk.1.2, ⟨hk.2, ⟨hk.1.1.1.1.1, ⟨hk.1.1.1.1.2.1, ⟨hk.1.1.1.1.2.2.1, ⟨hk.1.1.1.1.2.2.2.1, ⟨hk.1.1.1.1.2.2.2.2.1, ⟨hk.1.1.1.1.2.2.2.2.2.1, ⟨hk.1.1.1.1.2.2.2.2.2.2.1, ⟨hk.1.1.1.1.2.2.2.2.2.2.2, hk.1.1.1.2⟩⟩⟩⟩⟩⟩⟩⟩⟩⟩⟩)), (by (with_reducible repeat (first | apply Kd.R_alloc | apply Kd.R_drewN | apply Kd.R_drew)); exact Kd.R_mono HO298.out (fun _ hk => ⟨hk.1.1.1.1.1.1.1.1.1.2, ⟨hk.1.1.2, ⟨hk.2, ⟨hk.1.1.1.1.1.1.1.1.2, ⟨hk.1.1.1.1.1.1.1.2, ⟨hk.1.1.1.1.1.1.2, ⟨hk.1.1.1.1.1.2, ⟨hk.1.1.1.1.2, ⟨hk.1.1.1.2, hk.1.2⟩⟩⟩⟩⟩⟩⟩⟩⟩)), (by (with_reducible repeat (first | apply Kd.S_alloc | apply Kd.S_drewN | apply Kd.S_drew)); exact Kd.S_mono HO303.out (fun _ hk => ⟨hk.1.1.2, ⟨hk.1.2, ⟨hk.2, ⟨hk.1.1.1.1.1, ⟨hk.1.1.1.1.2.1, ⟨hk.1.1.1.1.2.2.1, ⟨hk.1.1.1.1.2.2.2, hk.1.1.1.2⟩⟩⟩⟩⟩⟩⟩)), (by (with_reducible repeat (first | apply Kd.S_alloc | apply Kd.S_drewN | apply Kd.S_drew)); exact Kd.S_mono HO310.out (fun _ hk => ⟨hk.1.1.1.1.1.1.1.1.1.1.1.1.1.2, ⟨hk.1.1.1.1.1.1.1.1.1.1.1.1.2, ⟨hk.1.1.1.1.1.1.1.1.1.1.1.2, ⟨hk.1.1.1.1.1.1.1.1.1.1.2, ⟨hk.1.1.1.1.1.1.1.1.1.2, ⟨hk.1.1.1.1.1.1.1.1.2, ⟨hk.1.1.1.1.2, ⟨hk.1.1.2, ⟨hk.1.2, ⟨hk.2, ⟨hk.1.1.1.1.1.1.1.2, ⟨hk.1.1.1.1.1.1.2, ⟨hk.1.1.1.1.1.2, hk.1.1.1.2⟩⟩⟩⟩⟩⟩⟩⟩⟩⟩⟩⟩⟩)), (by (with_reducible repeat (first | apply Kd.R_alloc | apply Kd.R_drewN | apply Kd.R_drew)); exact Kd.R_mono HO315.out (fun _ hk => ⟨hk.1.1.1.1.2, ⟨hk.1.1.1.2, ⟨hk.2, ⟨hk.1.1.2, hk.1.2⟩⟩⟩⟩)), (by (with_reducible repeat (first | apply Kd.S_alloc | apply Kd.S_drewN | apply Kd.S_drew)); exact Kd.S_mono HO328.out (fun _ hk => ⟨hk.1.1.1.1.1.1.1.1.1.1.2, ⟨hk.1.1.1.1.1.1.1.1.1.2, ⟨hk.1.1.1.1.1.1.1.1.2, ⟨hk.1.1.1.1.1.1.1.2, ⟨hk.1.1.1.1.1.1.2, ⟨hk.1.1.1.1.1.2, ⟨hk.1.1.1.1.2, ⟨hk.1.1.1.2, ⟨hk.1.2, ⟨hk.2, hk.1.1.2⟩⟩⟩⟩⟩⟩⟩⟩⟩⟩)), (by (with_reducible repeat (first | apply Kd.R_alloc | apply Kd.R_drewN | apply Kd.R_drew)); exact Kd.R_mono HO332.out (fun _ hk => ⟨hk.1.1.2, ⟨hk.1.2, hk.2⟩⟩)), (by (with_reducible repeat (first | apply Kd.S_alloc | apply Kd.S_drewN | apply Kd.S_drew)); exact Kd.S_mono HO336.out (fun _ hk => ⟨hk.1.1.1.1.1.1.1.1.1.1.2, ⟨hk.1.1.1.1.1.1.1.1.1.2, ⟨hk.1.1.1.1.1.1.1.1.2, ⟨hk.1.1.1.1.1.1.1.2, ⟨hk.1.1.1.1.1.1.2, ⟨hk.1.1.1.1.1.2, ⟨hk.1.1.1.1.2, ⟨hk.1.1.1.2, ⟨hk.1.1.2, ⟨hk.1.2, hk.2⟩⟩⟩⟩⟩⟩⟩⟩⟩⟩)), (mb BK272), (mb BK273), (mb BK289), (mb BK294), (mb BK299), (mb BK305), (mb BK338), GW338.out, GE338.out, NB272_338.out, NB338_272.out, NB273_338.out, NB338_273.out, NB289_338.out, NB338_289.out, NB294_338.out, NB338_294.out, NB299_338.out, NB338_299.out, NB305_338.out, NB338_305.out, (ms HB)⟩)
                ·skip
                 refine box_step ?hg (N := 15) ?hd (cs := #[.int .i64 0, .slice none 0 0]) (t := 26) ?hr ?_; (case hd => rfl); (case hg => rfl); (case hr => first | (go_simp; done) | (go_simp; rfl))
                 intro gb338 hg w121 hbox hb
                 replace HO279 := bS HO279 hb
                 replace HO283 := rb HO283 hb
                 replace HO287 := bS HO287 hb
                 replace HO293 := bS HO293 hb
                 replace HO298 := rb HO298 hb
                 replace HO303 := bS HO303 hb
                 replace HO310 := bS HO310 hb
                 replace HO315 := rb HO315 hb
                 have BK338 := Aside0.mk (hbox)
                 have GW338 := gw hg HB
                 have GE338 := gw hg HB
                 replace HB := bs HB hb
                 have NB272_338 := nl hg BK272
                 have NB338_272 := ng hg BK272
                 replace BK272 := bb BK272 hb
                 have NB273_338 := nl hg BK273
                 have NB338_273 := ng hg BK273
                 replace BK273 := bb BK273 hb
                 have NB289_338 := nl hg BK289
                 have NB338_289 := ng hg BK289
                 replace BK289 := bb BK289 hb
                 have NB294_338 := nl hg BK294
                 have NB338_294 := ng hg BK294
                 replace BK294 := bb BK294 hb
                 have NB299_338 := nl hg BK299
                 have NB338_299 := ng hg BK299
                 replace BK299 := bb BK299 hb
                 have NB305_338 := nl hg BK305
                 have NB338_305 := ng hg BK305
                 replace BK305 := bb BK305 hb
                 clear hb hbox hg
                 refine hK.out _ _ ⟨(c2 BK272).1, (c2 BK272).2, (c2 BK273).1, (c2 BK273).2⟩ (fun hHeld => ?_)
                 clear hK K
                 refine norm_ (a' := ?_) ?_ ?_
                 rotate_left
                 ·show Act.put _ (some 15) _ = _
                  simp only [Act.put, List.setIfInBounds_toArray, List.set_cons_zero, List.set_cons_succ, i64_w, i32_w]
                  rfl
                 refine one_ (i := 1) (N := some 96) #[true, true, true, false, false, false, false, false, true, false, false] rfl rfl (one_of HT_.out (by kernel_rfl)) (by decide) (fun K hK => ?_)
                 refine gs Try.func25 (by kernel_rfl) rfl #[.agg #[.int .i64 a0_0, .slice A0_1 l0_1.length c0_1]] (by rfl) rfl rfl ?_
                 with_reducible refine (laws_toSystem.calls k a0_0 _ _ l0_1 t325 t326 _ ?side1 ?side2 A43.out).mono ?_
                 (case side1 => exact mc ((Kd.C_below HR0_1.out HB.out)))
                 (case side2 => exact HC0_1.out)
                 rintro e w122 ⟨v327, rfl, ho0, hb⟩
                 refine ⟨_, rfl, ?_⟩
                 have HO328 := Aside0.mk (Kd.S_lower (Kd.S_newB (Kd.S_new' (Kd.S_new' (Kd.S_new' (Kd.S_new' (Kd.S_new' (Kd.S_new' (Kd.S_new' (Kd.S_new' ho0 (Kd.S_lt (mS HO279))) (Kd.R_lt (mr HO283))) (Kd.S_lt (mS HO287))) (Kd.S_lt (mS HO293))) (Kd.R_lt (mr HO298))) (Kd.S_lt (mS HO303))) (Kd.S_lt (mS HO310))) (Kd.R_lt (mr HO315))) (g := gb299) (o := .cells #[.int .i64 t295, .slice Ao88 t296.length co88] 29 (0, 0)) (mb BK299)) (below_size (ms HB)))
                 replace HO279 := Aside0.mk (Kd.S_elder' (mS HO279) (Kd.S_base ho0) hb)
                 replace HO283 := rb HO283 hb
                 replace HO287 := Aside0.mk (Kd.S_elder' (mS HO287) (Kd.S_base ho0) hb)
                 replace HO293 := Aside0.mk (Kd.S_elder' (mS HO293) (Kd.S_base ho0) hb)
                 replace HO298 := rb HO298 hb
                 replace HO303 := Aside0.mk (Kd.S_elder' (mS HO303) (Kd.S_base ho0) hb)
                 replace HO310 := Aside0.mk (Kd.S_elder' (mS HO310) (Kd.S_base ho0) hb)
                 replace HO315 := rb HO315 hb
                 replace BK272 := bb BK272 hb
                 replace BK273 := bb BK273 hb
                 replace BK289 := bb BK289 hb
                 replace BK294 := bb BK294 hb
                 replace BK299 := bb BK299 hb
                 replace BK305 := bb BK305 hb
                 replace BK338 := bb BK338 hb
                 replace HB := bs HB hb
                 (try clear hb)
                 (try clear hb2)
                 (try clear hk)
                 (try clear hi)
                 (try clear ho0)
                 refine hK.out _ _ ⟨(c2 BK272).1, (c2 BK272).2, (c2 BK273).1, (c2 BK273).2⟩ (fun hHeld => ?_)
                 clear hK K
                 refine norm_ (a' := ?_) ?_ ?_
                 rotate_left
                 ·show Act.put _ (some 96) _ = _
                  simp only [Act.put, List.setIfInBounds_toArray, List.set_cons_zero, List.set_cons_succ, i64_w, i32_w]
                  rfl
                 refine one_ (i := 3) (N := some 98) #[true, true, true, true, false, false, false, false, true, false, false] rfl rfl (one_of HT_.out (by kernel_rfl)) (by decide) (fun K hK => ?_)
                 refine gs Try.func26 (by kernel_rfl) rfl #[.agg #[.int .i64 a1_0, .slice A1_1 l1_1.length c1_1]] (by rfl) rfl rfl ?_
                 with_reducible refine (laws_toLin.calls k a1_0 _ _ l1_1 t329 t330 _ ?side1 ?side2 A44.out).mono ?_
                 (case side1 => exact mc ((Kd.C_below HR1_1.out HB.out)))
                 (case side2 => exact HC1_1.out)
                 rintro e w123 ⟨v331, rfl, ho0, hb⟩
                 refine ⟨_, rfl, ?_⟩
                 replace HO279 := lS HO279 ho0 hb
                 replace HO287 := lS HO287 ho0 hb
                 replace HO293 := lS HO293 ho0 hb
                 replace HO303 := lS HO303 ho0 hb
                 replace HO310 := lS HO310 ho0 hb
                 replace HO328 := lS HO328 ho0 hb
                 have HO332 := Aside0.mk (Kd.R_lower (Kd.R_new' (Kd.R_new' (Kd.R_new' ho0 (Kd.R_lt (mr HO283))) (Kd.R_lt (mr HO298))) (Kd.R_lt (mr HO315))) (below_size (ms HB)))
                 replace HO283 := rl HO283 ho0 hb
                 replace HO298 := rl HO298 ho0 hb
                 replace HO315 := rl HO315 ho0 hb
                 replace BK272 := bb BK272 hb
                 replace BK273 := bb BK273 hb
                 replace BK289 := bb BK289 hb
                 replace BK294 := bb BK294 hb
                 replace BK299 := bb BK299 hb
                 replace BK305 := bb BK305 hb
                 replace BK338 := bb BK338 hb
                 replace HB := bs HB hb
                 (try clear hb)
                 (try clear hb2)
                 (try clear hk)
                 (try clear hi)
                 (try clear ho0)
                 obtain ⟨Ao124, co124, eo124⟩ := Kd.S_slice HO328.out
                 (first | subst eo124 | (injection eo124 with f1_ f2_ f3_; have f4_ := f1_.symm; have f5_ := f3_.symm; clear f1_ f2_ f3_; subst f4_; subst f5_))
                 obtain ⟨Ao125, co125, eo125⟩ := Kd.R_slice HO332.out
                 (first | subst eo125 | (injection eo125 with f1_ f2_ f3_; have f4_ := f1_.symm; have f5_ := f3_.symm; clear f1_ f2_ f3_; subst f4_; subst f5_))
                 refine hK.out _ _ ⟨(c2 BK272).1, (c2 BK272).2, (c2 BK273).1, (c2 BK273).2⟩ (fun hHeld => ?_)
                 clear hK K
                 refine norm_ (a' := ?_) ?_ ?_
                 rotate_left
                 ·show Act.put _ (some 98) _ = _
                  simp only [Act.put, List.setIfInBounds_toArray, List.set_cons_zero, List.set_cons_succ, i64_w, i32_w]
                  rfl
                 refine one_ (i := 4) (N := some 99) #[true, true, true, true, true, false, false, false, true, false, false] rfl rfl (one_of HT_.out (by kernel_rfl)) (by decide) (fun K hK => ?_)
                 refine gs Try.func27 (by kernel_rfl) rfl #[.agg #[.int .i64 t325, .slice Ao124 t326.length co124], .agg #[.int .i64 t329, .slice Ao125 t330.length co125]] (by rfl) rfl rfl ?_
                 with_reducible refine (impl_AddRow.calls k t325 _ _ t326 t329 _ _ t330 t333 t334 t337 _ ?side1 ?side2 ?side3 ?side4 A45.out).mono ?_
                 (case side1 => exact mc ((Kd.S_reads' HO328.out).2.2))
                 (case side2 => exact (Kd.S_reads' HO328.out).2.1)
                 (case side3 => exact mc ((Kd.R_reads' HO332.out).2.2))
                 (case side4 => exact (Kd.R_reads' HO332.out).2.1)
                 rintro e w126 ⟨v335, rfl, ho0, hb⟩
                 refine ⟨_, rfl, ?_⟩
                 have HO336 := Aside0.mk (Kd.S_lower (Kd.S_newB (Kd.S_new' (Kd.S_new' (Kd.S_new' (Kd.S_new' (Kd.S_new' (Kd.S_new' (Kd.S_new' (Kd.S_new' (Kd.S_new' (Kd.S_new' ho0 (Kd.S_lt (mS HO279))) (Kd.R_lt (mr HO283))) (Kd.S_lt (mS HO287))) (Kd.S_lt (mS HO293))) (Kd.R_lt (mr HO298))) (Kd.S_lt (mS HO303))) (Kd.S_lt (mS HO310))) (Kd.R_lt (mr HO315))) (Kd.S_lt (mS HO328))) (Kd.R_lt (mr HO332))) (g := gb299) (o := .cells #[.int .i64 t295, .slice Ao88 t296.length co88] 29 (0, 0)) (mb BK299)) (below_size (ms HB)))
                 replace HO279 := Aside0.mk (Kd.S_elder' (mS HO279) (Kd.S_base ho0) hb)
                 replace HO283 := rb HO283 hb
                 replace HO287 := Aside0.mk (Kd.S_elder' (mS HO287) (Kd.S_base ho0) hb)
                 replace HO293 := Aside0.mk (Kd.S_elder' (mS HO293) (Kd.S_base ho0) hb)
                 replace HO298 := rb HO298 hb
                 replace HO303 := Aside0.mk (Kd.S_elder' (mS HO303) (Kd.S_base ho0) hb)
                 replace HO310 := Aside0.mk (Kd.S_elder' (mS HO310) (Kd.S_base ho0) hb)
                 replace HO315 := rb HO315 hb
                 replace HO328 := Aside0.mk (Kd.S_elder' (mS HO328) (Kd.S_base ho0) hb)
                 replace HO332 := rb HO332 hb
                 replace BK272 := bb BK272 hb
                 replace BK273 := bb BK273 hb
                 replace BK289 := bb BK289 hb
                 replace BK294 := bb BK294 hb
                 replace BK299 := bb BK299 hb
                 replace BK305 := bb BK305 hb
                 replace BK338 := bb BK338 hb
                 replace HB := bs HB hb
                 (try clear hb)
                 (try clear hb2)
                 (try clear hk)
                 (try clear hi)
                 (try clear ho0)
                 refine hK.out _ _ ⟨(c2 BK272).1, (c2 BK272).2, (c2 BK273).1, (c2 BK273).2⟩ (fun hHeld => ?_)
                 clear hK K
                 refine norm_ (a' := ?_) ?_ ?_
                 rotate_left
                 ·show Act.put _ (some 99) _ = _
                  simp only [Act.put, List.setIfInBounds_toArray, List.set_cons_zero, List.set_cons_succ, i64_w, i32_w]
                  rfl
                 refine pure_ (i := 5) (N := some 94) (v := ?_) (a' := ?_) #[true, true, true, true, true, true, false, false, true, false, false] rfl rfl (any_of HT_.out (by kernel_rfl)) (fun _ _ _ h => h) (Or.inl ⟨by rfl, ?_⟩) ?_ ?_
                 rotate_left
                 ·intro w'
                  go_simp
                  with_reducible rfl
                 rotate_left
                 ·simp only [Act.put, List.setIfInBounds_toArray, List.set_cons_zero, List.set_cons_succ, i64_w, i32_w]
                  rfl
                 refine pure_ (i := 6) (N := some 100) (v := ?_) (a' := ?_) #[true, true, true, true, true, true, true, false, true, false, false] rfl rfl (any_of HT_.out (by kernel_rfl)) (fun _ _ _ h => h) (Or.inl ⟨by rfl, ?_⟩) ?_ ?_
                 rotate_left
                 ·intro w'
                  go_simp
                  with_reducible rfl
                 rotate_left
                 ·simp only [Act.put, List.setIfInBounds_toArray, List.set_cons_zero, List.set_cons_succ, i64_w, i32_w]
                  rfl
                 refine pure_ (i := 7) (N := some 101) (v := ?_) (a' := ?_) #[true, true, true, true, true, true, true, true, true, false, false] rfl rfl (any_of HT_.out (by kernel_rfl)) (fun _ _ _ h => h) (Or.inl ⟨by rfl, ?_⟩) ?_ ?_
                 rotate_left
                 ·intro w'
                  go_simp
                  with_reducible rfl
                 rotate_left
                 ·simp only [Act.put, List.setIfInBounds_toArray, List.set_cons_zero, List.set_cons_succ, i64_w, i32_w]
                  rfl
                 exact norm_ (by simp only [putAll, Act.put, List.setIfInBounds_toArray, List.set_cons_zero, List.set_cons_succ]) (hCont (.slice Ao124 t326.length co124, .slice Ao125 t330.length co125, v335, gb338) _ ⟨hHeld, (by (with_reducible repeat (first | apply Kd.S_alloc | apply Kd.S_drewN | apply Kd.S_drew)); exact Kd.S_mono HO279.out (fun _ hk => ⟨hk.1.1.1.1.1.1.1.1.1.1.1.1.1.1.1.1.1.1.1, ⟨hk.1.1.1.1.1.1.1.1.1.1.1.1.1.1.1.1.1.1.2, ⟨hk.1.1.1.1.1.1.1.1.1.1.1.1.1.1.1.1.2, ⟨hk.1.1.1.1.1.1.1.1.1.1.1.1.1.2, ⟨hk.1.1.1.1.1.1.1.1.1.2, ⟨hk.1.1.1.1.1.1.2, ⟨hk.1.1.1.1.2, ⟨hk.1.1.2, ⟨hk.1.2, ⟨hk.2, ⟨hk.1.1.1.1.1.1.1.1.1.1.1.2, ⟨hk.1.1.1.1.1.1.1.1.1.1.1.1.1.1.1.1.1.2, ⟨hk.1.1.1.1.1.1.1.1.1.1.1.1.1.1.1.2, ⟨hk.1.1.1.1.1.1.1.1.1.1.1.1.1.1.2, ⟨hk.1.1.1.1.1.1.1.1.1.1.1.1.2, ⟨hk.1.1.1.1.1.1.1.1.1.1.2, ⟨hk.1.1.1.1.1.1.1.1.2, ⟨hk.1.1.1.1.1.1.1.2, ⟨hk.1.1.1.1.1.2, hk.1.1.1.2⟩⟩⟩⟩⟩⟩⟩⟩⟩⟩⟩⟩⟩⟩⟩⟩⟩⟩⟩)), (by (with_reducible repeat (first | apply Kd.R_alloc | apply Kd.R_drewN | apply Kd.R_drew)); exact Kd.R_mono HO283.out (fun _ hk => ⟨hk.1.1.1.1.1.1.1.1.2, ⟨hk.1.1.2, ⟨hk.2, ⟨hk.1.1.1.1.1.1.1.1.1.1.1, ⟨hk.1.1.1.1.1.1.1.1.1.1.2, ⟨hk.1.1.1.1.1.1.1.1.1.2, ⟨hk.1.1.1.1.1.1.1.2, ⟨hk.1.1.1.1.1.1.2, ⟨hk.1.1.1.1.1.2, ⟨hk.1.1.1.1.2, ⟨hk.1.1.1.2, hk.1.2⟩⟩⟩⟩⟩⟩⟩⟩⟩⟩⟩)), (by (with_reducible repeat (first | apply Kd.S_alloc | apply Kd.S_drewN | apply Kd.S_drew)); exact Kd.S_mono HO287.out (fun _ hk => ⟨hk.1.1.1.1.1.1.1.1.1.1.1.1.1.1.1.1.1.1.1, ⟨hk.1.1.1.1.1.1.1.1.1.1.1.1.1.1.1.1.1.1.2, ⟨hk.1.1.1.1.1.1.1.1.1.1.1.1.1.1.1.1.2, ⟨hk.1.1.1.1.1.1.1.1.1.1.1.1.1.2, ⟨hk.1.1.1.1.1.1.1.1.1.2, ⟨hk.1.1.1.1.1.1.2, ⟨hk.1.1.1.1.2, ⟨hk.1.1.2, ⟨hk.1.2, ⟨hk.2, ⟨hk.1.1.1.1.1.1.1.1.1.1.1.2, ⟨hk.1.1.1.1.1.1.1.1.1.1.1.1.1.1.1.1.1.2, ⟨hk.1.1.1.1.1.1.1.1.1.1.1.1.1.1.1.2, ⟨hk.1.1.1.1.1.1.1.1.1.1.1.1.1.1.2, ⟨hk.1.1.1.1.1.1.1.1.1.1.1.1.2, ⟨hk.1.1.1.1.1.1.1.1.1.1.2, ⟨hk.1.1.1.1.1.1.1.1.2, ⟨hk.1.1.1.1.1.1.1.2, ⟨hk.1.1.1.1.1.2, hk.1.1.1.2⟩⟩⟩⟩⟩⟩⟩⟩⟩⟩⟩⟩⟩⟩⟩⟩⟩⟩⟩)), (by (with_reducible repeat (first | apply Kd.S_alloc | apply Kd.S_drewN | apply Kd.S_drew)); exact Kd.S_mono HO293.out (fun _ hk => ⟨hk.1.1.2, ⟨hk.1.2, ⟨hk.2, ⟨hk.1.1.1.1.1, ⟨hk.1.1.1.1.2.1, ⟨hk.1.1.1.1.2.2.1, ⟨hk.1.1.1.1.2.2.2.1, ⟨hk.1.1.1.1.2.2.2.2.1, ⟨hk.1.1.1.1.2.2.2.2.2.1, ⟨hk.1.1.1.1.2.2.2.2.2.2.1, ⟨hk.1.1.1.1.2.2.2.2.2.2.2, hk.1.1.1.2⟩⟩⟩⟩⟩⟩⟩⟩⟩⟩⟩)), (by (with_reducible repeat (first | apply Kd.R_alloc | apply Kd.R_drewN | apply Kd.R_drew)); exact Kd.R_mono HO298.out (fun _ hk => ⟨hk.1.1.1.1.1.1.1.1.1.2, ⟨hk.1.1.2, ⟨hk.2, ⟨hk.1.1.1.1.1.1.1.1.2, ⟨hk.1.1.1.1.1.1.1.2, ⟨hk.1.1.1.1.1.1.2, ⟨hk.1.1.1.1.1.2, ⟨hk.1.1.1.1.2, ⟨hk.1.1.1.2, hk.1.2⟩⟩⟩⟩⟩⟩⟩⟩⟩)), (by (with_reducible repeat (first | apply Kd.S_alloc | apply Kd.S_drewN | apply Kd.S_drew)); exact Kd.S_mono HO303.out (fun _ hk => ⟨hk.1.1.2, ⟨hk.1.2, ⟨hk.2, ⟨hk.1.1.1.1.1, ⟨hk.1.1.1.1.2.1, ⟨hk.1.1.1.1.2.2.1, ⟨hk.1.1.1.1.2.2.2, hk.1.1.1.2⟩⟩⟩⟩⟩⟩⟩)), (by (with_reducible repeat (first | apply Kd.S_alloc | apply Kd.S_drewN | apply Kd.S_drew)); exact Kd.S_mono HO310.out (fun _ hk => ⟨hk.1.1.1.1.1.1.1.1.1.1.1.1.1.2, ⟨hk.1.1.1.1.1.1.1.1.1.1.1.1.2, ⟨hk.1.1.1.1.1.1.1.1.1.1.1.2, ⟨hk.1.1.1.1.1.1.1.1.1.1.2, ⟨hk.1.1.1.1.1.1.1.1.1.2, ⟨hk.1.1.1.1.1.1.1.1.2, ⟨hk.1.1.1.1.2, ⟨hk.1.1.2, ⟨hk.1.2, ⟨hk.2, ⟨hk.1.1.1.1.1.1.1.2, ⟨hk.1.1.1.1.1.1.2, ⟨hk.1.1.1.1.1.2, hk.1.1.1.2⟩⟩⟩⟩⟩⟩⟩⟩⟩⟩⟩⟩⟩)), (by (with_reducible repeat (first | apply Kd.R_alloc | apply Kd.R_drewN | apply Kd.R_drew)); exact Kd.R_mono HO315.out (fun _ hk => ⟨hk.1.1.1.1.2, ⟨hk.1.1.1.2, ⟨hk.2, ⟨hk.1.1.2, hk.1.2⟩⟩⟩⟩)), (by (with_reducible repeat (first | apply Kd.S_alloc | apply Kd.S_drewN | apply Kd.S_drew)); exact Kd.S_mono HO328.out (fun _ hk => ⟨hk.1.1.1.1.1.1.1.1.1.1.2, ⟨hk.1.1.1.1.1.1.1.1.1.2, ⟨hk.1.1.1.1.1.1.1.1.2, ⟨hk.1.1.1.1.1.1.1.2, ⟨hk.1.1.1.1.1.1.2, ⟨hk.1.1.1.1.1.2, ⟨hk.1.1.1.1.2, ⟨hk.1.1.1.2, ⟨hk.1.2, ⟨hk.2, hk.1.1.2⟩⟩⟩⟩⟩⟩⟩⟩⟩⟩)), (by (with_reducible repeat (first | apply Kd.R_alloc | apply Kd.R_drewN | apply Kd.R_drew)); exact Kd.R_mono HO332.out (fun _ hk => ⟨hk.1.1.2, ⟨hk.1.2, hk.2⟩⟩)), (by (with_reducible repeat (first | apply Kd.S_alloc | apply Kd.S_drewN | apply Kd.S_drew)); exact Kd.S_mono HO336.out (fun _ hk => ⟨hk.1.1.1.1.1.1.1.1.1.1.2, ⟨hk.1.1.1.1.1.1.1.1.1.2, ⟨hk.1.1.1.1.1.1.1.1.2, ⟨hk.1.1.1.1.1.1.1.2, ⟨hk.1.1.1.1.1.1.2, ⟨hk.1.1.1.1.1.2, ⟨hk.1.1.1.1.2, ⟨hk.1.1.1.2, ⟨hk.1.1.2, ⟨hk.1.2, hk.2⟩⟩⟩⟩⟩⟩⟩⟩⟩⟩)), (mb BK272), (mb BK273), (mb BK289), (mb BK294), (mb BK299), (mb BK305), (mb BK338), GW338.out, GE338.out, NB272_338.out, NB338_272.out, NB273_338.out, NB338_273.out, NB289_338.out, NB338_289.out, NB294_338.out, NB338_294.out, NB299_338.out, NB338_299.out, NB305_338.out, NB338_305.out, (ms HB)⟩)
               rintro ⟨v327, v331, v335, gb338⟩ w127 ⟨hS_, h0_, h1_, h2_, h3_, h4_, h5_, h6_, h7_, h8_, h9_, h10_, h11_, h12_, h13_, h14_, h15_, h16_, h17_, h18_, h19_, h20_, h21_, h22_, h23_, h24_, h25_, h26_, h27_, h28_, h29_, h30_, h31_, h32_⟩
               have n0_ : Aside0 (Kd.S k29 29 w127 w.heap.size (fun k_ => some k_ ≠ (v282 : Value).ownBlock ∧ some k_ ≠ (.slice Ao68 t285.length co68 : Value).ownBlock ∧ some k_ ≠ (.slice Ao78 t291.length co78 : Value).ownBlock ∧ some k_ ≠ (.slice Ao88 t296.length co88 : Value).ownBlock ∧ some k_ ≠ (.slice Ao98 t301.length co98 : Value).ownBlock ∧ some k_ ≠ (.slice Ao103 t308.length co103 : Value).ownBlock ∧ some k_ ≠ (.slice Ao107 t313.length co107 : Value).ownBlock ∧ some k_ ≠ (v327 : Value).ownBlock ∧ some k_ ≠ (v331 : Value).ownBlock ∧ some k_ ≠ (v335 : Value).ownBlock ∧ k_ ≠ gb299 ∧ k_ < w66.heap.size ∧ k_ < w72.heap.size ∧ k_ < w73.heap.size ∧ k_ < w81.heap.size ∧ k_ < w82.heap.size ∧ k_ < w90.heap.size ∧ k_ < w100.heap.size ∧ k_ < w104.heap.size ∧ k_ < w119.heap.size) v278 t277) := ⟨h0_⟩
               have n1_ : Aside0 (Kd.R (Kd.int .i64) 3 w127 w.heap.size (fun k_ => some k_ ≠ (.slice Ao88 t296.length co88 : Value).ownBlock ∧ some k_ ≠ (.slice Ao107 t313.length co107 : Value).ownBlock ∧ some k_ ≠ (v331 : Value).ownBlock ∧ k_ < w66.heap.size ∧ k_ < w72.heap.size ∧ k_ < w73.heap.size ∧ k_ < w81.heap.size ∧ k_ < w82.heap.size ∧ k_ < w90.heap.size ∧ k_ < w100.heap.size ∧ k_ < w104.heap.size ∧ k_ < w119.heap.size) v282 t281) := ⟨h1_⟩
               have n2_ : Aside0 (Kd.S k29 29 w127 w.heap.size (fun k_ => some k_ ≠ (v278 : Value).ownBlock ∧ some k_ ≠ (v282 : Value).ownBlock ∧ some k_ ≠ (.slice Ao78 t291.length co78 : Value).ownBlock ∧ some k_ ≠ (.slice Ao88 t296.length co88 : Value).ownBlock ∧ some k_ ≠ (.slice Ao98 t301.length co98 : Value).ownBlock ∧ some k_ ≠ (.slice Ao103 t308.length co103 : Value).ownBlock ∧ some k_ ≠ (.slice Ao107 t313.length co107 : Value).ownBlock ∧ some k_ ≠ (v327 : Value).ownBlock ∧ some k_ ≠ (v331 : Value).ownBlock ∧ some k_ ≠ (v335 : Value).ownBlock ∧ k_ ≠ gb299 ∧ k_ < w66.heap.size ∧ k_ < w72.heap.size ∧ k_ < w73.heap.size ∧ k_ < w81.heap.size ∧ k_ < w82.heap.size ∧ k_ < w90.heap.size ∧ k_ < w100.heap.size ∧ k_ < w104.heap.size ∧ k_ < w119.heap.size) (.slice Ao68 t285.length co68) t285) := ⟨h2_⟩
               have n3_ : Aside0 (Kd.S k29 29 w127 w.heap.size (fun k_ => some k_ ≠ (v327 : Value).ownBlock ∧ some k_ ≠ (v331 : Value).ownBlock ∧ some k_ ≠ (v335 : Value).ownBlock ∧ w66.heap.size ≤ k_ ∧ k_ < w72.heap.size ∧ k_ < w73.heap.size ∧ k_ < w81.heap.size ∧ k_ < w82.heap.size ∧ k_ < w90.heap.size ∧ k_ < w100.heap.size ∧ k_ < w104.heap.size ∧ k_ < w119.heap.size) (.slice Ao78 t291.length co78) t318) := ⟨h3_⟩
               have n4_ : Aside0 (Kd.R (Kd.int .i64) 3 w127 w.heap.size (fun k_ => some k_ ≠ (v282 : Value).ownBlock ∧ some k_ ≠ (.slice Ao107 t313.length co107 : Value).ownBlock ∧ some k_ ≠ (v331 : Value).ownBlock ∧ w73.heap.size ≤ k_ ∧ k_ < w81.heap.size ∧ k_ < w82.heap.size ∧ k_ < w90.heap.size ∧ k_ < w100.heap.size ∧ k_ < w104.heap.size ∧ k_ < w119.heap.size) (.slice Ao88 t296.length co88) t320) := ⟨h4_⟩
               have n5_ : Aside0 (Kd.S k29 29 w127 w.heap.size (fun k_ => some k_ ≠ (v327 : Value).ownBlock ∧ some k_ ≠ (v331 : Value).ownBlock ∧ some k_ ≠ (v335 : Value).ownBlock ∧ w82.heap.size ≤ k_ ∧ k_ < w90.heap.size ∧ k_ < w100.heap.size ∧ k_ < w104.heap.size ∧ k_ < w119.heap.size) (.slice Ao98 t301.length co98) t323) := ⟨h5_⟩
               have n6_ : Aside0 (Kd.S k29 29 w127 w.heap.size (fun k_ => some k_ ≠ (v278 : Value).ownBlock ∧ some k_ ≠ (v282 : Value).ownBlock ∧ some k_ ≠ (.slice Ao68 t285.length co68 : Value).ownBlock ∧ some k_ ≠ (.slice Ao78 t291.length co78 : Value).ownBlock ∧ some k_ ≠ (.slice Ao88 t296.length co88 : Value).ownBlock ∧ some k_ ≠ (.slice Ao98 t301.length co98 : Value).ownBlock ∧ some k_ ≠ (.slice Ao107 t313.length co107 : Value).ownBlock ∧ some k_ ≠ (v327 : Value).ownBlock ∧ some k_ ≠ (v331 : Value).ownBlock ∧ some k_ ≠ (v335 : Value).ownBlock ∧ k_ ≠ gb299 ∧ w100.heap.size ≤ k_ ∧ k_ < w104.heap.size ∧ k_ < w119.heap.size) (.slice Ao103 t308.length co103) t308) := ⟨h6_⟩
               have n7_ : Aside0 (Kd.R (Kd.int .i64) 3 w127 w.heap.size (fun k_ => some k_ ≠ (v282 : Value).ownBlock ∧ some k_ ≠ (.slice Ao88 t296.length co88 : Value).ownBlock ∧ some k_ ≠ (v331 : Value).ownBlock ∧ w104.heap.size ≤ k_ ∧ k_ < w119.heap.size) (.slice Ao107 t313.length co107) t313) := ⟨h7_⟩
               have n8_ : Aside0 (Kd.S k29 29 w127 w.heap.size (fun k_ => some k_ ≠ (v278 : Value).ownBlock ∧ some k_ ≠ (v282 : Value).ownBlock ∧ some k_ ≠ (.slice Ao68 t285.length co68 : Value).ownBlock ∧ some k_ ≠ (.slice Ao78 t291.length co78 : Value).ownBlock ∧ some k_ ≠ (.slice Ao88 t296.length co88 : Value).ownBlock ∧ some k_ ≠ (.slice Ao98 t301.length co98 : Value).ownBlock ∧ some k_ ≠ (.slice Ao103 t308.length co103 : Value).ownBlock ∧ some k_ ≠ (.slice Ao107 t313.length co107 : Value).ownBlock ∧ some k_ ≠ (v331 : Value).ownBlock ∧ some k_ ≠ (v335 : Value).ownBlock ∧ k_ ≠ gb299) v327 t326) := ⟨h8_⟩
               have n9_ : Aside0 (Kd.R (Kd.int .i64) 3 w127 w.heap.size (fun k_ => some k_ ≠ (v282 : Value).ownBlock ∧ some k_ ≠ (.slice Ao88 t296.length co88 : Value).ownBlock ∧ some k_ ≠ (.slice Ao107 t313.length co107 : Value).ownBlock) v331 t330) := ⟨h9_⟩
               have n10_ : Aside0 (Kd.S k29 29 w127 w.heap.size (fun k_ => some k_ ≠ (v278 : Value).ownBlock ∧ some k_ ≠ (v282 : Value).ownBlock ∧ some k_ ≠ (.slice Ao68 t285.length co68 : Value).ownBlock ∧ some k_ ≠ (.slice Ao78 t291.length co78 : Value).ownBlock ∧ some k_ ≠ (.slice Ao88 t296.length co88 : Value).ownBlock ∧ some k_ ≠ (.slice Ao98 t301.length co98 : Value).ownBlock ∧ some k_ ≠ (.slice Ao103 t308.length co103 : Value).ownBlock ∧ some k_ ≠ (.slice Ao107 t313.length co107 : Value).ownBlock ∧ some k_ ≠ (v327 : Value).ownBlock ∧ some k_ ≠ (v331 : Value).ownBlock ∧ k_ ≠ gb299) v335 t334) := ⟨h10_⟩
               have n11_ : Aside0 (w127.heap[gb272]? = some (.cells #[.int .i64 a0_0, .slice A0_1 l0_1.length c0_1] 42 (0, 0))) := ⟨h11_⟩
               have n12_ : Aside0 (w127.heap[gb273]? = some (.cells #[.int .i64 a1_0, .slice A1_1 l1_1.length c1_1] 43 (0, 0))) := ⟨h12_⟩
               have n13_ : Aside0 (w127.heap[gb289]? = some (.cells #[.int .i64 t284, .slice Ao68 t285.length co68] 26 (0, 0))) := ⟨h13_⟩
               have n14_ : Aside0 (w127.heap[gb294]? = some (.cells #[.int .i64 t290, .slice Ao78 t291.length co78] 26 (0, 0))) := ⟨h14_⟩
               have n15_ : Aside0 (w127.heap[gb299]? = some (.cells #[.int .i64 t295, .slice Ao88 t296.length co88] 29 (0, 0))) := ⟨h15_⟩
               have n16_ : Aside0 (w127.heap[gb305]? = some (.cells #[.int .i64 t300, .slice Ao98 t301.length co98] 26 (0, 0))) := ⟨h16_⟩
               have n17_ : Aside0 (w127.heap[gb338]? = some (.cells #[.int .i64 0, .slice none 0 0] 26 (0, 0))) := ⟨h17_⟩
               have n18_ : Aside0 (w.heap.size ≤ gb338) := ⟨h18_⟩
               have n19_ : Aside0 (w.heap.size ≤ gb338) := ⟨h19_⟩
               have n20_ : Aside0 (gb272 ≠ gb338) := ⟨h20_⟩
               have n21_ : Aside0 (gb338 ≠ gb272) := ⟨h21_⟩
               have n22_ : Aside0 (gb273 ≠ gb338) := ⟨h22_⟩
               have n23_ : Aside0 (gb338 ≠ gb273) := ⟨h23_⟩
               have n24_ : Aside0 (gb289 ≠ gb338) := ⟨h24_⟩
               have n25_ : Aside0 (gb338 ≠ gb289) := ⟨h25_⟩
               have n26_ : Aside0 (gb294 ≠ gb338) := ⟨h26_⟩
               have n27_ : Aside0 (gb338 ≠ gb294) := ⟨h27_⟩
               have n28_ : Aside0 (gb299 ≠ gb338) := ⟨h28_⟩
               have n29_ : Aside0 (gb338 ≠ gb299) := ⟨h29_⟩
               have n30_ : Aside0 (gb305 ≠ gb338) := ⟨h30_⟩
               have n31_ : Aside0 (gb338 ≠ gb305) := ⟨h31_⟩
               have n32_ : Aside0 (Below w.heap.size w w127) := ⟨h32_⟩
               clear HO279
               clear HO283
               clear HO287
               clear HO293
               clear HO298
               clear HO303
               clear HO310
               clear HO315
               clear BK272
               clear BK273
               clear BK289
               clear BK294
               clear BK299
               clear BK305
               clear HB
               clear h0_ h1_ h2_ h3_ h4_ h5_ h6_ h7_ h8_ h9_ h10_ h11_ h12_ h13_ h14_ h15_ h16_ h17_ h18_ h19_ h20_ h21_ h22_ h23_ h24_ h25_ h26_ h27_ h28_ h29_ h30_ h31_ h32_
               have HO279 := n0_
               have HO283 := n1_
               have HO287 := n2_
               have HO293 := n3_
               have HO298 := n4_
               have HO303 := n5_
               have HO310 := n6_
               have HO315 := n7_
               have HO328 := n8_
               have HO332 := n9_
               have HO336 := n10_
               have BK272 := n11_
               have BK273 := n12_
               have BK289 := n13_
               have BK294 := n14_
               have BK299 := n15_
               have BK305 := n16_
               have BK338 := n17_
               have GW338 := n18_
               have GE338 := n19_
               have NB272_338 := n20_
               have NB338_272 := n21_
               have NB273_338 := n22_
               have NB338_273 := n23_
               have NB289_338 := n24_
               have NB338_289 := n25_
               have NB294_338 := n26_
               have NB338_294 := n27_
               have NB299_338 := n28_
               have NB338_299 := n29_
               have NB305_338 := n30_
               have NB338_305 := n31_
               have HB := n32_
               clear n0_ n1_ n2_ n3_ n4_ n5_ n6_ n7_ n8_ n9_ n10_ n11_ n12_ n13_ n14_ n15_ n16_ n17_ n18_ n19_ n20_ n21_ n22_ n23_ n24_ n25_ n26_ n27_ n28_ n29_ n30_ n31_ n32_
               have hHeld : w127.cell? ⟨gb272, 0, none⟩ = some (.int .i64 a0_0) ∧ w127.cell? ⟨gb272, 1, none⟩ = some (.slice A0_1 l0_1.length c0_1) ∧ w127.cell? ⟨gb273, 0, none⟩ = some (.int .i64 a1_0) ∧ w127.cell? ⟨gb273, 1, none⟩ = some (.slice A1_1 l1_1.length c1_1) := hS_
               obtain ⟨Ao129, co129, eo129⟩ := Kd.S_slice HO336.out
               (first | subst eo129 | (injection eo129 with f1_ f2_ f3_; have f4_ := f1_.symm; have f5_ := f3_.symm; clear f1_ f2_ f3_; subst f4_; subst f5_))
               refine norm_ (a' := ?_) ?_ ?_
               rotate_left
               ·simp only [putAll, Act.put, List.setIfInBounds_toArray, List.set_cons_zero, List.set_cons_succ]
                rfl
               refine one_ (i := 9) (N := none) #[true, true, true, true, true, true, true, true, true, true, false] rfl rfl (one_of HT_.out (by kernel_rfl)) (by decide) (fun K hK => ?_)
               have hs128 : w127.cell? ⟨gb338, 0, none⟩ = some (.int .i64 0) := (blk_cell BK338.out 0).trans rfl
               have hfs128 := blk_frozen BK338.out 0
               have hns128_0 := NB272_338.out
               have hns128_1 := NB273_338.out
               have hns128_2 := NB289_338.out
               have hns128_3 := NB294_338.out
               have hns128_4 := NB299_338.out
               have hns128_5 := NB305_338.out
               have hms128_0 := NB338_272.out
               have hms128_1 := NB338_273.out
               have hms128_2 := NB338_289.out
               have hms128_3 := NB338_294.out
               have hms128_4 := NB338_299.out
               have hms128_5 := NB338_305.out
               have hs130 : w127.cell? ⟨gb338, 1, none⟩ = some (.slice none 0 0) := (blk_cell BK338.out 1).trans rfl
               have hfs130 := blk_frozen BK338.out 1
               have hns130_0 := NB272_338.out
               have hns130_1 := NB273_338.out
               have hns130_2 := NB289_338.out
               have hns130_3 := NB294_338.out
               have hns130_4 := NB299_338.out
               have hns130_5 := NB305_338.out
               have hms130_0 := NB338_272.out
               have hms130_1 := NB338_273.out
               have hms130_2 := NB338_289.out
               have hms130_3 := NB338_294.out
               have hms130_4 := NB338_299.out
               have hms130_5 := NB338_305.out
               refine skip_ (w1 := ?_) (by rfl) rfl ?_ ?_
               rotate_left
               ·go_simp
                rfl
               refine hK.out _ _ ⟨((cell_far (p := ⟨gb338, _, none⟩) NB272_338.out _).trans (((cell_far (p := ⟨gb338, _, none⟩) NB272_338.out _).trans (hHeld.1)))), ((cell_far (p := ⟨gb338, _, none⟩) NB272_338.out _).trans (((cell_far (p := ⟨gb338, _, none⟩) NB272_338.out _).trans (hHeld.2.1)))), ((cell_far (p := ⟨gb338, _, none⟩) NB273_338.out _).trans (((cell_far (p := ⟨gb338, _, none⟩) NB273_338.out _).trans (hHeld.2.2.1)))), ((cell_far (p := ⟨gb338, _, none⟩) NB273_338.out _).trans (((cell_far (p := ⟨gb338, _, none⟩) NB273_338.out _).trans (hHeld.2.2.2))))⟩ (fun hHeld => ?_)
               clear hK K
               refine pure_ (i := 10) (N := some 16) (v := ?_) (a' := ?_) #[true, true, true, true, true, true, true, true, true, true, true] rfl rfl (any_of HT_.out (by kernel_rfl)) (fun _ _ _ h => h) (Or.inl ⟨by rfl, ?_⟩) ?_ ?_
               rotate_left
               ·intro w'
                go_simp
                with_reducible rfl
               rotate_left
               ·simp only [Act.put, List.setIfInBounds_toArray, List.set_cons_zero, List.set_cons_succ, i64_w, i32_w]
                rfl
               refine done_ (done_of HT_.out (by kernel_rfl)) ?_
               have hnb131 := NB338_272.out
               have hnc131 := NB272_338.out
               have hnb132 := NB338_273.out
               have hnc132 := NB273_338.out
               have hnb133 := NB338_289.out
               have hnc133 := NB289_338.out
               have hnb134 := NB338_294.out
               have hnc134 := NB294_338.out
               have hnb135 := NB338_299.out
               have hnc135 := NB299_338.out
               have hnb136 := NB338_305.out
               have hnc136 := NB305_338.out
               obtain ⟨hcz137_0, hcz137_1⟩ := c2 BK338
               have hfz137_0 := blk_frozen BK338.out 0
               have hfz137_1 := blk_frozen BK338.out 1
               obtain ⟨hcz138_0, hcz138_1⟩ := c2 BK289
               have hfz138_0 := blk_frozen BK289.out 0
               have hfz138_1 := blk_frozen BK289.out 1
               try go_wp2_with (first | ((with_reducible refine gate_callee (f := 28) rfl ?_); refine gl (some 104) rfl rfl Try.func28 (by kernel_rfl) rfl #[.agg #[.int .i64 t333, .slice Ao129 t334.length co129], .agg #[.int .i64 t284, .slice Ao68 t285.length co68]] rfl ?_; (with_reducible refine (laws_eqSystem.calls k t333 _ _ t334 t284 _ _ t285 true _ ?side1 ?side2 ?side3 ?side4 A46.out).mono ?_); (case side1 => refine (Kd.S_reads' (e := 29) (base := w.heap.size) (ok := fun k_ => (some k_ ≠ (v278 : Value).ownBlock ∧ (some k_ ≠ (v282 : Value).ownBlock ∧ (some k_ ≠ (.slice Ao68 t285.length co68 : Value).ownBlock ∧ (some k_ ≠ (.slice Ao78 t291.length co78 : Value).ownBlock ∧ (some k_ ≠ (.slice Ao88 t296.length co88 : Value).ownBlock ∧ (some k_ ≠ (.slice Ao98 t301.length co98 : Value).ownBlock ∧ (some k_ ≠ (.slice Ao103 t308.length co103 : Value).ownBlock ∧ (some k_ ≠ (.slice Ao107 t313.length co107 : Value).ownBlock ∧ (some k_ ≠ (v327 : Value).ownBlock ∧ (some k_ ≠ (v331 : Value).ownBlock ∧ k_ ≠ gb299))))))))))) (n := t334.length) (c := co129) ?_).2.2; exact (by (with_reducible repeat (first | apply Kd.S_alloc | apply Kd.S_drewN | apply Kd.S_drew)); exact (Kd.S_mono (Kd.S_far (p := ⟨gb338, 1, none⟩) (Kd.S_far (p := ⟨gb338, 0, none⟩) (Kd.S_types HO336.out BK338.out (by decide)) (fun _ hk => hk.2) (.int .i64 t333)) (fun _ hk => hk.2) (.slice Ao129 t334.length co129)) (fun _ h_ => h_.1)))); (case side2 => exact (Kd.S_reads' HO336.out).2.1); (case side3 => refine (Kd.S_reads' (e := 29) (base := w.heap.size) (ok := fun k_ => (some k_ ≠ (v278 : Value).ownBlock ∧ (some k_ ≠ (v282 : Value).ownBlock ∧ (some k_ ≠ (.slice Ao78 t291.length co78 : Value).ownBlock ∧ (some k_ ≠ (.slice Ao88 t296.length co88 : Value).ownBlock ∧ (some k_ ≠ (.slice Ao98 t301.length co98 : Value).ownBlock ∧ (some k_ ≠ (.slice Ao103 t308.length co103 : Value).ownBlock ∧ (some k_ ≠ (.slice Ao107 t313.length co107 : Value).ownBlock ∧ (some k_ ≠ (v327 : Value).ownBlock ∧ (some k_ ≠ (v331 : Value).ownBlock ∧ (some k_ ≠ (.slice Ao129 t334.length co129 : Value).ownBlock ∧ (k_ ≠ gb299 ∧ (k_ < w66.heap.size ∧ (k_ < w72.heap.size ∧ (k_ < w73.heap.size ∧ (k_ < w81.heap.size ∧ (k_ < w82.heap.size ∧ (k_ < w90.heap.size ∧ (k_ < w100.heap.size ∧ (k_ < w104.heap.size ∧ k_ < w119.heap.size)))))))))))))))))))) (n := t285.length) (c := co68) ?_).2.2; exact (by (with_reducible repeat (first | apply Kd.S_alloc | apply Kd.S_drewN | apply Kd.S_drew)); exact (Kd.S_mono (Kd.S_far (p := ⟨gb338, 1, none⟩) (Kd.S_far (p := ⟨gb338, 0, none⟩) (Kd.S_types HO287.out BK338.out (by decide)) (fun _ hk => hk.2) (.int .i64 t333)) (fun _ hk => hk.2) (.slice Ao129 t334.length co129)) (fun _ h_ => h_.1)))); (case side4 => exact (Kd.S_reads' HO287.out).2.1); rintro e w139 ⟨rfl, hb⟩; refine ⟨_, rfl, ?_⟩; have n0_ := Aside0.mk (Kd.S_below (by (with_reducible repeat (first | apply Kd.S_alloc | apply Kd.S_drewN | apply Kd.S_drew)); exact (Kd.S_mono (Kd.S_far (p := ⟨gb338, 1, none⟩) (Kd.S_far (p := ⟨gb338, 0, none⟩) (Kd.S_types HO279.out BK338.out (by decide)) (fun _ hk => hk.2) (.int .i64 t333)) (fun _ hk => hk.2) (.slice Ao129 t334.length co129)) (fun _ h_ => h_.1))) hb); have n1_ := Aside0.mk (Kd.R_below (by (with_reducible repeat (first | apply Kd.R_alloc | apply Kd.R_drewN | apply Kd.R_drew)); exact (Kd.R_mono (Kd.R_far (p := ⟨gb338, 1, none⟩) (Kd.R_far (p := ⟨gb338, 0, none⟩) (Kd.R_types HO283.out BK338.out (by decide)) (fun _ hk => hk.2) (.int .i64 t333)) (fun _ hk => hk.2) (.slice Ao129 t334.length co129)) (fun _ h_ => h_.1))) hb); have n2_ := Aside0.mk (Kd.S_below (by (with_reducible repeat (first | apply Kd.S_alloc | apply Kd.S_drewN | apply Kd.S_drew)); exact (Kd.S_mono (Kd.S_far (p := ⟨gb338, 1, none⟩) (Kd.S_far (p := ⟨gb338, 0, none⟩) (Kd.S_types HO287.out BK338.out (by decide)) (fun _ hk => hk.2) (.int .i64 t333)) (fun _ hk => hk.2) (.slice Ao129 t334.length co129)) (fun _ h_ => h_.1))) hb); have n3_ := Aside0.mk (Kd.S_below (by (with_reducible repeat (first | apply Kd.S_alloc | apply Kd.S_drewN | apply Kd.S_drew)); exact (Kd.S_mono (Kd.S_far (p := ⟨gb338, 1, none⟩) (Kd.S_far (p := ⟨gb338, 0, none⟩) (Kd.S_types HO293.out BK338.out (by decide)) (fun _ hk => hk.2) (.int .i64 t333)) (fun _ hk => hk.2) (.slice Ao129 t334.length co129)) (fun _ h_ => h_.1))) hb); have n4_ := Aside0.mk (Kd.R_below (by (with_reducible repeat (first | apply Kd.R_alloc | apply Kd.R_drewN | apply Kd.R_drew)); exact (Kd.R_mono (Kd.R_far (p := ⟨gb338, 1, none⟩) (Kd.R_far (p := ⟨gb338, 0, none⟩) (Kd.R_types HO298.out BK338.out (by decide)) (fun _ hk => hk.2) (.int .i64 t333)) (fun _ hk => hk.2) (.slice Ao129 t334.length co129)) (fun _ h_ => h_.1))) hb); have n5_ := Aside0.mk (Kd.S_below (by (with_reducible repeat (first | apply Kd.S_alloc | apply Kd.S_drewN | apply Kd.S_drew)); exact (Kd.S_mono (Kd.S_far (p := ⟨gb338, 1, none⟩) (Kd.S_far (p := ⟨gb338, 0, none⟩) (Kd.S_types HO303.out BK338.out (by decide)) (fun _ hk => hk.2) (.int .i64 t333)) (fun _ hk => hk.2) (.slice Ao129 t334.length co129)) (fun _ h_ => h_.1))) hb); have n6_ := Aside0.mk (Kd.S_below (by (with_reducible repeat (first | apply Kd.S_alloc | apply Kd.S_drewN | apply Kd.S_drew)); exact (Kd.S_mono (Kd.S_far (p := ⟨gb338, 1, none⟩) (Kd.S_far (p := ⟨gb338, 0, none⟩) (Kd.S_types HO310.out BK338.out (by decide)) (fun _ hk => hk.2) (.int .i64 t333)) (fun _ hk => hk.2) (.slice Ao129 t334.length co129)) (fun _ h_ => h_.1))) hb); have n7_ := Aside0.mk (Kd.R_below (by (with_reducible repeat (first | apply Kd.R_alloc | apply Kd.R_drewN | apply Kd.R_drew)); exact (Kd.R_mono (Kd.R_far (p := ⟨gb338, 1, none⟩) (Kd.R_far (p := ⟨gb338, 0, none⟩) (Kd.R_types HO315.out BK338.out (by decide)) (fun _ hk => hk.2) (.int .i64 t333)) (fun _ hk => hk.2) (.slice Ao129 t334.length co129)) (fun _ h_ => h_.1))) hb); have n8_ := Aside0.mk (Kd.S_below (by (with_reducible repeat (first | apply Kd.S_alloc | apply Kd.S_drewN | apply Kd.S_drew)); exact (Kd.S_mono (Kd.S_far (p := ⟨gb338, 1, none⟩) (Kd.S_far (p := ⟨gb338, 0, none⟩) (Kd.S_types HO328.out BK338.out (by decide)) (fun _ hk => hk.2) (.int .i64 t333)) (fun _ hk => hk.2) (.slice Ao129 t334.length co129)) (fun _ h_ => h_.1))) hb); have n9_ := Aside0.mk (Kd.R_below (by (with_reducible repeat (first | apply Kd.R_alloc | apply Kd.R_drewN | apply Kd.R_drew)); exact (Kd.R_mono (Kd.R_far (p := ⟨gb338, 1, none⟩) (Kd.R_far (p := ⟨gb338, 0, none⟩) (Kd.R_types HO332.out BK338.out (by decide)) (fun _ hk => hk.2) (.int .i64 t333)) (fun _ hk => hk.2) (.slice Ao129 t334.length co129)) (fun _ h_ => h_.1))) hb); have n10_ := Aside0.mk (Kd.S_below (by (with_reducible repeat (first | apply Kd.S_alloc | apply Kd.S_drewN | apply Kd.S_drew)); exact (Kd.S_mono (Kd.S_far (p := ⟨gb338, 1, none⟩) (Kd.S_far (p := ⟨gb338, 0, none⟩) (Kd.S_types HO336.out BK338.out (by decide)) (fun _ hk => hk.2) (.int .i64 t333)) (fun _ hk => hk.2) (.slice Ao129 t334.length co129)) (fun _ h_ => h_.1))) hb); have n11_ := bf BK272 hb; have n12_ := bf BK273 hb; have n13_ := bf BK289 hb; have n14_ := bf BK294 hb; have n15_ := bf BK299 hb; have n16_ := bf BK305 hb; have n17_ := Aside0.mk (blk_below (g := gb338) (o := .cells #[.int .i64 t333, .slice Ao129 t334.length co129] 26 (0, 0)) (by (with_reducible repeat (first | refine blk_drewN ?_ _ | refine blk_drew ?_ | refine blk_alloc ?_ _)); refine blk_put (cs := #[.int .i64 t333, .slice none 0 0]) ?_ 1 _ rfl; (with_reducible repeat (first | refine blk_drewN ?_ _ | refine blk_drew ?_ | refine blk_alloc ?_ _)); refine blk_put (cs := #[.int .i64 0, .slice none 0 0]) ?_ 0 _ rfl; (with_reducible repeat (first | refine blk_drewN ?_ _ | refine blk_drew ?_ | refine blk_alloc ?_ _)); exact BK338.out) hb); have n18_ := bs HB hb; clear HO279 HO283 HO287 HO293 HO298 HO303 HO310 HO315 HO328 HO332 HO336 BK272 BK273 BK289 BK294 BK299 BK305 BK338 HB; have HO279 := n0_; have HO283 := n1_; have HO287 := n2_; have HO293 := n3_; have HO298 := n4_; have HO303 := n5_; have HO310 := n6_; have HO315 := n7_; have HO328 := n8_; have HO332 := n9_; have HO336 := n10_; have BK272 := n11_; have BK273 := n12_; have BK289 := n13_; have BK294 := n14_; have BK299 := n15_; have BK305 := n16_; have BK338 := n17_; have HB := n18_; clear n0_ n1_ n2_ n3_ n4_ n5_ n6_ n7_ n8_ n9_ n10_ n11_ n12_ n13_ n14_ n15_ n16_ n17_ n18_; (try clear hb); obtain ⟨hcz140_0, hcz140_1⟩ := c2 BK305; have hfz140_0 := blk_frozen BK305.out 0; have hfz140_1 := blk_frozen BK305.out 1) | ((with_reducible refine gate_callee (f := 32) rfl ?_); refine goesL_ (some 113) rfl rfl Try.func32 (by kernel_rfl) rfl #[.agg #[.int .i64 t300, .slice Ao98 t323.length co98], .int .i64 1] rfl (by (try simp only [List.map_toArray, List.map_cons, List.map_nil]); first | done | (rw [show t323.length = t301.length from (Kd.S_reads' HO303.out).1.symm] <;> rfl) | rfl | (simp only [List.length_drop, List.length_take]; rfl)) ?_; (with_reducible refine (laws_heldSystem.calls k t300 _ _ t323 1 t340 _ ?side1 ?side2 A49.out).mono ?_); (case side1 => exact mc ((Kd.S_reads' HO303.out).2.2)); (case side2 => rw [show t323.length = t301.length from (Kd.S_reads' HO303.out).1.symm]; exact (Kd.S_reads' HO303.out).2.1); rintro e w141 ⟨rfl, hb⟩; refine ⟨_, rfl, ?_⟩; replace HO279 := bS HO279 hb; replace HO283 := rb HO283 hb; replace HO287 := bS HO287 hb; replace HO293 := bS HO293 hb; replace HO298 := rb HO298 hb; replace HO303 := bS HO303 hb; replace HO310 := bS HO310 hb; replace HO315 := rb HO315 hb; replace HO328 := bS HO328 hb; replace HO332 := rb HO332 hb; replace HO336 := bS HO336 hb; replace BK272 := bb BK272 hb; replace BK273 := bb BK273 hb; replace BK289 := bb BK289 hb; replace BK294 := bb BK294 hb; replace BK299 := bb BK299 hb; replace BK305 := bb BK305 hb; replace BK338 := bb BK338 hb; replace HB := bs HB hb; (try clear hb)))
               go_ret
               exact ⟨by first | rfl | (simp [errW_none, errW_some] <;> rfl) | (simp [*, errW_none, errW_some] <;> rfl), ms HB⟩
              ·rw [if_neg c51] at H
               have c51b0 : (t340 == t322) = false := beq_eq_false_iff_ne.mpr c51
               have c51b1 : (t340 != t322) = true := bne_iff_ne.mpr c51
               obtain rfl := Option.some.inj H
               exact absurd hT_ (by decide)
           ·replace c47 := Bool.eq_false_iff.mpr c47
            subst c47
            have H1 : (some false) = some r := by rw [if_neg (show ¬ (false = true) by decide)] at H; exact H
            clear H
            have H := H1
            clear H1
            obtain rfl := Option.some.inj H
            exact absurd hT_ (by decide)
          ·rw [if_neg c42] at H
           have c42b0 : (t324 == t322) = false := beq_eq_false_iff_ne.mpr c42
           have c42b1 : (t324 != t322) = true := bne_iff_ne.mpr c42
           obtain rfl := Option.some.inj H
           exact absurd hT_ (by decide)
        ·replace c38 := Bool.eq_false_iff.mpr c38
         subst c38
         have H1 : (some false) = some r := by rw [if_neg (show ¬ (false = true) by decide)] at H; exact H
         clear H
         have H := H1
         clear H1
         obtain rfl := Option.some.inj H
         exact absurd hT_ (by decide)
      ·replace c33 := Bool.eq_false_iff.mpr c33
       subst c33
       have H1 : (some false) = some r := by rw [if_neg (show ¬ (false = true) by decide)] at H; exact H
       clear H
       have H := H1
       clear H1
       obtain rfl := Option.some.inj H
       exact absurd hT_ (by decide)
     ·replace c30 := Bool.eq_false_iff.mpr c30
      subst c30
      have H1 : (some false) = some r := by rw [if_neg (show ¬ (false = true) by decide)] at H; exact H
      clear H
      have H := H1
      clear H1
      obtain rfl := Option.some.inj H
      exact absurd hT_ (by decide)
   ·replace c26 := Bool.eq_false_iff.mpr c26
    subst c26
    have H1 : (some false) = some r := by rw [if_neg (show ¬ (false = true) by decide)] at H; exact H
    clear H
    have H := H1
    clear H1
    obtain rfl := Option.some.inj H
    exact absurd hT_ (by decide)

/-- THE ONE PURE STATEMENT of laws_FnExactAddRow. -/
def laws_FnExactAddRow.Pure : Prop := ∀ (a0_0 : Int) (l0_1 : List (S43)) (a1_0 : Int) (l1_1 : List Int), ((Lit.int .i64 a0_0).wf = true) → (l0_1.length ≤ 9223372036854775807 ∧ ∀ x0 ∈ l0_1, ((Lit.int .i64 x0.f0).wf = true) ∧ (x0.f1.length ≤ 9223372036854775807 ∧ ∀ x1 ∈ x0.f1, (Lit.int .i64 x1).wf = true)) → ((Lit.int .i64 a1_0).wf = true) → (l1_1.length ≤ 9223372036854775807 ∧ ∀ x0 ∈ l1_1, (Lit.int .i64 x0).wf = true) → ∃ k, laws_FnExactAddRow.f k a0_0 l0_1 a1_0 l1_1 = some true

end Go.Proofs.Ytlencemmlgkflaa.QFnExactAddRow
