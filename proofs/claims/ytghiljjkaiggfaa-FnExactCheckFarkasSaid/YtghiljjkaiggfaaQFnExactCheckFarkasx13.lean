-- Made by a program of this claim's own (wip/print): not the kit's print as it stands.
import Derived.Test.YtghiljjkaiggfaaUFnExactCheckFarkasTri
import Derived.Test.YtghiljjkaiggfaaQFnExactCheckFarkasx0
import Derived.Test.YtghiljjkaiggfaaQFnExactCheckFarkasx1
import Derived.Test.YtghiljjkaiggfaaQFnExactCheckFarkasx2
import Derived.Test.YtghiljjkaiggfaaQFnExactCheckFarkasx7
import Derived.Test.YtghiljjkaiggfaaQFnExactCheckFarkasx8
import Derived.Test.YtghiljjkaiggfaaQFnExactCheckFarkasx12
namespace Go.Proofs.Ytghiljjkaiggfaa.QFnExactCheckFarkas
open Go.RowKit Go.Proofs.YtghiljjkaiggfaaV.PrintWords Go.Proofs.YtghiljjkaiggfaaV.PrintLast Go.Proofs.YtghiljjkaiggfaaV.PrintMore
attribute [local go_sem] max2_int min2_int max_two min_two max_three min_three max_four min_four   -- for this text's walks alone
set_option linter.unusedVariables false
set_option linter.unusedSimpArgs false

/-! ### laws_FnExactCheckFarkas: function 8 -/
def laws_FnExactCheckFarkas.f (k : Nat) (a0_0 : Int) (l0_1 : List (S27)) (a1_0 : Int) (l1_1 : List Int) (a2_0 : Int) (l2_1 : List Int) : Option (Bool) := (laws_szSystem.f k a0_0 l0_1 1048576).bind fun t367 => (if t367 < 0 then (some true) else ((laws_szLin.f a1_0 l1_1 t367).bind fun t368 => (if t368 < 0 then (some true) else ((laws_szFarkas.f a2_0 l2_1 t368).bind fun t369 => (if t369 < 0 then (some true) else ((laws_toSystem.f k a0_0 l0_1).bind fun bt370 => ((laws_toLin.f k a1_0 l1_1).bind fun bt374 => ((laws_toFarkas.f k a2_0 l2_1).bind fun bt378 => ((spec_CheckFarkas.f k bt370.1 bt370.2 bt374.1 bt374.2 bt378.1 bt378.2).bind fun t382 => ((laws_toSystem.f k a0_0 l0_1).bind fun bt383 => ((laws_toLin.f k a1_0 l1_1).bind fun bt388 => ((laws_toFarkas.f k a2_0 l2_1).bind fun bt393 => ((impl_CheckFarkas.f k bt383.1 bt383.2 bt388.1 bt388.2 bt393.1 bt393.2).bind fun t398 => (if (t398 != t382) = true then (some false) else ((laws_toSystem.f k a0_0 l0_1).bind fun bt399 => ((laws_eqSystem.f k bt383.1 bt383.2 bt399.1 bt399.2).bind fun t403 => (if t403 = true then ((laws_toLin.f k a1_0 l1_1).bind fun bt404 => ((laws_eqLin.f k bt388.1 bt388.2 bt404.1 bt404.2).bind fun t408 => (if t408 = true then ((laws_toFarkas.f k a2_0 l2_1).bind fun bt409 => ((laws_eqFarkas.f k bt393.1 bt393.2 bt409.1 bt409.2).bind fun t413 => (if t413 = true then (some true) else (some false)))) else (some false)))) else (some false))))))))))))))))))
theorem laws_FnExactCheckFarkas.mono : ∀ a0 a1 a2 a3 a4 a5 k, LeO (laws_FnExactCheckFarkas.f k a0 a1 a2 a3 a4 a5) (laws_FnExactCheckFarkas.f (k + 1) a0 a1 a2 a3 a4 a5) := by
 intro a0 a1 a2 a3 a4 a5 k
 unfold laws_FnExactCheckFarkas.f
 repeat' first
   | (with_reducible exact impl_CheckFarkas.mono _ _ _ _ _ _ _)
   | (with_reducible exact laws_eqFarkas.mono _ _ _ _ _)
   | (with_reducible exact laws_eqLin.mono _ _ _ _ _)
   | (with_reducible exact laws_eqSystem.mono _ _ _ _ _)
   | (with_reducible exact laws_szSystem.mono _ _ _ _)
   | (with_reducible exact laws_toFarkas.mono _ _ _)
   | (with_reducible exact laws_toLin.mono _ _ _)
   | (with_reducible exact laws_toSystem.mono _ _ _)
   | (with_reducible exact spec_CheckFarkas.mono _ _ _ _ _ _ _)
   | (with_reducible exact LeO.refl _)
   | (with_reducible exact LeO.none _)
   | (with_reducible refine LeO.ite ?_ ?_)
   | (with_reducible refine LeO.bind ?_ (fun _ => ?_))
   | exact impl_CheckFarkas.mono _ _ _ _ _ _ _
   | exact laws_eqFarkas.mono _ _ _ _ _
   | exact laws_eqLin.mono _ _ _ _ _
   | exact laws_eqSystem.mono _ _ _ _ _
   | exact laws_szSystem.mono _ _ _ _
   | exact laws_toFarkas.mono _ _ _
   | exact laws_toLin.mono _ _ _
   | exact laws_toSystem.mono _ _ _
   | exact spec_CheckFarkas.mono _ _ _ _ _ _ _
   | exact LeO.none _
   | refine LeO.ite ?_ ?_
   | refine LeO.bind ?_ (fun _ => ?_)
def laws_FnExactCheckFarkas.T11 : Bool × List (List Nat × List Nat) := (true, [([], []), ([0], [0]), ([], []), ([2, 1], [2]), ([], []), ([4, 3], [4]), ([1, 3, 5, 5], [1, 3, 5]), ([6, 6, 0, 1, 2, 3, 4, 5, 6], [6])])
def laws_FnExactCheckFarkas.B11 : List Nat := [0, 1, 0, 7, 0, 31, 63, 127]
theorem laws_FnExactCheckFarkas.tab11 : rtab .any (opsOf Try.f8 11) = laws_FnExactCheckFarkas.T11 := by kernel_rfl
theorem laws_FnExactCheckFarkas.bits11 : waitsOk laws_FnExactCheckFarkas.T11.2 laws_FnExactCheckFarkas.B11 = true := by kernel_rfl
set_option maxHeartbeats 8000000 in
set_option maxRecDepth 100000 in
theorem laws_FnExactCheckFarkas.calls (k : Nat) (a0_0 : Int) (A0_1 : Option Addr) (c0_1 : Nat) (l0_1 : List (S27)) (a1_0 : Int) (A1_1 : Option Addr) (c1_1 : Nat) (l1_1 : List Int) (a2_0 : Int) (A2_1 : Option Addr) (c2_1 : Nat) (l2_1 : List Int) (r : Bool) (w : World) (hr0_1 : Kd.C k27 w A0_1 l0_1.length l0_1) (hc0_1 : l0_1.length ≤ c0_1) (hr1_1 : Kd.C (Kd.int .i64) w A1_1 l1_1.length l1_1) (hc1_1 : l1_1.length ≤ c1_1) (hr2_1 : Kd.C (Kd.int .i64) w A2_1 l2_1.length l2_1) (hc2_1 : l2_1.length ≤ c2_1) (h : laws_FnExactCheckFarkas.f k a0_0 l0_1 a1_0 l1_1 a2_0 l2_1 = some r) :
  Calls Try.prog 8 #[.agg #[.int .i64 a0_0, .slice A0_1 l0_1.length c0_1], .agg #[.int .i64 a1_0, .slice A1_1 l1_1.length c1_1], .agg #[.int .i64 a2_0, .slice A2_1 l2_1.length c2_1]] w fun e w' => e = .returned (.bool r) ∧ Below w.heap.size w w' := by
 have hu24 := Try.underlying24
 have hu27 := Try.underlying27
 have hu62 := Try.underlying62
 have hu32 := Try.underlying32
 have hu36 := Try.underlying36
 have hu65 := Try.underlying65
 have HR0_1 := Aside0.mk hr0_1
 have HC0_1 := Aside0.mk hc0_1
 clear hr0_1 hc0_1
 have HR1_1 := Aside0.mk hr1_1
 have HC1_1 := Aside0.mk hc1_1
 clear hr1_1 hc1_1
 have HR2_1 := Aside0.mk hr2_1
 have HC2_1 := Aside0.mk hc2_1
 clear hr2_1 hc2_1
 have HB := Aside0.mk (Below.refl w.heap.size w)
 have H : ((laws_szSystem.f k a0_0 l0_1 1048576).bind fun t367 => (if t367 < 0 then (some true) else ((laws_szLin.f a1_0 l1_1 t367).bind fun t368 => (if t368 < 0 then (some true) else ((laws_szFarkas.f a2_0 l2_1 t368).bind fun t369 => (if t369 < 0 then (some true) else ((laws_toSystem.f k a0_0 l0_1).bind fun bt370 => ((laws_toLin.f k a1_0 l1_1).bind fun bt374 => ((laws_toFarkas.f k a2_0 l2_1).bind fun bt378 => ((spec_CheckFarkas.f k bt370.1 bt370.2 bt374.1 bt374.2 bt378.1 bt378.2).bind fun t382 => ((laws_toSystem.f k a0_0 l0_1).bind fun bt383 => ((laws_toLin.f k a1_0 l1_1).bind fun bt388 => ((laws_toFarkas.f k a2_0 l2_1).bind fun bt393 => ((impl_CheckFarkas.f k bt383.1 bt383.2 bt388.1 bt388.2 bt393.1 bt393.2).bind fun t398 => (if (t398 != t382) = true then (some false) else ((laws_toSystem.f k a0_0 l0_1).bind fun bt399 => ((laws_eqSystem.f k bt383.1 bt383.2 bt399.1 bt399.2).bind fun t403 => (if t403 = true then ((laws_toLin.f k a1_0 l1_1).bind fun bt404 => ((laws_eqLin.f k bt388.1 bt388.2 bt404.1 bt404.2).bind fun t408 => (if t408 = true then ((laws_toFarkas.f k a2_0 l2_1).bind fun bt409 => ((laws_eqFarkas.f k bt393.1 bt393.2 bt409.1 bt409.2).bind fun t413 => (if t413 = true then (some true) else (some false)))) else (some false)))) else (some false))))))))))))))))))) = some r := h
 clear h
 replace H := Option.bind_eq_some_iff.mp H
 obtain ⟨t367, A40, H⟩ := H
 replace H : (if t367 < 0 then (some true) else ((laws_szLin.f a1_0 l1_1 t367).bind fun t368 => (if t368 < 0 then (some true) else ((laws_szFarkas.f a2_0 l2_1 t368).bind fun t369 => (if t369 < 0 then (some true) else ((laws_toSystem.f k a0_0 l0_1).bind fun bt370 => ((laws_toLin.f k a1_0 l1_1).bind fun bt374 => ((laws_toFarkas.f k a2_0 l2_1).bind fun bt378 => ((spec_CheckFarkas.f k bt370.1 bt370.2 bt374.1 bt374.2 bt378.1 bt378.2).bind fun t382 => ((laws_toSystem.f k a0_0 l0_1).bind fun bt383 => ((laws_toLin.f k a1_0 l1_1).bind fun bt388 => ((laws_toFarkas.f k a2_0 l2_1).bind fun bt393 => ((impl_CheckFarkas.f k bt383.1 bt383.2 bt388.1 bt388.2 bt393.1 bt393.2).bind fun t398 => (if (t398 != t382) = true then (some false) else ((laws_toSystem.f k a0_0 l0_1).bind fun bt399 => ((laws_eqSystem.f k bt383.1 bt383.2 bt399.1 bt399.2).bind fun t403 => (if t403 = true then ((laws_toLin.f k a1_0 l1_1).bind fun bt404 => ((laws_eqLin.f k bt388.1 bt388.2 bt404.1 bt404.2).bind fun t408 => (if t408 = true then ((laws_toFarkas.f k a2_0 l2_1).bind fun bt409 => ((laws_eqFarkas.f k bt393.1 bt393.2 bt409.1 bt409.2).bind fun t413 => (if t413 = true then (some true) else (some false)))) else (some false)))) else (some false)))))))))))))))))) = some r := H
 have A4 := Aside0.mk A40
 clear A40
 by_cases c5 : t367 < 0
 ·rw [if_pos c5] at H
  have c5b0 : decide (t367 < 0) = true := decide_eq_true c5
  clear c5
  obtain rfl := Option.some.inj H
  go_enter Try.func8, Try.ntmps8
  go_wp2_with (first | ((with_reducible refine gate_dst (N := 3) rfl ?_); refine box_event ?hg (N := 3) ?hd (cs := #[.int .i64 a0_0, .slice A0_1 l0_1.length c0_1]) (t := 24) ?hr ?_; (case hd => rfl); (case hg => rfl); (case hr => first | (go_simp; done) | (go_simp; rfl)); intro gb364 hg w6 hbox hb; have BK364 := Aside0.mk (hbox); have GW364 := gw hg HB; have GE364 := gw hg HB; replace HB := bs HB hb; clear hb hbox hg) | ((with_reducible refine gate_dst (N := 4) rfl ?_); refine box_event ?hg (N := 4) ?hd (cs := #[.int .i64 a1_0, .slice A1_1 l1_1.length c1_1]) (t := 27) ?hr ?_; (case hd => rfl); (case hg => rfl); (case hr => first | (go_simp; done) | (go_simp; rfl)); intro gb365 hg w7 hbox hb; have BK365 := Aside0.mk (hbox); have GW365 := gw hg HB; have GE365 := gw hg HB; replace HB := bs HB hb; have NB364_365 := nl hg BK364; have NB365_364 := ng hg BK364; replace BK364 := bb BK364 hb; clear hb hbox hg) | ((with_reducible refine gate_dst (N := 5) rfl ?_); refine box_event ?hg (N := 5) ?hd (cs := #[.int .i64 a2_0, .slice A2_1 l2_1.length c2_1]) (t := 62) ?hr ?_; (case hd => rfl); (case hg => rfl); (case hr => first | (go_simp; done) | (go_simp; rfl)); intro gb366 hg w8 hbox hb; have BK366 := Aside0.mk (hbox); have GW366 := gw hg HB; have GE366 := gw hg HB; replace HB := bs HB hb; have NB364_366 := nl hg BK364; have NB366_364 := ng hg BK364; replace BK364 := bb BK364 hb; have NB365_366 := nl hg BK365; have NB366_365 := ng hg BK365; replace BK365 := bb BK365 hb; clear hb hbox hg; have hnb9 := NB364_365.out; have hnc9 := NB365_364.out; have hnb10 := NB364_366.out; have hnc10 := NB366_364.out; obtain ⟨hcz11_0, hcz11_1⟩ := c2 BK364; have hfz11_0 := blk_frozen BK364.out 0; have hfz11_1 := blk_frozen BK364.out 1) | ((with_reducible refine gate_callee (f := 11) rfl ?_); refine goesL_ (some 15) rfl rfl Try.func11 (by kernel_rfl) rfl #[.agg #[.int .i64 a0_0, .slice A0_1 l0_1.length c0_1], .int .i64 1048576] rfl (by (try simp only [List.map_toArray, List.map_cons, List.map_nil]); first | done | rfl | (simp only [List.length_drop, List.length_take]; rfl)) ?_; (with_reducible refine (laws_szSystem.calls k a0_0 _ _ l0_1 1048576 t367 _ ?side1 ?side2 A4.out).mono ?_); (case side1 => exact mc ((Kd.C_below HR0_1.out HB.out))); (case side2 => exact HC0_1.out); rintro e w12 ⟨rfl, hb⟩; refine ⟨_, rfl, ?_⟩; replace BK364 := bb BK364 hb; replace BK365 := bb BK365 hb; replace BK366 := bb BK366 hb; replace HB := bs HB hb; (try clear hb)))
  go_ret
  exact ⟨by first | rfl | (simp [errW_none, errW_some] <;> rfl) | (simp [*, errW_none, errW_some] <;> rfl), ms HB⟩
 ·rw [if_neg c5] at H
  have c5b0 : decide (t367 < 0) = false := decide_eq_false c5
  clear c5
  replace H := Option.bind_eq_some_iff.mp H
  obtain ⟨t368, A130, H⟩ := H
  replace H : (if t368 < 0 then (some true) else ((laws_szFarkas.f a2_0 l2_1 t368).bind fun t369 => (if t369 < 0 then (some true) else ((laws_toSystem.f k a0_0 l0_1).bind fun bt370 => ((laws_toLin.f k a1_0 l1_1).bind fun bt374 => ((laws_toFarkas.f k a2_0 l2_1).bind fun bt378 => ((spec_CheckFarkas.f k bt370.1 bt370.2 bt374.1 bt374.2 bt378.1 bt378.2).bind fun t382 => ((laws_toSystem.f k a0_0 l0_1).bind fun bt383 => ((laws_toLin.f k a1_0 l1_1).bind fun bt388 => ((laws_toFarkas.f k a2_0 l2_1).bind fun bt393 => ((impl_CheckFarkas.f k bt383.1 bt383.2 bt388.1 bt388.2 bt393.1 bt393.2).bind fun t398 => (if (t398 != t382) = true then (some false) else ((laws_toSystem.f k a0_0 l0_1).bind fun bt399 => ((laws_eqSystem.f k bt383.1 bt383.2 bt399.1 bt399.2).bind fun t403 => (if t403 = true then ((laws_toLin.f k a1_0 l1_1).bind fun bt404 => ((laws_eqLin.f k bt388.1 bt388.2 bt404.1 bt404.2).bind fun t408 => (if t408 = true then ((laws_toFarkas.f k a2_0 l2_1).bind fun bt409 => ((laws_eqFarkas.f k bt393.1 bt393.2 bt409.1 bt409.2).bind fun t413 => (if t413 = true then (some true) else (some false)))) else (some false)))) else (some false)))))))))))))))) = some r := H
  have A13 := Aside0.mk A130
  clear A130
  by_cases c14 : t368 < 0
  ·rw [if_pos c14] at H
   have c14b0 : decide (t368 < 0) = true := decide_eq_true c14
   clear c14
   obtain rfl := Option.some.inj H
   go_enter Try.func8, Try.ntmps8
   go_wp2_with (first | ((with_reducible refine gate_dst (N := 3) rfl ?_); refine box_event ?hg (N := 3) ?hd (cs := #[.int .i64 a0_0, .slice A0_1 l0_1.length c0_1]) (t := 24) ?hr ?_; (case hd => rfl); (case hg => rfl); (case hr => first | (go_simp; done) | (go_simp; rfl)); intro gb364 hg w15 hbox hb; have BK364 := Aside0.mk (hbox); have GW364 := gw hg HB; have GE364 := gw hg HB; replace HB := bs HB hb; clear hb hbox hg) | ((with_reducible refine gate_dst (N := 4) rfl ?_); refine box_event ?hg (N := 4) ?hd (cs := #[.int .i64 a1_0, .slice A1_1 l1_1.length c1_1]) (t := 27) ?hr ?_; (case hd => rfl); (case hg => rfl); (case hr => first | (go_simp; done) | (go_simp; rfl)); intro gb365 hg w16 hbox hb; have BK365 := Aside0.mk (hbox); have GW365 := gw hg HB; have GE365 := gw hg HB; replace HB := bs HB hb; have NB364_365 := nl hg BK364; have NB365_364 := ng hg BK364; replace BK364 := bb BK364 hb; clear hb hbox hg) | ((with_reducible refine gate_dst (N := 5) rfl ?_); refine box_event ?hg (N := 5) ?hd (cs := #[.int .i64 a2_0, .slice A2_1 l2_1.length c2_1]) (t := 62) ?hr ?_; (case hd => rfl); (case hg => rfl); (case hr => first | (go_simp; done) | (go_simp; rfl)); intro gb366 hg w17 hbox hb; have BK366 := Aside0.mk (hbox); have GW366 := gw hg HB; have GE366 := gw hg HB; replace HB := bs HB hb; have NB364_366 := nl hg BK364; have NB366_364 := ng hg BK364; replace BK364 := bb BK364 hb; have NB365_366 := nl hg BK365; have NB366_365 := ng hg BK365; replace BK365 := bb BK365 hb; clear hb hbox hg; have hnb18 := NB364_365.out; have hnc18 := NB365_364.out; have hnb19 := NB364_366.out; have hnc19 := NB366_364.out; obtain ⟨hcz20_0, hcz20_1⟩ := c2 BK364; have hfz20_0 := blk_frozen BK364.out 0; have hfz20_1 := blk_frozen BK364.out 1) | ((with_reducible refine gate_callee (f := 11) rfl ?_); refine goesL_ (some 15) rfl rfl Try.func11 (by kernel_rfl) rfl #[.agg #[.int .i64 a0_0, .slice A0_1 l0_1.length c0_1], .int .i64 1048576] rfl (by (try simp only [List.map_toArray, List.map_cons, List.map_nil]); first | done | rfl | (simp only [List.length_drop, List.length_take]; rfl)) ?_; (with_reducible refine (laws_szSystem.calls k a0_0 _ _ l0_1 1048576 t367 _ ?side1 ?side2 A4.out).mono ?_); (case side1 => exact mc ((Kd.C_below HR0_1.out HB.out))); (case side2 => exact HC0_1.out); rintro e w21 ⟨rfl, hb⟩; refine ⟨_, rfl, ?_⟩; replace BK364 := bb BK364 hb; replace BK365 := bb BK365 hb; replace BK366 := bb BK366 hb; replace HB := bs HB hb; (try clear hb); have hnb22 := NB365_366.out; have hnc22 := NB366_365.out; obtain ⟨hcz23_0, hcz23_1⟩ := c2 BK365; have hfz23_0 := blk_frozen BK365.out 0; have hfz23_1 := blk_frozen BK365.out 1) | ((with_reducible refine gate_callee (f := 12) rfl ?_); refine goesL_ (some 20) rfl rfl Try.func12 (by kernel_rfl) rfl #[.agg #[.int .i64 a1_0, .slice A1_1 l1_1.length c1_1], .int .i64 t367] rfl (by (try simp only [List.map_toArray, List.map_cons, List.map_nil]); first | done | rfl | (simp only [List.length_drop, List.length_take]; rfl)) ?_; (with_reducible refine (laws_szLin.calls a1_0 _ _ l1_1 t367 t368 _ ?side1 ?side2 A13.out).mono ?_); (case side1 => exact mc ((Kd.C_below HR1_1.out HB.out))); (case side2 => exact HC1_1.out); rintro e w24 ⟨rfl, hb⟩; refine ⟨_, rfl, ?_⟩; replace BK364 := bb BK364 hb; replace BK365 := bb BK365 hb; replace BK366 := bb BK366 hb; replace HB := bs HB hb; (try clear hb)))
   go_ret
   exact ⟨by first | rfl | (simp [errW_none, errW_some] <;> rfl) | (simp [*, errW_none, errW_some] <;> rfl), ms HB⟩
  ·rw [if_neg c14] at H
   have c14b0 : decide (t368 < 0) = false := decide_eq_false c14
   clear c14
   replace H := Option.bind_eq_some_iff.mp H
   obtain ⟨t369, A250, H⟩ := H
   replace H : (if t369 < 0 then (some true) else ((laws_toSystem.f k a0_0 l0_1).bind fun bt370 => ((laws_toLin.f k a1_0 l1_1).bind fun bt374 => ((laws_toFarkas.f k a2_0 l2_1).bind fun bt378 => ((spec_CheckFarkas.f k bt370.1 bt370.2 bt374.1 bt374.2 bt378.1 bt378.2).bind fun t382 => ((laws_toSystem.f k a0_0 l0_1).bind fun bt383 => ((laws_toLin.f k a1_0 l1_1).bind fun bt388 => ((laws_toFarkas.f k a2_0 l2_1).bind fun bt393 => ((impl_CheckFarkas.f k bt383.1 bt383.2 bt388.1 bt388.2 bt393.1 bt393.2).bind fun t398 => (if (t398 != t382) = true then (some false) else ((laws_toSystem.f k a0_0 l0_1).bind fun bt399 => ((laws_eqSystem.f k bt383.1 bt383.2 bt399.1 bt399.2).bind fun t403 => (if t403 = true then ((laws_toLin.f k a1_0 l1_1).bind fun bt404 => ((laws_eqLin.f k bt388.1 bt388.2 bt404.1 bt404.2).bind fun t408 => (if t408 = true then ((laws_toFarkas.f k a2_0 l2_1).bind fun bt409 => ((laws_eqFarkas.f k bt393.1 bt393.2 bt409.1 bt409.2).bind fun t413 => (if t413 = true then (some true) else (some false)))) else (some false)))) else (some false)))))))))))))) = some r := H
   have A25 := Aside0.mk A250
   clear A250
   by_cases c26 : t369 < 0
   ·rw [if_pos c26] at H
    have c26b0 : decide (t369 < 0) = true := decide_eq_true c26
    clear c26
    obtain rfl := Option.some.inj H
    go_enter Try.func8, Try.ntmps8
    go_wp2_with (first | ((with_reducible refine gate_dst (N := 3) rfl ?_); refine box_event ?hg (N := 3) ?hd (cs := #[.int .i64 a0_0, .slice A0_1 l0_1.length c0_1]) (t := 24) ?hr ?_; (case hd => rfl); (case hg => rfl); (case hr => first | (go_simp; done) | (go_simp; rfl)); intro gb364 hg w27 hbox hb; have BK364 := Aside0.mk (hbox); have GW364 := gw hg HB; have GE364 := gw hg HB; replace HB := bs HB hb; clear hb hbox hg) | ((with_reducible refine gate_dst (N := 4) rfl ?_); refine box_event ?hg (N := 4) ?hd (cs := #[.int .i64 a1_0, .slice A1_1 l1_1.length c1_1]) (t := 27) ?hr ?_; (case hd => rfl); (case hg => rfl); (case hr => first | (go_simp; done) | (go_simp; rfl)); intro gb365 hg w28 hbox hb; have BK365 := Aside0.mk (hbox); have GW365 := gw hg HB; have GE365 := gw hg HB; replace HB := bs HB hb; have NB364_365 := nl hg BK364; have NB365_364 := ng hg BK364; replace BK364 := bb BK364 hb; clear hb hbox hg) | ((with_reducible refine gate_dst (N := 5) rfl ?_); refine box_event ?hg (N := 5) ?hd (cs := #[.int .i64 a2_0, .slice A2_1 l2_1.length c2_1]) (t := 62) ?hr ?_; (case hd => rfl); (case hg => rfl); (case hr => first | (go_simp; done) | (go_simp; rfl)); intro gb366 hg w29 hbox hb; have BK366 := Aside0.mk (hbox); have GW366 := gw hg HB; have GE366 := gw hg HB; replace HB := bs HB hb; have NB364_366 := nl hg BK364; have NB366_364 := ng hg BK364; replace BK364 := bb BK364 hb; have NB365_366 := nl hg BK365; have NB366_365 := ng hg BK365; replace BK365 := bb BK365 hb; clear hb hbox hg; have hnb30 := NB364_365.out; have hnc30 := NB365_364.out; have hnb31 := NB364_366.out; have hnc31 := NB366_364.out; obtain ⟨hcz32_0, hcz32_1⟩ := c2 BK364; have hfz32_0 := blk_frozen BK364.out 0; have hfz32_1 := blk_frozen BK364.out 1) | ((with_reducible refine gate_callee (f := 11) rfl ?_); refine goesL_ (some 15) rfl rfl Try.func11 (by kernel_rfl) rfl #[.agg #[.int .i64 a0_0, .slice A0_1 l0_1.length c0_1], .int .i64 1048576] rfl (by (try simp only [List.map_toArray, List.map_cons, List.map_nil]); first | done | rfl | (simp only [List.length_drop, List.length_take]; rfl)) ?_; (with_reducible refine (laws_szSystem.calls k a0_0 _ _ l0_1 1048576 t367 _ ?side1 ?side2 A4.out).mono ?_); (case side1 => exact mc ((Kd.C_below HR0_1.out HB.out))); (case side2 => exact HC0_1.out); rintro e w33 ⟨rfl, hb⟩; refine ⟨_, rfl, ?_⟩; replace BK364 := bb BK364 hb; replace BK365 := bb BK365 hb; replace BK366 := bb BK366 hb; replace HB := bs HB hb; (try clear hb); have hnb34 := NB365_366.out; have hnc34 := NB366_365.out; obtain ⟨hcz35_0, hcz35_1⟩ := c2 BK365; have hfz35_0 := blk_frozen BK365.out 0; have hfz35_1 := blk_frozen BK365.out 1) | ((with_reducible refine gate_callee (f := 12) rfl ?_); refine goesL_ (some 20) rfl rfl Try.func12 (by kernel_rfl) rfl #[.agg #[.int .i64 a1_0, .slice A1_1 l1_1.length c1_1], .int .i64 t367] rfl (by (try simp only [List.map_toArray, List.map_cons, List.map_nil]); first | done | rfl | (simp only [List.length_drop, List.length_take]; rfl)) ?_; (with_reducible refine (laws_szLin.calls a1_0 _ _ l1_1 t367 t368 _ ?side1 ?side2 A13.out).mono ?_); (case side1 => exact mc ((Kd.C_below HR1_1.out HB.out))); (case side2 => exact HC1_1.out); rintro e w36 ⟨rfl, hb⟩; refine ⟨_, rfl, ?_⟩; replace BK364 := bb BK364 hb; replace BK365 := bb BK365 hb; replace BK366 := bb BK366 hb; replace HB := bs HB hb; (try clear hb); obtain ⟨hcz37_0, hcz37_1⟩ := c2 BK366; have hfz37_0 := blk_frozen BK366.out 0; have hfz37_1 := blk_frozen BK366.out 1) | ((with_reducible refine gate_callee (f := 45) rfl ?_); refine goesL_ (some 25) rfl rfl Try.func45 (by kernel_rfl) rfl #[.agg #[.int .i64 a2_0, .slice A2_1 l2_1.length c2_1], .int .i64 t368] rfl (by (try simp only [List.map_toArray, List.map_cons, List.map_nil]); first | done | rfl | (simp only [List.length_drop, List.length_take]; rfl)) ?_; (with_reducible refine (laws_szFarkas.calls a2_0 _ _ l2_1 t368 t369 _ ?side1 ?side2 A25.out).mono ?_); (case side1 => exact mc ((Kd.C_below HR2_1.out HB.out))); (case side2 => exact HC2_1.out); rintro e w38 ⟨rfl, hb⟩; refine ⟨_, rfl, ?_⟩; replace BK364 := bb BK364 hb; replace BK365 := bb BK365 hb; replace BK366 := bb BK366 hb; replace HB := bs HB hb; (try clear hb)))
    go_ret
    exact ⟨by first | rfl | (simp [errW_none, errW_some] <;> rfl) | (simp [*, errW_none, errW_some] <;> rfl), ms HB⟩
   ·rw [if_neg c26] at H
    have c26b0 : decide (t369 < 0) = false := decide_eq_false c26
    clear c26
    replace H := Option.bind_eq_some_iff.mp H
    obtain ⟨⟨t370, t371⟩, A390, H⟩ := H
    replace H : ((laws_toLin.f k a1_0 l1_1).bind fun bt374 => ((laws_toFarkas.f k a2_0 l2_1).bind fun bt378 => ((spec_CheckFarkas.f k t370 t371 bt374.1 bt374.2 bt378.1 bt378.2).bind fun t382 => ((laws_toSystem.f k a0_0 l0_1).bind fun bt383 => ((laws_toLin.f k a1_0 l1_1).bind fun bt388 => ((laws_toFarkas.f k a2_0 l2_1).bind fun bt393 => ((impl_CheckFarkas.f k bt383.1 bt383.2 bt388.1 bt388.2 bt393.1 bt393.2).bind fun t398 => (if (t398 != t382) = true then (some false) else ((laws_toSystem.f k a0_0 l0_1).bind fun bt399 => ((laws_eqSystem.f k bt383.1 bt383.2 bt399.1 bt399.2).bind fun t403 => (if t403 = true then ((laws_toLin.f k a1_0 l1_1).bind fun bt404 => ((laws_eqLin.f k bt388.1 bt388.2 bt404.1 bt404.2).bind fun t408 => (if t408 = true then ((laws_toFarkas.f k a2_0 l2_1).bind fun bt409 => ((laws_eqFarkas.f k bt393.1 bt393.2 bt409.1 bt409.2).bind fun t413 => (if t413 = true then (some true) else (some false)))) else (some false)))) else (some false)))))))))))) = some r := H
    have A39 := Aside0.mk A390
    clear A390
    replace H := Option.bind_eq_some_iff.mp H
    obtain ⟨⟨t374, t375⟩, A400, H⟩ := H
    replace H : ((laws_toFarkas.f k a2_0 l2_1).bind fun bt378 => ((spec_CheckFarkas.f k t370 t371 t374 t375 bt378.1 bt378.2).bind fun t382 => ((laws_toSystem.f k a0_0 l0_1).bind fun bt383 => ((laws_toLin.f k a1_0 l1_1).bind fun bt388 => ((laws_toFarkas.f k a2_0 l2_1).bind fun bt393 => ((impl_CheckFarkas.f k bt383.1 bt383.2 bt388.1 bt388.2 bt393.1 bt393.2).bind fun t398 => (if (t398 != t382) = true then (some false) else ((laws_toSystem.f k a0_0 l0_1).bind fun bt399 => ((laws_eqSystem.f k bt383.1 bt383.2 bt399.1 bt399.2).bind fun t403 => (if t403 = true then ((laws_toLin.f k a1_0 l1_1).bind fun bt404 => ((laws_eqLin.f k bt388.1 bt388.2 bt404.1 bt404.2).bind fun t408 => (if t408 = true then ((laws_toFarkas.f k a2_0 l2_1).bind fun bt409 => ((laws_eqFarkas.f k bt393.1 bt393.2 bt409.1 bt409.2).bind fun t413 => (if t413 = true then (some true) else (some false)))) else (some false)))) else (some false))))))))))) = some r := H
    have A40 := Aside0.mk A400
    clear A400
    replace H := Option.bind_eq_some_iff.mp H
    obtain ⟨⟨t378, t379⟩, A410, H⟩ := H
    replace H : ((spec_CheckFarkas.f k t370 t371 t374 t375 t378 t379).bind fun t382 => ((laws_toSystem.f k a0_0 l0_1).bind fun bt383 => ((laws_toLin.f k a1_0 l1_1).bind fun bt388 => ((laws_toFarkas.f k a2_0 l2_1).bind fun bt393 => ((impl_CheckFarkas.f k bt383.1 bt383.2 bt388.1 bt388.2 bt393.1 bt393.2).bind fun t398 => (if (t398 != t382) = true then (some false) else ((laws_toSystem.f k a0_0 l0_1).bind fun bt399 => ((laws_eqSystem.f k bt383.1 bt383.2 bt399.1 bt399.2).bind fun t403 => (if t403 = true then ((laws_toLin.f k a1_0 l1_1).bind fun bt404 => ((laws_eqLin.f k bt388.1 bt388.2 bt404.1 bt404.2).bind fun t408 => (if t408 = true then ((laws_toFarkas.f k a2_0 l2_1).bind fun bt409 => ((laws_eqFarkas.f k bt393.1 bt393.2 bt409.1 bt409.2).bind fun t413 => (if t413 = true then (some true) else (some false)))) else (some false)))) else (some false)))))))))) = some r := H
    have A41 := Aside0.mk A410
    clear A410
    replace H := Option.bind_eq_some_iff.mp H
    obtain ⟨t382, A420, H⟩ := H
    replace H : ((laws_toSystem.f k a0_0 l0_1).bind fun bt383 => ((laws_toLin.f k a1_0 l1_1).bind fun bt388 => ((laws_toFarkas.f k a2_0 l2_1).bind fun bt393 => ((impl_CheckFarkas.f k bt383.1 bt383.2 bt388.1 bt388.2 bt393.1 bt393.2).bind fun t398 => (if (t398 != t382) = true then (some false) else ((laws_toSystem.f k a0_0 l0_1).bind fun bt399 => ((laws_eqSystem.f k bt383.1 bt383.2 bt399.1 bt399.2).bind fun t403 => (if t403 = true then ((laws_toLin.f k a1_0 l1_1).bind fun bt404 => ((laws_eqLin.f k bt388.1 bt388.2 bt404.1 bt404.2).bind fun t408 => (if t408 = true then ((laws_toFarkas.f k a2_0 l2_1).bind fun bt409 => ((laws_eqFarkas.f k bt393.1 bt393.2 bt409.1 bt409.2).bind fun t413 => (if t413 = true then (some true) else (some false)))) else (some false)))) else (some false))))))))) = some r := H
    have A42 := Aside0.mk A420
    clear A420
    replace H := Option.bind_eq_some_iff.mp H
    obtain ⟨⟨t383, t384⟩, A430, H⟩ := H
    replace H : ((laws_toLin.f k a1_0 l1_1).bind fun bt388 => ((laws_toFarkas.f k a2_0 l2_1).bind fun bt393 => ((impl_CheckFarkas.f k t383 t384 bt388.1 bt388.2 bt393.1 bt393.2).bind fun t398 => (if (t398 != t382) = true then (some false) else ((laws_toSystem.f k a0_0 l0_1).bind fun bt399 => ((laws_eqSystem.f k t383 t384 bt399.1 bt399.2).bind fun t403 => (if t403 = true then ((laws_toLin.f k a1_0 l1_1).bind fun bt404 => ((laws_eqLin.f k bt388.1 bt388.2 bt404.1 bt404.2).bind fun t408 => (if t408 = true then ((laws_toFarkas.f k a2_0 l2_1).bind fun bt409 => ((laws_eqFarkas.f k bt393.1 bt393.2 bt409.1 bt409.2).bind fun t413 => (if t413 = true then (some true) else (some false)))) else (some false)))) else (some false)))))))) = some r := H
    have A43 := Aside0.mk A430
    clear A430
    replace H := Option.bind_eq_some_iff.mp H
    obtain ⟨⟨t388, t389⟩, A440, H⟩ := H
    replace H : ((laws_toFarkas.f k a2_0 l2_1).bind fun bt393 => ((impl_CheckFarkas.f k t383 t384 t388 t389 bt393.1 bt393.2).bind fun t398 => (if (t398 != t382) = true then (some false) else ((laws_toSystem.f k a0_0 l0_1).bind fun bt399 => ((laws_eqSystem.f k t383 t384 bt399.1 bt399.2).bind fun t403 => (if t403 = true then ((laws_toLin.f k a1_0 l1_1).bind fun bt404 => ((laws_eqLin.f k t388 t389 bt404.1 bt404.2).bind fun t408 => (if t408 = true then ((laws_toFarkas.f k a2_0 l2_1).bind fun bt409 => ((laws_eqFarkas.f k bt393.1 bt393.2 bt409.1 bt409.2).bind fun t413 => (if t413 = true then (some true) else (some false)))) else (some false)))) else (some false))))))) = some r := H
    have A44 := Aside0.mk A440
    clear A440
    replace H := Option.bind_eq_some_iff.mp H
    obtain ⟨⟨t393, t394⟩, A450, H⟩ := H
    replace H : ((impl_CheckFarkas.f k t383 t384 t388 t389 t393 t394).bind fun t398 => (if (t398 != t382) = true then (some false) else ((laws_toSystem.f k a0_0 l0_1).bind fun bt399 => ((laws_eqSystem.f k t383 t384 bt399.1 bt399.2).bind fun t403 => (if t403 = true then ((laws_toLin.f k a1_0 l1_1).bind fun bt404 => ((laws_eqLin.f k t388 t389 bt404.1 bt404.2).bind fun t408 => (if t408 = true then ((laws_toFarkas.f k a2_0 l2_1).bind fun bt409 => ((laws_eqFarkas.f k t393 t394 bt409.1 bt409.2).bind fun t413 => (if t413 = true then (some true) else (some false)))) else (some false)))) else (some false)))))) = some r := H
    have A45 := Aside0.mk A450
    clear A450
    replace H := Option.bind_eq_some_iff.mp H
    obtain ⟨t398, A460, H⟩ := H
    replace H : (if (t398 != t382) = true then (some false) else ((laws_toSystem.f k a0_0 l0_1).bind fun bt399 => ((laws_eqSystem.f k t383 t384 bt399.1 bt399.2).bind fun t403 => (if t403 = true then ((laws_toLin.f k a1_0 l1_1).bind fun bt404 => ((laws_eqLin.f k t388 t389 bt404.1 bt404.2).bind fun t408 => (if t408 = true then ((laws_toFarkas.f k a2_0 l2_1).bind fun bt409 => ((laws_eqFarkas.f k t393 t394 bt409.1 bt409.2).bind fun t413 => (if t413 = true then (some true) else (some false)))) else (some false)))) else (some false))))) = some r := H
    have A46 := Aside0.mk A460
    clear A460
    by_cases c47 : (t398 != t382) = true
    ·rw [if_pos c47] at H
     have c47b0 : (t398 != t382) = true := c47
     (try (have c47b1 : decide (t398 = t382) = false := by simpa using c47))
     (try (have c47b2 : (t398 == t382) = false := by simpa using c47))
     (try (have c47b3 : ¬ (t398 = t382) := by simpa using c47))
     clear c47
     obtain rfl := Option.some.inj H
     go_enter Try.func8, Try.ntmps8
     try go_wp2_with (first | ((with_reducible refine gate_dst (N := 3) rfl ?_); refine box_event ?hg (N := 3) ?hd (cs := #[.int .i64 a0_0, .slice A0_1 l0_1.length c0_1]) (t := 24) ?hr ?_; (case hd => rfl); (case hg => rfl); (case hr => first | (go_simp; done) | (go_simp; rfl)); intro gb364 hg w48 hbox hb; have BK364 := Aside0.mk (hbox); have GW364 := gw hg HB; have GE364 := gw hg HB; replace HB := bs HB hb; clear hb hbox hg) | ((with_reducible refine gate_dst (N := 4) rfl ?_); refine box_event ?hg (N := 4) ?hd (cs := #[.int .i64 a1_0, .slice A1_1 l1_1.length c1_1]) (t := 27) ?hr ?_; (case hd => rfl); (case hg => rfl); (case hr => first | (go_simp; done) | (go_simp; rfl)); intro gb365 hg w49 hbox hb; have BK365 := Aside0.mk (hbox); have GW365 := gw hg HB; have GE365 := gw hg HB; replace HB := bs HB hb; have NB364_365 := nl hg BK364; have NB365_364 := ng hg BK364; replace BK364 := bb BK364 hb; clear hb hbox hg) | ((with_reducible refine gate_dst (N := 5) rfl ?_); refine box_event ?hg (N := 5) ?hd (cs := #[.int .i64 a2_0, .slice A2_1 l2_1.length c2_1]) (t := 62) ?hr ?_; (case hd => rfl); (case hg => rfl); (case hr => first | (go_simp; done) | (go_simp; rfl)); intro gb366 hg w50 hbox hb; have BK366 := Aside0.mk (hbox); have GW366 := gw hg HB; have GE366 := gw hg HB; replace HB := bs HB hb; have NB364_366 := nl hg BK364; have NB366_364 := ng hg BK364; replace BK364 := bb BK364 hb; have NB365_366 := nl hg BK365; have NB366_365 := ng hg BK365; replace BK365 := bb BK365 hb; clear hb hbox hg; have hnb51 := NB364_365.out; have hnc51 := NB365_364.out; have hnb52 := NB364_366.out; have hnc52 := NB366_364.out; obtain ⟨hcz53_0, hcz53_1⟩ := c2 BK364; have hfz53_0 := blk_frozen BK364.out 0; have hfz53_1 := blk_frozen BK364.out 1) | ((with_reducible refine gate_callee (f := 11) rfl ?_); refine goesL_ (some 15) rfl rfl Try.func11 (by kernel_rfl) rfl #[.agg #[.int .i64 a0_0, .slice A0_1 l0_1.length c0_1], .int .i64 1048576] rfl (by (try simp only [List.map_toArray, List.map_cons, List.map_nil]); first | done | rfl | (simp only [List.length_drop, List.length_take]; rfl)) ?_; (with_reducible refine (laws_szSystem.calls k a0_0 _ _ l0_1 1048576 t367 _ ?side1 ?side2 A4.out).mono ?_); (case side1 => exact mc ((Kd.C_below HR0_1.out HB.out))); (case side2 => exact HC0_1.out); rintro e w54 ⟨rfl, hb⟩; refine ⟨_, rfl, ?_⟩; replace BK364 := bb BK364 hb; replace BK365 := bb BK365 hb; replace BK366 := bb BK366 hb; replace HB := bs HB hb; (try clear hb); have hnb55 := NB365_366.out; have hnc55 := NB366_365.out; obtain ⟨hcz56_0, hcz56_1⟩ := c2 BK365; have hfz56_0 := blk_frozen BK365.out 0; have hfz56_1 := blk_frozen BK365.out 1) | ((with_reducible refine gate_callee (f := 12) rfl ?_); refine goesL_ (some 20) rfl rfl Try.func12 (by kernel_rfl) rfl #[.agg #[.int .i64 a1_0, .slice A1_1 l1_1.length c1_1], .int .i64 t367] rfl (by (try simp only [List.map_toArray, List.map_cons, List.map_nil]); first | done | rfl | (simp only [List.length_drop, List.length_take]; rfl)) ?_; (with_reducible refine (laws_szLin.calls a1_0 _ _ l1_1 t367 t368 _ ?side1 ?side2 A13.out).mono ?_); (case side1 => exact mc ((Kd.C_below HR1_1.out HB.out))); (case side2 => exact HC1_1.out); rintro e w57 ⟨rfl, hb⟩; refine ⟨_, rfl, ?_⟩; replace BK364 := bb BK364 hb; replace BK365 := bb BK365 hb; replace BK366 := bb BK366 hb; replace HB := bs HB hb; (try clear hb); obtain ⟨hcz58_0, hcz58_1⟩ := c2 BK366; have hfz58_0 := blk_frozen BK366.out 0; have hfz58_1 := blk_frozen BK366.out 1) | ((with_reducible refine gate_callee (f := 45) rfl ?_); refine goesL_ (some 25) rfl rfl Try.func45 (by kernel_rfl) rfl #[.agg #[.int .i64 a2_0, .slice A2_1 l2_1.length c2_1], .int .i64 t368] rfl (by (try simp only [List.map_toArray, List.map_cons, List.map_nil]); first | done | rfl | (simp only [List.length_drop, List.length_take]; rfl)) ?_; (with_reducible refine (laws_szFarkas.calls a2_0 _ _ l2_1 t368 t369 _ ?side1 ?side2 A25.out).mono ?_); (case side1 => exact mc ((Kd.C_below HR2_1.out HB.out))); (case side2 => exact HC2_1.out); rintro e w59 ⟨rfl, hb⟩; refine ⟨_, rfl, ?_⟩; replace BK364 := bb BK364 hb; replace BK365 := bb BK365 hb; replace BK366 := bb BK366 hb; replace HB := bs HB hb; (try clear hb)))
     replace BK364 := Aside0.mk (blk_drew BK364.out)
     replace BK365 := Aside0.mk (blk_drew BK365.out)
     replace BK366 := Aside0.mk (blk_drew BK366.out)
     replace HB := Aside0.mk (below_drew1 HB.out)
     refine start_ (n := 8) (S := fun w' => w'.cell? ⟨gb364, 0, none⟩ = some (.int .i64 a0_0) ∧ w'.cell? ⟨gb364, 1, none⟩ = some (.slice A0_1 l0_1.length c0_1) ∧ w'.cell? ⟨gb365, 0, none⟩ = some (.int .i64 a1_0) ∧ w'.cell? ⟨gb365, 1, none⟩ = some (.slice A1_1 l1_1.length c1_1) ∧ w'.cell? ⟨gb366, 0, none⟩ = some (.int .i64 a2_0) ∧ w'.cell? ⟨gb366, 1, none⟩ = some (.slice A2_1 l2_1.length c2_1)) (ds := []) #[false, false, false, false, false, false, false, false] (by kernel_rfl) rfl rfl ⟨(c2 BK364).1, (c2 BK364).2, (c2 BK365).1, (c2 BK365).2, (c2 BK366).1, (c2 BK366).2⟩ (fun hHeld => ?_); refine with_tabW laws_FnExactCheckFarkas.tab11 laws_FnExactCheckFarkas.bits11 (fun HT_ HW_ => ?_)
     generalize w59.drew = w60 at BK364 BK365 BK366 HB hHeld ⊢
     refine take_ (i := 0) (N := some 28) (v := ?_) (a' := ?_) #[true, false, false, false, false, false, false, false] rfl rfl (take_ofW HT_.out HW_.out (by kernel_rfl)) (fun _ _ _ h => h) (Or.inl ⟨by rfl, ?_⟩) hHeld ?_ ?_
     rotate_left
     ·rintro w' ⟨s0, s1, s2, s3, s4, s5⟩
      go_simp
      with_reducible rfl
     rotate_left
     ·simp only [Act.put, List.setIfInBounds_toArray, List.set_cons_zero, List.set_cons_succ, i64_w, i32_w]
      rfl
     refine take_ (i := 2) (N := some 30) (v := ?_) (a' := ?_) #[true, false, true, false, false, false, false, false] rfl rfl (take_ofW HT_.out HW_.out (by kernel_rfl)) (fun _ _ _ h => h) (Or.inl ⟨by rfl, ?_⟩) hHeld ?_ ?_
     rotate_left
     ·rintro w' ⟨s0, s1, s2, s3, s4, s5⟩
      go_simp
      with_reducible rfl
     rotate_left
     ·simp only [Act.put, List.setIfInBounds_toArray, List.set_cons_zero, List.set_cons_succ, i64_w, i32_w]
      rfl
     refine take_ (i := 4) (N := some 32) (v := ?_) (a' := ?_) #[true, false, true, false, true, false, false, false] rfl rfl (take_ofW HT_.out HW_.out (by kernel_rfl)) (fun _ _ _ h => h) (Or.inl ⟨by rfl, ?_⟩) hHeld ?_ ?_
     rotate_left
     ·rintro w' ⟨s0, s1, s2, s3, s4, s5⟩
      go_simp
      with_reducible rfl
     rotate_left
     ·simp only [Act.put, List.setIfInBounds_toArray, List.set_cons_zero, List.set_cons_succ, i64_w, i32_w]
      rfl
     refine one_ (i := 1) (N := some 29) #[true, true, true, false, true, false, false, false] rfl rfl (one_of HT_.out (by kernel_rfl)) (by decide) (fun K hK => ?_)
     refine goes_ Try.func14 (by kernel_rfl) rfl #[.agg #[.int .i64 a0_0, .slice A0_1 l0_1.length c0_1]] (by rfl) rfl rfl (by (try simp only [List.map_toArray, List.map_cons, List.map_nil]); first | done | rfl | (simp only [List.length_drop, List.length_take]; rfl)) ?_
     with_reducible refine (laws_toSystem.calls k a0_0 _ _ l0_1 t370 t371 _ ?side1 ?side2 A39.out).mono ?_
     (case side1 => exact mc ((Kd.C_below HR0_1.out HB.out)))
     (case side2 => exact HC0_1.out)
     rintro e w61 ⟨v372, rfl, ho0, hb⟩
     refine ⟨_, rfl, ?_⟩
     have HO373 := Aside0.mk (Kd.S_lower ho0 (below_size (ms HB)))
     replace BK364 := bb BK364 hb
     replace BK365 := bb BK365 hb
     replace BK366 := bb BK366 hb
     replace HB := bs HB hb
     (try clear hb)
     (try clear hb2)
     (try clear hk)
     (try clear hi)
     (try clear ho0)
     refine hK.out _ _ ⟨(c2 BK364).1, (c2 BK364).2, (c2 BK365).1, (c2 BK365).2, (c2 BK366).1, (c2 BK366).2⟩ (fun hHeld => ?_)
     clear hK K
     refine norm_ (a' := ?_) ?_ ?_
     rotate_left
     ·show Act.put _ (some 29) _ = _
      simp only [Act.put, List.setIfInBounds_toArray, List.set_cons_zero, List.set_cons_succ, i64_w, i32_w]
      rfl
     refine one_ (i := 3) (N := some 31) #[true, true, true, true, true, false, false, false] rfl rfl (one_of HT_.out (by kernel_rfl)) (by decide) (fun K hK => ?_)
     refine goes_ Try.func15 (by kernel_rfl) rfl #[.agg #[.int .i64 a1_0, .slice A1_1 l1_1.length c1_1]] (by rfl) rfl rfl (by (try simp only [List.map_toArray, List.map_cons, List.map_nil]); first | done | rfl | (simp only [List.length_drop, List.length_take]; rfl)) ?_
     with_reducible refine (laws_toLin.calls k a1_0 _ _ l1_1 t374 t375 _ ?side1 ?side2 A40.out).mono ?_
     (case side1 => exact mc ((Kd.C_below HR1_1.out HB.out)))
     (case side2 => exact HC1_1.out)
     rintro e w62 ⟨v376, rfl, ho0, hb⟩
     refine ⟨_, rfl, ?_⟩
     replace HO373 := lS HO373 ho0 hb
     have HO377 := Aside0.mk (Kd.R_lower ho0 (below_size (ms HB)))
     replace BK364 := bb BK364 hb
     replace BK365 := bb BK365 hb
     replace BK366 := bb BK366 hb
     replace HB := bs HB hb
     (try clear hb)
     (try clear hb2)
     (try clear hk)
     (try clear hi)
     (try clear ho0)
     refine hK.out _ _ ⟨(c2 BK364).1, (c2 BK364).2, (c2 BK365).1, (c2 BK365).2, (c2 BK366).1, (c2 BK366).2⟩ (fun hHeld => ?_)
     clear hK K
     refine norm_ (a' := ?_) ?_ ?_
     rotate_left
     ·show Act.put _ (some 31) _ = _
      simp only [Act.put, List.setIfInBounds_toArray, List.set_cons_zero, List.set_cons_succ, i64_w, i32_w]
      rfl
     refine one_ (i := 5) (N := some 33) #[true, true, true, true, true, true, false, false] rfl rfl (one_of HT_.out (by kernel_rfl)) (by decide) (fun K hK => ?_)
     refine goes_ Try.func47 (by kernel_rfl) rfl #[.agg #[.int .i64 a2_0, .slice A2_1 l2_1.length c2_1]] (by rfl) rfl rfl (by (try simp only [List.map_toArray, List.map_cons, List.map_nil]); first | done | rfl | (simp only [List.length_drop, List.length_take]; rfl)) ?_
     with_reducible refine (laws_toFarkas.calls k a2_0 _ _ l2_1 t378 t379 _ ?side1 ?side2 A41.out).mono ?_
     (case side1 => exact mc ((Kd.C_below HR2_1.out HB.out)))
     (case side2 => exact HC2_1.out)
     rintro e w63 ⟨v380, rfl, ho0, hb⟩
     refine ⟨_, rfl, ?_⟩
     replace HO373 := lS HO373 ho0 hb
     have HO381 := Aside0.mk (Kd.R_lower (Kd.R_new' ho0 (Kd.R_lt (mr HO377))) (below_size (ms HB)))
     replace HO377 := rl HO377 ho0 hb
     replace BK364 := bb BK364 hb
     replace BK365 := bb BK365 hb
     replace BK366 := bb BK366 hb
     replace HB := bs HB hb
     (try clear hb)
     (try clear hb2)
     (try clear hk)
     (try clear hi)
     (try clear ho0)
     obtain ⟨Ao64, co64, eo64⟩ := Kd.S_slice HO373.out
     (first | subst eo64 | (injection eo64 with f1_ f2_ f3_; have f4_ := f1_.symm; have f5_ := f3_.symm; clear f1_ f2_ f3_; subst f4_; subst f5_))
     obtain ⟨Ao65, co65, eo65⟩ := Kd.R_slice HO377.out
     (first | subst eo65 | (injection eo65 with f1_ f2_ f3_; have f4_ := f1_.symm; have f5_ := f3_.symm; clear f1_ f2_ f3_; subst f4_; subst f5_))
     obtain ⟨Ao66, co66, eo66⟩ := Kd.R_slice HO381.out
     (first | subst eo66 | (injection eo66 with f1_ f2_ f3_; have f4_ := f1_.symm; have f5_ := f3_.symm; clear f1_ f2_ f3_; subst f4_; subst f5_))
     refine hK.out _ _ ⟨(c2 BK364).1, (c2 BK364).2, (c2 BK365).1, (c2 BK365).2, (c2 BK366).1, (c2 BK366).2⟩ (fun hHeld => ?_)
     clear hK K
     refine norm_ (a' := ?_) ?_ ?_
     rotate_left
     ·show Act.put _ (some 33) _ = _
      simp only [Act.put, List.setIfInBounds_toArray, List.set_cons_zero, List.set_cons_succ, i64_w, i32_w]
      rfl
     refine one_ (i := 6) (N := some 34) #[true, true, true, true, true, true, true, false] rfl rfl (one_of HT_.out (by kernel_rfl)) (by decide) (fun K hK => ?_)
     refine goes_ Try.func46 (by kernel_rfl) rfl #[.agg #[.int .i64 t370, .slice Ao64 t371.length co64], .agg #[.int .i64 t374, .slice Ao65 t375.length co65], .agg #[.int .i64 t378, .slice Ao66 t379.length co66]] (by rfl) rfl rfl (by (try simp only [List.map_toArray, List.map_cons, List.map_nil]); first | done | rfl | (simp only [List.length_drop, List.length_take]; rfl)) ?_
     with_reducible refine (spec_CheckFarkas.calls k t370 _ _ t371 t374 _ _ t375 t378 _ _ t379 t382 _ ?side1 ?side2 ?side3 ?side4 ?side5 ?side6 A42.out).mono ?_
     (case side1 => exact mc ((Kd.S_reads' HO373.out).2.2))
     (case side2 => exact (Kd.S_reads' HO373.out).2.1)
     (case side3 => exact mc ((Kd.R_reads' HO377.out).2.2))
     (case side4 => exact (Kd.R_reads' HO377.out).2.1)
     (case side5 => exact mc ((Kd.R_reads' HO381.out).2.2))
     (case side6 => exact (Kd.R_reads' HO381.out).2.1)
     rintro e w67 ⟨rfl, hb⟩
     refine ⟨_, rfl, ?_⟩
     replace HO373 := bS HO373 hb
     replace HO377 := rb HO377 hb
     replace HO381 := rb HO381 hb
     replace BK364 := bb BK364 hb
     replace BK365 := bb BK365 hb
     replace BK366 := bb BK366 hb
     replace HB := bs HB hb
     (try clear hb)
     (try clear hb2)
     (try clear hk)
     (try clear hi)
     refine hK.out _ _ ⟨(c2 BK364).1, (c2 BK364).2, (c2 BK365).1, (c2 BK365).2, (c2 BK366).1, (c2 BK366).2⟩ (fun hHeld => ?_)
     clear hK K
     refine norm_ (a' := ?_) ?_ ?_
     rotate_left
     ·show Act.put _ (some 34) _ = _
      simp only [Act.put, List.setIfInBounds_toArray, List.set_cons_zero, List.set_cons_succ, i64_w, i32_w]
      rfl
     refine pure_ (i := 7) (N := some 8) (v := ?_) (a' := ?_) #[true, true, true, true, true, true, true, true] rfl rfl (any_of HT_.out (by kernel_rfl)) (fun _ _ _ h => h) (Or.inl ⟨by rfl, ?_⟩) ?_ ?_
     rotate_left
     ·intro w'
      go_simp
      with_reducible rfl
     rotate_left
     ·simp only [Act.put, List.setIfInBounds_toArray, List.set_cons_zero, List.set_cons_succ, i64_w, i32_w]
      rfl
     refine done_ (done_of HT_.out (by kernel_rfl)) ?_
     obtain ⟨hcz68_0, hcz68_1⟩ := c2 BK364
     have hfz68_0 := blk_frozen BK364.out 0
     have hfz68_1 := blk_frozen BK364.out 1
     try go_wp2_with (first | ((with_reducible refine gate_callee (f := 14) rfl ?_); refine goesL_ (some 36) rfl rfl Try.func14 (by kernel_rfl) rfl #[.agg #[.int .i64 a0_0, .slice A0_1 l0_1.length c0_1]] rfl (by (try simp only [List.map_toArray, List.map_cons, List.map_nil]); first | done | rfl | (simp only [List.length_drop, List.length_take]; rfl)) ?_; (with_reducible refine (laws_toSystem.calls k a0_0 _ _ l0_1 t383 t384 _ ?side1 ?side2 A43.out).mono ?_); (case side1 => exact mc ((Kd.C_below HR0_1.out HB.out))); (case side2 => exact HC0_1.out); rintro e w69 ⟨v385, rfl, ho0, hb⟩; refine ⟨_, rfl, ?_⟩; have HO386 := Aside0.mk (Kd.S_lower (Kd.S_new' (Kd.S_new' (Kd.S_new' ho0 (Kd.S_lt (mS HO373))) (Kd.R_lt (mr HO377))) (Kd.R_lt (mr HO381))) (below_size (ms HB))); replace HO373 := Aside0.mk (Kd.S_elder' (mS HO373) (Kd.S_base ho0) hb); replace HO377 := rb HO377 hb; replace HO381 := rb HO381 hb; replace BK364 := bb BK364 hb; replace BK365 := bb BK365 hb; replace BK366 := bb BK366 hb; replace HB := bs HB hb; (try clear hb); (try clear ho0)) | ((with_reducible refine gate_dst (N := 9) rfl ?_); refine box_event ?hg (N := 9) ?hd (cs := #[.int .i64 0, .slice none 0 0]) (t := 32) ?hr ?_; (case hd => rfl); (case hg => rfl); (case hr => first | (go_simp; done) | (go_simp; rfl)); intro gb387 hg w70 hbox hb; replace HO373 := bS HO373 hb; replace HO377 := rb HO377 hb; replace HO381 := rb HO381 hb; replace HO386 := bS HO386 hb; have BK387 := Aside0.mk (hbox); have GW387 := gw hg HB; have GE387 := gw hg HB; replace HB := bs HB hb; have NB364_387 := nl hg BK364; have NB387_364 := ng hg BK364; replace BK364 := bb BK364 hb; have NB365_387 := nl hg BK365; have NB387_365 := ng hg BK365; replace BK365 := bb BK365 hb; have NB366_387 := nl hg BK366; have NB387_366 := ng hg BK366; replace BK366 := bb BK366 hb; clear hb hbox hg; have hnb71 := NB387_364.out; have hnc71 := NB364_387.out; have hnb72 := NB387_365.out; have hnc72 := NB365_387.out; have hnb73 := NB387_366.out; have hnc73 := NB366_387.out; obtain ⟨hcz74_0, hcz74_1⟩ := c2 BK387; have hfz74_0 := blk_frozen BK387.out 0; have hfz74_1 := blk_frozen BK387.out 1; obtain ⟨Ao75, co75, eo75⟩ := Kd.S_slice HO386.out; subst eo75; obtain ⟨hcz76_0, hcz76_1⟩ := c2 BK365; have hfz76_0 := blk_frozen BK365.out 0; have hfz76_1 := blk_frozen BK365.out 1) | ((with_reducible refine gate_callee (f := 15) rfl ?_); refine goesL_ (some 38) rfl rfl Try.func15 (by kernel_rfl) rfl #[.agg #[.int .i64 a1_0, .slice A1_1 l1_1.length c1_1]] rfl (by (try simp only [List.map_toArray, List.map_cons, List.map_nil]); first | done | rfl | (simp only [List.length_drop, List.length_take]; rfl)) ?_; (with_reducible refine (laws_toLin.calls k a1_0 _ _ l1_1 t388 t389 _ ?side1 ?side2 A44.out).mono ?_); (case side1 => exact Kd.C_below HR1_1.out (ms HB)); (case side2 => exact HC1_1.out); rintro e w77 ⟨v390, rfl, ho0, hb⟩; refine ⟨_, rfl, ?_⟩; have n0_ := Aside0.mk (Kd.S_elder' (by (with_reducible repeat (first | apply Kd.S_alloc | apply Kd.S_drewN | apply Kd.S_drew)); exact (Kd.S_mono (Kd.S_far (p := ⟨gb387, 1, none⟩) (Kd.S_far (p := ⟨gb387, 0, none⟩) (Kd.S_types HO373.out BK387.out (by decide)) (fun _ hk => hk.2) (.int .i64 t383)) (fun _ hk => hk.2) (.slice Ao75 t384.length co75)) (fun _ h_ => h_.1))) (Kd.R_base ho0) hb); have n1_ := Aside0.mk (Kd.R_elder' (by (with_reducible repeat (first | apply Kd.R_alloc | apply Kd.R_drewN | apply Kd.R_drew)); exact (Kd.R_mono (Kd.R_far (p := ⟨gb387, 1, none⟩) (Kd.R_far (p := ⟨gb387, 0, none⟩) (Kd.R_types HO377.out BK387.out (by decide)) (fun _ hk => hk.2) (.int .i64 t383)) (fun _ hk => hk.2) (.slice Ao75 t384.length co75)) (fun _ h_ => h_.1))) (Kd.R_base ho0) hb); have n2_ := Aside0.mk (Kd.R_elder' (by (with_reducible repeat (first | apply Kd.R_alloc | apply Kd.R_drewN | apply Kd.R_drew)); exact (Kd.R_mono (Kd.R_far (p := ⟨gb387, 1, none⟩) (Kd.R_far (p := ⟨gb387, 0, none⟩) (Kd.R_types HO381.out BK387.out (by decide)) (fun _ hk => hk.2) (.int .i64 t383)) (fun _ hk => hk.2) (.slice Ao75 t384.length co75)) (fun _ h_ => h_.1))) (Kd.R_base ho0) hb); have n3_ := Aside0.mk (Kd.S_elder' (by (with_reducible repeat (first | apply Kd.S_alloc | apply Kd.S_drewN | apply Kd.S_drew)); exact (Kd.S_mono (Kd.S_far (p := ⟨gb387, 1, none⟩) (Kd.S_far (p := ⟨gb387, 0, none⟩) (Kd.S_types HO386.out BK387.out (by decide)) (fun _ hk => hk.2) (.int .i64 t383)) (fun _ hk => hk.2) (.slice Ao75 t384.length co75)) (fun _ h_ => h_.1))) (Kd.R_base ho0) hb); have n4_ := Aside0.mk (Kd.R_lower (Kd.R_new' (Kd.R_new' ho0 (Kd.R_lt (by (with_reducible repeat (first | apply Kd.R_alloc | apply Kd.R_drewN | apply Kd.R_drew)); exact (Kd.R_mono (Kd.R_far (p := ⟨gb387, 1, none⟩) (Kd.R_far (p := ⟨gb387, 0, none⟩) (Kd.R_types HO377.out BK387.out (by decide)) (fun _ hk => hk.2) (.int .i64 t383)) (fun _ hk => hk.2) (.slice Ao75 t384.length co75)) (fun _ h_ => h_.1))))) (Kd.R_lt (by (with_reducible repeat (first | apply Kd.R_alloc | apply Kd.R_drewN | apply Kd.R_drew)); exact (Kd.R_mono (Kd.R_far (p := ⟨gb387, 1, none⟩) (Kd.R_far (p := ⟨gb387, 0, none⟩) (Kd.R_types HO381.out BK387.out (by decide)) (fun _ hk => hk.2) (.int .i64 t383)) (fun _ hk => hk.2) (.slice Ao75 t384.length co75)) (fun _ h_ => h_.1))))) (below_size (ms HB))); have n5_ := bf BK364 hb; have n6_ := bf BK365 hb; have n7_ := bf BK366 hb; have n8_ := Aside0.mk (blk_below (g := gb387) (o := .cells #[.int .i64 t383, .slice Ao75 t384.length co75] 32 (0, 0)) (by (with_reducible repeat (first | refine blk_drewN ?_ _ | refine blk_drew ?_ | refine blk_alloc ?_ _)); refine blk_put (cs := #[.int .i64 t383, .slice none 0 0]) ?_ 1 _ rfl; (with_reducible repeat (first | refine blk_drewN ?_ _ | refine blk_drew ?_ | refine blk_alloc ?_ _)); refine blk_put (cs := #[.int .i64 0, .slice none 0 0]) ?_ 0 _ rfl; (with_reducible repeat (first | refine blk_drewN ?_ _ | refine blk_drew ?_ | refine blk_alloc ?_ _)); exact BK387.out) hb); have n9_ := bs HB hb; clear HO373 HO377 HO381 HO386 BK364 BK365 BK366 BK387 HB; have HO373 := n0_; have HO377 := n1_; have HO381 := n2_; have HO386 := n3_; have HO391 := n4_; have BK364 := n5_; have BK365 := n6_; have BK366 := n7_; have BK387 := n8_; have HB := n9_; clear n0_ n1_ n2_ n3_ n4_ n5_ n6_ n7_ n8_ n9_; (try clear hb); (try clear ho0)) | ((with_reducible refine gate_dst (N := 10) rfl ?_); refine box_event ?hg (N := 10) ?hd (cs := #[.int .i64 0, .slice none 0 0]) (t := 36) ?hr ?_; (case hd => rfl); (case hg => rfl); (case hr => first | (go_simp; done) | (go_simp; rfl)); intro gb392 hg w78 hbox hb; replace HO373 := Aside0.mk (Kd.S_below (Kd.S_elderB (mS HO373) gb392 (Nat.le_of_eq hg.symm)) hb); replace HO377 := rb HO377 hb; replace HO381 := rb HO381 hb; replace HO386 := Aside0.mk (Kd.S_below (Kd.S_elderB (mS HO386) gb392 (Nat.le_of_eq hg.symm)) hb); replace HO391 := rb HO391 hb; have BK392 := Aside0.mk (hbox); have GW392 := gw hg HB; have GE392 := gw hg HB; replace HB := bs HB hb; have NB364_392 := nl hg BK364; have NB392_364 := ng hg BK364; replace BK364 := bb BK364 hb; have NB365_392 := nl hg BK365; have NB392_365 := ng hg BK365; replace BK365 := bb BK365 hb; have NB366_392 := nl hg BK366; have NB392_366 := ng hg BK366; replace BK366 := bb BK366 hb; have NB387_392 := nl hg BK387; have NB392_387 := ng hg BK387; replace BK387 := bb BK387 hb; clear hb hbox hg; have hnb79 := NB392_364.out; have hnc79 := NB364_392.out; have hnb80 := NB392_365.out; have hnc80 := NB365_392.out; have hnb81 := NB392_366.out; have hnc81 := NB366_392.out; have hnb82 := NB392_387.out; have hnc82 := NB387_392.out; obtain ⟨hcz83_0, hcz83_1⟩ := c2 BK392; have hfz83_0 := blk_frozen BK392.out 0; have hfz83_1 := blk_frozen BK392.out 1; obtain ⟨Ao84, co84, eo84⟩ := Kd.R_slice HO391.out; subst eo84; obtain ⟨hcz85_0, hcz85_1⟩ := c2 BK366; have hfz85_0 := blk_frozen BK366.out 0; have hfz85_1 := blk_frozen BK366.out 1) | ((with_reducible refine gate_callee (f := 47) rfl ?_); refine goesL_ (some 40) rfl rfl Try.func47 (by kernel_rfl) rfl #[.agg #[.int .i64 a2_0, .slice A2_1 l2_1.length c2_1]] rfl (by (try simp only [List.map_toArray, List.map_cons, List.map_nil]); first | done | rfl | (simp only [List.length_drop, List.length_take]; rfl)) ?_; (with_reducible refine (laws_toFarkas.calls k a2_0 _ _ l2_1 t393 t394 _ ?side1 ?side2 A45.out).mono ?_); (case side1 => exact Kd.C_below HR2_1.out (ms HB)); (case side2 => exact HC2_1.out); rintro e w86 ⟨v395, rfl, ho0, hb⟩; refine ⟨_, rfl, ?_⟩; have n0_ := Aside0.mk (Kd.S_elder' (by (with_reducible repeat (first | apply Kd.S_alloc | apply Kd.S_drewN | apply Kd.S_drew)); exact (Kd.S_mono (Kd.S_far (p := ⟨gb392, 1, none⟩) (Kd.S_far (p := ⟨gb392, 0, none⟩) (Kd.S_mono HO373.out (fun k_ hk => (⟨hk, hk.2⟩ : _ ∧ k_ ≠ gb392))) (fun _ hk => hk.2) (.int .i64 t388)) (fun _ hk => hk.2) (.slice Ao84 t389.length co84)) (fun _ h_ => h_.1))) (Kd.R_base ho0) hb); have n1_ := Aside0.mk (Kd.R_elder' (by (with_reducible repeat (first | apply Kd.R_alloc | apply Kd.R_drewN | apply Kd.R_drew)); exact (Kd.R_mono (Kd.R_far (p := ⟨gb392, 1, none⟩) (Kd.R_far (p := ⟨gb392, 0, none⟩) (Kd.R_types HO377.out BK392.out (by decide)) (fun _ hk => hk.2) (.int .i64 t388)) (fun _ hk => hk.2) (.slice Ao84 t389.length co84)) (fun _ h_ => h_.1))) (Kd.R_base ho0) hb); have n2_ := Aside0.mk (Kd.R_elder' (by (with_reducible repeat (first | apply Kd.R_alloc | apply Kd.R_drewN | apply Kd.R_drew)); exact (Kd.R_mono (Kd.R_far (p := ⟨gb392, 1, none⟩) (Kd.R_far (p := ⟨gb392, 0, none⟩) (Kd.R_types HO381.out BK392.out (by decide)) (fun _ hk => hk.2) (.int .i64 t388)) (fun _ hk => hk.2) (.slice Ao84 t389.length co84)) (fun _ h_ => h_.1))) (Kd.R_base ho0) hb); have n3_ := Aside0.mk (Kd.S_elder' (by (with_reducible repeat (first | apply Kd.S_alloc | apply Kd.S_drewN | apply Kd.S_drew)); exact (Kd.S_mono (Kd.S_far (p := ⟨gb392, 1, none⟩) (Kd.S_far (p := ⟨gb392, 0, none⟩) (Kd.S_mono HO386.out (fun k_ hk => (⟨hk, hk.2⟩ : _ ∧ k_ ≠ gb392))) (fun _ hk => hk.2) (.int .i64 t388)) (fun _ hk => hk.2) (.slice Ao84 t389.length co84)) (fun _ h_ => h_.1))) (Kd.R_base ho0) hb); have n4_ := Aside0.mk (Kd.R_elder' (by (with_reducible repeat (first | apply Kd.R_alloc | apply Kd.R_drewN | apply Kd.R_drew)); exact (Kd.R_mono (Kd.R_far (p := ⟨gb392, 1, none⟩) (Kd.R_far (p := ⟨gb392, 0, none⟩) (Kd.R_types HO391.out BK392.out (by decide)) (fun _ hk => hk.2) (.int .i64 t388)) (fun _ hk => hk.2) (.slice Ao84 t389.length co84)) (fun _ h_ => h_.1))) (Kd.R_base ho0) hb); have n5_ := Aside0.mk (Kd.R_lower (Kd.R_new' (Kd.R_new' (Kd.R_new' ho0 (Kd.R_lt (by (with_reducible repeat (first | apply Kd.R_alloc | apply Kd.R_drewN | apply Kd.R_drew)); exact (Kd.R_mono (Kd.R_far (p := ⟨gb392, 1, none⟩) (Kd.R_far (p := ⟨gb392, 0, none⟩) (Kd.R_types HO377.out BK392.out (by decide)) (fun _ hk => hk.2) (.int .i64 t388)) (fun _ hk => hk.2) (.slice Ao84 t389.length co84)) (fun _ h_ => h_.1))))) (Kd.R_lt (by (with_reducible repeat (first | apply Kd.R_alloc | apply Kd.R_drewN | apply Kd.R_drew)); exact (Kd.R_mono (Kd.R_far (p := ⟨gb392, 1, none⟩) (Kd.R_far (p := ⟨gb392, 0, none⟩) (Kd.R_types HO381.out BK392.out (by decide)) (fun _ hk => hk.2) (.int .i64 t388)) (fun _ hk => hk.2) (.slice Ao84 t389.length co84)) (fun _ h_ => h_.1))))) (Kd.R_lt (by (with_reducible repeat (first | apply Kd.R_alloc | apply Kd.R_drewN | apply Kd.R_drew)); exact (Kd.R_mono (Kd.R_far (p := ⟨gb392, 1, none⟩) (Kd.R_far (p := ⟨gb392, 0, none⟩) (Kd.R_types HO391.out BK392.out (by decide)) (fun _ hk => hk.2) (.int .i64 t388)) (fun _ hk => hk.2) (.slice Ao84 t389.length co84)) (fun _ h_ => h_.1))))) (below_size (ms HB))); have n6_ := bf BK364 hb; have n7_ := bf BK365 hb; have n8_ := bf BK366 hb; have n9_ := bf BK387 hb; have n10_ := Aside0.mk (blk_below (g := gb392) (o := .cells #[.int .i64 t388, .slice Ao84 t389.length co84] 36 (0, 0)) (by (with_reducible repeat (first | refine blk_drewN ?_ _ | refine blk_drew ?_ | refine blk_alloc ?_ _)); refine blk_put (cs := #[.int .i64 t388, .slice none 0 0]) ?_ 1 _ rfl; (with_reducible repeat (first | refine blk_drewN ?_ _ | refine blk_drew ?_ | refine blk_alloc ?_ _)); refine blk_put (cs := #[.int .i64 0, .slice none 0 0]) ?_ 0 _ rfl; (with_reducible repeat (first | refine blk_drewN ?_ _ | refine blk_drew ?_ | refine blk_alloc ?_ _)); exact BK392.out) hb); have n11_ := bs HB hb; clear HO373 HO377 HO381 HO386 HO391 BK364 BK365 BK366 BK387 BK392 HB; have HO373 := n0_; have HO377 := n1_; have HO381 := n2_; have HO386 := n3_; have HO391 := n4_; have HO396 := n5_; have BK364 := n6_; have BK365 := n7_; have BK366 := n8_; have BK387 := n9_; have BK392 := n10_; have HB := n11_; clear n0_ n1_ n2_ n3_ n4_ n5_ n6_ n7_ n8_ n9_ n10_ n11_; (try clear hb); (try clear ho0)) | ((with_reducible refine gate_dst (N := 11) rfl ?_); refine box_event ?hg (N := 11) ?hd (cs := #[.int .i64 0, .slice none 0 0]) (t := 65) ?hr ?_; (case hd => rfl); (case hg => rfl); (case hr => first | (go_simp; done) | (go_simp; rfl)); intro gb397 hg w87 hbox hb; replace HO373 := bS HO373 hb; replace HO377 := rb HO377 hb; replace HO381 := rb HO381 hb; replace HO386 := bS HO386 hb; replace HO391 := rb HO391 hb; replace HO396 := rb HO396 hb; have BK397 := Aside0.mk (hbox); have GW397 := gw hg HB; have GE397 := gw hg HB; replace HB := bs HB hb; have NB364_397 := nl hg BK364; have NB397_364 := ng hg BK364; replace BK364 := bb BK364 hb; have NB365_397 := nl hg BK365; have NB397_365 := ng hg BK365; replace BK365 := bb BK365 hb; have NB366_397 := nl hg BK366; have NB397_366 := ng hg BK366; replace BK366 := bb BK366 hb; have NB387_397 := nl hg BK387; have NB397_387 := ng hg BK387; replace BK387 := bb BK387 hb; have NB392_397 := nl hg BK392; have NB397_392 := ng hg BK392; replace BK392 := bb BK392 hb; clear hb hbox hg; have hnb88 := NB397_364.out; have hnc88 := NB364_397.out; have hnb89 := NB397_365.out; have hnc89 := NB365_397.out; have hnb90 := NB397_366.out; have hnc90 := NB366_397.out; have hnb91 := NB397_387.out; have hnc91 := NB387_397.out; have hnb92 := NB397_392.out; have hnc92 := NB392_397.out; obtain ⟨hcz93_0, hcz93_1⟩ := c2 BK397; have hfz93_0 := blk_frozen BK397.out 0; have hfz93_1 := blk_frozen BK397.out 1; obtain ⟨Ao94, co94, eo94⟩ := Kd.R_slice HO396.out; subst eo94; obtain ⟨hcz95_0, hcz95_1⟩ := c2 BK387; have hfz95_0 := blk_frozen BK387.out 0; have hfz95_1 := blk_frozen BK387.out 1; obtain ⟨hcz96_0, hcz96_1⟩ := c2 BK392; have hfz96_0 := blk_frozen BK392.out 0; have hfz96_1 := blk_frozen BK392.out 1) | ((with_reducible refine gate_callee (f := 48) rfl ?_); refine goesL_ (some 44) rfl rfl Try.func48 (by kernel_rfl) rfl #[.agg #[.int .i64 t383, .slice Ao75 t384.length co75], .agg #[.int .i64 t388, .slice Ao84 t389.length co84], .agg #[.int .i64 t393, .slice Ao94 t394.length co94]] rfl (by (try simp only [List.map_toArray, List.map_cons, List.map_nil]); first | done | rfl | (simp only [List.length_drop, List.length_take]; rfl)) ?_; (with_reducible refine (impl_CheckFarkas.calls k t383 _ _ t384 t388 _ _ t389 t393 _ _ t394 t398 _ ?side1 ?side2 ?side3 ?side4 ?side5 ?side6 A46.out).mono ?_); (case side1 => refine (Kd.S_reads' (e := 36) (base := w.heap.size) (ok := fun k_ => ((((((True ∧ some k_ ≠ (.slice Ao64 t371.length co64 : Value).ownBlock) ∧ some k_ ≠ (.slice Ao65 t375.length co65 : Value).ownBlock) ∧ some k_ ≠ (.slice Ao66 t379.length co66 : Value).ownBlock) ∧ some k_ ≠ (.slice Ao84 t389.length co84 : Value).ownBlock) ∧ k_ ≠ gb392) ∧ some k_ ≠ (.slice Ao94 t394.length co94 : Value).ownBlock)) (n := t384.length) (c := co75) ?_).2.2; exact (by (with_reducible repeat (first | apply Kd.S_alloc | apply Kd.S_drewN | apply Kd.S_drew)); exact (Kd.S_mono (Kd.S_far (p := ⟨gb397, 1, none⟩) (Kd.S_far (p := ⟨gb397, 0, none⟩) (Kd.S_types HO386.out BK397.out (by decide)) (fun _ hk => hk.2) (.int .i64 t393)) (fun _ hk => hk.2) (.slice Ao94 t394.length co94)) (fun _ h_ => h_.1)))); (case side2 => exact (Kd.S_reads' HO386.out).2.1); (case side3 => refine (Kd.R_reads' (e := 3) (base := w.heap.size) (ok := fun k_ => (((True ∧ some k_ ≠ (.slice Ao65 t375.length co65 : Value).ownBlock) ∧ some k_ ≠ (.slice Ao66 t379.length co66 : Value).ownBlock) ∧ some k_ ≠ (.slice Ao94 t394.length co94 : Value).ownBlock)) (n := t389.length) (c := co84) ?_).2.2; exact (by (with_reducible repeat (first | apply Kd.R_alloc | apply Kd.R_drewN | apply Kd.R_drew)); exact (Kd.R_mono (Kd.R_far (p := ⟨gb397, 1, none⟩) (Kd.R_far (p := ⟨gb397, 0, none⟩) (Kd.R_types HO391.out BK397.out (by decide)) (fun _ hk => hk.2) (.int .i64 t393)) (fun _ hk => hk.2) (.slice Ao94 t394.length co94)) (fun _ h_ => h_.1)))); (case side4 => exact (Kd.R_reads' HO391.out).2.1); (case side5 => refine (Kd.R_reads' (e := 3) (base := w.heap.size) (ok := fun k_ => (((True ∧ some k_ ≠ (.slice Ao65 t375.length co65 : Value).ownBlock) ∧ some k_ ≠ (.slice Ao66 t379.length co66 : Value).ownBlock) ∧ some k_ ≠ (.slice Ao84 t389.length co84 : Value).ownBlock)) (n := t394.length) (c := co94) ?_).2.2; exact (by (with_reducible repeat (first | apply Kd.R_alloc | apply Kd.R_drewN | apply Kd.R_drew)); exact (Kd.R_mono (Kd.R_far (p := ⟨gb397, 1, none⟩) (Kd.R_far (p := ⟨gb397, 0, none⟩) (Kd.R_types HO396.out BK397.out (by decide)) (fun _ hk => hk.2) (.int .i64 t393)) (fun _ hk => hk.2) (.slice Ao94 t394.length co94)) (fun _ h_ => h_.1)))); (case side6 => exact (Kd.R_reads' HO396.out).2.1); rintro e w97 ⟨rfl, hb⟩; refine ⟨_, rfl, ?_⟩; have n0_ := Aside0.mk (Kd.S_below (by (with_reducible repeat (first | apply Kd.S_alloc | apply Kd.S_drewN | apply Kd.S_drew)); exact (Kd.S_mono (Kd.S_far (p := ⟨gb397, 1, none⟩) (Kd.S_far (p := ⟨gb397, 0, none⟩) (Kd.S_types HO373.out BK397.out (by decide)) (fun _ hk => hk.2) (.int .i64 t393)) (fun _ hk => hk.2) (.slice Ao94 t394.length co94)) (fun _ h_ => h_.1))) hb); have n1_ := Aside0.mk (Kd.R_below (by (with_reducible repeat (first | apply Kd.R_alloc | apply Kd.R_drewN | apply Kd.R_drew)); exact (Kd.R_mono (Kd.R_far (p := ⟨gb397, 1, none⟩) (Kd.R_far (p := ⟨gb397, 0, none⟩) (Kd.R_types HO377.out BK397.out (by decide)) (fun _ hk => hk.2) (.int .i64 t393)) (fun _ hk => hk.2) (.slice Ao94 t394.length co94)) (fun _ h_ => h_.1))) hb); have n2_ := Aside0.mk (Kd.R_below (by (with_reducible repeat (first | apply Kd.R_alloc | apply Kd.R_drewN | apply Kd.R_drew)); exact (Kd.R_mono (Kd.R_far (p := ⟨gb397, 1, none⟩) (Kd.R_far (p := ⟨gb397, 0, none⟩) (Kd.R_types HO381.out BK397.out (by decide)) (fun _ hk => hk.2) (.int .i64 t393)) (fun _ hk => hk.2) (.slice Ao94 t394.length co94)) (fun _ h_ => h_.1))) hb); have n3_ := Aside0.mk (Kd.S_below (by (with_reducible repeat (first | apply Kd.S_alloc | apply Kd.S_drewN | apply Kd.S_drew)); exact (Kd.S_mono (Kd.S_far (p := ⟨gb397, 1, none⟩) (Kd.S_far (p := ⟨gb397, 0, none⟩) (Kd.S_types HO386.out BK397.out (by decide)) (fun _ hk => hk.2) (.int .i64 t393)) (fun _ hk => hk.2) (.slice Ao94 t394.length co94)) (fun _ h_ => h_.1))) hb); have n4_ := Aside0.mk (Kd.R_below (by (with_reducible repeat (first | apply Kd.R_alloc | apply Kd.R_drewN | apply Kd.R_drew)); exact (Kd.R_mono (Kd.R_far (p := ⟨gb397, 1, none⟩) (Kd.R_far (p := ⟨gb397, 0, none⟩) (Kd.R_types HO391.out BK397.out (by decide)) (fun _ hk => hk.2) (.int .i64 t393)) (fun _ hk => hk.2) (.slice Ao94 t394.length co94)) (fun _ h_ => h_.1))) hb); have n5_ := Aside0.mk (Kd.R_below (by (with_reducible repeat (first | apply Kd.R_alloc | apply Kd.R_drewN | apply Kd.R_drew)); exact (Kd.R_mono (Kd.R_far (p := ⟨gb397, 1, none⟩) (Kd.R_far (p := ⟨gb397, 0, none⟩) (Kd.R_types HO396.out BK397.out (by decide)) (fun _ hk => hk.2) (.int .i64 t393)) (fun _ hk => hk.2) (.slice Ao94 t394.length co94)) (fun _ h_ => h_.1))) hb); have n6_ := bf BK364 hb; have n7_ := bf BK365 hb; have n8_ := bf BK366 hb; have n9_ := bf BK387 hb; have n10_ := bf BK392 hb; have n11_ := Aside0.mk (blk_below (g := gb397) (o := .cells #[.int .i64 t393, .slice Ao94 t394.length co94] 65 (0, 0)) (by (with_reducible repeat (first | refine blk_drewN ?_ _ | refine blk_drew ?_ | refine blk_alloc ?_ _)); refine blk_put (cs := #[.int .i64 t393, .slice none 0 0]) ?_ 1 _ rfl; (with_reducible repeat (first | refine blk_drewN ?_ _ | refine blk_drew ?_ | refine blk_alloc ?_ _)); refine blk_put (cs := #[.int .i64 0, .slice none 0 0]) ?_ 0 _ rfl; (with_reducible repeat (first | refine blk_drewN ?_ _ | refine blk_drew ?_ | refine blk_alloc ?_ _)); exact BK397.out) hb); have n12_ := bs HB hb; clear HO373 HO377 HO381 HO386 HO391 HO396 BK364 BK365 BK366 BK387 BK392 BK397 HB; have HO373 := n0_; have HO377 := n1_; have HO381 := n2_; have HO386 := n3_; have HO391 := n4_; have HO396 := n5_; have BK364 := n6_; have BK365 := n7_; have BK366 := n8_; have BK387 := n9_; have BK392 := n10_; have BK397 := n11_; have HB := n12_; clear n0_ n1_ n2_ n3_ n4_ n5_ n6_ n7_ n8_ n9_ n10_ n11_ n12_; (try clear hb)))
     go_ret
     exact ⟨by first | rfl | (simp [errW_none, errW_some] <;> rfl) | (simp [*, errW_none, errW_some] <;> rfl), ms HB⟩
    ·rw [if_neg c47] at H
     have c47b0 : (t398 != t382) = false := by simpa using c47
     (try (have c47b1 : decide (t398 = t382) = true := by simpa using c47))
     (try (have c47b2 : (t398 == t382) = true := by simpa using c47))
     clear c47
     replace H := Option.bind_eq_some_iff.mp H
     obtain ⟨⟨t399, t400⟩, A980, H⟩ := H
     replace H : ((laws_eqSystem.f k t383 t384 t399 t400).bind fun t403 => (if t403 = true then ((laws_toLin.f k a1_0 l1_1).bind fun bt404 => ((laws_eqLin.f k t388 t389 bt404.1 bt404.2).bind fun t408 => (if t408 = true then ((laws_toFarkas.f k a2_0 l2_1).bind fun bt409 => ((laws_eqFarkas.f k t393 t394 bt409.1 bt409.2).bind fun t413 => (if t413 = true then (some true) else (some false)))) else (some false)))) else (some false))) = some r := H
     have A98 := Aside0.mk A980
     clear A980
     replace H := Option.bind_eq_some_iff.mp H
     obtain ⟨t403, A990, H⟩ := H
     replace H : (if t403 = true then ((laws_toLin.f k a1_0 l1_1).bind fun bt404 => ((laws_eqLin.f k t388 t389 bt404.1 bt404.2).bind fun t408 => (if t408 = true then ((laws_toFarkas.f k a2_0 l2_1).bind fun bt409 => ((laws_eqFarkas.f k t393 t394 bt409.1 bt409.2).bind fun t413 => (if t413 = true then (some true) else (some false)))) else (some false)))) else (some false)) = some r := H
     have A99 := Aside0.mk A990
     clear A990
     by_cases c100 : t403 = true
     ·subst c100
      have H1 : ((laws_toLin.f k a1_0 l1_1).bind fun bt404 => ((laws_eqLin.f k t388 t389 bt404.1 bt404.2).bind fun t408 => (if t408 = true then ((laws_toFarkas.f k a2_0 l2_1).bind fun bt409 => ((laws_eqFarkas.f k t393 t394 bt409.1 bt409.2).bind fun t413 => (if t413 = true then (some true) else (some false)))) else (some false)))) = some r := by rw [if_pos rfl] at H; exact H
      clear H
      have H := H1
      clear H1
      replace H := Option.bind_eq_some_iff.mp H
      obtain ⟨⟨t404, t405⟩, A1010, H⟩ := H
      replace H : ((laws_eqLin.f k t388 t389 t404 t405).bind fun t408 => (if t408 = true then ((laws_toFarkas.f k a2_0 l2_1).bind fun bt409 => ((laws_eqFarkas.f k t393 t394 bt409.1 bt409.2).bind fun t413 => (if t413 = true then (some true) else (some false)))) else (some false))) = some r := H
      have A101 := Aside0.mk A1010
      clear A1010
      replace H := Option.bind_eq_some_iff.mp H
      obtain ⟨t408, A1020, H⟩ := H
      replace H : (if t408 = true then ((laws_toFarkas.f k a2_0 l2_1).bind fun bt409 => ((laws_eqFarkas.f k t393 t394 bt409.1 bt409.2).bind fun t413 => (if t413 = true then (some true) else (some false)))) else (some false)) = some r := H
      have A102 := Aside0.mk A1020
      clear A1020
      by_cases c103 : t408 = true
      ·subst c103
       have H1 : ((laws_toFarkas.f k a2_0 l2_1).bind fun bt409 => ((laws_eqFarkas.f k t393 t394 bt409.1 bt409.2).bind fun t413 => (if t413 = true then (some true) else (some false)))) = some r := by rw [if_pos rfl] at H; exact H
       clear H
       have H := H1
       clear H1
       replace H := Option.bind_eq_some_iff.mp H
       obtain ⟨⟨t409, t410⟩, A1040, H⟩ := H
       replace H : ((laws_eqFarkas.f k t393 t394 t409 t410).bind fun t413 => (if t413 = true then (some true) else (some false))) = some r := H
       have A104 := Aside0.mk A1040
       clear A1040
       replace H := Option.bind_eq_some_iff.mp H
       obtain ⟨t413, A1050, H⟩ := H
       replace H : (if t413 = true then (some true) else (some false)) = some r := H
       have A105 := Aside0.mk A1050
       clear A1050
       by_cases c106 : t413 = true
       ·subst c106
        have H1 : (some true) = some r := by rw [if_pos rfl] at H; exact H
        clear H
        have H := H1
        clear H1
        obtain rfl := Option.some.inj H
        go_enter Try.func8, Try.ntmps8
        try go_wp2_with (first | ((with_reducible refine gate_dst (N := 3) rfl ?_); refine box_event ?hg (N := 3) ?hd (cs := #[.int .i64 a0_0, .slice A0_1 l0_1.length c0_1]) (t := 24) ?hr ?_; (case hd => rfl); (case hg => rfl); (case hr => first | (go_simp; done) | (go_simp; rfl)); intro gb364 hg w107 hbox hb; have BK364 := Aside0.mk (hbox); have GW364 := gw hg HB; have GE364 := gw hg HB; replace HB := bs HB hb; clear hb hbox hg) | ((with_reducible refine gate_dst (N := 4) rfl ?_); refine box_event ?hg (N := 4) ?hd (cs := #[.int .i64 a1_0, .slice A1_1 l1_1.length c1_1]) (t := 27) ?hr ?_; (case hd => rfl); (case hg => rfl); (case hr => first | (go_simp; done) | (go_simp; rfl)); intro gb365 hg w108 hbox hb; have BK365 := Aside0.mk (hbox); have GW365 := gw hg HB; have GE365 := gw hg HB; replace HB := bs HB hb; have NB364_365 := nl hg BK364; have NB365_364 := ng hg BK364; replace BK364 := bb BK364 hb; clear hb hbox hg) | ((with_reducible refine gate_dst (N := 5) rfl ?_); refine box_event ?hg (N := 5) ?hd (cs := #[.int .i64 a2_0, .slice A2_1 l2_1.length c2_1]) (t := 62) ?hr ?_; (case hd => rfl); (case hg => rfl); (case hr => first | (go_simp; done) | (go_simp; rfl)); intro gb366 hg w109 hbox hb; have BK366 := Aside0.mk (hbox); have GW366 := gw hg HB; have GE366 := gw hg HB; replace HB := bs HB hb; have NB364_366 := nl hg BK364; have NB366_364 := ng hg BK364; replace BK364 := bb BK364 hb; have NB365_366 := nl hg BK365; have NB366_365 := ng hg BK365; replace BK365 := bb BK365 hb; clear hb hbox hg; have hnb110 := NB364_365.out; have hnc110 := NB365_364.out; have hnb111 := NB364_366.out; have hnc111 := NB366_364.out; obtain ⟨hcz112_0, hcz112_1⟩ := c2 BK364; have hfz112_0 := blk_frozen BK364.out 0; have hfz112_1 := blk_frozen BK364.out 1) | ((with_reducible refine gate_callee (f := 11) rfl ?_); refine goesL_ (some 15) rfl rfl Try.func11 (by kernel_rfl) rfl #[.agg #[.int .i64 a0_0, .slice A0_1 l0_1.length c0_1], .int .i64 1048576] rfl (by (try simp only [List.map_toArray, List.map_cons, List.map_nil]); first | done | rfl | (simp only [List.length_drop, List.length_take]; rfl)) ?_; (with_reducible refine (laws_szSystem.calls k a0_0 _ _ l0_1 1048576 t367 _ ?side1 ?side2 A4.out).mono ?_); (case side1 => exact mc ((Kd.C_below HR0_1.out HB.out))); (case side2 => exact HC0_1.out); rintro e w113 ⟨rfl, hb⟩; refine ⟨_, rfl, ?_⟩; replace BK364 := bb BK364 hb; replace BK365 := bb BK365 hb; replace BK366 := bb BK366 hb; replace HB := bs HB hb; (try clear hb); have hnb114 := NB365_366.out; have hnc114 := NB366_365.out; obtain ⟨hcz115_0, hcz115_1⟩ := c2 BK365; have hfz115_0 := blk_frozen BK365.out 0; have hfz115_1 := blk_frozen BK365.out 1) | ((with_reducible refine gate_callee (f := 12) rfl ?_); refine goesL_ (some 20) rfl rfl Try.func12 (by kernel_rfl) rfl #[.agg #[.int .i64 a1_0, .slice A1_1 l1_1.length c1_1], .int .i64 t367] rfl (by (try simp only [List.map_toArray, List.map_cons, List.map_nil]); first | done | rfl | (simp only [List.length_drop, List.length_take]; rfl)) ?_; (with_reducible refine (laws_szLin.calls a1_0 _ _ l1_1 t367 t368 _ ?side1 ?side2 A13.out).mono ?_); (case side1 => exact mc ((Kd.C_below HR1_1.out HB.out))); (case side2 => exact HC1_1.out); rintro e w116 ⟨rfl, hb⟩; refine ⟨_, rfl, ?_⟩; replace BK364 := bb BK364 hb; replace BK365 := bb BK365 hb; replace BK366 := bb BK366 hb; replace HB := bs HB hb; (try clear hb); obtain ⟨hcz117_0, hcz117_1⟩ := c2 BK366; have hfz117_0 := blk_frozen BK366.out 0; have hfz117_1 := blk_frozen BK366.out 1) | ((with_reducible refine gate_callee (f := 45) rfl ?_); refine goesL_ (some 25) rfl rfl Try.func45 (by kernel_rfl) rfl #[.agg #[.int .i64 a2_0, .slice A2_1 l2_1.length c2_1], .int .i64 t368] rfl (by (try simp only [List.map_toArray, List.map_cons, List.map_nil]); first | done | rfl | (simp only [List.length_drop, List.length_take]; rfl)) ?_; (with_reducible refine (laws_szFarkas.calls a2_0 _ _ l2_1 t368 t369 _ ?side1 ?side2 A25.out).mono ?_); (case side1 => exact mc ((Kd.C_below HR2_1.out HB.out))); (case side2 => exact HC2_1.out); rintro e w118 ⟨rfl, hb⟩; refine ⟨_, rfl, ?_⟩; replace BK364 := bb BK364 hb; replace BK365 := bb BK365 hb; replace BK366 := bb BK366 hb; replace HB := bs HB hb; (try clear hb)))
        replace BK364 := Aside0.mk (blk_drew BK364.out)
        replace BK365 := Aside0.mk (blk_drew BK365.out)
        replace BK366 := Aside0.mk (blk_drew BK366.out)
        replace HB := Aside0.mk (below_drew1 HB.out)
        refine start_ (n := 8) (S := fun w' => w'.cell? ⟨gb364, 0, none⟩ = some (.int .i64 a0_0) ∧ w'.cell? ⟨gb364, 1, none⟩ = some (.slice A0_1 l0_1.length c0_1) ∧ w'.cell? ⟨gb365, 0, none⟩ = some (.int .i64 a1_0) ∧ w'.cell? ⟨gb365, 1, none⟩ = some (.slice A1_1 l1_1.length c1_1) ∧ w'.cell? ⟨gb366, 0, none⟩ = some (.int .i64 a2_0) ∧ w'.cell? ⟨gb366, 1, none⟩ = some (.slice A2_1 l2_1.length c2_1)) (ds := []) #[false, false, false, false, false, false, false, false] (by kernel_rfl) rfl rfl ⟨(c2 BK364).1, (c2 BK364).2, (c2 BK365).1, (c2 BK365).2, (c2 BK366).1, (c2 BK366).2⟩ (fun hHeld => ?_); refine with_tabW laws_FnExactCheckFarkas.tab11 laws_FnExactCheckFarkas.bits11 (fun HT_ HW_ => ?_)
        generalize w118.drew = w119 at BK364 BK365 BK366 HB hHeld ⊢
        refine take_ (i := 0) (N := some 28) (v := ?_) (a' := ?_) #[true, false, false, false, false, false, false, false] rfl rfl (take_ofW HT_.out HW_.out (by kernel_rfl)) (fun _ _ _ h => h) (Or.inl ⟨by rfl, ?_⟩) hHeld ?_ ?_
        rotate_left
        ·rintro w' ⟨s0, s1, s2, s3, s4, s5⟩
         go_simp
         with_reducible rfl
        rotate_left
        ·simp only [Act.put, List.setIfInBounds_toArray, List.set_cons_zero, List.set_cons_succ, i64_w, i32_w]
         rfl
        refine take_ (i := 2) (N := some 30) (v := ?_) (a' := ?_) #[true, false, true, false, false, false, false, false] rfl rfl (take_ofW HT_.out HW_.out (by kernel_rfl)) (fun _ _ _ h => h) (Or.inl ⟨by rfl, ?_⟩) hHeld ?_ ?_
        rotate_left
        ·rintro w' ⟨s0, s1, s2, s3, s4, s5⟩
         go_simp
         with_reducible rfl
        rotate_left
        ·simp only [Act.put, List.setIfInBounds_toArray, List.set_cons_zero, List.set_cons_succ, i64_w, i32_w]
         rfl
        refine take_ (i := 4) (N := some 32) (v := ?_) (a' := ?_) #[true, false, true, false, true, false, false, false] rfl rfl (take_ofW HT_.out HW_.out (by kernel_rfl)) (fun _ _ _ h => h) (Or.inl ⟨by rfl, ?_⟩) hHeld ?_ ?_
        rotate_left
        ·rintro w' ⟨s0, s1, s2, s3, s4, s5⟩
         go_simp
         with_reducible rfl
        rotate_left
        ·simp only [Act.put, List.setIfInBounds_toArray, List.set_cons_zero, List.set_cons_succ, i64_w, i32_w]
         rfl
        refine one_ (i := 1) (N := some 29) #[true, true, true, false, true, false, false, false] rfl rfl (one_of HT_.out (by kernel_rfl)) (by decide) (fun K hK => ?_)
        refine goes_ Try.func14 (by kernel_rfl) rfl #[.agg #[.int .i64 a0_0, .slice A0_1 l0_1.length c0_1]] (by rfl) rfl rfl (by (try simp only [List.map_toArray, List.map_cons, List.map_nil]); first | done | rfl | (simp only [List.length_drop, List.length_take]; rfl)) ?_
        with_reducible refine (laws_toSystem.calls k a0_0 _ _ l0_1 t370 t371 _ ?side1 ?side2 A39.out).mono ?_
        (case side1 => exact mc ((Kd.C_below HR0_1.out HB.out)))
        (case side2 => exact HC0_1.out)
        rintro e w120 ⟨v372, rfl, ho0, hb⟩
        refine ⟨_, rfl, ?_⟩
        have HO373 := Aside0.mk (Kd.S_lower ho0 (below_size (ms HB)))
        replace BK364 := bb BK364 hb
        replace BK365 := bb BK365 hb
        replace BK366 := bb BK366 hb
        replace HB := bs HB hb
        (try clear hb)
        (try clear hb2)
        (try clear hk)
        (try clear hi)
        (try clear ho0)
        refine hK.out _ _ ⟨(c2 BK364).1, (c2 BK364).2, (c2 BK365).1, (c2 BK365).2, (c2 BK366).1, (c2 BK366).2⟩ (fun hHeld => ?_)
        clear hK K
        refine norm_ (a' := ?_) ?_ ?_
        rotate_left
        ·show Act.put _ (some 29) _ = _
         simp only [Act.put, List.setIfInBounds_toArray, List.set_cons_zero, List.set_cons_succ, i64_w, i32_w]
         rfl
        refine one_ (i := 3) (N := some 31) #[true, true, true, true, true, false, false, false] rfl rfl (one_of HT_.out (by kernel_rfl)) (by decide) (fun K hK => ?_)
        refine goes_ Try.func15 (by kernel_rfl) rfl #[.agg #[.int .i64 a1_0, .slice A1_1 l1_1.length c1_1]] (by rfl) rfl rfl (by (try simp only [List.map_toArray, List.map_cons, List.map_nil]); first | done | rfl | (simp only [List.length_drop, List.length_take]; rfl)) ?_
        with_reducible refine (laws_toLin.calls k a1_0 _ _ l1_1 t374 t375 _ ?side1 ?side2 A40.out).mono ?_
        (case side1 => exact mc ((Kd.C_below HR1_1.out HB.out)))
        (case side2 => exact HC1_1.out)
        rintro e w121 ⟨v376, rfl, ho0, hb⟩
        refine ⟨_, rfl, ?_⟩
        replace HO373 := lS HO373 ho0 hb
        have HO377 := Aside0.mk (Kd.R_lower ho0 (below_size (ms HB)))
        replace BK364 := bb BK364 hb
        replace BK365 := bb BK365 hb
        replace BK366 := bb BK366 hb
        replace HB := bs HB hb
        (try clear hb)
        (try clear hb2)
        (try clear hk)
        (try clear hi)
        (try clear ho0)
        refine hK.out _ _ ⟨(c2 BK364).1, (c2 BK364).2, (c2 BK365).1, (c2 BK365).2, (c2 BK366).1, (c2 BK366).2⟩ (fun hHeld => ?_)
        clear hK K
        refine norm_ (a' := ?_) ?_ ?_
        rotate_left
        ·show Act.put _ (some 31) _ = _
         simp only [Act.put, List.setIfInBounds_toArray, List.set_cons_zero, List.set_cons_succ, i64_w, i32_w]
         rfl
        refine one_ (i := 5) (N := some 33) #[true, true, true, true, true, true, false, false] rfl rfl (one_of HT_.out (by kernel_rfl)) (by decide) (fun K hK => ?_)
        refine goes_ Try.func47 (by kernel_rfl) rfl #[.agg #[.int .i64 a2_0, .slice A2_1 l2_1.length c2_1]] (by rfl) rfl rfl (by (try simp only [List.map_toArray, List.map_cons, List.map_nil]); first | done | rfl | (simp only [List.length_drop, List.length_take]; rfl)) ?_
        with_reducible refine (laws_toFarkas.calls k a2_0 _ _ l2_1 t378 t379 _ ?side1 ?side2 A41.out).mono ?_
        (case side1 => exact mc ((Kd.C_below HR2_1.out HB.out)))
        (case side2 => exact HC2_1.out)
        rintro e w122 ⟨v380, rfl, ho0, hb⟩
        refine ⟨_, rfl, ?_⟩
        replace HO373 := lS HO373 ho0 hb
        have HO381 := Aside0.mk (Kd.R_lower (Kd.R_new' ho0 (Kd.R_lt (mr HO377))) (below_size (ms HB)))
        replace HO377 := rl HO377 ho0 hb
        replace BK364 := bb BK364 hb
        replace BK365 := bb BK365 hb
        replace BK366 := bb BK366 hb
        replace HB := bs HB hb
        (try clear hb)
        (try clear hb2)
        (try clear hk)
        (try clear hi)
        (try clear ho0)
        obtain ⟨Ao123, co123, eo123⟩ := Kd.S_slice HO373.out
        (first | subst eo123 | (injection eo123 with f1_ f2_ f3_; have f4_ := f1_.symm; have f5_ := f3_.symm; clear f1_ f2_ f3_; subst f4_; subst f5_))
        obtain ⟨Ao124, co124, eo124⟩ := Kd.R_slice HO377.out
        (first | subst eo124 | (injection eo124 with f1_ f2_ f3_; have f4_ := f1_.symm; have f5_ := f3_.symm; clear f1_ f2_ f3_; subst f4_; subst f5_))
        obtain ⟨Ao125, co125, eo125⟩ := Kd.R_slice HO381.out
        (first | subst eo125 | (injection eo125 with f1_ f2_ f3_; have f4_ := f1_.symm; have f5_ := f3_.symm; clear f1_ f2_ f3_; subst f4_; subst f5_))
        refine hK.out _ _ ⟨(c2 BK364).1, (c2 BK364).2, (c2 BK365).1, (c2 BK365).2, (c2 BK366).1, (c2 BK366).2⟩ (fun hHeld => ?_)
        clear hK K
        refine norm_ (a' := ?_) ?_ ?_
        rotate_left
        ·show Act.put _ (some 33) _ = _
         simp only [Act.put, List.setIfInBounds_toArray, List.set_cons_zero, List.set_cons_succ, i64_w, i32_w]
         rfl
        refine one_ (i := 6) (N := some 34) #[true, true, true, true, true, true, true, false] rfl rfl (one_of HT_.out (by kernel_rfl)) (by decide) (fun K hK => ?_)
        refine goes_ Try.func46 (by kernel_rfl) rfl #[.agg #[.int .i64 t370, .slice Ao123 t371.length co123], .agg #[.int .i64 t374, .slice Ao124 t375.length co124], .agg #[.int .i64 t378, .slice Ao125 t379.length co125]] (by rfl) rfl rfl (by (try simp only [List.map_toArray, List.map_cons, List.map_nil]); first | done | rfl | (simp only [List.length_drop, List.length_take]; rfl)) ?_
        with_reducible refine (spec_CheckFarkas.calls k t370 _ _ t371 t374 _ _ t375 t378 _ _ t379 t382 _ ?side1 ?side2 ?side3 ?side4 ?side5 ?side6 A42.out).mono ?_
        (case side1 => exact mc ((Kd.S_reads' HO373.out).2.2))
        (case side2 => exact (Kd.S_reads' HO373.out).2.1)
        (case side3 => exact mc ((Kd.R_reads' HO377.out).2.2))
        (case side4 => exact (Kd.R_reads' HO377.out).2.1)
        (case side5 => exact mc ((Kd.R_reads' HO381.out).2.2))
        (case side6 => exact (Kd.R_reads' HO381.out).2.1)
        rintro e w126 ⟨rfl, hb⟩
        refine ⟨_, rfl, ?_⟩
        replace HO373 := bS HO373 hb
        replace HO377 := rb HO377 hb
        replace HO381 := rb HO381 hb
        replace BK364 := bb BK364 hb
        replace BK365 := bb BK365 hb
        replace BK366 := bb BK366 hb
        replace HB := bs HB hb
        (try clear hb)
        (try clear hb2)
        (try clear hk)
        (try clear hi)
        refine hK.out _ _ ⟨(c2 BK364).1, (c2 BK364).2, (c2 BK365).1, (c2 BK365).2, (c2 BK366).1, (c2 BK366).2⟩ (fun hHeld => ?_)
        clear hK K
        refine norm_ (a' := ?_) ?_ ?_
        rotate_left
        ·show Act.put _ (some 34) _ = _
         simp only [Act.put, List.setIfInBounds_toArray, List.set_cons_zero, List.set_cons_succ, i64_w, i32_w]
         rfl
        refine pure_ (i := 7) (N := some 8) (v := ?_) (a' := ?_) #[true, true, true, true, true, true, true, true] rfl rfl (any_of HT_.out (by kernel_rfl)) (fun _ _ _ h => h) (Or.inl ⟨by rfl, ?_⟩) ?_ ?_
        rotate_left
        ·intro w'
         go_simp
         with_reducible rfl
        rotate_left
        ·simp only [Act.put, List.setIfInBounds_toArray, List.set_cons_zero, List.set_cons_succ, i64_w, i32_w]
         rfl
        refine done_ (done_of HT_.out (by kernel_rfl)) ?_
        obtain ⟨hcz127_0, hcz127_1⟩ := c2 BK364
        have hfz127_0 := blk_frozen BK364.out 0
        have hfz127_1 := blk_frozen BK364.out 1
        try go_wp2_with (first | ((with_reducible refine gate_callee (f := 14) rfl ?_); refine goesL_ (some 36) rfl rfl Try.func14 (by kernel_rfl) rfl #[.agg #[.int .i64 a0_0, .slice A0_1 l0_1.length c0_1]] rfl (by (try simp only [List.map_toArray, List.map_cons, List.map_nil]); first | done | rfl | (simp only [List.length_drop, List.length_take]; rfl)) ?_; (with_reducible refine (laws_toSystem.calls k a0_0 _ _ l0_1 t383 t384 _ ?side1 ?side2 A43.out).mono ?_); (case side1 => exact mc ((Kd.C_below HR0_1.out HB.out))); (case side2 => exact HC0_1.out); rintro e w128 ⟨v385, rfl, ho0, hb⟩; refine ⟨_, rfl, ?_⟩; have HO386 := Aside0.mk (Kd.S_lower (Kd.S_new' (Kd.S_new' (Kd.S_new' ho0 (Kd.S_lt (mS HO373))) (Kd.R_lt (mr HO377))) (Kd.R_lt (mr HO381))) (below_size (ms HB))); replace HO373 := Aside0.mk (Kd.S_elder' (mS HO373) (Kd.S_base ho0) hb); replace HO377 := rb HO377 hb; replace HO381 := rb HO381 hb; replace BK364 := bb BK364 hb; replace BK365 := bb BK365 hb; replace BK366 := bb BK366 hb; replace HB := bs HB hb; (try clear hb); (try clear ho0)) | ((with_reducible refine gate_dst (N := 9) rfl ?_); refine box_event ?hg (N := 9) ?hd (cs := #[.int .i64 0, .slice none 0 0]) (t := 32) ?hr ?_; (case hd => rfl); (case hg => rfl); (case hr => first | (go_simp; done) | (go_simp; rfl)); intro gb387 hg w129 hbox hb; replace HO373 := bS HO373 hb; replace HO377 := rb HO377 hb; replace HO381 := rb HO381 hb; replace HO386 := bS HO386 hb; have BK387 := Aside0.mk (hbox); have GW387 := gw hg HB; have GE387 := gw hg HB; replace HB := bs HB hb; have NB364_387 := nl hg BK364; have NB387_364 := ng hg BK364; replace BK364 := bb BK364 hb; have NB365_387 := nl hg BK365; have NB387_365 := ng hg BK365; replace BK365 := bb BK365 hb; have NB366_387 := nl hg BK366; have NB387_366 := ng hg BK366; replace BK366 := bb BK366 hb; clear hb hbox hg; have hnb130 := NB387_364.out; have hnc130 := NB364_387.out; have hnb131 := NB387_365.out; have hnc131 := NB365_387.out; have hnb132 := NB387_366.out; have hnc132 := NB366_387.out; obtain ⟨hcz133_0, hcz133_1⟩ := c2 BK387; have hfz133_0 := blk_frozen BK387.out 0; have hfz133_1 := blk_frozen BK387.out 1; obtain ⟨Ao134, co134, eo134⟩ := Kd.S_slice HO386.out; subst eo134; obtain ⟨hcz135_0, hcz135_1⟩ := c2 BK365; have hfz135_0 := blk_frozen BK365.out 0; have hfz135_1 := blk_frozen BK365.out 1) | ((with_reducible refine gate_callee (f := 15) rfl ?_); refine goesL_ (some 38) rfl rfl Try.func15 (by kernel_rfl) rfl #[.agg #[.int .i64 a1_0, .slice A1_1 l1_1.length c1_1]] rfl (by (try simp only [List.map_toArray, List.map_cons, List.map_nil]); first | done | rfl | (simp only [List.length_drop, List.length_take]; rfl)) ?_; (with_reducible refine (laws_toLin.calls k a1_0 _ _ l1_1 t388 t389 _ ?side1 ?side2 A44.out).mono ?_); (case side1 => exact Kd.C_below HR1_1.out (ms HB)); (case side2 => exact HC1_1.out); rintro e w136 ⟨v390, rfl, ho0, hb⟩; refine ⟨_, rfl, ?_⟩; have n0_ := Aside0.mk (Kd.S_elder' (by (with_reducible repeat (first | apply Kd.S_alloc | apply Kd.S_drewN | apply Kd.S_drew)); exact (Kd.S_mono (Kd.S_far (p := ⟨gb387, 1, none⟩) (Kd.S_far (p := ⟨gb387, 0, none⟩) (Kd.S_types HO373.out BK387.out (by decide)) (fun _ hk => hk.2) (.int .i64 t383)) (fun _ hk => hk.2) (.slice Ao134 t384.length co134)) (fun _ h_ => h_.1))) (Kd.R_base ho0) hb); have n1_ := Aside0.mk (Kd.R_elder' (by (with_reducible repeat (first | apply Kd.R_alloc | apply Kd.R_drewN | apply Kd.R_drew)); exact (Kd.R_mono (Kd.R_far (p := ⟨gb387, 1, none⟩) (Kd.R_far (p := ⟨gb387, 0, none⟩) (Kd.R_types HO377.out BK387.out (by decide)) (fun _ hk => hk.2) (.int .i64 t383)) (fun _ hk => hk.2) (.slice Ao134 t384.length co134)) (fun _ h_ => h_.1))) (Kd.R_base ho0) hb); have n2_ := Aside0.mk (Kd.R_elder' (by (with_reducible repeat (first | apply Kd.R_alloc | apply Kd.R_drewN | apply Kd.R_drew)); exact (Kd.R_mono (Kd.R_far (p := ⟨gb387, 1, none⟩) (Kd.R_far (p := ⟨gb387, 0, none⟩) (Kd.R_types HO381.out BK387.out (by decide)) (fun _ hk => hk.2) (.int .i64 t383)) (fun _ hk => hk.2) (.slice Ao134 t384.length co134)) (fun _ h_ => h_.1))) (Kd.R_base ho0) hb); have n3_ := Aside0.mk (Kd.S_elder' (by (with_reducible repeat (first | apply Kd.S_alloc | apply Kd.S_drewN | apply Kd.S_drew)); exact (Kd.S_mono (Kd.S_far (p := ⟨gb387, 1, none⟩) (Kd.S_far (p := ⟨gb387, 0, none⟩) (Kd.S_types HO386.out BK387.out (by decide)) (fun _ hk => hk.2) (.int .i64 t383)) (fun _ hk => hk.2) (.slice Ao134 t384.length co134)) (fun _ h_ => h_.1))) (Kd.R_base ho0) hb); have n4_ := Aside0.mk (Kd.R_lower (Kd.R_new' (Kd.R_new' ho0 (Kd.R_lt (by (with_reducible repeat (first | apply Kd.R_alloc | apply Kd.R_drewN | apply Kd.R_drew)); exact (Kd.R_mono (Kd.R_far (p := ⟨gb387, 1, none⟩) (Kd.R_far (p := ⟨gb387, 0, none⟩) (Kd.R_types HO377.out BK387.out (by decide)) (fun _ hk => hk.2) (.int .i64 t383)) (fun _ hk => hk.2) (.slice Ao134 t384.length co134)) (fun _ h_ => h_.1))))) (Kd.R_lt (by (with_reducible repeat (first | apply Kd.R_alloc | apply Kd.R_drewN | apply Kd.R_drew)); exact (Kd.R_mono (Kd.R_far (p := ⟨gb387, 1, none⟩) (Kd.R_far (p := ⟨gb387, 0, none⟩) (Kd.R_types HO381.out BK387.out (by decide)) (fun _ hk => hk.2) (.int .i64 t383)) (fun _ hk => hk.2) (.slice Ao134 t384.length co134)) (fun _ h_ => h_.1))))) (below_size (ms HB))); have n5_ := bf BK364 hb; have n6_ := bf BK365 hb; have n7_ := bf BK366 hb; have n8_ := Aside0.mk (blk_below (g := gb387) (o := .cells #[.int .i64 t383, .slice Ao134 t384.length co134] 32 (0, 0)) (by (with_reducible repeat (first | refine blk_drewN ?_ _ | refine blk_drew ?_ | refine blk_alloc ?_ _)); refine blk_put (cs := #[.int .i64 t383, .slice none 0 0]) ?_ 1 _ rfl; (with_reducible repeat (first | refine blk_drewN ?_ _ | refine blk_drew ?_ | refine blk_alloc ?_ _)); refine blk_put (cs := #[.int .i64 0, .slice none 0 0]) ?_ 0 _ rfl; (with_reducible repeat (first | refine blk_drewN ?_ _ | refine blk_drew ?_ | refine blk_alloc ?_ _)); exact BK387.out) hb); have n9_ := bs HB hb; clear HO373 HO377 HO381 HO386 BK364 BK365 BK366 BK387 HB; have HO373 := n0_; have HO377 := n1_; have HO381 := n2_; have HO386 := n3_; have HO391 := n4_; have BK364 := n5_; have BK365 := n6_; have BK366 := n7_; have BK387 := n8_; have HB := n9_; clear n0_ n1_ n2_ n3_ n4_ n5_ n6_ n7_ n8_ n9_; (try clear hb); (try clear ho0)) | ((with_reducible refine gate_dst (N := 10) rfl ?_); refine box_event ?hg (N := 10) ?hd (cs := #[.int .i64 0, .slice none 0 0]) (t := 36) ?hr ?_; (case hd => rfl); (case hg => rfl); (case hr => first | (go_simp; done) | (go_simp; rfl)); intro gb392 hg w137 hbox hb; replace HO373 := Aside0.mk (Kd.S_below (Kd.S_elderB (mS HO373) gb392 (Nat.le_of_eq hg.symm)) hb); replace HO377 := rb HO377 hb; replace HO381 := rb HO381 hb; replace HO386 := Aside0.mk (Kd.S_below (Kd.S_elderB (mS HO386) gb392 (Nat.le_of_eq hg.symm)) hb); replace HO391 := rb HO391 hb; have BK392 := Aside0.mk (hbox); have GW392 := gw hg HB; have GE392 := gw hg HB; replace HB := bs HB hb; have NB364_392 := nl hg BK364; have NB392_364 := ng hg BK364; replace BK364 := bb BK364 hb; have NB365_392 := nl hg BK365; have NB392_365 := ng hg BK365; replace BK365 := bb BK365 hb; have NB366_392 := nl hg BK366; have NB392_366 := ng hg BK366; replace BK366 := bb BK366 hb; have NB387_392 := nl hg BK387; have NB392_387 := ng hg BK387; replace BK387 := bb BK387 hb; clear hb hbox hg; have hnb138 := NB392_364.out; have hnc138 := NB364_392.out; have hnb139 := NB392_365.out; have hnc139 := NB365_392.out; have hnb140 := NB392_366.out; have hnc140 := NB366_392.out; have hnb141 := NB392_387.out; have hnc141 := NB387_392.out; obtain ⟨hcz142_0, hcz142_1⟩ := c2 BK392; have hfz142_0 := blk_frozen BK392.out 0; have hfz142_1 := blk_frozen BK392.out 1; obtain ⟨Ao143, co143, eo143⟩ := Kd.R_slice HO391.out; subst eo143; obtain ⟨hcz144_0, hcz144_1⟩ := c2 BK366; have hfz144_0 := blk_frozen BK366.out 0; have hfz144_1 := blk_frozen BK366.out 1) | ((with_reducible refine gate_callee (f := 47) rfl ?_); refine goesL_ (some 40) rfl rfl Try.func47 (by kernel_rfl) rfl #[.agg #[.int .i64 a2_0, .slice A2_1 l2_1.length c2_1]] rfl (by (try simp only [List.map_toArray, List.map_cons, List.map_nil]); first | done | rfl | (simp only [List.length_drop, List.length_take]; rfl)) ?_; (with_reducible refine (laws_toFarkas.calls k a2_0 _ _ l2_1 t393 t394 _ ?side1 ?side2 A45.out).mono ?_); (case side1 => exact Kd.C_below HR2_1.out (ms HB)); (case side2 => exact HC2_1.out); rintro e w145 ⟨v395, rfl, ho0, hb⟩; refine ⟨_, rfl, ?_⟩; have n0_ := Aside0.mk (Kd.S_elder' (by (with_reducible repeat (first | apply Kd.S_alloc | apply Kd.S_drewN | apply Kd.S_drew)); exact (Kd.S_mono (Kd.S_far (p := ⟨gb392, 1, none⟩) (Kd.S_far (p := ⟨gb392, 0, none⟩) (Kd.S_mono HO373.out (fun k_ hk => (⟨hk, hk.2⟩ : _ ∧ k_ ≠ gb392))) (fun _ hk => hk.2) (.int .i64 t388)) (fun _ hk => hk.2) (.slice Ao143 t389.length co143)) (fun _ h_ => h_.1))) (Kd.R_base ho0) hb); have n1_ := Aside0.mk (Kd.R_elder' (by (with_reducible repeat (first | apply Kd.R_alloc | apply Kd.R_drewN | apply Kd.R_drew)); exact (Kd.R_mono (Kd.R_far (p := ⟨gb392, 1, none⟩) (Kd.R_far (p := ⟨gb392, 0, none⟩) (Kd.R_types HO377.out BK392.out (by decide)) (fun _ hk => hk.2) (.int .i64 t388)) (fun _ hk => hk.2) (.slice Ao143 t389.length co143)) (fun _ h_ => h_.1))) (Kd.R_base ho0) hb); have n2_ := Aside0.mk (Kd.R_elder' (by (with_reducible repeat (first | apply Kd.R_alloc | apply Kd.R_drewN | apply Kd.R_drew)); exact (Kd.R_mono (Kd.R_far (p := ⟨gb392, 1, none⟩) (Kd.R_far (p := ⟨gb392, 0, none⟩) (Kd.R_types HO381.out BK392.out (by decide)) (fun _ hk => hk.2) (.int .i64 t388)) (fun _ hk => hk.2) (.slice Ao143 t389.length co143)) (fun _ h_ => h_.1))) (Kd.R_base ho0) hb); have n3_ := Aside0.mk (Kd.S_elder' (by (with_reducible repeat (first | apply Kd.S_alloc | apply Kd.S_drewN | apply Kd.S_drew)); exact (Kd.S_mono (Kd.S_far (p := ⟨gb392, 1, none⟩) (Kd.S_far (p := ⟨gb392, 0, none⟩) (Kd.S_mono HO386.out (fun k_ hk => (⟨hk, hk.2⟩ : _ ∧ k_ ≠ gb392))) (fun _ hk => hk.2) (.int .i64 t388)) (fun _ hk => hk.2) (.slice Ao143 t389.length co143)) (fun _ h_ => h_.1))) (Kd.R_base ho0) hb); have n4_ := Aside0.mk (Kd.R_elder' (by (with_reducible repeat (first | apply Kd.R_alloc | apply Kd.R_drewN | apply Kd.R_drew)); exact (Kd.R_mono (Kd.R_far (p := ⟨gb392, 1, none⟩) (Kd.R_far (p := ⟨gb392, 0, none⟩) (Kd.R_types HO391.out BK392.out (by decide)) (fun _ hk => hk.2) (.int .i64 t388)) (fun _ hk => hk.2) (.slice Ao143 t389.length co143)) (fun _ h_ => h_.1))) (Kd.R_base ho0) hb); have n5_ := Aside0.mk (Kd.R_lower (Kd.R_new' (Kd.R_new' (Kd.R_new' ho0 (Kd.R_lt (by (with_reducible repeat (first | apply Kd.R_alloc | apply Kd.R_drewN | apply Kd.R_drew)); exact (Kd.R_mono (Kd.R_far (p := ⟨gb392, 1, none⟩) (Kd.R_far (p := ⟨gb392, 0, none⟩) (Kd.R_types HO377.out BK392.out (by decide)) (fun _ hk => hk.2) (.int .i64 t388)) (fun _ hk => hk.2) (.slice Ao143 t389.length co143)) (fun _ h_ => h_.1))))) (Kd.R_lt (by (with_reducible repeat (first | apply Kd.R_alloc | apply Kd.R_drewN | apply Kd.R_drew)); exact (Kd.R_mono (Kd.R_far (p := ⟨gb392, 1, none⟩) (Kd.R_far (p := ⟨gb392, 0, none⟩) (Kd.R_types HO381.out BK392.out (by decide)) (fun _ hk => hk.2) (.int .i64 t388)) (fun _ hk => hk.2) (.slice Ao143 t389.length co143)) (fun _ h_ => h_.1))))) (Kd.R_lt (by (with_reducible repeat (first | apply Kd.R_alloc | apply Kd.R_drewN | apply Kd.R_drew)); exact (Kd.R_mono (Kd.R_far (p := ⟨gb392, 1, none⟩) (Kd.R_far (p := ⟨gb392, 0, none⟩) (Kd.R_types HO391.out BK392.out (by decide)) (fun _ hk => hk.2) (.int .i64 t388)) (fun _ hk => hk.2) (.slice Ao143 t389.length co143)) (fun _ h_ => h_.1))))) (below_size (ms HB))); have n6_ := bf BK364 hb; have n7_ := bf BK365 hb; have n8_ := bf BK366 hb; have n9_ := bf BK387 hb; have n10_ := Aside0.mk (blk_below (g := gb392) (o := .cells #[.int .i64 t388, .slice Ao143 t389.length co143] 36 (0, 0)) (by (with_reducible repeat (first | refine blk_drewN ?_ _ | refine blk_drew ?_ | refine blk_alloc ?_ _)); refine blk_put (cs := #[.int .i64 t388, .slice none 0 0]) ?_ 1 _ rfl; (with_reducible repeat (first | refine blk_drewN ?_ _ | refine blk_drew ?_ | refine blk_alloc ?_ _)); refine blk_put (cs := #[.int .i64 0, .slice none 0 0]) ?_ 0 _ rfl; (with_reducible repeat (first | refine blk_drewN ?_ _ | refine blk_drew ?_ | refine blk_alloc ?_ _)); exact BK392.out) hb); have n11_ := bs HB hb; clear HO373 HO377 HO381 HO386 HO391 BK364 BK365 BK366 BK387 BK392 HB; have HO373 := n0_; have HO377 := n1_; have HO381 := n2_; have HO386 := n3_; have HO391 := n4_; have HO396 := n5_; have BK364 := n6_; have BK365 := n7_; have BK366 := n8_; have BK387 := n9_; have BK392 := n10_; have HB := n11_; clear n0_ n1_ n2_ n3_ n4_ n5_ n6_ n7_ n8_ n9_ n10_ n11_; (try clear hb); (try clear ho0)) | ((with_reducible refine gate_dst (N := 11) rfl ?_); refine box_event ?hg (N := 11) ?hd (cs := #[.int .i64 0, .slice none 0 0]) (t := 65) ?hr ?_; (case hd => rfl); (case hg => rfl); (case hr => first | (go_simp; done) | (go_simp; rfl)); intro gb397 hg w146 hbox hb; replace HO373 := bS HO373 hb; replace HO377 := rb HO377 hb; replace HO381 := rb HO381 hb; replace HO386 := bS HO386 hb; replace HO391 := rb HO391 hb; replace HO396 := rb HO396 hb; have BK397 := Aside0.mk (hbox); have GW397 := gw hg HB; have GE397 := gw hg HB; replace HB := bs HB hb; have NB364_397 := nl hg BK364; have NB397_364 := ng hg BK364; replace BK364 := bb BK364 hb; have NB365_397 := nl hg BK365; have NB397_365 := ng hg BK365; replace BK365 := bb BK365 hb; have NB366_397 := nl hg BK366; have NB397_366 := ng hg BK366; replace BK366 := bb BK366 hb; have NB387_397 := nl hg BK387; have NB397_387 := ng hg BK387; replace BK387 := bb BK387 hb; have NB392_397 := nl hg BK392; have NB397_392 := ng hg BK392; replace BK392 := bb BK392 hb; clear hb hbox hg; have hnb147 := NB397_364.out; have hnc147 := NB364_397.out; have hnb148 := NB397_365.out; have hnc148 := NB365_397.out; have hnb149 := NB397_366.out; have hnc149 := NB366_397.out; have hnb150 := NB397_387.out; have hnc150 := NB387_397.out; have hnb151 := NB397_392.out; have hnc151 := NB392_397.out; obtain ⟨hcz152_0, hcz152_1⟩ := c2 BK397; have hfz152_0 := blk_frozen BK397.out 0; have hfz152_1 := blk_frozen BK397.out 1; obtain ⟨Ao153, co153, eo153⟩ := Kd.R_slice HO396.out; subst eo153; obtain ⟨hcz154_0, hcz154_1⟩ := c2 BK387; have hfz154_0 := blk_frozen BK387.out 0; have hfz154_1 := blk_frozen BK387.out 1; obtain ⟨hcz155_0, hcz155_1⟩ := c2 BK392; have hfz155_0 := blk_frozen BK392.out 0; have hfz155_1 := blk_frozen BK392.out 1) | ((with_reducible refine gate_callee (f := 48) rfl ?_); refine goesL_ (some 44) rfl rfl Try.func48 (by kernel_rfl) rfl #[.agg #[.int .i64 t383, .slice Ao134 t384.length co134], .agg #[.int .i64 t388, .slice Ao143 t389.length co143], .agg #[.int .i64 t393, .slice Ao153 t394.length co153]] rfl (by (try simp only [List.map_toArray, List.map_cons, List.map_nil]); first | done | rfl | (simp only [List.length_drop, List.length_take]; rfl)) ?_; (with_reducible refine (impl_CheckFarkas.calls k t383 _ _ t384 t388 _ _ t389 t393 _ _ t394 t398 _ ?side1 ?side2 ?side3 ?side4 ?side5 ?side6 A46.out).mono ?_); (case side1 => refine (Kd.S_reads' (e := 36) (base := w.heap.size) (ok := fun k_ => ((((((True ∧ some k_ ≠ (.slice Ao123 t371.length co123 : Value).ownBlock) ∧ some k_ ≠ (.slice Ao124 t375.length co124 : Value).ownBlock) ∧ some k_ ≠ (.slice Ao125 t379.length co125 : Value).ownBlock) ∧ some k_ ≠ (.slice Ao143 t389.length co143 : Value).ownBlock) ∧ k_ ≠ gb392) ∧ some k_ ≠ (.slice Ao153 t394.length co153 : Value).ownBlock)) (n := t384.length) (c := co134) ?_).2.2; exact (by (with_reducible repeat (first | apply Kd.S_alloc | apply Kd.S_drewN | apply Kd.S_drew)); exact (Kd.S_mono (Kd.S_far (p := ⟨gb397, 1, none⟩) (Kd.S_far (p := ⟨gb397, 0, none⟩) (Kd.S_types HO386.out BK397.out (by decide)) (fun _ hk => hk.2) (.int .i64 t393)) (fun _ hk => hk.2) (.slice Ao153 t394.length co153)) (fun _ h_ => h_.1)))); (case side2 => exact (Kd.S_reads' HO386.out).2.1); (case side3 => refine (Kd.R_reads' (e := 3) (base := w.heap.size) (ok := fun k_ => (((True ∧ some k_ ≠ (.slice Ao124 t375.length co124 : Value).ownBlock) ∧ some k_ ≠ (.slice Ao125 t379.length co125 : Value).ownBlock) ∧ some k_ ≠ (.slice Ao153 t394.length co153 : Value).ownBlock)) (n := t389.length) (c := co143) ?_).2.2; exact (by (with_reducible repeat (first | apply Kd.R_alloc | apply Kd.R_drewN | apply Kd.R_drew)); exact (Kd.R_mono (Kd.R_far (p := ⟨gb397, 1, none⟩) (Kd.R_far (p := ⟨gb397, 0, none⟩) (Kd.R_types HO391.out BK397.out (by decide)) (fun _ hk => hk.2) (.int .i64 t393)) (fun _ hk => hk.2) (.slice Ao153 t394.length co153)) (fun _ h_ => h_.1)))); (case side4 => exact (Kd.R_reads' HO391.out).2.1); (case side5 => refine (Kd.R_reads' (e := 3) (base := w.heap.size) (ok := fun k_ => (((True ∧ some k_ ≠ (.slice Ao124 t375.length co124 : Value).ownBlock) ∧ some k_ ≠ (.slice Ao125 t379.length co125 : Value).ownBlock) ∧ some k_ ≠ (.slice Ao143 t389.length co143 : Value).ownBlock)) (n := t394.length) (c := co153) ?_).2.2; exact (by (with_reducible repeat (first | apply Kd.R_alloc | apply Kd.R_drewN | apply Kd.R_drew)); exact (Kd.R_mono (Kd.R_far (p := ⟨gb397, 1, none⟩) (Kd.R_far (p := ⟨gb397, 0, none⟩) (Kd.R_types HO396.out BK397.out (by decide)) (fun _ hk => hk.2) (.int .i64 t393)) (fun _ hk => hk.2) (.slice Ao153 t394.length co153)) (fun _ h_ => h_.1)))); (case side6 => exact (Kd.R_reads' HO396.out).2.1); rintro e w156 ⟨rfl, hb⟩; refine ⟨_, rfl, ?_⟩; have n0_ := Aside0.mk (Kd.S_below (by (with_reducible repeat (first | apply Kd.S_alloc | apply Kd.S_drewN | apply Kd.S_drew)); exact (Kd.S_mono (Kd.S_far (p := ⟨gb397, 1, none⟩) (Kd.S_far (p := ⟨gb397, 0, none⟩) (Kd.S_types HO373.out BK397.out (by decide)) (fun _ hk => hk.2) (.int .i64 t393)) (fun _ hk => hk.2) (.slice Ao153 t394.length co153)) (fun _ h_ => h_.1))) hb); have n1_ := Aside0.mk (Kd.R_below (by (with_reducible repeat (first | apply Kd.R_alloc | apply Kd.R_drewN | apply Kd.R_drew)); exact (Kd.R_mono (Kd.R_far (p := ⟨gb397, 1, none⟩) (Kd.R_far (p := ⟨gb397, 0, none⟩) (Kd.R_types HO377.out BK397.out (by decide)) (fun _ hk => hk.2) (.int .i64 t393)) (fun _ hk => hk.2) (.slice Ao153 t394.length co153)) (fun _ h_ => h_.1))) hb); have n2_ := Aside0.mk (Kd.R_below (by (with_reducible repeat (first | apply Kd.R_alloc | apply Kd.R_drewN | apply Kd.R_drew)); exact (Kd.R_mono (Kd.R_far (p := ⟨gb397, 1, none⟩) (Kd.R_far (p := ⟨gb397, 0, none⟩) (Kd.R_types HO381.out BK397.out (by decide)) (fun _ hk => hk.2) (.int .i64 t393)) (fun _ hk => hk.2) (.slice Ao153 t394.length co153)) (fun _ h_ => h_.1))) hb); have n3_ := Aside0.mk (Kd.S_below (by (with_reducible repeat (first | apply Kd.S_alloc | apply Kd.S_drewN | apply Kd.S_drew)); exact (Kd.S_mono (Kd.S_far (p := ⟨gb397, 1, none⟩) (Kd.S_far (p := ⟨gb397, 0, none⟩) (Kd.S_types HO386.out BK397.out (by decide)) (fun _ hk => hk.2) (.int .i64 t393)) (fun _ hk => hk.2) (.slice Ao153 t394.length co153)) (fun _ h_ => h_.1))) hb); have n4_ := Aside0.mk (Kd.R_below (by (with_reducible repeat (first | apply Kd.R_alloc | apply Kd.R_drewN | apply Kd.R_drew)); exact (Kd.R_mono (Kd.R_far (p := ⟨gb397, 1, none⟩) (Kd.R_far (p := ⟨gb397, 0, none⟩) (Kd.R_types HO391.out BK397.out (by decide)) (fun _ hk => hk.2) (.int .i64 t393)) (fun _ hk => hk.2) (.slice Ao153 t394.length co153)) (fun _ h_ => h_.1))) hb); have n5_ := Aside0.mk (Kd.R_below (by (with_reducible repeat (first | apply Kd.R_alloc | apply Kd.R_drewN | apply Kd.R_drew)); exact (Kd.R_mono (Kd.R_far (p := ⟨gb397, 1, none⟩) (Kd.R_far (p := ⟨gb397, 0, none⟩) (Kd.R_types HO396.out BK397.out (by decide)) (fun _ hk => hk.2) (.int .i64 t393)) (fun _ hk => hk.2) (.slice Ao153 t394.length co153)) (fun _ h_ => h_.1))) hb); have n6_ := bf BK364 hb; have n7_ := bf BK365 hb; have n8_ := bf BK366 hb; have n9_ := bf BK387 hb; have n10_ := bf BK392 hb; have n11_ := Aside0.mk (blk_below (g := gb397) (o := .cells #[.int .i64 t393, .slice Ao153 t394.length co153] 65 (0, 0)) (by (with_reducible repeat (first | refine blk_drewN ?_ _ | refine blk_drew ?_ | refine blk_alloc ?_ _)); refine blk_put (cs := #[.int .i64 t393, .slice none 0 0]) ?_ 1 _ rfl; (with_reducible repeat (first | refine blk_drewN ?_ _ | refine blk_drew ?_ | refine blk_alloc ?_ _)); refine blk_put (cs := #[.int .i64 0, .slice none 0 0]) ?_ 0 _ rfl; (with_reducible repeat (first | refine blk_drewN ?_ _ | refine blk_drew ?_ | refine blk_alloc ?_ _)); exact BK397.out) hb); have n12_ := bs HB hb; clear HO373 HO377 HO381 HO386 HO391 HO396 BK364 BK365 BK366 BK387 BK392 BK397 HB; have HO373 := n0_; have HO377 := n1_; have HO381 := n2_; have HO386 := n3_; have HO391 := n4_; have HO396 := n5_; have BK364 := n6_; have BK365 := n7_; have BK366 := n8_; have BK387 := n9_; have BK392 := n10_; have BK397 := n11_; have HB := n12_; clear n0_ n1_ n2_ n3_ n4_ n5_ n6_ n7_ n8_ n9_ n10_ n11_ n12_; (try clear hb)))
        replace HO373 := Aside0.mk (Kd.S_drew HO373.out)
        replace HO377 := Aside0.mk (Kd.R_drew HO377.out)
        replace HO381 := Aside0.mk (Kd.R_drew HO381.out)
        replace HO386 := Aside0.mk (Kd.S_drew HO386.out)
        replace HO391 := Aside0.mk (Kd.R_drew HO391.out)
        replace HO396 := Aside0.mk (Kd.R_drew HO396.out)
        replace BK364 := Aside0.mk (blk_drew BK364.out)
        replace BK365 := Aside0.mk (blk_drew BK365.out)
        replace BK366 := Aside0.mk (blk_drew BK366.out)
        replace BK387 := Aside0.mk (blk_drew BK387.out)
        replace BK392 := Aside0.mk (blk_drew BK392.out)
        replace BK397 := Aside0.mk (blk_drew BK397.out)
        replace HB := Aside0.mk (below_drew1 HB.out)
        refine start_ (n := 5) (S := fun w' => w'.cell? ⟨gb387, 0, none⟩ = some (.int .i64 t383) ∧ w'.cell? ⟨gb387, 1, none⟩ = some (.slice Ao134 t384.length co134) ∧ w'.cell? ⟨gb364, 0, none⟩ = some (.int .i64 a0_0) ∧ w'.cell? ⟨gb364, 1, none⟩ = some (.slice A0_1 l0_1.length c0_1)) (ds := []) #[false, false, false, false, false] (by kernel_rfl) rfl rfl ⟨(c2 BK387).1, (c2 BK387).2, (c2 BK364).1, (c2 BK364).2⟩ (fun hHeld => ?_)
        generalize w156.drew = w157 at HO373 HO377 HO381 HO386 HO391 HO396 BK364 BK365 BK366 BK387 BK392 BK397 HB hHeld ⊢
        refine take_ (i := 0) (N := some 48) (v := ?_) (a' := ?_) #[true, false, false, false, false] rfl rfl (by kernel_rfl) (fun _ _ _ h => h) (Or.inl ⟨by rfl, ?_⟩) hHeld ?_ ?_
        rotate_left
        ·rintro w' ⟨s0, s1, s2, s3⟩
         go_simp
         with_reducible rfl
        rotate_left
        ·simp only [Act.put, List.setIfInBounds_toArray, List.set_cons_zero, List.set_cons_succ, i64_w, i32_w]
         rfl
        refine take_ (i := 1) (N := some 49) (v := ?_) (a' := ?_) #[true, true, false, false, false] rfl rfl (by kernel_rfl) (fun _ _ _ h => h) (Or.inl ⟨by rfl, ?_⟩) hHeld ?_ ?_
        rotate_left
        ·rintro w' ⟨s0, s1, s2, s3⟩
         go_simp
         with_reducible rfl
        rotate_left
        ·simp only [Act.put, List.setIfInBounds_toArray, List.set_cons_zero, List.set_cons_succ, i64_w, i32_w]
         rfl
        refine one_ (i := 2) (N := some 50) #[true, true, true, false, false] rfl rfl (by kernel_rfl) (by decide) (fun K hK => ?_)
        refine goes_ Try.func14 (by kernel_rfl) rfl #[.agg #[.int .i64 a0_0, .slice A0_1 l0_1.length c0_1]] (by rfl) rfl rfl (by (try simp only [List.map_toArray, List.map_cons, List.map_nil]); first | done | rfl | (simp only [List.length_drop, List.length_take]; rfl)) ?_
        with_reducible refine (laws_toSystem.calls k a0_0 _ _ l0_1 t399 t400 _ ?side1 ?side2 A98.out).mono ?_
        (case side1 => exact mc ((Kd.C_below HR0_1.out HB.out)))
        (case side2 => exact HC0_1.out)
        rintro e w158 ⟨v401, rfl, ho0, hb⟩
        refine ⟨_, rfl, ?_⟩
        have HO402 := Aside0.mk (Kd.S_lower (Kd.S_newB (Kd.S_new' (Kd.S_new' (Kd.S_new' (Kd.S_new' (Kd.S_new' (Kd.S_new' ho0 (Kd.S_lt (mS HO373))) (Kd.R_lt (mr HO377))) (Kd.R_lt (mr HO381))) (Kd.S_lt (mS HO386))) (Kd.R_lt (mr HO391))) (Kd.R_lt (mr HO396))) (g := gb392) (o := .cells #[.int .i64 t388, .slice Ao143 t389.length co143] 36 (0, 0)) (mb BK392)) (below_size (ms HB)))
        replace HO373 := Aside0.mk (Kd.S_elder' (mS HO373) (Kd.S_base ho0) hb)
        replace HO377 := rb HO377 hb
        replace HO381 := rb HO381 hb
        replace HO386 := Aside0.mk (Kd.S_elder' (mS HO386) (Kd.S_base ho0) hb)
        replace HO391 := rb HO391 hb
        replace HO396 := rb HO396 hb
        replace BK364 := bb BK364 hb
        replace BK365 := bb BK365 hb
        replace BK366 := bb BK366 hb
        replace BK387 := bb BK387 hb
        replace BK392 := bb BK392 hb
        replace BK397 := bb BK397 hb
        replace HB := bs HB hb
        (try clear hb)
        (try clear hb2)
        (try clear hk)
        (try clear hi)
        (try clear ho0)
        obtain ⟨Ao159, co159, eo159⟩ := Kd.S_slice HO402.out
        (first | subst eo159 | (injection eo159 with f1_ f2_ f3_; have f4_ := f1_.symm; have f5_ := f3_.symm; clear f1_ f2_ f3_; subst f4_; subst f5_))
        refine hK.out _ _ ⟨(c2 BK387).1, (c2 BK387).2, (c2 BK364).1, (c2 BK364).2⟩ (fun hHeld => ?_)
        clear hK K
        refine norm_ (a' := ?_) ?_ ?_
        rotate_left
        ·show Act.put _ (some 50) _ = _
         simp only [Act.put, List.setIfInBounds_toArray, List.set_cons_zero, List.set_cons_succ, i64_w, i32_w]
         rfl
        refine one_ (i := 3) (N := some 51) #[true, true, true, true, false] rfl rfl (by kernel_rfl) (by decide) (fun K hK => ?_)
        refine goes_ Try.func17 (by kernel_rfl) rfl #[.agg #[.int .i64 t383, .slice Ao134 t384.length co134], .agg #[.int .i64 t399, .slice Ao159 t400.length co159]] (by rfl) rfl rfl (by (try simp only [List.map_toArray, List.map_cons, List.map_nil]); first | done | rfl | (simp only [List.length_drop, List.length_take]; rfl)) ?_
        with_reducible refine (laws_eqSystem.calls k t383 _ _ t384 t399 _ _ t400 true _ ?side1 ?side2 ?side3 ?side4 A99.out).mono ?_
        (case side1 => exact mc ((Kd.S_reads' HO386.out).2.2))
        (case side2 => exact (Kd.S_reads' HO386.out).2.1)
        (case side3 => exact mc ((Kd.S_reads' HO402.out).2.2))
        (case side4 => exact (Kd.S_reads' HO402.out).2.1)
        rintro e w160 ⟨rfl, hb⟩
        refine ⟨_, rfl, ?_⟩
        replace HO373 := bS HO373 hb
        replace HO377 := rb HO377 hb
        replace HO381 := rb HO381 hb
        replace HO386 := bS HO386 hb
        replace HO391 := rb HO391 hb
        replace HO396 := rb HO396 hb
        replace HO402 := bS HO402 hb
        replace BK364 := bb BK364 hb
        replace BK365 := bb BK365 hb
        replace BK366 := bb BK366 hb
        replace BK387 := bb BK387 hb
        replace BK392 := bb BK392 hb
        replace BK397 := bb BK397 hb
        replace HB := bs HB hb
        (try clear hb)
        (try clear hb2)
        (try clear hk)
        (try clear hi)
        refine hK.out _ _ ⟨(c2 BK387).1, (c2 BK387).2, (c2 BK364).1, (c2 BK364).2⟩ (fun hHeld => ?_)
        clear hK K
        refine norm_ (a' := ?_) ?_ ?_
        rotate_left
        ·show Act.put _ (some 51) _ = _
         simp only [Act.put, List.setIfInBounds_toArray, List.set_cons_zero, List.set_cons_succ, i64_w, i32_w]
         rfl
        refine pure_ (i := 4) (N := some 52) (v := ?_) (a' := ?_) #[true, true, true, true, true] rfl rfl (by kernel_rfl) (fun _ _ _ h => h) (Or.inl ⟨by rfl, ?_⟩) ?_ ?_
        rotate_left
        ·intro w'
         go_simp
         with_reducible rfl
        rotate_left
        ·simp only [Act.put, List.setIfInBounds_toArray, List.set_cons_zero, List.set_cons_succ, i64_w, i32_w]
         rfl
        refine done_ (by kernel_rfl) ?_
        try go_wp2
        replace HO373 := Aside0.mk (Kd.S_drew HO373.out)
        replace HO377 := Aside0.mk (Kd.R_drew HO377.out)
        replace HO381 := Aside0.mk (Kd.R_drew HO381.out)
        replace HO386 := Aside0.mk (Kd.S_drew HO386.out)
        replace HO391 := Aside0.mk (Kd.R_drew HO391.out)
        replace HO396 := Aside0.mk (Kd.R_drew HO396.out)
        replace HO402 := Aside0.mk (Kd.S_drew HO402.out)
        replace BK364 := Aside0.mk (blk_drew BK364.out)
        replace BK365 := Aside0.mk (blk_drew BK365.out)
        replace BK366 := Aside0.mk (blk_drew BK366.out)
        replace BK387 := Aside0.mk (blk_drew BK387.out)
        replace BK392 := Aside0.mk (blk_drew BK392.out)
        replace BK397 := Aside0.mk (blk_drew BK397.out)
        replace HB := Aside0.mk (below_drew1 HB.out)
        refine start_ (n := 5) (S := fun w' => w'.cell? ⟨gb392, 0, none⟩ = some (.int .i64 t388) ∧ w'.cell? ⟨gb392, 1, none⟩ = some (.slice Ao143 t389.length co143) ∧ w'.cell? ⟨gb365, 0, none⟩ = some (.int .i64 a1_0) ∧ w'.cell? ⟨gb365, 1, none⟩ = some (.slice A1_1 l1_1.length c1_1)) (ds := []) #[false, false, false, false, false] (by kernel_rfl) rfl rfl ⟨(c2 BK392).1, (c2 BK392).2, (c2 BK365).1, (c2 BK365).2⟩ (fun hHeld => ?_)
        generalize w160.drew = w161 at HO373 HO377 HO381 HO386 HO391 HO396 HO402 BK364 BK365 BK366 BK387 BK392 BK397 HB hHeld ⊢
        refine take_ (i := 0) (N := some 53) (v := ?_) (a' := ?_) #[true, false, false, false, false] rfl rfl (by kernel_rfl) (fun _ _ _ h => h) (Or.inl ⟨by rfl, ?_⟩) hHeld ?_ ?_
        rotate_left
        ·rintro w' ⟨s0, s1, s2, s3⟩
         go_simp
         with_reducible rfl
        rotate_left
        ·simp only [Act.put, List.setIfInBounds_toArray, List.set_cons_zero, List.set_cons_succ, i64_w, i32_w]
         rfl
        refine take_ (i := 1) (N := some 54) (v := ?_) (a' := ?_) #[true, true, false, false, false] rfl rfl (by kernel_rfl) (fun _ _ _ h => h) (Or.inl ⟨by rfl, ?_⟩) hHeld ?_ ?_
        rotate_left
        ·rintro w' ⟨s0, s1, s2, s3⟩
         go_simp
         with_reducible rfl
        rotate_left
        ·simp only [Act.put, List.setIfInBounds_toArray, List.set_cons_zero, List.set_cons_succ, i64_w, i32_w]
         rfl
        refine one_ (i := 2) (N := some 55) #[true, true, true, false, false] rfl rfl (by kernel_rfl) (by decide) (fun K hK => ?_)
        refine goes_ Try.func15 (by kernel_rfl) rfl #[.agg #[.int .i64 a1_0, .slice A1_1 l1_1.length c1_1]] (by rfl) rfl rfl (by (try simp only [List.map_toArray, List.map_cons, List.map_nil]); first | done | rfl | (simp only [List.length_drop, List.length_take]; rfl)) ?_
        with_reducible refine (laws_toLin.calls k a1_0 _ _ l1_1 t404 t405 _ ?side1 ?side2 A101.out).mono ?_
        (case side1 => exact mc ((Kd.C_below HR1_1.out HB.out)))
        (case side2 => exact HC1_1.out)
        rintro e w162 ⟨v406, rfl, ho0, hb⟩
        refine ⟨_, rfl, ?_⟩
        replace HO373 := lS HO373 ho0 hb
        replace HO386 := lS HO386 ho0 hb
        replace HO402 := lS HO402 ho0 hb
        have HO407 := Aside0.mk (Kd.R_lower (Kd.R_new' (Kd.R_new' (Kd.R_new' (Kd.R_new' ho0 (Kd.R_lt (mr HO377))) (Kd.R_lt (mr HO381))) (Kd.R_lt (mr HO391))) (Kd.R_lt (mr HO396))) (below_size (ms HB)))
        replace HO377 := rl HO377 ho0 hb
        replace HO381 := rl HO381 ho0 hb
        replace HO391 := rl HO391 ho0 hb
        replace HO396 := rl HO396 ho0 hb
        replace BK364 := bb BK364 hb
        replace BK365 := bb BK365 hb
        replace BK366 := bb BK366 hb
        replace BK387 := bb BK387 hb
        replace BK392 := bb BK392 hb
        replace BK397 := bb BK397 hb
        replace HB := bs HB hb
        (try clear hb)
        (try clear hb2)
        (try clear hk)
        (try clear hi)
        (try clear ho0)
        obtain ⟨Ao163, co163, eo163⟩ := Kd.R_slice HO407.out
        (first | subst eo163 | (injection eo163 with f1_ f2_ f3_; have f4_ := f1_.symm; have f5_ := f3_.symm; clear f1_ f2_ f3_; subst f4_; subst f5_))
        refine hK.out _ _ ⟨(c2 BK392).1, (c2 BK392).2, (c2 BK365).1, (c2 BK365).2⟩ (fun hHeld => ?_)
        clear hK K
        refine norm_ (a' := ?_) ?_ ?_
        rotate_left
        ·show Act.put _ (some 55) _ = _
         simp only [Act.put, List.setIfInBounds_toArray, List.set_cons_zero, List.set_cons_succ, i64_w, i32_w]
         rfl
        refine one_ (i := 3) (N := some 56) #[true, true, true, true, false] rfl rfl (by kernel_rfl) (by decide) (fun K hK => ?_)
        refine goes_ Try.func18 (by kernel_rfl) rfl #[.agg #[.int .i64 t388, .slice Ao143 t389.length co143], .agg #[.int .i64 t404, .slice Ao163 t405.length co163]] (by rfl) rfl rfl (by (try simp only [List.map_toArray, List.map_cons, List.map_nil]); first | done | rfl | (simp only [List.length_drop, List.length_take]; rfl)) ?_
        with_reducible refine (laws_eqLin.calls k t388 _ _ t389 t404 _ _ t405 true _ ?side1 ?side2 ?side3 ?side4 A102.out).mono ?_
        (case side1 => exact mc ((Kd.R_reads' HO391.out).2.2))
        (case side2 => exact (Kd.R_reads' HO391.out).2.1)
        (case side3 => exact mc ((Kd.R_reads' HO407.out).2.2))
        (case side4 => exact (Kd.R_reads' HO407.out).2.1)
        rintro e w164 ⟨rfl, hb⟩
        refine ⟨_, rfl, ?_⟩
        replace HO373 := bS HO373 hb
        replace HO377 := rb HO377 hb
        replace HO381 := rb HO381 hb
        replace HO386 := bS HO386 hb
        replace HO391 := rb HO391 hb
        replace HO396 := rb HO396 hb
        replace HO402 := bS HO402 hb
        replace HO407 := rb HO407 hb
        replace BK364 := bb BK364 hb
        replace BK365 := bb BK365 hb
        replace BK366 := bb BK366 hb
        replace BK387 := bb BK387 hb
        replace BK392 := bb BK392 hb
        replace BK397 := bb BK397 hb
        replace HB := bs HB hb
        (try clear hb)
        (try clear hb2)
        (try clear hk)
        (try clear hi)
        refine hK.out _ _ ⟨(c2 BK392).1, (c2 BK392).2, (c2 BK365).1, (c2 BK365).2⟩ (fun hHeld => ?_)
        clear hK K
        refine norm_ (a' := ?_) ?_ ?_
        rotate_left
        ·show Act.put _ (some 56) _ = _
         simp only [Act.put, List.setIfInBounds_toArray, List.set_cons_zero, List.set_cons_succ, i64_w, i32_w]
         rfl
        refine pure_ (i := 4) (N := some 57) (v := ?_) (a' := ?_) #[true, true, true, true, true] rfl rfl (by kernel_rfl) (fun _ _ _ h => h) (Or.inl ⟨by rfl, ?_⟩) ?_ ?_
        rotate_left
        ·intro w'
         go_simp
         with_reducible rfl
        rotate_left
        ·simp only [Act.put, List.setIfInBounds_toArray, List.set_cons_zero, List.set_cons_succ, i64_w, i32_w]
         rfl
        refine done_ (by kernel_rfl) ?_
        try go_wp2
        replace HO373 := Aside0.mk (Kd.S_drew HO373.out)
        replace HO377 := Aside0.mk (Kd.R_drew HO377.out)
        replace HO381 := Aside0.mk (Kd.R_drew HO381.out)
        replace HO386 := Aside0.mk (Kd.S_drew HO386.out)
        replace HO391 := Aside0.mk (Kd.R_drew HO391.out)
        replace HO396 := Aside0.mk (Kd.R_drew HO396.out)
        replace HO402 := Aside0.mk (Kd.S_drew HO402.out)
        replace HO407 := Aside0.mk (Kd.R_drew HO407.out)
        replace BK364 := Aside0.mk (blk_drew BK364.out)
        replace BK365 := Aside0.mk (blk_drew BK365.out)
        replace BK366 := Aside0.mk (blk_drew BK366.out)
        replace BK387 := Aside0.mk (blk_drew BK387.out)
        replace BK392 := Aside0.mk (blk_drew BK392.out)
        replace BK397 := Aside0.mk (blk_drew BK397.out)
        replace HB := Aside0.mk (below_drew1 HB.out)
        refine start_ (n := 5) (S := fun w' => w'.cell? ⟨gb397, 0, none⟩ = some (.int .i64 t393) ∧ w'.cell? ⟨gb397, 1, none⟩ = some (.slice Ao153 t394.length co153) ∧ w'.cell? ⟨gb366, 0, none⟩ = some (.int .i64 a2_0) ∧ w'.cell? ⟨gb366, 1, none⟩ = some (.slice A2_1 l2_1.length c2_1)) (ds := []) #[false, false, false, false, false] (by kernel_rfl) rfl rfl ⟨(c2 BK397).1, (c2 BK397).2, (c2 BK366).1, (c2 BK366).2⟩ (fun hHeld => ?_)
        generalize w164.drew = w165 at HO373 HO377 HO381 HO386 HO391 HO396 HO402 HO407 BK364 BK365 BK366 BK387 BK392 BK397 HB hHeld ⊢
        refine take_ (i := 0) (N := some 58) (v := ?_) (a' := ?_) #[true, false, false, false, false] rfl rfl (by kernel_rfl) (fun _ _ _ h => h) (Or.inl ⟨by rfl, ?_⟩) hHeld ?_ ?_
        rotate_left
        ·rintro w' ⟨s0, s1, s2, s3⟩
         go_simp
         with_reducible rfl
        rotate_left
        ·simp only [Act.put, List.setIfInBounds_toArray, List.set_cons_zero, List.set_cons_succ, i64_w, i32_w]
         rfl
        refine take_ (i := 1) (N := some 59) (v := ?_) (a' := ?_) #[true, true, false, false, false] rfl rfl (by kernel_rfl) (fun _ _ _ h => h) (Or.inl ⟨by rfl, ?_⟩) hHeld ?_ ?_
        rotate_left
        ·rintro w' ⟨s0, s1, s2, s3⟩
         go_simp
         with_reducible rfl
        rotate_left
        ·simp only [Act.put, List.setIfInBounds_toArray, List.set_cons_zero, List.set_cons_succ, i64_w, i32_w]
         rfl
        refine one_ (i := 2) (N := some 60) #[true, true, true, false, false] rfl rfl (by kernel_rfl) (by decide) (fun K hK => ?_)
        refine goes_ Try.func47 (by kernel_rfl) rfl #[.agg #[.int .i64 a2_0, .slice A2_1 l2_1.length c2_1]] (by rfl) rfl rfl (by (try simp only [List.map_toArray, List.map_cons, List.map_nil]); first | done | rfl | (simp only [List.length_drop, List.length_take]; rfl)) ?_
        with_reducible refine (laws_toFarkas.calls k a2_0 _ _ l2_1 t409 t410 _ ?side1 ?side2 A104.out).mono ?_
        (case side1 => exact mc ((Kd.C_below HR2_1.out HB.out)))
        (case side2 => exact HC2_1.out)
        rintro e w166 ⟨v411, rfl, ho0, hb⟩
        refine ⟨_, rfl, ?_⟩
        replace HO373 := lS HO373 ho0 hb
        replace HO386 := lS HO386 ho0 hb
        replace HO402 := lS HO402 ho0 hb
        have HO412 := Aside0.mk (Kd.R_lower (Kd.R_new' (Kd.R_new' (Kd.R_new' (Kd.R_new' (Kd.R_new' ho0 (Kd.R_lt (mr HO377))) (Kd.R_lt (mr HO381))) (Kd.R_lt (mr HO391))) (Kd.R_lt (mr HO396))) (Kd.R_lt (mr HO407))) (below_size (ms HB)))
        replace HO377 := rl HO377 ho0 hb
        replace HO381 := rl HO381 ho0 hb
        replace HO391 := rl HO391 ho0 hb
        replace HO396 := rl HO396 ho0 hb
        replace HO407 := rl HO407 ho0 hb
        replace BK364 := bb BK364 hb
        replace BK365 := bb BK365 hb
        replace BK366 := bb BK366 hb
        replace BK387 := bb BK387 hb
        replace BK392 := bb BK392 hb
        replace BK397 := bb BK397 hb
        replace HB := bs HB hb
        (try clear hb)
        (try clear hb2)
        (try clear hk)
        (try clear hi)
        (try clear ho0)
        obtain ⟨Ao167, co167, eo167⟩ := Kd.R_slice HO412.out
        (first | subst eo167 | (injection eo167 with f1_ f2_ f3_; have f4_ := f1_.symm; have f5_ := f3_.symm; clear f1_ f2_ f3_; subst f4_; subst f5_))
        refine hK.out _ _ ⟨(c2 BK397).1, (c2 BK397).2, (c2 BK366).1, (c2 BK366).2⟩ (fun hHeld => ?_)
        clear hK K
        refine norm_ (a' := ?_) ?_ ?_
        rotate_left
        ·show Act.put _ (some 60) _ = _
         simp only [Act.put, List.setIfInBounds_toArray, List.set_cons_zero, List.set_cons_succ, i64_w, i32_w]
         rfl
        refine one_ (i := 3) (N := some 61) #[true, true, true, true, false] rfl rfl (by kernel_rfl) (by decide) (fun K hK => ?_)
        refine goes_ Try.func49 (by kernel_rfl) rfl #[.agg #[.int .i64 t393, .slice Ao153 t394.length co153], .agg #[.int .i64 t409, .slice Ao167 t410.length co167]] (by rfl) rfl rfl (by (try simp only [List.map_toArray, List.map_cons, List.map_nil]); first | done | rfl | (simp only [List.length_drop, List.length_take]; rfl)) ?_
        with_reducible refine (laws_eqFarkas.calls k t393 _ _ t394 t409 _ _ t410 true _ ?side1 ?side2 ?side3 ?side4 A105.out).mono ?_
        (case side1 => exact mc ((Kd.R_reads' HO396.out).2.2))
        (case side2 => exact (Kd.R_reads' HO396.out).2.1)
        (case side3 => exact mc ((Kd.R_reads' HO412.out).2.2))
        (case side4 => exact (Kd.R_reads' HO412.out).2.1)
        rintro e w168 ⟨rfl, hb⟩
        refine ⟨_, rfl, ?_⟩
        replace HO373 := bS HO373 hb
        replace HO377 := rb HO377 hb
        replace HO381 := rb HO381 hb
        replace HO386 := bS HO386 hb
        replace HO391 := rb HO391 hb
        replace HO396 := rb HO396 hb
        replace HO402 := bS HO402 hb
        replace HO407 := rb HO407 hb
        replace HO412 := rb HO412 hb
        replace BK364 := bb BK364 hb
        replace BK365 := bb BK365 hb
        replace BK366 := bb BK366 hb
        replace BK387 := bb BK387 hb
        replace BK392 := bb BK392 hb
        replace BK397 := bb BK397 hb
        replace HB := bs HB hb
        (try clear hb)
        (try clear hb2)
        (try clear hk)
        (try clear hi)
        refine hK.out _ _ ⟨(c2 BK397).1, (c2 BK397).2, (c2 BK366).1, (c2 BK366).2⟩ (fun hHeld => ?_)
        clear hK K
        refine norm_ (a' := ?_) ?_ ?_
        rotate_left
        ·show Act.put _ (some 61) _ = _
         simp only [Act.put, List.setIfInBounds_toArray, List.set_cons_zero, List.set_cons_succ, i64_w, i32_w]
         rfl
        refine pure_ (i := 4) (N := some 62) (v := ?_) (a' := ?_) #[true, true, true, true, true] rfl rfl (by kernel_rfl) (fun _ _ _ h => h) (Or.inl ⟨by rfl, ?_⟩) ?_ ?_
        rotate_left
        ·intro w'
         go_simp
         with_reducible rfl
        rotate_left
        ·simp only [Act.put, List.setIfInBounds_toArray, List.set_cons_zero, List.set_cons_succ, i64_w, i32_w]
         rfl
        refine done_ (by kernel_rfl) ?_
        try go_wp2
        go_ret
        exact ⟨by first | rfl | (simp [errW_none, errW_some] <;> rfl) | (simp [*, errW_none, errW_some] <;> rfl), ms HB⟩
       ·replace c106 := Bool.eq_false_iff.mpr c106
        subst c106
        have H1 : (some false) = some r := by rw [if_neg (show ¬ (false = true) by decide)] at H; exact H
        clear H
        have H := H1
        clear H1
        obtain rfl := Option.some.inj H
        go_enter Try.func8, Try.ntmps8
        try go_wp2_with (first | ((with_reducible refine gate_dst (N := 3) rfl ?_); refine box_event ?hg (N := 3) ?hd (cs := #[.int .i64 a0_0, .slice A0_1 l0_1.length c0_1]) (t := 24) ?hr ?_; (case hd => rfl); (case hg => rfl); (case hr => first | (go_simp; done) | (go_simp; rfl)); intro gb364 hg w169 hbox hb; have BK364 := Aside0.mk (hbox); have GW364 := gw hg HB; have GE364 := gw hg HB; replace HB := bs HB hb; clear hb hbox hg) | ((with_reducible refine gate_dst (N := 4) rfl ?_); refine box_event ?hg (N := 4) ?hd (cs := #[.int .i64 a1_0, .slice A1_1 l1_1.length c1_1]) (t := 27) ?hr ?_; (case hd => rfl); (case hg => rfl); (case hr => first | (go_simp; done) | (go_simp; rfl)); intro gb365 hg w170 hbox hb; have BK365 := Aside0.mk (hbox); have GW365 := gw hg HB; have GE365 := gw hg HB; replace HB := bs HB hb; have NB364_365 := nl hg BK364; have NB365_364 := ng hg BK364; replace BK364 := bb BK364 hb; clear hb hbox hg) | ((with_reducible refine gate_dst (N := 5) rfl ?_); refine box_event ?hg (N := 5) ?hd (cs := #[.int .i64 a2_0, .slice A2_1 l2_1.length c2_1]) (t := 62) ?hr ?_; (case hd => rfl); (case hg => rfl); (case hr => first | (go_simp; done) | (go_simp; rfl)); intro gb366 hg w171 hbox hb; have BK366 := Aside0.mk (hbox); have GW366 := gw hg HB; have GE366 := gw hg HB; replace HB := bs HB hb; have NB364_366 := nl hg BK364; have NB366_364 := ng hg BK364; replace BK364 := bb BK364 hb; have NB365_366 := nl hg BK365; have NB366_365 := ng hg BK365; replace BK365 := bb BK365 hb; clear hb hbox hg; have hnb172 := NB364_365.out; have hnc172 := NB365_364.out; have hnb173 := NB364_366.out; have hnc173 := NB366_364.out; obtain ⟨hcz174_0, hcz174_1⟩ := c2 BK364; have hfz174_0 := blk_frozen BK364.out 0; have hfz174_1 := blk_frozen BK364.out 1) | ((with_reducible refine gate_callee (f := 11) rfl ?_); refine goesL_ (some 15) rfl rfl Try.func11 (by kernel_rfl) rfl #[.agg #[.int .i64 a0_0, .slice A0_1 l0_1.length c0_1], .int .i64 1048576] rfl (by (try simp only [List.map_toArray, List.map_cons, List.map_nil]); first | done | rfl | (simp only [List.length_drop, List.length_take]; rfl)) ?_; (with_reducible refine (laws_szSystem.calls k a0_0 _ _ l0_1 1048576 t367 _ ?side1 ?side2 A4.out).mono ?_); (case side1 => exact mc ((Kd.C_below HR0_1.out HB.out))); (case side2 => exact HC0_1.out); rintro e w175 ⟨rfl, hb⟩; refine ⟨_, rfl, ?_⟩; replace BK364 := bb BK364 hb; replace BK365 := bb BK365 hb; replace BK366 := bb BK366 hb; replace HB := bs HB hb; (try clear hb); have hnb176 := NB365_366.out; have hnc176 := NB366_365.out; obtain ⟨hcz177_0, hcz177_1⟩ := c2 BK365; have hfz177_0 := blk_frozen BK365.out 0; have hfz177_1 := blk_frozen BK365.out 1) | ((with_reducible refine gate_callee (f := 12) rfl ?_); refine goesL_ (some 20) rfl rfl Try.func12 (by kernel_rfl) rfl #[.agg #[.int .i64 a1_0, .slice A1_1 l1_1.length c1_1], .int .i64 t367] rfl (by (try simp only [List.map_toArray, List.map_cons, List.map_nil]); first | done | rfl | (simp only [List.length_drop, List.length_take]; rfl)) ?_; (with_reducible refine (laws_szLin.calls a1_0 _ _ l1_1 t367 t368 _ ?side1 ?side2 A13.out).mono ?_); (case side1 => exact mc ((Kd.C_below HR1_1.out HB.out))); (case side2 => exact HC1_1.out); rintro e w178 ⟨rfl, hb⟩; refine ⟨_, rfl, ?_⟩; replace BK364 := bb BK364 hb; replace BK365 := bb BK365 hb; replace BK366 := bb BK366 hb; replace HB := bs HB hb; (try clear hb); obtain ⟨hcz179_0, hcz179_1⟩ := c2 BK366; have hfz179_0 := blk_frozen BK366.out 0; have hfz179_1 := blk_frozen BK366.out 1) | ((with_reducible refine gate_callee (f := 45) rfl ?_); refine goesL_ (some 25) rfl rfl Try.func45 (by kernel_rfl) rfl #[.agg #[.int .i64 a2_0, .slice A2_1 l2_1.length c2_1], .int .i64 t368] rfl (by (try simp only [List.map_toArray, List.map_cons, List.map_nil]); first | done | rfl | (simp only [List.length_drop, List.length_take]; rfl)) ?_; (with_reducible refine (laws_szFarkas.calls a2_0 _ _ l2_1 t368 t369 _ ?side1 ?side2 A25.out).mono ?_); (case side1 => exact mc ((Kd.C_below HR2_1.out HB.out))); (case side2 => exact HC2_1.out); rintro e w180 ⟨rfl, hb⟩; refine ⟨_, rfl, ?_⟩; replace BK364 := bb BK364 hb; replace BK365 := bb BK365 hb; replace BK366 := bb BK366 hb; replace HB := bs HB hb; (try clear hb)))
        replace BK364 := Aside0.mk (blk_drew BK364.out)
        replace BK365 := Aside0.mk (blk_drew BK365.out)
        replace BK366 := Aside0.mk (blk_drew BK366.out)
        replace HB := Aside0.mk (below_drew1 HB.out)
        refine start_ (n := 8) (S := fun w' => w'.cell? ⟨gb364, 0, none⟩ = some (.int .i64 a0_0) ∧ w'.cell? ⟨gb364, 1, none⟩ = some (.slice A0_1 l0_1.length c0_1) ∧ w'.cell? ⟨gb365, 0, none⟩ = some (.int .i64 a1_0) ∧ w'.cell? ⟨gb365, 1, none⟩ = some (.slice A1_1 l1_1.length c1_1) ∧ w'.cell? ⟨gb366, 0, none⟩ = some (.int .i64 a2_0) ∧ w'.cell? ⟨gb366, 1, none⟩ = some (.slice A2_1 l2_1.length c2_1)) (ds := []) #[false, false, false, false, false, false, false, false] (by kernel_rfl) rfl rfl ⟨(c2 BK364).1, (c2 BK364).2, (c2 BK365).1, (c2 BK365).2, (c2 BK366).1, (c2 BK366).2⟩ (fun hHeld => ?_); refine with_tabW laws_FnExactCheckFarkas.tab11 laws_FnExactCheckFarkas.bits11 (fun HT_ HW_ => ?_)
        generalize w180.drew = w181 at BK364 BK365 BK366 HB hHeld ⊢
        refine take_ (i := 0) (N := some 28) (v := ?_) (a' := ?_) #[true, false, false, false, false, false, false, false] rfl rfl (take_ofW HT_.out HW_.out (by kernel_rfl)) (fun _ _ _ h => h) (Or.inl ⟨by rfl, ?_⟩) hHeld ?_ ?_
        rotate_left
        ·rintro w' ⟨s0, s1, s2, s3, s4, s5⟩
         go_simp
         with_reducible rfl
        rotate_left
        ·simp only [Act.put, List.setIfInBounds_toArray, List.set_cons_zero, List.set_cons_succ, i64_w, i32_w]
         rfl
        refine take_ (i := 2) (N := some 30) (v := ?_) (a' := ?_) #[true, false, true, false, false, false, false, false] rfl rfl (take_ofW HT_.out HW_.out (by kernel_rfl)) (fun _ _ _ h => h) (Or.inl ⟨by rfl, ?_⟩) hHeld ?_ ?_
        rotate_left
        ·rintro w' ⟨s0, s1, s2, s3, s4, s5⟩
         go_simp
         with_reducible rfl
        rotate_left
        ·simp only [Act.put, List.setIfInBounds_toArray, List.set_cons_zero, List.set_cons_succ, i64_w, i32_w]
         rfl
        refine take_ (i := 4) (N := some 32) (v := ?_) (a' := ?_) #[true, false, true, false, true, false, false, false] rfl rfl (take_ofW HT_.out HW_.out (by kernel_rfl)) (fun _ _ _ h => h) (Or.inl ⟨by rfl, ?_⟩) hHeld ?_ ?_
        rotate_left
        ·rintro w' ⟨s0, s1, s2, s3, s4, s5⟩
         go_simp
         with_reducible rfl
        rotate_left
        ·simp only [Act.put, List.setIfInBounds_toArray, List.set_cons_zero, List.set_cons_succ, i64_w, i32_w]
         rfl
        refine one_ (i := 1) (N := some 29) #[true, true, true, false, true, false, false, false] rfl rfl (one_of HT_.out (by kernel_rfl)) (by decide) (fun K hK => ?_)
        refine goes_ Try.func14 (by kernel_rfl) rfl #[.agg #[.int .i64 a0_0, .slice A0_1 l0_1.length c0_1]] (by rfl) rfl rfl (by (try simp only [List.map_toArray, List.map_cons, List.map_nil]); first | done | rfl | (simp only [List.length_drop, List.length_take]; rfl)) ?_
        with_reducible refine (laws_toSystem.calls k a0_0 _ _ l0_1 t370 t371 _ ?side1 ?side2 A39.out).mono ?_
        (case side1 => exact mc ((Kd.C_below HR0_1.out HB.out)))
        (case side2 => exact HC0_1.out)
        rintro e w182 ⟨v372, rfl, ho0, hb⟩
        refine ⟨_, rfl, ?_⟩
        have HO373 := Aside0.mk (Kd.S_lower ho0 (below_size (ms HB)))
        replace BK364 := bb BK364 hb
        replace BK365 := bb BK365 hb
        replace BK366 := bb BK366 hb
        replace HB := bs HB hb
        (try clear hb)
        (try clear hb2)
        (try clear hk)
        (try clear hi)
        (try clear ho0)
        refine hK.out _ _ ⟨(c2 BK364).1, (c2 BK364).2, (c2 BK365).1, (c2 BK365).2, (c2 BK366).1, (c2 BK366).2⟩ (fun hHeld => ?_)
        clear hK K
        refine norm_ (a' := ?_) ?_ ?_
        rotate_left
        ·show Act.put _ (some 29) _ = _
         simp only [Act.put, List.setIfInBounds_toArray, List.set_cons_zero, List.set_cons_succ, i64_w, i32_w]
         rfl
        refine one_ (i := 3) (N := some 31) #[true, true, true, true, true, false, false, false] rfl rfl (one_of HT_.out (by kernel_rfl)) (by decide) (fun K hK => ?_)
        refine goes_ Try.func15 (by kernel_rfl) rfl #[.agg #[.int .i64 a1_0, .slice A1_1 l1_1.length c1_1]] (by rfl) rfl rfl (by (try simp only [List.map_toArray, List.map_cons, List.map_nil]); first | done | rfl | (simp only [List.length_drop, List.length_take]; rfl)) ?_
        with_reducible refine (laws_toLin.calls k a1_0 _ _ l1_1 t374 t375 _ ?side1 ?side2 A40.out).mono ?_
        (case side1 => exact mc ((Kd.C_below HR1_1.out HB.out)))
        (case side2 => exact HC1_1.out)
        rintro e w183 ⟨v376, rfl, ho0, hb⟩
        refine ⟨_, rfl, ?_⟩
        replace HO373 := lS HO373 ho0 hb
        have HO377 := Aside0.mk (Kd.R_lower ho0 (below_size (ms HB)))
        replace BK364 := bb BK364 hb
        replace BK365 := bb BK365 hb
        replace BK366 := bb BK366 hb
        replace HB := bs HB hb
        (try clear hb)
        (try clear hb2)
        (try clear hk)
        (try clear hi)
        (try clear ho0)
        refine hK.out _ _ ⟨(c2 BK364).1, (c2 BK364).2, (c2 BK365).1, (c2 BK365).2, (c2 BK366).1, (c2 BK366).2⟩ (fun hHeld => ?_)
        clear hK K
        refine norm_ (a' := ?_) ?_ ?_
        rotate_left
        ·show Act.put _ (some 31) _ = _
         simp only [Act.put, List.setIfInBounds_toArray, List.set_cons_zero, List.set_cons_succ, i64_w, i32_w]
         rfl
        refine one_ (i := 5) (N := some 33) #[true, true, true, true, true, true, false, false] rfl rfl (one_of HT_.out (by kernel_rfl)) (by decide) (fun K hK => ?_)
        refine goes_ Try.func47 (by kernel_rfl) rfl #[.agg #[.int .i64 a2_0, .slice A2_1 l2_1.length c2_1]] (by rfl) rfl rfl (by (try simp only [List.map_toArray, List.map_cons, List.map_nil]); first | done | rfl | (simp only [List.length_drop, List.length_take]; rfl)) ?_
        with_reducible refine (laws_toFarkas.calls k a2_0 _ _ l2_1 t378 t379 _ ?side1 ?side2 A41.out).mono ?_
        (case side1 => exact mc ((Kd.C_below HR2_1.out HB.out)))
        (case side2 => exact HC2_1.out)
        rintro e w184 ⟨v380, rfl, ho0, hb⟩
        refine ⟨_, rfl, ?_⟩
        replace HO373 := lS HO373 ho0 hb
        have HO381 := Aside0.mk (Kd.R_lower (Kd.R_new' ho0 (Kd.R_lt (mr HO377))) (below_size (ms HB)))
        replace HO377 := rl HO377 ho0 hb
        replace BK364 := bb BK364 hb
        replace BK365 := bb BK365 hb
        replace BK366 := bb BK366 hb
        replace HB := bs HB hb
        (try clear hb)
        (try clear hb2)
        (try clear hk)
        (try clear hi)
        (try clear ho0)
        obtain ⟨Ao185, co185, eo185⟩ := Kd.S_slice HO373.out
        (first | subst eo185 | (injection eo185 with f1_ f2_ f3_; have f4_ := f1_.symm; have f5_ := f3_.symm; clear f1_ f2_ f3_; subst f4_; subst f5_))
        obtain ⟨Ao186, co186, eo186⟩ := Kd.R_slice HO377.out
        (first | subst eo186 | (injection eo186 with f1_ f2_ f3_; have f4_ := f1_.symm; have f5_ := f3_.symm; clear f1_ f2_ f3_; subst f4_; subst f5_))
        obtain ⟨Ao187, co187, eo187⟩ := Kd.R_slice HO381.out
        (first | subst eo187 | (injection eo187 with f1_ f2_ f3_; have f4_ := f1_.symm; have f5_ := f3_.symm; clear f1_ f2_ f3_; subst f4_; subst f5_))
        refine hK.out _ _ ⟨(c2 BK364).1, (c2 BK364).2, (c2 BK365).1, (c2 BK365).2, (c2 BK366).1, (c2 BK366).2⟩ (fun hHeld => ?_)
        clear hK K
        refine norm_ (a' := ?_) ?_ ?_
        rotate_left
        ·show Act.put _ (some 33) _ = _
         simp only [Act.put, List.setIfInBounds_toArray, List.set_cons_zero, List.set_cons_succ, i64_w, i32_w]
         rfl
        refine one_ (i := 6) (N := some 34) #[true, true, true, true, true, true, true, false] rfl rfl (one_of HT_.out (by kernel_rfl)) (by decide) (fun K hK => ?_)
        refine goes_ Try.func46 (by kernel_rfl) rfl #[.agg #[.int .i64 t370, .slice Ao185 t371.length co185], .agg #[.int .i64 t374, .slice Ao186 t375.length co186], .agg #[.int .i64 t378, .slice Ao187 t379.length co187]] (by rfl) rfl rfl (by (try simp only [List.map_toArray, List.map_cons, List.map_nil]); first | done | rfl | (simp only [List.length_drop, List.length_take]; rfl)) ?_
        with_reducible refine (spec_CheckFarkas.calls k t370 _ _ t371 t374 _ _ t375 t378 _ _ t379 t382 _ ?side1 ?side2 ?side3 ?side4 ?side5 ?side6 A42.out).mono ?_
        (case side1 => exact mc ((Kd.S_reads' HO373.out).2.2))
        (case side2 => exact (Kd.S_reads' HO373.out).2.1)
        (case side3 => exact mc ((Kd.R_reads' HO377.out).2.2))
        (case side4 => exact (Kd.R_reads' HO377.out).2.1)
        (case side5 => exact mc ((Kd.R_reads' HO381.out).2.2))
        (case side6 => exact (Kd.R_reads' HO381.out).2.1)
        rintro e w188 ⟨rfl, hb⟩
        refine ⟨_, rfl, ?_⟩
        replace HO373 := bS HO373 hb
        replace HO377 := rb HO377 hb
        replace HO381 := rb HO381 hb
        replace BK364 := bb BK364 hb
        replace BK365 := bb BK365 hb
        replace BK366 := bb BK366 hb
        replace HB := bs HB hb
        (try clear hb)
        (try clear hb2)
        (try clear hk)
        (try clear hi)
        refine hK.out _ _ ⟨(c2 BK364).1, (c2 BK364).2, (c2 BK365).1, (c2 BK365).2, (c2 BK366).1, (c2 BK366).2⟩ (fun hHeld => ?_)
        clear hK K
        refine norm_ (a' := ?_) ?_ ?_
        rotate_left
        ·show Act.put _ (some 34) _ = _
         simp only [Act.put, List.setIfInBounds_toArray, List.set_cons_zero, List.set_cons_succ, i64_w, i32_w]
         rfl
        refine pure_ (i := 7) (N := some 8) (v := ?_) (a' := ?_) #[true, true, true, true, true, true, true, true] rfl rfl (any_of HT_.out (by kernel_rfl)) (fun _ _ _ h => h) (Or.inl ⟨by rfl, ?_⟩) ?_ ?_
        rotate_left
        ·intro w'
         go_simp
         with_reducible rfl
        rotate_left
        ·simp only [Act.put, List.setIfInBounds_toArray, List.set_cons_zero, List.set_cons_succ, i64_w, i32_w]
         rfl
        refine done_ (done_of HT_.out (by kernel_rfl)) ?_
        obtain ⟨hcz189_0, hcz189_1⟩ := c2 BK364
        have hfz189_0 := blk_frozen BK364.out 0
        have hfz189_1 := blk_frozen BK364.out 1
        try go_wp2_with (first | ((with_reducible refine gate_callee (f := 14) rfl ?_); refine goesL_ (some 36) rfl rfl Try.func14 (by kernel_rfl) rfl #[.agg #[.int .i64 a0_0, .slice A0_1 l0_1.length c0_1]] rfl (by (try simp only [List.map_toArray, List.map_cons, List.map_nil]); first | done | rfl | (simp only [List.length_drop, List.length_take]; rfl)) ?_; (with_reducible refine (laws_toSystem.calls k a0_0 _ _ l0_1 t383 t384 _ ?side1 ?side2 A43.out).mono ?_); (case side1 => exact mc ((Kd.C_below HR0_1.out HB.out))); (case side2 => exact HC0_1.out); rintro e w190 ⟨v385, rfl, ho0, hb⟩; refine ⟨_, rfl, ?_⟩; have HO386 := Aside0.mk (Kd.S_lower (Kd.S_new' (Kd.S_new' (Kd.S_new' ho0 (Kd.S_lt (mS HO373))) (Kd.R_lt (mr HO377))) (Kd.R_lt (mr HO381))) (below_size (ms HB))); replace HO373 := Aside0.mk (Kd.S_elder' (mS HO373) (Kd.S_base ho0) hb); replace HO377 := rb HO377 hb; replace HO381 := rb HO381 hb; replace BK364 := bb BK364 hb; replace BK365 := bb BK365 hb; replace BK366 := bb BK366 hb; replace HB := bs HB hb; (try clear hb); (try clear ho0)) | ((with_reducible refine gate_dst (N := 9) rfl ?_); refine box_event ?hg (N := 9) ?hd (cs := #[.int .i64 0, .slice none 0 0]) (t := 32) ?hr ?_; (case hd => rfl); (case hg => rfl); (case hr => first | (go_simp; done) | (go_simp; rfl)); intro gb387 hg w191 hbox hb; replace HO373 := bS HO373 hb; replace HO377 := rb HO377 hb; replace HO381 := rb HO381 hb; replace HO386 := bS HO386 hb; have BK387 := Aside0.mk (hbox); have GW387 := gw hg HB; have GE387 := gw hg HB; replace HB := bs HB hb; have NB364_387 := nl hg BK364; have NB387_364 := ng hg BK364; replace BK364 := bb BK364 hb; have NB365_387 := nl hg BK365; have NB387_365 := ng hg BK365; replace BK365 := bb BK365 hb; have NB366_387 := nl hg BK366; have NB387_366 := ng hg BK366; replace BK366 := bb BK366 hb; clear hb hbox hg; have hnb192 := NB387_364.out; have hnc192 := NB364_387.out; have hnb193 := NB387_365.out; have hnc193 := NB365_387.out; have hnb194 := NB387_366.out; have hnc194 := NB366_387.out; obtain ⟨hcz195_0, hcz195_1⟩ := c2 BK387; have hfz195_0 := blk_frozen BK387.out 0; have hfz195_1 := blk_frozen BK387.out 1; obtain ⟨Ao196, co196, eo196⟩ := Kd.S_slice HO386.out; subst eo196; obtain ⟨hcz197_0, hcz197_1⟩ := c2 BK365; have hfz197_0 := blk_frozen BK365.out 0; have hfz197_1 := blk_frozen BK365.out 1) | ((with_reducible refine gate_callee (f := 15) rfl ?_); refine goesL_ (some 38) rfl rfl Try.func15 (by kernel_rfl) rfl #[.agg #[.int .i64 a1_0, .slice A1_1 l1_1.length c1_1]] rfl (by (try simp only [List.map_toArray, List.map_cons, List.map_nil]); first | done | rfl | (simp only [List.length_drop, List.length_take]; rfl)) ?_; (with_reducible refine (laws_toLin.calls k a1_0 _ _ l1_1 t388 t389 _ ?side1 ?side2 A44.out).mono ?_); (case side1 => exact Kd.C_below HR1_1.out (ms HB)); (case side2 => exact HC1_1.out); rintro e w198 ⟨v390, rfl, ho0, hb⟩; refine ⟨_, rfl, ?_⟩; have n0_ := Aside0.mk (Kd.S_elder' (by (with_reducible repeat (first | apply Kd.S_alloc | apply Kd.S_drewN | apply Kd.S_drew)); exact (Kd.S_mono (Kd.S_far (p := ⟨gb387, 1, none⟩) (Kd.S_far (p := ⟨gb387, 0, none⟩) (Kd.S_types HO373.out BK387.out (by decide)) (fun _ hk => hk.2) (.int .i64 t383)) (fun _ hk => hk.2) (.slice Ao196 t384.length co196)) (fun _ h_ => h_.1))) (Kd.R_base ho0) hb); have n1_ := Aside0.mk (Kd.R_elder' (by (with_reducible repeat (first | apply Kd.R_alloc | apply Kd.R_drewN | apply Kd.R_drew)); exact (Kd.R_mono (Kd.R_far (p := ⟨gb387, 1, none⟩) (Kd.R_far (p := ⟨gb387, 0, none⟩) (Kd.R_types HO377.out BK387.out (by decide)) (fun _ hk => hk.2) (.int .i64 t383)) (fun _ hk => hk.2) (.slice Ao196 t384.length co196)) (fun _ h_ => h_.1))) (Kd.R_base ho0) hb); have n2_ := Aside0.mk (Kd.R_elder' (by (with_reducible repeat (first | apply Kd.R_alloc | apply Kd.R_drewN | apply Kd.R_drew)); exact (Kd.R_mono (Kd.R_far (p := ⟨gb387, 1, none⟩) (Kd.R_far (p := ⟨gb387, 0, none⟩) (Kd.R_types HO381.out BK387.out (by decide)) (fun _ hk => hk.2) (.int .i64 t383)) (fun _ hk => hk.2) (.slice Ao196 t384.length co196)) (fun _ h_ => h_.1))) (Kd.R_base ho0) hb); have n3_ := Aside0.mk (Kd.S_elder' (by (with_reducible repeat (first | apply Kd.S_alloc | apply Kd.S_drewN | apply Kd.S_drew)); exact (Kd.S_mono (Kd.S_far (p := ⟨gb387, 1, none⟩) (Kd.S_far (p := ⟨gb387, 0, none⟩) (Kd.S_types HO386.out BK387.out (by decide)) (fun _ hk => hk.2) (.int .i64 t383)) (fun _ hk => hk.2) (.slice Ao196 t384.length co196)) (fun _ h_ => h_.1))) (Kd.R_base ho0) hb); have n4_ := Aside0.mk (Kd.R_lower (Kd.R_new' (Kd.R_new' ho0 (Kd.R_lt (by (with_reducible repeat (first | apply Kd.R_alloc | apply Kd.R_drewN | apply Kd.R_drew)); exact (Kd.R_mono (Kd.R_far (p := ⟨gb387, 1, none⟩) (Kd.R_far (p := ⟨gb387, 0, none⟩) (Kd.R_types HO377.out BK387.out (by decide)) (fun _ hk => hk.2) (.int .i64 t383)) (fun _ hk => hk.2) (.slice Ao196 t384.length co196)) (fun _ h_ => h_.1))))) (Kd.R_lt (by (with_reducible repeat (first | apply Kd.R_alloc | apply Kd.R_drewN | apply Kd.R_drew)); exact (Kd.R_mono (Kd.R_far (p := ⟨gb387, 1, none⟩) (Kd.R_far (p := ⟨gb387, 0, none⟩) (Kd.R_types HO381.out BK387.out (by decide)) (fun _ hk => hk.2) (.int .i64 t383)) (fun _ hk => hk.2) (.slice Ao196 t384.length co196)) (fun _ h_ => h_.1))))) (below_size (ms HB))); have n5_ := bf BK364 hb; have n6_ := bf BK365 hb; have n7_ := bf BK366 hb; have n8_ := Aside0.mk (blk_below (g := gb387) (o := .cells #[.int .i64 t383, .slice Ao196 t384.length co196] 32 (0, 0)) (by (with_reducible repeat (first | refine blk_drewN ?_ _ | refine blk_drew ?_ | refine blk_alloc ?_ _)); refine blk_put (cs := #[.int .i64 t383, .slice none 0 0]) ?_ 1 _ rfl; (with_reducible repeat (first | refine blk_drewN ?_ _ | refine blk_drew ?_ | refine blk_alloc ?_ _)); refine blk_put (cs := #[.int .i64 0, .slice none 0 0]) ?_ 0 _ rfl; (with_reducible repeat (first | refine blk_drewN ?_ _ | refine blk_drew ?_ | refine blk_alloc ?_ _)); exact BK387.out) hb); have n9_ := bs HB hb; clear HO373 HO377 HO381 HO386 BK364 BK365 BK366 BK387 HB; have HO373 := n0_; have HO377 := n1_; have HO381 := n2_; have HO386 := n3_; have HO391 := n4_; have BK364 := n5_; have BK365 := n6_; have BK366 := n7_; have BK387 := n8_; have HB := n9_; clear n0_ n1_ n2_ n3_ n4_ n5_ n6_ n7_ n8_ n9_; (try clear hb); (try clear ho0)) | ((with_reducible refine gate_dst (N := 10) rfl ?_); refine box_event ?hg (N := 10) ?hd (cs := #[.int .i64 0, .slice none 0 0]) (t := 36) ?hr ?_; (case hd => rfl); (case hg => rfl); (case hr => first | (go_simp; done) | (go_simp; rfl)); intro gb392 hg w199 hbox hb; replace HO373 := Aside0.mk (Kd.S_below (Kd.S_elderB (mS HO373) gb392 (Nat.le_of_eq hg.symm)) hb); replace HO377 := rb HO377 hb; replace HO381 := rb HO381 hb; replace HO386 := Aside0.mk (Kd.S_below (Kd.S_elderB (mS HO386) gb392 (Nat.le_of_eq hg.symm)) hb); replace HO391 := rb HO391 hb; have BK392 := Aside0.mk (hbox); have GW392 := gw hg HB; have GE392 := gw hg HB; replace HB := bs HB hb; have NB364_392 := nl hg BK364; have NB392_364 := ng hg BK364; replace BK364 := bb BK364 hb; have NB365_392 := nl hg BK365; have NB392_365 := ng hg BK365; replace BK365 := bb BK365 hb; have NB366_392 := nl hg BK366; have NB392_366 := ng hg BK366; replace BK366 := bb BK366 hb; have NB387_392 := nl hg BK387; have NB392_387 := ng hg BK387; replace BK387 := bb BK387 hb; clear hb hbox hg; have hnb200 := NB392_364.out; have hnc200 := NB364_392.out; have hnb201 := NB392_365.out; have hnc201 := NB365_392.out; have hnb202 := NB392_366.out; have hnc202 := NB366_392.out; have hnb203 := NB392_387.out; have hnc203 := NB387_392.out; obtain ⟨hcz204_0, hcz204_1⟩ := c2 BK392; have hfz204_0 := blk_frozen BK392.out 0; have hfz204_1 := blk_frozen BK392.out 1; obtain ⟨Ao205, co205, eo205⟩ := Kd.R_slice HO391.out; subst eo205; obtain ⟨hcz206_0, hcz206_1⟩ := c2 BK366; have hfz206_0 := blk_frozen BK366.out 0; have hfz206_1 := blk_frozen BK366.out 1) | ((with_reducible refine gate_callee (f := 47) rfl ?_); refine goesL_ (some 40) rfl rfl Try.func47 (by kernel_rfl) rfl #[.agg #[.int .i64 a2_0, .slice A2_1 l2_1.length c2_1]] rfl (by (try simp only [List.map_toArray, List.map_cons, List.map_nil]); first | done | rfl | (simp only [List.length_drop, List.length_take]; rfl)) ?_; (with_reducible refine (laws_toFarkas.calls k a2_0 _ _ l2_1 t393 t394 _ ?side1 ?side2 A45.out).mono ?_); (case side1 => exact Kd.C_below HR2_1.out (ms HB)); (case side2 => exact HC2_1.out); rintro e w207 ⟨v395, rfl, ho0, hb⟩; refine ⟨_, rfl, ?_⟩; have n0_ := Aside0.mk (Kd.S_elder' (by (with_reducible repeat (first | apply Kd.S_alloc | apply Kd.S_drewN | apply Kd.S_drew)); exact (Kd.S_mono (Kd.S_far (p := ⟨gb392, 1, none⟩) (Kd.S_far (p := ⟨gb392, 0, none⟩) (Kd.S_mono HO373.out (fun k_ hk => (⟨hk, hk.2⟩ : _ ∧ k_ ≠ gb392))) (fun _ hk => hk.2) (.int .i64 t388)) (fun _ hk => hk.2) (.slice Ao205 t389.length co205)) (fun _ h_ => h_.1))) (Kd.R_base ho0) hb); have n1_ := Aside0.mk (Kd.R_elder' (by (with_reducible repeat (first | apply Kd.R_alloc | apply Kd.R_drewN | apply Kd.R_drew)); exact (Kd.R_mono (Kd.R_far (p := ⟨gb392, 1, none⟩) (Kd.R_far (p := ⟨gb392, 0, none⟩) (Kd.R_types HO377.out BK392.out (by decide)) (fun _ hk => hk.2) (.int .i64 t388)) (fun _ hk => hk.2) (.slice Ao205 t389.length co205)) (fun _ h_ => h_.1))) (Kd.R_base ho0) hb); have n2_ := Aside0.mk (Kd.R_elder' (by (with_reducible repeat (first | apply Kd.R_alloc | apply Kd.R_drewN | apply Kd.R_drew)); exact (Kd.R_mono (Kd.R_far (p := ⟨gb392, 1, none⟩) (Kd.R_far (p := ⟨gb392, 0, none⟩) (Kd.R_types HO381.out BK392.out (by decide)) (fun _ hk => hk.2) (.int .i64 t388)) (fun _ hk => hk.2) (.slice Ao205 t389.length co205)) (fun _ h_ => h_.1))) (Kd.R_base ho0) hb); have n3_ := Aside0.mk (Kd.S_elder' (by (with_reducible repeat (first | apply Kd.S_alloc | apply Kd.S_drewN | apply Kd.S_drew)); exact (Kd.S_mono (Kd.S_far (p := ⟨gb392, 1, none⟩) (Kd.S_far (p := ⟨gb392, 0, none⟩) (Kd.S_mono HO386.out (fun k_ hk => (⟨hk, hk.2⟩ : _ ∧ k_ ≠ gb392))) (fun _ hk => hk.2) (.int .i64 t388)) (fun _ hk => hk.2) (.slice Ao205 t389.length co205)) (fun _ h_ => h_.1))) (Kd.R_base ho0) hb); have n4_ := Aside0.mk (Kd.R_elder' (by (with_reducible repeat (first | apply Kd.R_alloc | apply Kd.R_drewN | apply Kd.R_drew)); exact (Kd.R_mono (Kd.R_far (p := ⟨gb392, 1, none⟩) (Kd.R_far (p := ⟨gb392, 0, none⟩) (Kd.R_types HO391.out BK392.out (by decide)) (fun _ hk => hk.2) (.int .i64 t388)) (fun _ hk => hk.2) (.slice Ao205 t389.length co205)) (fun _ h_ => h_.1))) (Kd.R_base ho0) hb); have n5_ := Aside0.mk (Kd.R_lower (Kd.R_new' (Kd.R_new' (Kd.R_new' ho0 (Kd.R_lt (by (with_reducible repeat (first | apply Kd.R_alloc | apply Kd.R_drewN | apply Kd.R_drew)); exact (Kd.R_mono (Kd.R_far (p := ⟨gb392, 1, none⟩) (Kd.R_far (p := ⟨gb392, 0, none⟩) (Kd.R_types HO377.out BK392.out (by decide)) (fun _ hk => hk.2) (.int .i64 t388)) (fun _ hk => hk.2) (.slice Ao205 t389.length co205)) (fun _ h_ => h_.1))))) (Kd.R_lt (by (with_reducible repeat (first | apply Kd.R_alloc | apply Kd.R_drewN | apply Kd.R_drew)); exact (Kd.R_mono (Kd.R_far (p := ⟨gb392, 1, none⟩) (Kd.R_far (p := ⟨gb392, 0, none⟩) (Kd.R_types HO381.out BK392.out (by decide)) (fun _ hk => hk.2) (.int .i64 t388)) (fun _ hk => hk.2) (.slice Ao205 t389.length co205)) (fun _ h_ => h_.1))))) (Kd.R_lt (by (with_reducible repeat (first | apply Kd.R_alloc | apply Kd.R_drewN | apply Kd.R_drew)); exact (Kd.R_mono (Kd.R_far (p := ⟨gb392, 1, none⟩) (Kd.R_far (p := ⟨gb392, 0, none⟩) (Kd.R_types HO391.out BK392.out (by decide)) (fun _ hk => hk.2) (.int .i64 t388)) (fun _ hk => hk.2) (.slice Ao205 t389.length co205)) (fun _ h_ => h_.1))))) (below_size (ms HB))); have n6_ := bf BK364 hb; have n7_ := bf BK365 hb; have n8_ := bf BK366 hb; have n9_ := bf BK387 hb; have n10_ := Aside0.mk (blk_below (g := gb392) (o := .cells #[.int .i64 t388, .slice Ao205 t389.length co205] 36 (0, 0)) (by (with_reducible repeat (first | refine blk_drewN ?_ _ | refine blk_drew ?_ | refine blk_alloc ?_ _)); refine blk_put (cs := #[.int .i64 t388, .slice none 0 0]) ?_ 1 _ rfl; (with_reducible repeat (first | refine blk_drewN ?_ _ | refine blk_drew ?_ | refine blk_alloc ?_ _)); refine blk_put (cs := #[.int .i64 0, .slice none 0 0]) ?_ 0 _ rfl; (with_reducible repeat (first | refine blk_drewN ?_ _ | refine blk_drew ?_ | refine blk_alloc ?_ _)); exact BK392.out) hb); have n11_ := bs HB hb; clear HO373 HO377 HO381 HO386 HO391 BK364 BK365 BK366 BK387 BK392 HB; have HO373 := n0_; have HO377 := n1_; have HO381 := n2_; have HO386 := n3_; have HO391 := n4_; have HO396 := n5_; have BK364 := n6_; have BK365 := n7_; have BK366 := n8_; have BK387 := n9_; have BK392 := n10_; have HB := n11_; clear n0_ n1_ n2_ n3_ n4_ n5_ n6_ n7_ n8_ n9_ n10_ n11_; (try clear hb); (try clear ho0)) | ((with_reducible refine gate_dst (N := 11) rfl ?_); refine box_event ?hg (N := 11) ?hd (cs := #[.int .i64 0, .slice none 0 0]) (t := 65) ?hr ?_; (case hd => rfl); (case hg => rfl); (case hr => first | (go_simp; done) | (go_simp; rfl)); intro gb397 hg w208 hbox hb; replace HO373 := bS HO373 hb; replace HO377 := rb HO377 hb; replace HO381 := rb HO381 hb; replace HO386 := bS HO386 hb; replace HO391 := rb HO391 hb; replace HO396 := rb HO396 hb; have BK397 := Aside0.mk (hbox); have GW397 := gw hg HB; have GE397 := gw hg HB; replace HB := bs HB hb; have NB364_397 := nl hg BK364; have NB397_364 := ng hg BK364; replace BK364 := bb BK364 hb; have NB365_397 := nl hg BK365; have NB397_365 := ng hg BK365; replace BK365 := bb BK365 hb; have NB366_397 := nl hg BK366; have NB397_366 := ng hg BK366; replace BK366 := bb BK366 hb; have NB387_397 := nl hg BK387; have NB397_387 := ng hg BK387; replace BK387 := bb BK387 hb; have NB392_397 := nl hg BK392; have NB397_392 := ng hg BK392; replace BK392 := bb BK392 hb; clear hb hbox hg; have hnb209 := NB397_364.out; have hnc209 := NB364_397.out; have hnb210 := NB397_365.out; have hnc210 := NB365_397.out; have hnb211 := NB397_366.out; have hnc211 := NB366_397.out; have hnb212 := NB397_387.out; have hnc212 := NB387_397.out; have hnb213 := NB397_392.out; have hnc213 := NB392_397.out; obtain ⟨hcz214_0, hcz214_1⟩ := c2 BK397; have hfz214_0 := blk_frozen BK397.out 0; have hfz214_1 := blk_frozen BK397.out 1; obtain ⟨Ao215, co215, eo215⟩ := Kd.R_slice HO396.out; subst eo215; obtain ⟨hcz216_0, hcz216_1⟩ := c2 BK387; have hfz216_0 := blk_frozen BK387.out 0; have hfz216_1 := blk_frozen BK387.out 1; obtain ⟨hcz217_0, hcz217_1⟩ := c2 BK392; have hfz217_0 := blk_frozen BK392.out 0; have hfz217_1 := blk_frozen BK392.out 1) | ((with_reducible refine gate_callee (f := 48) rfl ?_); refine goesL_ (some 44) rfl rfl Try.func48 (by kernel_rfl) rfl #[.agg #[.int .i64 t383, .slice Ao196 t384.length co196], .agg #[.int .i64 t388, .slice Ao205 t389.length co205], .agg #[.int .i64 t393, .slice Ao215 t394.length co215]] rfl (by (try simp only [List.map_toArray, List.map_cons, List.map_nil]); first | done | rfl | (simp only [List.length_drop, List.length_take]; rfl)) ?_; (with_reducible refine (impl_CheckFarkas.calls k t383 _ _ t384 t388 _ _ t389 t393 _ _ t394 t398 _ ?side1 ?side2 ?side3 ?side4 ?side5 ?side6 A46.out).mono ?_); (case side1 => refine (Kd.S_reads' (e := 36) (base := w.heap.size) (ok := fun k_ => ((((((True ∧ some k_ ≠ (.slice Ao185 t371.length co185 : Value).ownBlock) ∧ some k_ ≠ (.slice Ao186 t375.length co186 : Value).ownBlock) ∧ some k_ ≠ (.slice Ao187 t379.length co187 : Value).ownBlock) ∧ some k_ ≠ (.slice Ao205 t389.length co205 : Value).ownBlock) ∧ k_ ≠ gb392) ∧ some k_ ≠ (.slice Ao215 t394.length co215 : Value).ownBlock)) (n := t384.length) (c := co196) ?_).2.2; exact (by (with_reducible repeat (first | apply Kd.S_alloc | apply Kd.S_drewN | apply Kd.S_drew)); exact (Kd.S_mono (Kd.S_far (p := ⟨gb397, 1, none⟩) (Kd.S_far (p := ⟨gb397, 0, none⟩) (Kd.S_types HO386.out BK397.out (by decide)) (fun _ hk => hk.2) (.int .i64 t393)) (fun _ hk => hk.2) (.slice Ao215 t394.length co215)) (fun _ h_ => h_.1)))); (case side2 => exact (Kd.S_reads' HO386.out).2.1); (case side3 => refine (Kd.R_reads' (e := 3) (base := w.heap.size) (ok := fun k_ => (((True ∧ some k_ ≠ (.slice Ao186 t375.length co186 : Value).ownBlock) ∧ some k_ ≠ (.slice Ao187 t379.length co187 : Value).ownBlock) ∧ some k_ ≠ (.slice Ao215 t394.length co215 : Value).ownBlock)) (n := t389.length) (c := co205) ?_).2.2; exact (by (with_reducible repeat (first | apply Kd.R_alloc | apply Kd.R_drewN | apply Kd.R_drew)); exact (Kd.R_mono (Kd.R_far (p := ⟨gb397, 1, none⟩) (Kd.R_far (p := ⟨gb397, 0, none⟩) (Kd.R_types HO391.out BK397.out (by decide)) (fun _ hk => hk.2) (.int .i64 t393)) (fun _ hk => hk.2) (.slice Ao215 t394.length co215)) (fun _ h_ => h_.1)))); (case side4 => exact (Kd.R_reads' HO391.out).2.1); (case side5 => refine (Kd.R_reads' (e := 3) (base := w.heap.size) (ok := fun k_ => (((True ∧ some k_ ≠ (.slice Ao186 t375.length co186 : Value).ownBlock) ∧ some k_ ≠ (.slice Ao187 t379.length co187 : Value).ownBlock) ∧ some k_ ≠ (.slice Ao205 t389.length co205 : Value).ownBlock)) (n := t394.length) (c := co215) ?_).2.2; exact (by (with_reducible repeat (first | apply Kd.R_alloc | apply Kd.R_drewN | apply Kd.R_drew)); exact (Kd.R_mono (Kd.R_far (p := ⟨gb397, 1, none⟩) (Kd.R_far (p := ⟨gb397, 0, none⟩) (Kd.R_types HO396.out BK397.out (by decide)) (fun _ hk => hk.2) (.int .i64 t393)) (fun _ hk => hk.2) (.slice Ao215 t394.length co215)) (fun _ h_ => h_.1)))); (case side6 => exact (Kd.R_reads' HO396.out).2.1); rintro e w218 ⟨rfl, hb⟩; refine ⟨_, rfl, ?_⟩; have n0_ := Aside0.mk (Kd.S_below (by (with_reducible repeat (first | apply Kd.S_alloc | apply Kd.S_drewN | apply Kd.S_drew)); exact (Kd.S_mono (Kd.S_far (p := ⟨gb397, 1, none⟩) (Kd.S_far (p := ⟨gb397, 0, none⟩) (Kd.S_types HO373.out BK397.out (by decide)) (fun _ hk => hk.2) (.int .i64 t393)) (fun _ hk => hk.2) (.slice Ao215 t394.length co215)) (fun _ h_ => h_.1))) hb); have n1_ := Aside0.mk (Kd.R_below (by (with_reducible repeat (first | apply Kd.R_alloc | apply Kd.R_drewN | apply Kd.R_drew)); exact (Kd.R_mono (Kd.R_far (p := ⟨gb397, 1, none⟩) (Kd.R_far (p := ⟨gb397, 0, none⟩) (Kd.R_types HO377.out BK397.out (by decide)) (fun _ hk => hk.2) (.int .i64 t393)) (fun _ hk => hk.2) (.slice Ao215 t394.length co215)) (fun _ h_ => h_.1))) hb); have n2_ := Aside0.mk (Kd.R_below (by (with_reducible repeat (first | apply Kd.R_alloc | apply Kd.R_drewN | apply Kd.R_drew)); exact (Kd.R_mono (Kd.R_far (p := ⟨gb397, 1, none⟩) (Kd.R_far (p := ⟨gb397, 0, none⟩) (Kd.R_types HO381.out BK397.out (by decide)) (fun _ hk => hk.2) (.int .i64 t393)) (fun _ hk => hk.2) (.slice Ao215 t394.length co215)) (fun _ h_ => h_.1))) hb); have n3_ := Aside0.mk (Kd.S_below (by (with_reducible repeat (first | apply Kd.S_alloc | apply Kd.S_drewN | apply Kd.S_drew)); exact (Kd.S_mono (Kd.S_far (p := ⟨gb397, 1, none⟩) (Kd.S_far (p := ⟨gb397, 0, none⟩) (Kd.S_types HO386.out BK397.out (by decide)) (fun _ hk => hk.2) (.int .i64 t393)) (fun _ hk => hk.2) (.slice Ao215 t394.length co215)) (fun _ h_ => h_.1))) hb); have n4_ := Aside0.mk (Kd.R_below (by (with_reducible repeat (first | apply Kd.R_alloc | apply Kd.R_drewN | apply Kd.R_drew)); exact (Kd.R_mono (Kd.R_far (p := ⟨gb397, 1, none⟩) (Kd.R_far (p := ⟨gb397, 0, none⟩) (Kd.R_types HO391.out BK397.out (by decide)) (fun _ hk => hk.2) (.int .i64 t393)) (fun _ hk => hk.2) (.slice Ao215 t394.length co215)) (fun _ h_ => h_.1))) hb); have n5_ := Aside0.mk (Kd.R_below (by (with_reducible repeat (first | apply Kd.R_alloc | apply Kd.R_drewN | apply Kd.R_drew)); exact (Kd.R_mono (Kd.R_far (p := ⟨gb397, 1, none⟩) (Kd.R_far (p := ⟨gb397, 0, none⟩) (Kd.R_types HO396.out BK397.out (by decide)) (fun _ hk => hk.2) (.int .i64 t393)) (fun _ hk => hk.2) (.slice Ao215 t394.length co215)) (fun _ h_ => h_.1))) hb); have n6_ := bf BK364 hb; have n7_ := bf BK365 hb; have n8_ := bf BK366 hb; have n9_ := bf BK387 hb; have n10_ := bf BK392 hb; have n11_ := Aside0.mk (blk_below (g := gb397) (o := .cells #[.int .i64 t393, .slice Ao215 t394.length co215] 65 (0, 0)) (by (with_reducible repeat (first | refine blk_drewN ?_ _ | refine blk_drew ?_ | refine blk_alloc ?_ _)); refine blk_put (cs := #[.int .i64 t393, .slice none 0 0]) ?_ 1 _ rfl; (with_reducible repeat (first | refine blk_drewN ?_ _ | refine blk_drew ?_ | refine blk_alloc ?_ _)); refine blk_put (cs := #[.int .i64 0, .slice none 0 0]) ?_ 0 _ rfl; (with_reducible repeat (first | refine blk_drewN ?_ _ | refine blk_drew ?_ | refine blk_alloc ?_ _)); exact BK397.out) hb); have n12_ := bs HB hb; clear HO373 HO377 HO381 HO386 HO391 HO396 BK364 BK365 BK366 BK387 BK392 BK397 HB; have HO373 := n0_; have HO377 := n1_; have HO381 := n2_; have HO386 := n3_; have HO391 := n4_; have HO396 := n5_; have BK364 := n6_; have BK365 := n7_; have BK366 := n8_; have BK387 := n9_; have BK392 := n10_; have BK397 := n11_; have HB := n12_; clear n0_ n1_ n2_ n3_ n4_ n5_ n6_ n7_ n8_ n9_ n10_ n11_ n12_; (try clear hb)))
        replace HO373 := Aside0.mk (Kd.S_drew HO373.out)
        replace HO377 := Aside0.mk (Kd.R_drew HO377.out)
        replace HO381 := Aside0.mk (Kd.R_drew HO381.out)
        replace HO386 := Aside0.mk (Kd.S_drew HO386.out)
        replace HO391 := Aside0.mk (Kd.R_drew HO391.out)
        replace HO396 := Aside0.mk (Kd.R_drew HO396.out)
        replace BK364 := Aside0.mk (blk_drew BK364.out)
        replace BK365 := Aside0.mk (blk_drew BK365.out)
        replace BK366 := Aside0.mk (blk_drew BK366.out)
        replace BK387 := Aside0.mk (blk_drew BK387.out)
        replace BK392 := Aside0.mk (blk_drew BK392.out)
        replace BK397 := Aside0.mk (blk_drew BK397.out)
        replace HB := Aside0.mk (below_drew1 HB.out)
        refine start_ (n := 5) (S := fun w' => w'.cell? ⟨gb387, 0, none⟩ = some (.int .i64 t383) ∧ w'.cell? ⟨gb387, 1, none⟩ = some (.slice Ao196 t384.length co196) ∧ w'.cell? ⟨gb364, 0, none⟩ = some (.int .i64 a0_0) ∧ w'.cell? ⟨gb364, 1, none⟩ = some (.slice A0_1 l0_1.length c0_1)) (ds := []) #[false, false, false, false, false] (by kernel_rfl) rfl rfl ⟨(c2 BK387).1, (c2 BK387).2, (c2 BK364).1, (c2 BK364).2⟩ (fun hHeld => ?_)
        generalize w218.drew = w219 at HO373 HO377 HO381 HO386 HO391 HO396 BK364 BK365 BK366 BK387 BK392 BK397 HB hHeld ⊢
        refine take_ (i := 0) (N := some 48) (v := ?_) (a' := ?_) #[true, false, false, false, false] rfl rfl (by kernel_rfl) (fun _ _ _ h => h) (Or.inl ⟨by rfl, ?_⟩) hHeld ?_ ?_
        rotate_left
        ·rintro w' ⟨s0, s1, s2, s3⟩
         go_simp
         with_reducible rfl
        rotate_left
        ·simp only [Act.put, List.setIfInBounds_toArray, List.set_cons_zero, List.set_cons_succ, i64_w, i32_w]
         rfl
        refine take_ (i := 1) (N := some 49) (v := ?_) (a' := ?_) #[true, true, false, false, false] rfl rfl (by kernel_rfl) (fun _ _ _ h => h) (Or.inl ⟨by rfl, ?_⟩) hHeld ?_ ?_
        rotate_left
        ·rintro w' ⟨s0, s1, s2, s3⟩
         go_simp
         with_reducible rfl
        rotate_left
        ·simp only [Act.put, List.setIfInBounds_toArray, List.set_cons_zero, List.set_cons_succ, i64_w, i32_w]
         rfl
        refine one_ (i := 2) (N := some 50) #[true, true, true, false, false] rfl rfl (by kernel_rfl) (by decide) (fun K hK => ?_)
        refine goes_ Try.func14 (by kernel_rfl) rfl #[.agg #[.int .i64 a0_0, .slice A0_1 l0_1.length c0_1]] (by rfl) rfl rfl (by (try simp only [List.map_toArray, List.map_cons, List.map_nil]); first | done | rfl | (simp only [List.length_drop, List.length_take]; rfl)) ?_
        with_reducible refine (laws_toSystem.calls k a0_0 _ _ l0_1 t399 t400 _ ?side1 ?side2 A98.out).mono ?_
        (case side1 => exact mc ((Kd.C_below HR0_1.out HB.out)))
        (case side2 => exact HC0_1.out)
        rintro e w220 ⟨v401, rfl, ho0, hb⟩
        refine ⟨_, rfl, ?_⟩
        have HO402 := Aside0.mk (Kd.S_lower (Kd.S_newB (Kd.S_new' (Kd.S_new' (Kd.S_new' (Kd.S_new' (Kd.S_new' (Kd.S_new' ho0 (Kd.S_lt (mS HO373))) (Kd.R_lt (mr HO377))) (Kd.R_lt (mr HO381))) (Kd.S_lt (mS HO386))) (Kd.R_lt (mr HO391))) (Kd.R_lt (mr HO396))) (g := gb392) (o := .cells #[.int .i64 t388, .slice Ao205 t389.length co205] 36 (0, 0)) (mb BK392)) (below_size (ms HB)))
        replace HO373 := Aside0.mk (Kd.S_elder' (mS HO373) (Kd.S_base ho0) hb)
        replace HO377 := rb HO377 hb
        replace HO381 := rb HO381 hb
        replace HO386 := Aside0.mk (Kd.S_elder' (mS HO386) (Kd.S_base ho0) hb)
        replace HO391 := rb HO391 hb
        replace HO396 := rb HO396 hb
        replace BK364 := bb BK364 hb
        replace BK365 := bb BK365 hb
        replace BK366 := bb BK366 hb
        replace BK387 := bb BK387 hb
        replace BK392 := bb BK392 hb
        replace BK397 := bb BK397 hb
        replace HB := bs HB hb
        (try clear hb)
        (try clear hb2)
        (try clear hk)
        (try clear hi)
        (try clear ho0)
        obtain ⟨Ao221, co221, eo221⟩ := Kd.S_slice HO402.out
        (first | subst eo221 | (injection eo221 with f1_ f2_ f3_; have f4_ := f1_.symm; have f5_ := f3_.symm; clear f1_ f2_ f3_; subst f4_; subst f5_))
        refine hK.out _ _ ⟨(c2 BK387).1, (c2 BK387).2, (c2 BK364).1, (c2 BK364).2⟩ (fun hHeld => ?_)
        clear hK K
        refine norm_ (a' := ?_) ?_ ?_
        rotate_left
        ·show Act.put _ (some 50) _ = _
         simp only [Act.put, List.setIfInBounds_toArray, List.set_cons_zero, List.set_cons_succ, i64_w, i32_w]
         rfl
        refine one_ (i := 3) (N := some 51) #[true, true, true, true, false] rfl rfl (by kernel_rfl) (by decide) (fun K hK => ?_)
        refine goes_ Try.func17 (by kernel_rfl) rfl #[.agg #[.int .i64 t383, .slice Ao196 t384.length co196], .agg #[.int .i64 t399, .slice Ao221 t400.length co221]] (by rfl) rfl rfl (by (try simp only [List.map_toArray, List.map_cons, List.map_nil]); first | done | rfl | (simp only [List.length_drop, List.length_take]; rfl)) ?_
        with_reducible refine (laws_eqSystem.calls k t383 _ _ t384 t399 _ _ t400 true _ ?side1 ?side2 ?side3 ?side4 A99.out).mono ?_
        (case side1 => exact mc ((Kd.S_reads' HO386.out).2.2))
        (case side2 => exact (Kd.S_reads' HO386.out).2.1)
        (case side3 => exact mc ((Kd.S_reads' HO402.out).2.2))
        (case side4 => exact (Kd.S_reads' HO402.out).2.1)
        rintro e w222 ⟨rfl, hb⟩
        refine ⟨_, rfl, ?_⟩
        replace HO373 := bS HO373 hb
        replace HO377 := rb HO377 hb
        replace HO381 := rb HO381 hb
        replace HO386 := bS HO386 hb
        replace HO391 := rb HO391 hb
        replace HO396 := rb HO396 hb
        replace HO402 := bS HO402 hb
        replace BK364 := bb BK364 hb
        replace BK365 := bb BK365 hb
        replace BK366 := bb BK366 hb
        replace BK387 := bb BK387 hb
        replace BK392 := bb BK392 hb
        replace BK397 := bb BK397 hb
        replace HB := bs HB hb
        (try clear hb)
        (try clear hb2)
        (try clear hk)
        (try clear hi)
        refine hK.out _ _ ⟨(c2 BK387).1, (c2 BK387).2, (c2 BK364).1, (c2 BK364).2⟩ (fun hHeld => ?_)
        clear hK K
        refine norm_ (a' := ?_) ?_ ?_
        rotate_left
        ·show Act.put _ (some 51) _ = _
         simp only [Act.put, List.setIfInBounds_toArray, List.set_cons_zero, List.set_cons_succ, i64_w, i32_w]
         rfl
        refine pure_ (i := 4) (N := some 52) (v := ?_) (a' := ?_) #[true, true, true, true, true] rfl rfl (by kernel_rfl) (fun _ _ _ h => h) (Or.inl ⟨by rfl, ?_⟩) ?_ ?_
        rotate_left
        ·intro w'
         go_simp
         with_reducible rfl
        rotate_left
        ·simp only [Act.put, List.setIfInBounds_toArray, List.set_cons_zero, List.set_cons_succ, i64_w, i32_w]
         rfl
        refine done_ (by kernel_rfl) ?_
        try go_wp2
        replace HO373 := Aside0.mk (Kd.S_drew HO373.out)
        replace HO377 := Aside0.mk (Kd.R_drew HO377.out)
        replace HO381 := Aside0.mk (Kd.R_drew HO381.out)
        replace HO386 := Aside0.mk (Kd.S_drew HO386.out)
        replace HO391 := Aside0.mk (Kd.R_drew HO391.out)
        replace HO396 := Aside0.mk (Kd.R_drew HO396.out)
        replace HO402 := Aside0.mk (Kd.S_drew HO402.out)
        replace BK364 := Aside0.mk (blk_drew BK364.out)
        replace BK365 := Aside0.mk (blk_drew BK365.out)
        replace BK366 := Aside0.mk (blk_drew BK366.out)
        replace BK387 := Aside0.mk (blk_drew BK387.out)
        replace BK392 := Aside0.mk (blk_drew BK392.out)
        replace BK397 := Aside0.mk (blk_drew BK397.out)
        replace HB := Aside0.mk (below_drew1 HB.out)
        refine start_ (n := 5) (S := fun w' => w'.cell? ⟨gb392, 0, none⟩ = some (.int .i64 t388) ∧ w'.cell? ⟨gb392, 1, none⟩ = some (.slice Ao205 t389.length co205) ∧ w'.cell? ⟨gb365, 0, none⟩ = some (.int .i64 a1_0) ∧ w'.cell? ⟨gb365, 1, none⟩ = some (.slice A1_1 l1_1.length c1_1)) (ds := []) #[false, false, false, false, false] (by kernel_rfl) rfl rfl ⟨(c2 BK392).1, (c2 BK392).2, (c2 BK365).1, (c2 BK365).2⟩ (fun hHeld => ?_)
        generalize w222.drew = w223 at HO373 HO377 HO381 HO386 HO391 HO396 HO402 BK364 BK365 BK366 BK387 BK392 BK397 HB hHeld ⊢
        refine take_ (i := 0) (N := some 53) (v := ?_) (a' := ?_) #[true, false, false, false, false] rfl rfl (by kernel_rfl) (fun _ _ _ h => h) (Or.inl ⟨by rfl, ?_⟩) hHeld ?_ ?_
        rotate_left
        ·rintro w' ⟨s0, s1, s2, s3⟩
         go_simp
         with_reducible rfl
        rotate_left
        ·simp only [Act.put, List.setIfInBounds_toArray, List.set_cons_zero, List.set_cons_succ, i64_w, i32_w]
         rfl
        refine take_ (i := 1) (N := some 54) (v := ?_) (a' := ?_) #[true, true, false, false, false] rfl rfl (by kernel_rfl) (fun _ _ _ h => h) (Or.inl ⟨by rfl, ?_⟩) hHeld ?_ ?_
        rotate_left
        ·rintro w' ⟨s0, s1, s2, s3⟩
         go_simp
         with_reducible rfl
        rotate_left
        ·simp only [Act.put, List.setIfInBounds_toArray, List.set_cons_zero, List.set_cons_succ, i64_w, i32_w]
         rfl
        refine one_ (i := 2) (N := some 55) #[true, true, true, false, false] rfl rfl (by kernel_rfl) (by decide) (fun K hK => ?_)
        refine goes_ Try.func15 (by kernel_rfl) rfl #[.agg #[.int .i64 a1_0, .slice A1_1 l1_1.length c1_1]] (by rfl) rfl rfl (by (try simp only [List.map_toArray, List.map_cons, List.map_nil]); first | done | rfl | (simp only [List.length_drop, List.length_take]; rfl)) ?_
        with_reducible refine (laws_toLin.calls k a1_0 _ _ l1_1 t404 t405 _ ?side1 ?side2 A101.out).mono ?_
        (case side1 => exact mc ((Kd.C_below HR1_1.out HB.out)))
        (case side2 => exact HC1_1.out)
        rintro e w224 ⟨v406, rfl, ho0, hb⟩
        refine ⟨_, rfl, ?_⟩
        replace HO373 := lS HO373 ho0 hb
        replace HO386 := lS HO386 ho0 hb
        replace HO402 := lS HO402 ho0 hb
        have HO407 := Aside0.mk (Kd.R_lower (Kd.R_new' (Kd.R_new' (Kd.R_new' (Kd.R_new' ho0 (Kd.R_lt (mr HO377))) (Kd.R_lt (mr HO381))) (Kd.R_lt (mr HO391))) (Kd.R_lt (mr HO396))) (below_size (ms HB)))
        replace HO377 := rl HO377 ho0 hb
        replace HO381 := rl HO381 ho0 hb
        replace HO391 := rl HO391 ho0 hb
        replace HO396 := rl HO396 ho0 hb
        replace BK364 := bb BK364 hb
        replace BK365 := bb BK365 hb
        replace BK366 := bb BK366 hb
        replace BK387 := bb BK387 hb
        replace BK392 := bb BK392 hb
        replace BK397 := bb BK397 hb
        replace HB := bs HB hb
        (try clear hb)
        (try clear hb2)
        (try clear hk)
        (try clear hi)
        (try clear ho0)
        obtain ⟨Ao225, co225, eo225⟩ := Kd.R_slice HO407.out
        (first | subst eo225 | (injection eo225 with f1_ f2_ f3_; have f4_ := f1_.symm; have f5_ := f3_.symm; clear f1_ f2_ f3_; subst f4_; subst f5_))
        refine hK.out _ _ ⟨(c2 BK392).1, (c2 BK392).2, (c2 BK365).1, (c2 BK365).2⟩ (fun hHeld => ?_)
        clear hK K
        refine norm_ (a' := ?_) ?_ ?_
        rotate_left
        ·show Act.put _ (some 55) _ = _
         simp only [Act.put, List.setIfInBounds_toArray, List.set_cons_zero, List.set_cons_succ, i64_w, i32_w]
         rfl
        refine one_ (i := 3) (N := some 56) #[true, true, true, true, false] rfl rfl (by kernel_rfl) (by decide) (fun K hK => ?_)
        refine goes_ Try.func18 (by kernel_rfl) rfl #[.agg #[.int .i64 t388, .slice Ao205 t389.length co205], .agg #[.int .i64 t404, .slice Ao225 t405.length co225]] (by rfl) rfl rfl (by (try simp only [List.map_toArray, List.map_cons, List.map_nil]); first | done | rfl | (simp only [List.length_drop, List.length_take]; rfl)) ?_
        with_reducible refine (laws_eqLin.calls k t388 _ _ t389 t404 _ _ t405 true _ ?side1 ?side2 ?side3 ?side4 A102.out).mono ?_
        (case side1 => exact mc ((Kd.R_reads' HO391.out).2.2))
        (case side2 => exact (Kd.R_reads' HO391.out).2.1)
        (case side3 => exact mc ((Kd.R_reads' HO407.out).2.2))
        (case side4 => exact (Kd.R_reads' HO407.out).2.1)
        rintro e w226 ⟨rfl, hb⟩
        refine ⟨_, rfl, ?_⟩
        replace HO373 := bS HO373 hb
        replace HO377 := rb HO377 hb
        replace HO381 := rb HO381 hb
        replace HO386 := bS HO386 hb
        replace HO391 := rb HO391 hb
        replace HO396 := rb HO396 hb
        replace HO402 := bS HO402 hb
        replace HO407 := rb HO407 hb
        replace BK364 := bb BK364 hb
        replace BK365 := bb BK365 hb
        replace BK366 := bb BK366 hb
        replace BK387 := bb BK387 hb
        replace BK392 := bb BK392 hb
        replace BK397 := bb BK397 hb
        replace HB := bs HB hb
        (try clear hb)
        (try clear hb2)
        (try clear hk)
        (try clear hi)
        refine hK.out _ _ ⟨(c2 BK392).1, (c2 BK392).2, (c2 BK365).1, (c2 BK365).2⟩ (fun hHeld => ?_)
        clear hK K
        refine norm_ (a' := ?_) ?_ ?_
        rotate_left
        ·show Act.put _ (some 56) _ = _
         simp only [Act.put, List.setIfInBounds_toArray, List.set_cons_zero, List.set_cons_succ, i64_w, i32_w]
         rfl
        refine pure_ (i := 4) (N := some 57) (v := ?_) (a' := ?_) #[true, true, true, true, true] rfl rfl (by kernel_rfl) (fun _ _ _ h => h) (Or.inl ⟨by rfl, ?_⟩) ?_ ?_
        rotate_left
        ·intro w'
         go_simp
         with_reducible rfl
        rotate_left
        ·simp only [Act.put, List.setIfInBounds_toArray, List.set_cons_zero, List.set_cons_succ, i64_w, i32_w]
         rfl
        refine done_ (by kernel_rfl) ?_
        try go_wp2
        replace HO373 := Aside0.mk (Kd.S_drew HO373.out)
        replace HO377 := Aside0.mk (Kd.R_drew HO377.out)
        replace HO381 := Aside0.mk (Kd.R_drew HO381.out)
        replace HO386 := Aside0.mk (Kd.S_drew HO386.out)
        replace HO391 := Aside0.mk (Kd.R_drew HO391.out)
        replace HO396 := Aside0.mk (Kd.R_drew HO396.out)
        replace HO402 := Aside0.mk (Kd.S_drew HO402.out)
        replace HO407 := Aside0.mk (Kd.R_drew HO407.out)
        replace BK364 := Aside0.mk (blk_drew BK364.out)
        replace BK365 := Aside0.mk (blk_drew BK365.out)
        replace BK366 := Aside0.mk (blk_drew BK366.out)
        replace BK387 := Aside0.mk (blk_drew BK387.out)
        replace BK392 := Aside0.mk (blk_drew BK392.out)
        replace BK397 := Aside0.mk (blk_drew BK397.out)
        replace HB := Aside0.mk (below_drew1 HB.out)
        refine start_ (n := 5) (S := fun w' => w'.cell? ⟨gb397, 0, none⟩ = some (.int .i64 t393) ∧ w'.cell? ⟨gb397, 1, none⟩ = some (.slice Ao215 t394.length co215) ∧ w'.cell? ⟨gb366, 0, none⟩ = some (.int .i64 a2_0) ∧ w'.cell? ⟨gb366, 1, none⟩ = some (.slice A2_1 l2_1.length c2_1)) (ds := []) #[false, false, false, false, false] (by kernel_rfl) rfl rfl ⟨(c2 BK397).1, (c2 BK397).2, (c2 BK366).1, (c2 BK366).2⟩ (fun hHeld => ?_)
        generalize w226.drew = w227 at HO373 HO377 HO381 HO386 HO391 HO396 HO402 HO407 BK364 BK365 BK366 BK387 BK392 BK397 HB hHeld ⊢
        refine take_ (i := 0) (N := some 58) (v := ?_) (a' := ?_) #[true, false, false, false, false] rfl rfl (by kernel_rfl) (fun _ _ _ h => h) (Or.inl ⟨by rfl, ?_⟩) hHeld ?_ ?_
        rotate_left
        ·rintro w' ⟨s0, s1, s2, s3⟩
         go_simp
         with_reducible rfl
        rotate_left
        ·simp only [Act.put, List.setIfInBounds_toArray, List.set_cons_zero, List.set_cons_succ, i64_w, i32_w]
         rfl
        refine take_ (i := 1) (N := some 59) (v := ?_) (a' := ?_) #[true, true, false, false, false] rfl rfl (by kernel_rfl) (fun _ _ _ h => h) (Or.inl ⟨by rfl, ?_⟩) hHeld ?_ ?_
        rotate_left
        ·rintro w' ⟨s0, s1, s2, s3⟩
         go_simp
         with_reducible rfl
        rotate_left
        ·simp only [Act.put, List.setIfInBounds_toArray, List.set_cons_zero, List.set_cons_succ, i64_w, i32_w]
         rfl
        refine one_ (i := 2) (N := some 60) #[true, true, true, false, false] rfl rfl (by kernel_rfl) (by decide) (fun K hK => ?_)
        refine goes_ Try.func47 (by kernel_rfl) rfl #[.agg #[.int .i64 a2_0, .slice A2_1 l2_1.length c2_1]] (by rfl) rfl rfl (by (try simp only [List.map_toArray, List.map_cons, List.map_nil]); first | done | rfl | (simp only [List.length_drop, List.length_take]; rfl)) ?_
        with_reducible refine (laws_toFarkas.calls k a2_0 _ _ l2_1 t409 t410 _ ?side1 ?side2 A104.out).mono ?_
        (case side1 => exact mc ((Kd.C_below HR2_1.out HB.out)))
        (case side2 => exact HC2_1.out)
        rintro e w228 ⟨v411, rfl, ho0, hb⟩
        refine ⟨_, rfl, ?_⟩
        replace HO373 := lS HO373 ho0 hb
        replace HO386 := lS HO386 ho0 hb
        replace HO402 := lS HO402 ho0 hb
        have HO412 := Aside0.mk (Kd.R_lower (Kd.R_new' (Kd.R_new' (Kd.R_new' (Kd.R_new' (Kd.R_new' ho0 (Kd.R_lt (mr HO377))) (Kd.R_lt (mr HO381))) (Kd.R_lt (mr HO391))) (Kd.R_lt (mr HO396))) (Kd.R_lt (mr HO407))) (below_size (ms HB)))
        replace HO377 := rl HO377 ho0 hb
        replace HO381 := rl HO381 ho0 hb
        replace HO391 := rl HO391 ho0 hb
        replace HO396 := rl HO396 ho0 hb
        replace HO407 := rl HO407 ho0 hb
        replace BK364 := bb BK364 hb
        replace BK365 := bb BK365 hb
        replace BK366 := bb BK366 hb
        replace BK387 := bb BK387 hb
        replace BK392 := bb BK392 hb
        replace BK397 := bb BK397 hb
        replace HB := bs HB hb
        (try clear hb)
        (try clear hb2)
        (try clear hk)
        (try clear hi)
        (try clear ho0)
        obtain ⟨Ao229, co229, eo229⟩ := Kd.R_slice HO412.out
        (first | subst eo229 | (injection eo229 with f1_ f2_ f3_; have f4_ := f1_.symm; have f5_ := f3_.symm; clear f1_ f2_ f3_; subst f4_; subst f5_))
        refine hK.out _ _ ⟨(c2 BK397).1, (c2 BK397).2, (c2 BK366).1, (c2 BK366).2⟩ (fun hHeld => ?_)
        clear hK K
        refine norm_ (a' := ?_) ?_ ?_
        rotate_left
        ·show Act.put _ (some 60) _ = _
         simp only [Act.put, List.setIfInBounds_toArray, List.set_cons_zero, List.set_cons_succ, i64_w, i32_w]
         rfl
        refine one_ (i := 3) (N := some 61) #[true, true, true, true, false] rfl rfl (by kernel_rfl) (by decide) (fun K hK => ?_)
        refine goes_ Try.func49 (by kernel_rfl) rfl #[.agg #[.int .i64 t393, .slice Ao215 t394.length co215], .agg #[.int .i64 t409, .slice Ao229 t410.length co229]] (by rfl) rfl rfl (by (try simp only [List.map_toArray, List.map_cons, List.map_nil]); first | done | rfl | (simp only [List.length_drop, List.length_take]; rfl)) ?_
        with_reducible refine (laws_eqFarkas.calls k t393 _ _ t394 t409 _ _ t410 false _ ?side1 ?side2 ?side3 ?side4 A105.out).mono ?_
        (case side1 => exact mc ((Kd.R_reads' HO396.out).2.2))
        (case side2 => exact (Kd.R_reads' HO396.out).2.1)
        (case side3 => exact mc ((Kd.R_reads' HO412.out).2.2))
        (case side4 => exact (Kd.R_reads' HO412.out).2.1)
        rintro e w230 ⟨rfl, hb⟩
        refine ⟨_, rfl, ?_⟩
        replace HO373 := bS HO373 hb
        replace HO377 := rb HO377 hb
        replace HO381 := rb HO381 hb
        replace HO386 := bS HO386 hb
        replace HO391 := rb HO391 hb
        replace HO396 := rb HO396 hb
        replace HO402 := bS HO402 hb
        replace HO407 := rb HO407 hb
        replace HO412 := rb HO412 hb
        replace BK364 := bb BK364 hb
        replace BK365 := bb BK365 hb
        replace BK366 := bb BK366 hb
        replace BK387 := bb BK387 hb
        replace BK392 := bb BK392 hb
        replace BK397 := bb BK397 hb
        replace HB := bs HB hb
        (try clear hb)
        (try clear hb2)
        (try clear hk)
        (try clear hi)
        refine hK.out _ _ ⟨(c2 BK397).1, (c2 BK397).2, (c2 BK366).1, (c2 BK366).2⟩ (fun hHeld => ?_)
        clear hK K
        refine norm_ (a' := ?_) ?_ ?_
        rotate_left
        ·show Act.put _ (some 61) _ = _
         simp only [Act.put, List.setIfInBounds_toArray, List.set_cons_zero, List.set_cons_succ, i64_w, i32_w]
         rfl
        refine pure_ (i := 4) (N := some 62) (v := ?_) (a' := ?_) #[true, true, true, true, true] rfl rfl (by kernel_rfl) (fun _ _ _ h => h) (Or.inl ⟨by rfl, ?_⟩) ?_ ?_
        rotate_left
        ·intro w'
         go_simp
         with_reducible rfl
        rotate_left
        ·simp only [Act.put, List.setIfInBounds_toArray, List.set_cons_zero, List.set_cons_succ, i64_w, i32_w]
         rfl
        refine done_ (by kernel_rfl) ?_
        try go_wp2
        go_ret
        exact ⟨by first | rfl | (simp [errW_none, errW_some] <;> rfl) | (simp [*, errW_none, errW_some] <;> rfl), ms HB⟩
      ·replace c103 := Bool.eq_false_iff.mpr c103
       subst c103
       have H1 : (some false) = some r := by rw [if_neg (show ¬ (false = true) by decide)] at H; exact H
       clear H
       have H := H1
       clear H1
       obtain rfl := Option.some.inj H
       go_enter Try.func8, Try.ntmps8
       try go_wp2_with (first | ((with_reducible refine gate_dst (N := 3) rfl ?_); refine box_event ?hg (N := 3) ?hd (cs := #[.int .i64 a0_0, .slice A0_1 l0_1.length c0_1]) (t := 24) ?hr ?_; (case hd => rfl); (case hg => rfl); (case hr => first | (go_simp; done) | (go_simp; rfl)); intro gb364 hg w231 hbox hb; have BK364 := Aside0.mk (hbox); have GW364 := gw hg HB; have GE364 := gw hg HB; replace HB := bs HB hb; clear hb hbox hg) | ((with_reducible refine gate_dst (N := 4) rfl ?_); refine box_event ?hg (N := 4) ?hd (cs := #[.int .i64 a1_0, .slice A1_1 l1_1.length c1_1]) (t := 27) ?hr ?_; (case hd => rfl); (case hg => rfl); (case hr => first | (go_simp; done) | (go_simp; rfl)); intro gb365 hg w232 hbox hb; have BK365 := Aside0.mk (hbox); have GW365 := gw hg HB; have GE365 := gw hg HB; replace HB := bs HB hb; have NB364_365 := nl hg BK364; have NB365_364 := ng hg BK364; replace BK364 := bb BK364 hb; clear hb hbox hg) | ((with_reducible refine gate_dst (N := 5) rfl ?_); refine box_event ?hg (N := 5) ?hd (cs := #[.int .i64 a2_0, .slice A2_1 l2_1.length c2_1]) (t := 62) ?hr ?_; (case hd => rfl); (case hg => rfl); (case hr => first | (go_simp; done) | (go_simp; rfl)); intro gb366 hg w233 hbox hb; have BK366 := Aside0.mk (hbox); have GW366 := gw hg HB; have GE366 := gw hg HB; replace HB := bs HB hb; have NB364_366 := nl hg BK364; have NB366_364 := ng hg BK364; replace BK364 := bb BK364 hb; have NB365_366 := nl hg BK365; have NB366_365 := ng hg BK365; replace BK365 := bb BK365 hb; clear hb hbox hg; have hnb234 := NB364_365.out; have hnc234 := NB365_364.out; have hnb235 := NB364_366.out; have hnc235 := NB366_364.out; obtain ⟨hcz236_0, hcz236_1⟩ := c2 BK364; have hfz236_0 := blk_frozen BK364.out 0; have hfz236_1 := blk_frozen BK364.out 1) | ((with_reducible refine gate_callee (f := 11) rfl ?_); refine goesL_ (some 15) rfl rfl Try.func11 (by kernel_rfl) rfl #[.agg #[.int .i64 a0_0, .slice A0_1 l0_1.length c0_1], .int .i64 1048576] rfl (by (try simp only [List.map_toArray, List.map_cons, List.map_nil]); first | done | rfl | (simp only [List.length_drop, List.length_take]; rfl)) ?_; (with_reducible refine (laws_szSystem.calls k a0_0 _ _ l0_1 1048576 t367 _ ?side1 ?side2 A4.out).mono ?_); (case side1 => exact mc ((Kd.C_below HR0_1.out HB.out))); (case side2 => exact HC0_1.out); rintro e w237 ⟨rfl, hb⟩; refine ⟨_, rfl, ?_⟩; replace BK364 := bb BK364 hb; replace BK365 := bb BK365 hb; replace BK366 := bb BK366 hb; replace HB := bs HB hb; (try clear hb); have hnb238 := NB365_366.out; have hnc238 := NB366_365.out; obtain ⟨hcz239_0, hcz239_1⟩ := c2 BK365; have hfz239_0 := blk_frozen BK365.out 0; have hfz239_1 := blk_frozen BK365.out 1) | ((with_reducible refine gate_callee (f := 12) rfl ?_); refine goesL_ (some 20) rfl rfl Try.func12 (by kernel_rfl) rfl #[.agg #[.int .i64 a1_0, .slice A1_1 l1_1.length c1_1], .int .i64 t367] rfl (by (try simp only [List.map_toArray, List.map_cons, List.map_nil]); first | done | rfl | (simp only [List.length_drop, List.length_take]; rfl)) ?_; (with_reducible refine (laws_szLin.calls a1_0 _ _ l1_1 t367 t368 _ ?side1 ?side2 A13.out).mono ?_); (case side1 => exact mc ((Kd.C_below HR1_1.out HB.out))); (case side2 => exact HC1_1.out); rintro e w240 ⟨rfl, hb⟩; refine ⟨_, rfl, ?_⟩; replace BK364 := bb BK364 hb; replace BK365 := bb BK365 hb; replace BK366 := bb BK366 hb; replace HB := bs HB hb; (try clear hb); obtain ⟨hcz241_0, hcz241_1⟩ := c2 BK366; have hfz241_0 := blk_frozen BK366.out 0; have hfz241_1 := blk_frozen BK366.out 1) | ((with_reducible refine gate_callee (f := 45) rfl ?_); refine goesL_ (some 25) rfl rfl Try.func45 (by kernel_rfl) rfl #[.agg #[.int .i64 a2_0, .slice A2_1 l2_1.length c2_1], .int .i64 t368] rfl (by (try simp only [List.map_toArray, List.map_cons, List.map_nil]); first | done | rfl | (simp only [List.length_drop, List.length_take]; rfl)) ?_; (with_reducible refine (laws_szFarkas.calls a2_0 _ _ l2_1 t368 t369 _ ?side1 ?side2 A25.out).mono ?_); (case side1 => exact mc ((Kd.C_below HR2_1.out HB.out))); (case side2 => exact HC2_1.out); rintro e w242 ⟨rfl, hb⟩; refine ⟨_, rfl, ?_⟩; replace BK364 := bb BK364 hb; replace BK365 := bb BK365 hb; replace BK366 := bb BK366 hb; replace HB := bs HB hb; (try clear hb)))
       replace BK364 := Aside0.mk (blk_drew BK364.out)
       replace BK365 := Aside0.mk (blk_drew BK365.out)
       replace BK366 := Aside0.mk (blk_drew BK366.out)
       replace HB := Aside0.mk (below_drew1 HB.out)
       refine start_ (n := 8) (S := fun w' => w'.cell? ⟨gb364, 0, none⟩ = some (.int .i64 a0_0) ∧ w'.cell? ⟨gb364, 1, none⟩ = some (.slice A0_1 l0_1.length c0_1) ∧ w'.cell? ⟨gb365, 0, none⟩ = some (.int .i64 a1_0) ∧ w'.cell? ⟨gb365, 1, none⟩ = some (.slice A1_1 l1_1.length c1_1) ∧ w'.cell? ⟨gb366, 0, none⟩ = some (.int .i64 a2_0) ∧ w'.cell? ⟨gb366, 1, none⟩ = some (.slice A2_1 l2_1.length c2_1)) (ds := []) #[false, false, false, false, false, false, false, false] (by kernel_rfl) rfl rfl ⟨(c2 BK364).1, (c2 BK364).2, (c2 BK365).1, (c2 BK365).2, (c2 BK366).1, (c2 BK366).2⟩ (fun hHeld => ?_); refine with_tabW laws_FnExactCheckFarkas.tab11 laws_FnExactCheckFarkas.bits11 (fun HT_ HW_ => ?_)
       generalize w242.drew = w243 at BK364 BK365 BK366 HB hHeld ⊢
       refine take_ (i := 0) (N := some 28) (v := ?_) (a' := ?_) #[true, false, false, false, false, false, false, false] rfl rfl (take_ofW HT_.out HW_.out (by kernel_rfl)) (fun _ _ _ h => h) (Or.inl ⟨by rfl, ?_⟩) hHeld ?_ ?_
       rotate_left
       ·rintro w' ⟨s0, s1, s2, s3, s4, s5⟩
        go_simp
        with_reducible rfl
       rotate_left
       ·simp only [Act.put, List.setIfInBounds_toArray, List.set_cons_zero, List.set_cons_succ, i64_w, i32_w]
        rfl
       refine take_ (i := 2) (N := some 30) (v := ?_) (a' := ?_) #[true, false, true, false, false, false, false, false] rfl rfl (take_ofW HT_.out HW_.out (by kernel_rfl)) (fun _ _ _ h => h) (Or.inl ⟨by rfl, ?_⟩) hHeld ?_ ?_
       rotate_left
       ·rintro w' ⟨s0, s1, s2, s3, s4, s5⟩
        go_simp
        with_reducible rfl
       rotate_left
       ·simp only [Act.put, List.setIfInBounds_toArray, List.set_cons_zero, List.set_cons_succ, i64_w, i32_w]
        rfl
       refine take_ (i := 4) (N := some 32) (v := ?_) (a' := ?_) #[true, false, true, false, true, false, false, false] rfl rfl (take_ofW HT_.out HW_.out (by kernel_rfl)) (fun _ _ _ h => h) (Or.inl ⟨by rfl, ?_⟩) hHeld ?_ ?_
       rotate_left
       ·rintro w' ⟨s0, s1, s2, s3, s4, s5⟩
        go_simp
        with_reducible rfl
       rotate_left
       ·simp only [Act.put, List.setIfInBounds_toArray, List.set_cons_zero, List.set_cons_succ, i64_w, i32_w]
        rfl
       refine one_ (i := 1) (N := some 29) #[true, true, true, false, true, false, false, false] rfl rfl (one_of HT_.out (by kernel_rfl)) (by decide) (fun K hK => ?_)
       refine goes_ Try.func14 (by kernel_rfl) rfl #[.agg #[.int .i64 a0_0, .slice A0_1 l0_1.length c0_1]] (by rfl) rfl rfl (by (try simp only [List.map_toArray, List.map_cons, List.map_nil]); first | done | rfl | (simp only [List.length_drop, List.length_take]; rfl)) ?_
       with_reducible refine (laws_toSystem.calls k a0_0 _ _ l0_1 t370 t371 _ ?side1 ?side2 A39.out).mono ?_
       (case side1 => exact mc ((Kd.C_below HR0_1.out HB.out)))
       (case side2 => exact HC0_1.out)
       rintro e w244 ⟨v372, rfl, ho0, hb⟩
       refine ⟨_, rfl, ?_⟩
       have HO373 := Aside0.mk (Kd.S_lower ho0 (below_size (ms HB)))
       replace BK364 := bb BK364 hb
       replace BK365 := bb BK365 hb
       replace BK366 := bb BK366 hb
       replace HB := bs HB hb
       (try clear hb)
       (try clear hb2)
       (try clear hk)
       (try clear hi)
       (try clear ho0)
       refine hK.out _ _ ⟨(c2 BK364).1, (c2 BK364).2, (c2 BK365).1, (c2 BK365).2, (c2 BK366).1, (c2 BK366).2⟩ (fun hHeld => ?_)
       clear hK K
       refine norm_ (a' := ?_) ?_ ?_
       rotate_left
       ·show Act.put _ (some 29) _ = _
        simp only [Act.put, List.setIfInBounds_toArray, List.set_cons_zero, List.set_cons_succ, i64_w, i32_w]
        rfl
       refine one_ (i := 3) (N := some 31) #[true, true, true, true, true, false, false, false] rfl rfl (one_of HT_.out (by kernel_rfl)) (by decide) (fun K hK => ?_)
       refine goes_ Try.func15 (by kernel_rfl) rfl #[.agg #[.int .i64 a1_0, .slice A1_1 l1_1.length c1_1]] (by rfl) rfl rfl (by (try simp only [List.map_toArray, List.map_cons, List.map_nil]); first | done | rfl | (simp only [List.length_drop, List.length_take]; rfl)) ?_
       with_reducible refine (laws_toLin.calls k a1_0 _ _ l1_1 t374 t375 _ ?side1 ?side2 A40.out).mono ?_
       (case side1 => exact mc ((Kd.C_below HR1_1.out HB.out)))
       (case side2 => exact HC1_1.out)
       rintro e w245 ⟨v376, rfl, ho0, hb⟩
       refine ⟨_, rfl, ?_⟩
       replace HO373 := lS HO373 ho0 hb
       have HO377 := Aside0.mk (Kd.R_lower ho0 (below_size (ms HB)))
       replace BK364 := bb BK364 hb
       replace BK365 := bb BK365 hb
       replace BK366 := bb BK366 hb
       replace HB := bs HB hb
       (try clear hb)
       (try clear hb2)
       (try clear hk)
       (try clear hi)
       (try clear ho0)
       refine hK.out _ _ ⟨(c2 BK364).1, (c2 BK364).2, (c2 BK365).1, (c2 BK365).2, (c2 BK366).1, (c2 BK366).2⟩ (fun hHeld => ?_)
       clear hK K
       refine norm_ (a' := ?_) ?_ ?_
       rotate_left
       ·show Act.put _ (some 31) _ = _
        simp only [Act.put, List.setIfInBounds_toArray, List.set_cons_zero, List.set_cons_succ, i64_w, i32_w]
        rfl
       refine one_ (i := 5) (N := some 33) #[true, true, true, true, true, true, false, false] rfl rfl (one_of HT_.out (by kernel_rfl)) (by decide) (fun K hK => ?_)
       refine goes_ Try.func47 (by kernel_rfl) rfl #[.agg #[.int .i64 a2_0, .slice A2_1 l2_1.length c2_1]] (by rfl) rfl rfl (by (try simp only [List.map_toArray, List.map_cons, List.map_nil]); first | done | rfl | (simp only [List.length_drop, List.length_take]; rfl)) ?_
       with_reducible refine (laws_toFarkas.calls k a2_0 _ _ l2_1 t378 t379 _ ?side1 ?side2 A41.out).mono ?_
       (case side1 => exact mc ((Kd.C_below HR2_1.out HB.out)))
       (case side2 => exact HC2_1.out)
       rintro e w246 ⟨v380, rfl, ho0, hb⟩
       refine ⟨_, rfl, ?_⟩
       replace HO373 := lS HO373 ho0 hb
       have HO381 := Aside0.mk (Kd.R_lower (Kd.R_new' ho0 (Kd.R_lt (mr HO377))) (below_size (ms HB)))
       replace HO377 := rl HO377 ho0 hb
       replace BK364 := bb BK364 hb
       replace BK365 := bb BK365 hb
       replace BK366 := bb BK366 hb
       replace HB := bs HB hb
       (try clear hb)
       (try clear hb2)
       (try clear hk)
       (try clear hi)
       (try clear ho0)
       obtain ⟨Ao247, co247, eo247⟩ := Kd.S_slice HO373.out
       (first | subst eo247 | (injection eo247 with f1_ f2_ f3_; have f4_ := f1_.symm; have f5_ := f3_.symm; clear f1_ f2_ f3_; subst f4_; subst f5_))
       obtain ⟨Ao248, co248, eo248⟩ := Kd.R_slice HO377.out
       (first | subst eo248 | (injection eo248 with f1_ f2_ f3_; have f4_ := f1_.symm; have f5_ := f3_.symm; clear f1_ f2_ f3_; subst f4_; subst f5_))
       obtain ⟨Ao249, co249, eo249⟩ := Kd.R_slice HO381.out
       (first | subst eo249 | (injection eo249 with f1_ f2_ f3_; have f4_ := f1_.symm; have f5_ := f3_.symm; clear f1_ f2_ f3_; subst f4_; subst f5_))
       refine hK.out _ _ ⟨(c2 BK364).1, (c2 BK364).2, (c2 BK365).1, (c2 BK365).2, (c2 BK366).1, (c2 BK366).2⟩ (fun hHeld => ?_)
       clear hK K
       refine norm_ (a' := ?_) ?_ ?_
       rotate_left
       ·show Act.put _ (some 33) _ = _
        simp only [Act.put, List.setIfInBounds_toArray, List.set_cons_zero, List.set_cons_succ, i64_w, i32_w]
        rfl
       refine one_ (i := 6) (N := some 34) #[true, true, true, true, true, true, true, false] rfl rfl (one_of HT_.out (by kernel_rfl)) (by decide) (fun K hK => ?_)
       refine goes_ Try.func46 (by kernel_rfl) rfl #[.agg #[.int .i64 t370, .slice Ao247 t371.length co247], .agg #[.int .i64 t374, .slice Ao248 t375.length co248], .agg #[.int .i64 t378, .slice Ao249 t379.length co249]] (by rfl) rfl rfl (by (try simp only [List.map_toArray, List.map_cons, List.map_nil]); first | done | rfl | (simp only [List.length_drop, List.length_take]; rfl)) ?_
       with_reducible refine (spec_CheckFarkas.calls k t370 _ _ t371 t374 _ _ t375 t378 _ _ t379 t382 _ ?side1 ?side2 ?side3 ?side4 ?side5 ?side6 A42.out).mono ?_
       (case side1 => exact mc ((Kd.S_reads' HO373.out).2.2))
       (case side2 => exact (Kd.S_reads' HO373.out).2.1)
       (case side3 => exact mc ((Kd.R_reads' HO377.out).2.2))
       (case side4 => exact (Kd.R_reads' HO377.out).2.1)
       (case side5 => exact mc ((Kd.R_reads' HO381.out).2.2))
       (case side6 => exact (Kd.R_reads' HO381.out).2.1)
       rintro e w250 ⟨rfl, hb⟩
       refine ⟨_, rfl, ?_⟩
       replace HO373 := bS HO373 hb
       replace HO377 := rb HO377 hb
       replace HO381 := rb HO381 hb
       replace BK364 := bb BK364 hb
       replace BK365 := bb BK365 hb
       replace BK366 := bb BK366 hb
       replace HB := bs HB hb
       (try clear hb)
       (try clear hb2)
       (try clear hk)
       (try clear hi)
       refine hK.out _ _ ⟨(c2 BK364).1, (c2 BK364).2, (c2 BK365).1, (c2 BK365).2, (c2 BK366).1, (c2 BK366).2⟩ (fun hHeld => ?_)
       clear hK K
       refine norm_ (a' := ?_) ?_ ?_
       rotate_left
       ·show Act.put _ (some 34) _ = _
        simp only [Act.put, List.setIfInBounds_toArray, List.set_cons_zero, List.set_cons_succ, i64_w, i32_w]
        rfl
       refine pure_ (i := 7) (N := some 8) (v := ?_) (a' := ?_) #[true, true, true, true, true, true, true, true] rfl rfl (any_of HT_.out (by kernel_rfl)) (fun _ _ _ h => h) (Or.inl ⟨by rfl, ?_⟩) ?_ ?_
       rotate_left
       ·intro w'
        go_simp
        with_reducible rfl
       rotate_left
       ·simp only [Act.put, List.setIfInBounds_toArray, List.set_cons_zero, List.set_cons_succ, i64_w, i32_w]
        rfl
       refine done_ (done_of HT_.out (by kernel_rfl)) ?_
       obtain ⟨hcz251_0, hcz251_1⟩ := c2 BK364
       have hfz251_0 := blk_frozen BK364.out 0
       have hfz251_1 := blk_frozen BK364.out 1
       try go_wp2_with (first | ((with_reducible refine gate_callee (f := 14) rfl ?_); refine goesL_ (some 36) rfl rfl Try.func14 (by kernel_rfl) rfl #[.agg #[.int .i64 a0_0, .slice A0_1 l0_1.length c0_1]] rfl (by (try simp only [List.map_toArray, List.map_cons, List.map_nil]); first | done | rfl | (simp only [List.length_drop, List.length_take]; rfl)) ?_; (with_reducible refine (laws_toSystem.calls k a0_0 _ _ l0_1 t383 t384 _ ?side1 ?side2 A43.out).mono ?_); (case side1 => exact mc ((Kd.C_below HR0_1.out HB.out))); (case side2 => exact HC0_1.out); rintro e w252 ⟨v385, rfl, ho0, hb⟩; refine ⟨_, rfl, ?_⟩; have HO386 := Aside0.mk (Kd.S_lower (Kd.S_new' (Kd.S_new' (Kd.S_new' ho0 (Kd.S_lt (mS HO373))) (Kd.R_lt (mr HO377))) (Kd.R_lt (mr HO381))) (below_size (ms HB))); replace HO373 := Aside0.mk (Kd.S_elder' (mS HO373) (Kd.S_base ho0) hb); replace HO377 := rb HO377 hb; replace HO381 := rb HO381 hb; replace BK364 := bb BK364 hb; replace BK365 := bb BK365 hb; replace BK366 := bb BK366 hb; replace HB := bs HB hb; (try clear hb); (try clear ho0)) | ((with_reducible refine gate_dst (N := 9) rfl ?_); refine box_event ?hg (N := 9) ?hd (cs := #[.int .i64 0, .slice none 0 0]) (t := 32) ?hr ?_; (case hd => rfl); (case hg => rfl); (case hr => first | (go_simp; done) | (go_simp; rfl)); intro gb387 hg w253 hbox hb; replace HO373 := bS HO373 hb; replace HO377 := rb HO377 hb; replace HO381 := rb HO381 hb; replace HO386 := bS HO386 hb; have BK387 := Aside0.mk (hbox); have GW387 := gw hg HB; have GE387 := gw hg HB; replace HB := bs HB hb; have NB364_387 := nl hg BK364; have NB387_364 := ng hg BK364; replace BK364 := bb BK364 hb; have NB365_387 := nl hg BK365; have NB387_365 := ng hg BK365; replace BK365 := bb BK365 hb; have NB366_387 := nl hg BK366; have NB387_366 := ng hg BK366; replace BK366 := bb BK366 hb; clear hb hbox hg; have hnb254 := NB387_364.out; have hnc254 := NB364_387.out; have hnb255 := NB387_365.out; have hnc255 := NB365_387.out; have hnb256 := NB387_366.out; have hnc256 := NB366_387.out; obtain ⟨hcz257_0, hcz257_1⟩ := c2 BK387; have hfz257_0 := blk_frozen BK387.out 0; have hfz257_1 := blk_frozen BK387.out 1; obtain ⟨Ao258, co258, eo258⟩ := Kd.S_slice HO386.out; subst eo258; obtain ⟨hcz259_0, hcz259_1⟩ := c2 BK365; have hfz259_0 := blk_frozen BK365.out 0; have hfz259_1 := blk_frozen BK365.out 1) | ((with_reducible refine gate_callee (f := 15) rfl ?_); refine goesL_ (some 38) rfl rfl Try.func15 (by kernel_rfl) rfl #[.agg #[.int .i64 a1_0, .slice A1_1 l1_1.length c1_1]] rfl (by (try simp only [List.map_toArray, List.map_cons, List.map_nil]); first | done | rfl | (simp only [List.length_drop, List.length_take]; rfl)) ?_; (with_reducible refine (laws_toLin.calls k a1_0 _ _ l1_1 t388 t389 _ ?side1 ?side2 A44.out).mono ?_); (case side1 => exact Kd.C_below HR1_1.out (ms HB)); (case side2 => exact HC1_1.out); rintro e w260 ⟨v390, rfl, ho0, hb⟩; refine ⟨_, rfl, ?_⟩; have n0_ := Aside0.mk (Kd.S_elder' (by (with_reducible repeat (first | apply Kd.S_alloc | apply Kd.S_drewN | apply Kd.S_drew)); exact (Kd.S_mono (Kd.S_far (p := ⟨gb387, 1, none⟩) (Kd.S_far (p := ⟨gb387, 0, none⟩) (Kd.S_types HO373.out BK387.out (by decide)) (fun _ hk => hk.2) (.int .i64 t383)) (fun _ hk => hk.2) (.slice Ao258 t384.length co258)) (fun _ h_ => h_.1))) (Kd.R_base ho0) hb); have n1_ := Aside0.mk (Kd.R_elder' (by (with_reducible repeat (first | apply Kd.R_alloc | apply Kd.R_drewN | apply Kd.R_drew)); exact (Kd.R_mono (Kd.R_far (p := ⟨gb387, 1, none⟩) (Kd.R_far (p := ⟨gb387, 0, none⟩) (Kd.R_types HO377.out BK387.out (by decide)) (fun _ hk => hk.2) (.int .i64 t383)) (fun _ hk => hk.2) (.slice Ao258 t384.length co258)) (fun _ h_ => h_.1))) (Kd.R_base ho0) hb); have n2_ := Aside0.mk (Kd.R_elder' (by (with_reducible repeat (first | apply Kd.R_alloc | apply Kd.R_drewN | apply Kd.R_drew)); exact (Kd.R_mono (Kd.R_far (p := ⟨gb387, 1, none⟩) (Kd.R_far (p := ⟨gb387, 0, none⟩) (Kd.R_types HO381.out BK387.out (by decide)) (fun _ hk => hk.2) (.int .i64 t383)) (fun _ hk => hk.2) (.slice Ao258 t384.length co258)) (fun _ h_ => h_.1))) (Kd.R_base ho0) hb); have n3_ := Aside0.mk (Kd.S_elder' (by (with_reducible repeat (first | apply Kd.S_alloc | apply Kd.S_drewN | apply Kd.S_drew)); exact (Kd.S_mono (Kd.S_far (p := ⟨gb387, 1, none⟩) (Kd.S_far (p := ⟨gb387, 0, none⟩) (Kd.S_types HO386.out BK387.out (by decide)) (fun _ hk => hk.2) (.int .i64 t383)) (fun _ hk => hk.2) (.slice Ao258 t384.length co258)) (fun _ h_ => h_.1))) (Kd.R_base ho0) hb); have n4_ := Aside0.mk (Kd.R_lower (Kd.R_new' (Kd.R_new' ho0 (Kd.R_lt (by (with_reducible repeat (first | apply Kd.R_alloc | apply Kd.R_drewN | apply Kd.R_drew)); exact (Kd.R_mono (Kd.R_far (p := ⟨gb387, 1, none⟩) (Kd.R_far (p := ⟨gb387, 0, none⟩) (Kd.R_types HO377.out BK387.out (by decide)) (fun _ hk => hk.2) (.int .i64 t383)) (fun _ hk => hk.2) (.slice Ao258 t384.length co258)) (fun _ h_ => h_.1))))) (Kd.R_lt (by (with_reducible repeat (first | apply Kd.R_alloc | apply Kd.R_drewN | apply Kd.R_drew)); exact (Kd.R_mono (Kd.R_far (p := ⟨gb387, 1, none⟩) (Kd.R_far (p := ⟨gb387, 0, none⟩) (Kd.R_types HO381.out BK387.out (by decide)) (fun _ hk => hk.2) (.int .i64 t383)) (fun _ hk => hk.2) (.slice Ao258 t384.length co258)) (fun _ h_ => h_.1))))) (below_size (ms HB))); have n5_ := bf BK364 hb; have n6_ := bf BK365 hb; have n7_ := bf BK366 hb; have n8_ := Aside0.mk (blk_below (g := gb387) (o := .cells #[.int .i64 t383, .slice Ao258 t384.length co258] 32 (0, 0)) (by (with_reducible repeat (first | refine blk_drewN ?_ _ | refine blk_drew ?_ | refine blk_alloc ?_ _)); refine blk_put (cs := #[.int .i64 t383, .slice none 0 0]) ?_ 1 _ rfl; (with_reducible repeat (first | refine blk_drewN ?_ _ | refine blk_drew ?_ | refine blk_alloc ?_ _)); refine blk_put (cs := #[.int .i64 0, .slice none 0 0]) ?_ 0 _ rfl; (with_reducible repeat (first | refine blk_drewN ?_ _ | refine blk_drew ?_ | refine blk_alloc ?_ _)); exact BK387.out) hb); have n9_ := bs HB hb; clear HO373 HO377 HO381 HO386 BK364 BK365 BK366 BK387 HB; have HO373 := n0_; have HO377 := n1_; have HO381 := n2_; have HO386 := n3_; have HO391 := n4_; have BK364 := n5_; have BK365 := n6_; have BK366 := n7_; have BK387 := n8_; have HB := n9_; clear n0_ n1_ n2_ n3_ n4_ n5_ n6_ n7_ n8_ n9_; (try clear hb); (try clear ho0)) | ((with_reducible refine gate_dst (N := 10) rfl ?_); refine box_event ?hg (N := 10) ?hd (cs := #[.int .i64 0, .slice none 0 0]) (t := 36) ?hr ?_; (case hd => rfl); (case hg => rfl); (case hr => first | (go_simp; done) | (go_simp; rfl)); intro gb392 hg w261 hbox hb; replace HO373 := Aside0.mk (Kd.S_below (Kd.S_elderB (mS HO373) gb392 (Nat.le_of_eq hg.symm)) hb); replace HO377 := rb HO377 hb; replace HO381 := rb HO381 hb; replace HO386 := Aside0.mk (Kd.S_below (Kd.S_elderB (mS HO386) gb392 (Nat.le_of_eq hg.symm)) hb); replace HO391 := rb HO391 hb; have BK392 := Aside0.mk (hbox); have GW392 := gw hg HB; have GE392 := gw hg HB; replace HB := bs HB hb; have NB364_392 := nl hg BK364; have NB392_364 := ng hg BK364; replace BK364 := bb BK364 hb; have NB365_392 := nl hg BK365; have NB392_365 := ng hg BK365; replace BK365 := bb BK365 hb; have NB366_392 := nl hg BK366; have NB392_366 := ng hg BK366; replace BK366 := bb BK366 hb; have NB387_392 := nl hg BK387; have NB392_387 := ng hg BK387; replace BK387 := bb BK387 hb; clear hb hbox hg; have hnb262 := NB392_364.out; have hnc262 := NB364_392.out; have hnb263 := NB392_365.out; have hnc263 := NB365_392.out; have hnb264 := NB392_366.out; have hnc264 := NB366_392.out; have hnb265 := NB392_387.out; have hnc265 := NB387_392.out; obtain ⟨hcz266_0, hcz266_1⟩ := c2 BK392; have hfz266_0 := blk_frozen BK392.out 0; have hfz266_1 := blk_frozen BK392.out 1; obtain ⟨Ao267, co267, eo267⟩ := Kd.R_slice HO391.out; subst eo267; obtain ⟨hcz268_0, hcz268_1⟩ := c2 BK366; have hfz268_0 := blk_frozen BK366.out 0; have hfz268_1 := blk_frozen BK366.out 1) | ((with_reducible refine gate_callee (f := 47) rfl ?_); refine goesL_ (some 40) rfl rfl Try.func47 (by kernel_rfl) rfl #[.agg #[.int .i64 a2_0, .slice A2_1 l2_1.length c2_1]] rfl (by (try simp only [List.map_toArray, List.map_cons, List.map_nil]); first | done | rfl | (simp only [List.length_drop, List.length_take]; rfl)) ?_; (with_reducible refine (laws_toFarkas.calls k a2_0 _ _ l2_1 t393 t394 _ ?side1 ?side2 A45.out).mono ?_); (case side1 => exact Kd.C_below HR2_1.out (ms HB)); (case side2 => exact HC2_1.out); rintro e w269 ⟨v395, rfl, ho0, hb⟩; refine ⟨_, rfl, ?_⟩; have n0_ := Aside0.mk (Kd.S_elder' (by (with_reducible repeat (first | apply Kd.S_alloc | apply Kd.S_drewN | apply Kd.S_drew)); exact (Kd.S_mono (Kd.S_far (p := ⟨gb392, 1, none⟩) (Kd.S_far (p := ⟨gb392, 0, none⟩) (Kd.S_mono HO373.out (fun k_ hk => (⟨hk, hk.2⟩ : _ ∧ k_ ≠ gb392))) (fun _ hk => hk.2) (.int .i64 t388)) (fun _ hk => hk.2) (.slice Ao267 t389.length co267)) (fun _ h_ => h_.1))) (Kd.R_base ho0) hb); have n1_ := Aside0.mk (Kd.R_elder' (by (with_reducible repeat (first | apply Kd.R_alloc | apply Kd.R_drewN | apply Kd.R_drew)); exact (Kd.R_mono (Kd.R_far (p := ⟨gb392, 1, none⟩) (Kd.R_far (p := ⟨gb392, 0, none⟩) (Kd.R_types HO377.out BK392.out (by decide)) (fun _ hk => hk.2) (.int .i64 t388)) (fun _ hk => hk.2) (.slice Ao267 t389.length co267)) (fun _ h_ => h_.1))) (Kd.R_base ho0) hb); have n2_ := Aside0.mk (Kd.R_elder' (by (with_reducible repeat (first | apply Kd.R_alloc | apply Kd.R_drewN | apply Kd.R_drew)); exact (Kd.R_mono (Kd.R_far (p := ⟨gb392, 1, none⟩) (Kd.R_far (p := ⟨gb392, 0, none⟩) (Kd.R_types HO381.out BK392.out (by decide)) (fun _ hk => hk.2) (.int .i64 t388)) (fun _ hk => hk.2) (.slice Ao267 t389.length co267)) (fun _ h_ => h_.1))) (Kd.R_base ho0) hb); have n3_ := Aside0.mk (Kd.S_elder' (by (with_reducible repeat (first | apply Kd.S_alloc | apply Kd.S_drewN | apply Kd.S_drew)); exact (Kd.S_mono (Kd.S_far (p := ⟨gb392, 1, none⟩) (Kd.S_far (p := ⟨gb392, 0, none⟩) (Kd.S_mono HO386.out (fun k_ hk => (⟨hk, hk.2⟩ : _ ∧ k_ ≠ gb392))) (fun _ hk => hk.2) (.int .i64 t388)) (fun _ hk => hk.2) (.slice Ao267 t389.length co267)) (fun _ h_ => h_.1))) (Kd.R_base ho0) hb); have n4_ := Aside0.mk (Kd.R_elder' (by (with_reducible repeat (first | apply Kd.R_alloc | apply Kd.R_drewN | apply Kd.R_drew)); exact (Kd.R_mono (Kd.R_far (p := ⟨gb392, 1, none⟩) (Kd.R_far (p := ⟨gb392, 0, none⟩) (Kd.R_types HO391.out BK392.out (by decide)) (fun _ hk => hk.2) (.int .i64 t388)) (fun _ hk => hk.2) (.slice Ao267 t389.length co267)) (fun _ h_ => h_.1))) (Kd.R_base ho0) hb); have n5_ := Aside0.mk (Kd.R_lower (Kd.R_new' (Kd.R_new' (Kd.R_new' ho0 (Kd.R_lt (by (with_reducible repeat (first | apply Kd.R_alloc | apply Kd.R_drewN | apply Kd.R_drew)); exact (Kd.R_mono (Kd.R_far (p := ⟨gb392, 1, none⟩) (Kd.R_far (p := ⟨gb392, 0, none⟩) (Kd.R_types HO377.out BK392.out (by decide)) (fun _ hk => hk.2) (.int .i64 t388)) (fun _ hk => hk.2) (.slice Ao267 t389.length co267)) (fun _ h_ => h_.1))))) (Kd.R_lt (by (with_reducible repeat (first | apply Kd.R_alloc | apply Kd.R_drewN | apply Kd.R_drew)); exact (Kd.R_mono (Kd.R_far (p := ⟨gb392, 1, none⟩) (Kd.R_far (p := ⟨gb392, 0, none⟩) (Kd.R_types HO381.out BK392.out (by decide)) (fun _ hk => hk.2) (.int .i64 t388)) (fun _ hk => hk.2) (.slice Ao267 t389.length co267)) (fun _ h_ => h_.1))))) (Kd.R_lt (by (with_reducible repeat (first | apply Kd.R_alloc | apply Kd.R_drewN | apply Kd.R_drew)); exact (Kd.R_mono (Kd.R_far (p := ⟨gb392, 1, none⟩) (Kd.R_far (p := ⟨gb392, 0, none⟩) (Kd.R_types HO391.out BK392.out (by decide)) (fun _ hk => hk.2) (.int .i64 t388)) (fun _ hk => hk.2) (.slice Ao267 t389.length co267)) (fun _ h_ => h_.1))))) (below_size (ms HB))); have n6_ := bf BK364 hb; have n7_ := bf BK365 hb; have n8_ := bf BK366 hb; have n9_ := bf BK387 hb; have n10_ := Aside0.mk (blk_below (g := gb392) (o := .cells #[.int .i64 t388, .slice Ao267 t389.length co267] 36 (0, 0)) (by (with_reducible repeat (first | refine blk_drewN ?_ _ | refine blk_drew ?_ | refine blk_alloc ?_ _)); refine blk_put (cs := #[.int .i64 t388, .slice none 0 0]) ?_ 1 _ rfl; (with_reducible repeat (first | refine blk_drewN ?_ _ | refine blk_drew ?_ | refine blk_alloc ?_ _)); refine blk_put (cs := #[.int .i64 0, .slice none 0 0]) ?_ 0 _ rfl; (with_reducible repeat (first | refine blk_drewN ?_ _ | refine blk_drew ?_ | refine blk_alloc ?_ _)); exact BK392.out) hb); have n11_ := bs HB hb; clear HO373 HO377 HO381 HO386 HO391 BK364 BK365 BK366 BK387 BK392 HB; have HO373 := n0_; have HO377 := n1_; have HO381 := n2_; have HO386 := n3_; have HO391 := n4_; have HO396 := n5_; have BK364 := n6_; have BK365 := n7_; have BK366 := n8_; have BK387 := n9_; have BK392 := n10_; have HB := n11_; clear n0_ n1_ n2_ n3_ n4_ n5_ n6_ n7_ n8_ n9_ n10_ n11_; (try clear hb); (try clear ho0)) | ((with_reducible refine gate_dst (N := 11) rfl ?_); refine box_event ?hg (N := 11) ?hd (cs := #[.int .i64 0, .slice none 0 0]) (t := 65) ?hr ?_; (case hd => rfl); (case hg => rfl); (case hr => first | (go_simp; done) | (go_simp; rfl)); intro gb397 hg w270 hbox hb; replace HO373 := bS HO373 hb; replace HO377 := rb HO377 hb; replace HO381 := rb HO381 hb; replace HO386 := bS HO386 hb; replace HO391 := rb HO391 hb; replace HO396 := rb HO396 hb; have BK397 := Aside0.mk (hbox); have GW397 := gw hg HB; have GE397 := gw hg HB; replace HB := bs HB hb; have NB364_397 := nl hg BK364; have NB397_364 := ng hg BK364; replace BK364 := bb BK364 hb; have NB365_397 := nl hg BK365; have NB397_365 := ng hg BK365; replace BK365 := bb BK365 hb; have NB366_397 := nl hg BK366; have NB397_366 := ng hg BK366; replace BK366 := bb BK366 hb; have NB387_397 := nl hg BK387; have NB397_387 := ng hg BK387; replace BK387 := bb BK387 hb; have NB392_397 := nl hg BK392; have NB397_392 := ng hg BK392; replace BK392 := bb BK392 hb; clear hb hbox hg; have hnb271 := NB397_364.out; have hnc271 := NB364_397.out; have hnb272 := NB397_365.out; have hnc272 := NB365_397.out; have hnb273 := NB397_366.out; have hnc273 := NB366_397.out; have hnb274 := NB397_387.out; have hnc274 := NB387_397.out; have hnb275 := NB397_392.out; have hnc275 := NB392_397.out; obtain ⟨hcz276_0, hcz276_1⟩ := c2 BK397; have hfz276_0 := blk_frozen BK397.out 0; have hfz276_1 := blk_frozen BK397.out 1; obtain ⟨Ao277, co277, eo277⟩ := Kd.R_slice HO396.out; subst eo277; obtain ⟨hcz278_0, hcz278_1⟩ := c2 BK387; have hfz278_0 := blk_frozen BK387.out 0; have hfz278_1 := blk_frozen BK387.out 1; obtain ⟨hcz279_0, hcz279_1⟩ := c2 BK392; have hfz279_0 := blk_frozen BK392.out 0; have hfz279_1 := blk_frozen BK392.out 1) | ((with_reducible refine gate_callee (f := 48) rfl ?_); refine goesL_ (some 44) rfl rfl Try.func48 (by kernel_rfl) rfl #[.agg #[.int .i64 t383, .slice Ao258 t384.length co258], .agg #[.int .i64 t388, .slice Ao267 t389.length co267], .agg #[.int .i64 t393, .slice Ao277 t394.length co277]] rfl (by (try simp only [List.map_toArray, List.map_cons, List.map_nil]); first | done | rfl | (simp only [List.length_drop, List.length_take]; rfl)) ?_; (with_reducible refine (impl_CheckFarkas.calls k t383 _ _ t384 t388 _ _ t389 t393 _ _ t394 t398 _ ?side1 ?side2 ?side3 ?side4 ?side5 ?side6 A46.out).mono ?_); (case side1 => refine (Kd.S_reads' (e := 36) (base := w.heap.size) (ok := fun k_ => ((((((True ∧ some k_ ≠ (.slice Ao247 t371.length co247 : Value).ownBlock) ∧ some k_ ≠ (.slice Ao248 t375.length co248 : Value).ownBlock) ∧ some k_ ≠ (.slice Ao249 t379.length co249 : Value).ownBlock) ∧ some k_ ≠ (.slice Ao267 t389.length co267 : Value).ownBlock) ∧ k_ ≠ gb392) ∧ some k_ ≠ (.slice Ao277 t394.length co277 : Value).ownBlock)) (n := t384.length) (c := co258) ?_).2.2; exact (by (with_reducible repeat (first | apply Kd.S_alloc | apply Kd.S_drewN | apply Kd.S_drew)); exact (Kd.S_mono (Kd.S_far (p := ⟨gb397, 1, none⟩) (Kd.S_far (p := ⟨gb397, 0, none⟩) (Kd.S_types HO386.out BK397.out (by decide)) (fun _ hk => hk.2) (.int .i64 t393)) (fun _ hk => hk.2) (.slice Ao277 t394.length co277)) (fun _ h_ => h_.1)))); (case side2 => exact (Kd.S_reads' HO386.out).2.1); (case side3 => refine (Kd.R_reads' (e := 3) (base := w.heap.size) (ok := fun k_ => (((True ∧ some k_ ≠ (.slice Ao248 t375.length co248 : Value).ownBlock) ∧ some k_ ≠ (.slice Ao249 t379.length co249 : Value).ownBlock) ∧ some k_ ≠ (.slice Ao277 t394.length co277 : Value).ownBlock)) (n := t389.length) (c := co267) ?_).2.2; exact (by (with_reducible repeat (first | apply Kd.R_alloc | apply Kd.R_drewN | apply Kd.R_drew)); exact (Kd.R_mono (Kd.R_far (p := ⟨gb397, 1, none⟩) (Kd.R_far (p := ⟨gb397, 0, none⟩) (Kd.R_types HO391.out BK397.out (by decide)) (fun _ hk => hk.2) (.int .i64 t393)) (fun _ hk => hk.2) (.slice Ao277 t394.length co277)) (fun _ h_ => h_.1)))); (case side4 => exact (Kd.R_reads' HO391.out).2.1); (case side5 => refine (Kd.R_reads' (e := 3) (base := w.heap.size) (ok := fun k_ => (((True ∧ some k_ ≠ (.slice Ao248 t375.length co248 : Value).ownBlock) ∧ some k_ ≠ (.slice Ao249 t379.length co249 : Value).ownBlock) ∧ some k_ ≠ (.slice Ao267 t389.length co267 : Value).ownBlock)) (n := t394.length) (c := co277) ?_).2.2; exact (by (with_reducible repeat (first | apply Kd.R_alloc | apply Kd.R_drewN | apply Kd.R_drew)); exact (Kd.R_mono (Kd.R_far (p := ⟨gb397, 1, none⟩) (Kd.R_far (p := ⟨gb397, 0, none⟩) (Kd.R_types HO396.out BK397.out (by decide)) (fun _ hk => hk.2) (.int .i64 t393)) (fun _ hk => hk.2) (.slice Ao277 t394.length co277)) (fun _ h_ => h_.1)))); (case side6 => exact (Kd.R_reads' HO396.out).2.1); rintro e w280 ⟨rfl, hb⟩; refine ⟨_, rfl, ?_⟩; have n0_ := Aside0.mk (Kd.S_below (by (with_reducible repeat (first | apply Kd.S_alloc | apply Kd.S_drewN | apply Kd.S_drew)); exact (Kd.S_mono (Kd.S_far (p := ⟨gb397, 1, none⟩) (Kd.S_far (p := ⟨gb397, 0, none⟩) (Kd.S_types HO373.out BK397.out (by decide)) (fun _ hk => hk.2) (.int .i64 t393)) (fun _ hk => hk.2) (.slice Ao277 t394.length co277)) (fun _ h_ => h_.1))) hb); have n1_ := Aside0.mk (Kd.R_below (by (with_reducible repeat (first | apply Kd.R_alloc | apply Kd.R_drewN | apply Kd.R_drew)); exact (Kd.R_mono (Kd.R_far (p := ⟨gb397, 1, none⟩) (Kd.R_far (p := ⟨gb397, 0, none⟩) (Kd.R_types HO377.out BK397.out (by decide)) (fun _ hk => hk.2) (.int .i64 t393)) (fun _ hk => hk.2) (.slice Ao277 t394.length co277)) (fun _ h_ => h_.1))) hb); have n2_ := Aside0.mk (Kd.R_below (by (with_reducible repeat (first | apply Kd.R_alloc | apply Kd.R_drewN | apply Kd.R_drew)); exact (Kd.R_mono (Kd.R_far (p := ⟨gb397, 1, none⟩) (Kd.R_far (p := ⟨gb397, 0, none⟩) (Kd.R_types HO381.out BK397.out (by decide)) (fun _ hk => hk.2) (.int .i64 t393)) (fun _ hk => hk.2) (.slice Ao277 t394.length co277)) (fun _ h_ => h_.1))) hb); have n3_ := Aside0.mk (Kd.S_below (by (with_reducible repeat (first | apply Kd.S_alloc | apply Kd.S_drewN | apply Kd.S_drew)); exact (Kd.S_mono (Kd.S_far (p := ⟨gb397, 1, none⟩) (Kd.S_far (p := ⟨gb397, 0, none⟩) (Kd.S_types HO386.out BK397.out (by decide)) (fun _ hk => hk.2) (.int .i64 t393)) (fun _ hk => hk.2) (.slice Ao277 t394.length co277)) (fun _ h_ => h_.1))) hb); have n4_ := Aside0.mk (Kd.R_below (by (with_reducible repeat (first | apply Kd.R_alloc | apply Kd.R_drewN | apply Kd.R_drew)); exact (Kd.R_mono (Kd.R_far (p := ⟨gb397, 1, none⟩) (Kd.R_far (p := ⟨gb397, 0, none⟩) (Kd.R_types HO391.out BK397.out (by decide)) (fun _ hk => hk.2) (.int .i64 t393)) (fun _ hk => hk.2) (.slice Ao277 t394.length co277)) (fun _ h_ => h_.1))) hb); have n5_ := Aside0.mk (Kd.R_below (by (with_reducible repeat (first | apply Kd.R_alloc | apply Kd.R_drewN | apply Kd.R_drew)); exact (Kd.R_mono (Kd.R_far (p := ⟨gb397, 1, none⟩) (Kd.R_far (p := ⟨gb397, 0, none⟩) (Kd.R_types HO396.out BK397.out (by decide)) (fun _ hk => hk.2) (.int .i64 t393)) (fun _ hk => hk.2) (.slice Ao277 t394.length co277)) (fun _ h_ => h_.1))) hb); have n6_ := bf BK364 hb; have n7_ := bf BK365 hb; have n8_ := bf BK366 hb; have n9_ := bf BK387 hb; have n10_ := bf BK392 hb; have n11_ := Aside0.mk (blk_below (g := gb397) (o := .cells #[.int .i64 t393, .slice Ao277 t394.length co277] 65 (0, 0)) (by (with_reducible repeat (first | refine blk_drewN ?_ _ | refine blk_drew ?_ | refine blk_alloc ?_ _)); refine blk_put (cs := #[.int .i64 t393, .slice none 0 0]) ?_ 1 _ rfl; (with_reducible repeat (first | refine blk_drewN ?_ _ | refine blk_drew ?_ | refine blk_alloc ?_ _)); refine blk_put (cs := #[.int .i64 0, .slice none 0 0]) ?_ 0 _ rfl; (with_reducible repeat (first | refine blk_drewN ?_ _ | refine blk_drew ?_ | refine blk_alloc ?_ _)); exact BK397.out) hb); have n12_ := bs HB hb; clear HO373 HO377 HO381 HO386 HO391 HO396 BK364 BK365 BK366 BK387 BK392 BK397 HB; have HO373 := n0_; have HO377 := n1_; have HO381 := n2_; have HO386 := n3_; have HO391 := n4_; have HO396 := n5_; have BK364 := n6_; have BK365 := n7_; have BK366 := n8_; have BK387 := n9_; have BK392 := n10_; have BK397 := n11_; have HB := n12_; clear n0_ n1_ n2_ n3_ n4_ n5_ n6_ n7_ n8_ n9_ n10_ n11_ n12_; (try clear hb)))
       replace HO373 := Aside0.mk (Kd.S_drew HO373.out)
       replace HO377 := Aside0.mk (Kd.R_drew HO377.out)
       replace HO381 := Aside0.mk (Kd.R_drew HO381.out)
       replace HO386 := Aside0.mk (Kd.S_drew HO386.out)
       replace HO391 := Aside0.mk (Kd.R_drew HO391.out)
       replace HO396 := Aside0.mk (Kd.R_drew HO396.out)
       replace BK364 := Aside0.mk (blk_drew BK364.out)
       replace BK365 := Aside0.mk (blk_drew BK365.out)
       replace BK366 := Aside0.mk (blk_drew BK366.out)
       replace BK387 := Aside0.mk (blk_drew BK387.out)
       replace BK392 := Aside0.mk (blk_drew BK392.out)
       replace BK397 := Aside0.mk (blk_drew BK397.out)
       replace HB := Aside0.mk (below_drew1 HB.out)
       refine start_ (n := 5) (S := fun w' => w'.cell? ⟨gb387, 0, none⟩ = some (.int .i64 t383) ∧ w'.cell? ⟨gb387, 1, none⟩ = some (.slice Ao258 t384.length co258) ∧ w'.cell? ⟨gb364, 0, none⟩ = some (.int .i64 a0_0) ∧ w'.cell? ⟨gb364, 1, none⟩ = some (.slice A0_1 l0_1.length c0_1)) (ds := []) #[false, false, false, false, false] (by kernel_rfl) rfl rfl ⟨(c2 BK387).1, (c2 BK387).2, (c2 BK364).1, (c2 BK364).2⟩ (fun hHeld => ?_)
       generalize w280.drew = w281 at HO373 HO377 HO381 HO386 HO391 HO396 BK364 BK365 BK366 BK387 BK392 BK397 HB hHeld ⊢
       refine take_ (i := 0) (N := some 48) (v := ?_) (a' := ?_) #[true, false, false, false, false] rfl rfl (by kernel_rfl) (fun _ _ _ h => h) (Or.inl ⟨by rfl, ?_⟩) hHeld ?_ ?_
       rotate_left
       ·rintro w' ⟨s0, s1, s2, s3⟩
        go_simp
        with_reducible rfl
       rotate_left
       ·simp only [Act.put, List.setIfInBounds_toArray, List.set_cons_zero, List.set_cons_succ, i64_w, i32_w]
        rfl
       refine take_ (i := 1) (N := some 49) (v := ?_) (a' := ?_) #[true, true, false, false, false] rfl rfl (by kernel_rfl) (fun _ _ _ h => h) (Or.inl ⟨by rfl, ?_⟩) hHeld ?_ ?_
       rotate_left
       ·rintro w' ⟨s0, s1, s2, s3⟩
        go_simp
        with_reducible rfl
       rotate_left
       ·simp only [Act.put, List.setIfInBounds_toArray, List.set_cons_zero, List.set_cons_succ, i64_w, i32_w]
        rfl
       refine one_ (i := 2) (N := some 50) #[true, true, true, false, false] rfl rfl (by kernel_rfl) (by decide) (fun K hK => ?_)
       refine goes_ Try.func14 (by kernel_rfl) rfl #[.agg #[.int .i64 a0_0, .slice A0_1 l0_1.length c0_1]] (by rfl) rfl rfl (by (try simp only [List.map_toArray, List.map_cons, List.map_nil]); first | done | rfl | (simp only [List.length_drop, List.length_take]; rfl)) ?_
       with_reducible refine (laws_toSystem.calls k a0_0 _ _ l0_1 t399 t400 _ ?side1 ?side2 A98.out).mono ?_
       (case side1 => exact mc ((Kd.C_below HR0_1.out HB.out)))
       (case side2 => exact HC0_1.out)
       rintro e w282 ⟨v401, rfl, ho0, hb⟩
       refine ⟨_, rfl, ?_⟩
       have HO402 := Aside0.mk (Kd.S_lower (Kd.S_newB (Kd.S_new' (Kd.S_new' (Kd.S_new' (Kd.S_new' (Kd.S_new' (Kd.S_new' ho0 (Kd.S_lt (mS HO373))) (Kd.R_lt (mr HO377))) (Kd.R_lt (mr HO381))) (Kd.S_lt (mS HO386))) (Kd.R_lt (mr HO391))) (Kd.R_lt (mr HO396))) (g := gb392) (o := .cells #[.int .i64 t388, .slice Ao267 t389.length co267] 36 (0, 0)) (mb BK392)) (below_size (ms HB)))
       replace HO373 := Aside0.mk (Kd.S_elder' (mS HO373) (Kd.S_base ho0) hb)
       replace HO377 := rb HO377 hb
       replace HO381 := rb HO381 hb
       replace HO386 := Aside0.mk (Kd.S_elder' (mS HO386) (Kd.S_base ho0) hb)
       replace HO391 := rb HO391 hb
       replace HO396 := rb HO396 hb
       replace BK364 := bb BK364 hb
       replace BK365 := bb BK365 hb
       replace BK366 := bb BK366 hb
       replace BK387 := bb BK387 hb
       replace BK392 := bb BK392 hb
       replace BK397 := bb BK397 hb
       replace HB := bs HB hb
       (try clear hb)
       (try clear hb2)
       (try clear hk)
       (try clear hi)
       (try clear ho0)
       obtain ⟨Ao283, co283, eo283⟩ := Kd.S_slice HO402.out
       (first | subst eo283 | (injection eo283 with f1_ f2_ f3_; have f4_ := f1_.symm; have f5_ := f3_.symm; clear f1_ f2_ f3_; subst f4_; subst f5_))
       refine hK.out _ _ ⟨(c2 BK387).1, (c2 BK387).2, (c2 BK364).1, (c2 BK364).2⟩ (fun hHeld => ?_)
       clear hK K
       refine norm_ (a' := ?_) ?_ ?_
       rotate_left
       ·show Act.put _ (some 50) _ = _
        simp only [Act.put, List.setIfInBounds_toArray, List.set_cons_zero, List.set_cons_succ, i64_w, i32_w]
        rfl
       refine one_ (i := 3) (N := some 51) #[true, true, true, true, false] rfl rfl (by kernel_rfl) (by decide) (fun K hK => ?_)
       refine goes_ Try.func17 (by kernel_rfl) rfl #[.agg #[.int .i64 t383, .slice Ao258 t384.length co258], .agg #[.int .i64 t399, .slice Ao283 t400.length co283]] (by rfl) rfl rfl (by (try simp only [List.map_toArray, List.map_cons, List.map_nil]); first | done | rfl | (simp only [List.length_drop, List.length_take]; rfl)) ?_
       with_reducible refine (laws_eqSystem.calls k t383 _ _ t384 t399 _ _ t400 true _ ?side1 ?side2 ?side3 ?side4 A99.out).mono ?_
       (case side1 => exact mc ((Kd.S_reads' HO386.out).2.2))
       (case side2 => exact (Kd.S_reads' HO386.out).2.1)
       (case side3 => exact mc ((Kd.S_reads' HO402.out).2.2))
       (case side4 => exact (Kd.S_reads' HO402.out).2.1)
       rintro e w284 ⟨rfl, hb⟩
       refine ⟨_, rfl, ?_⟩
       replace HO373 := bS HO373 hb
       replace HO377 := rb HO377 hb
       replace HO381 := rb HO381 hb
       replace HO386 := bS HO386 hb
       replace HO391 := rb HO391 hb
       replace HO396 := rb HO396 hb
       replace HO402 := bS HO402 hb
       replace BK364 := bb BK364 hb
       replace BK365 := bb BK365 hb
       replace BK366 := bb BK366 hb
       replace BK387 := bb BK387 hb
       replace BK392 := bb BK392 hb
       replace BK397 := bb BK397 hb
       replace HB := bs HB hb
       (try clear hb)
       (try clear hb2)
       (try clear hk)
       (try clear hi)
       refine hK.out _ _ ⟨(c2 BK387).1, (c2 BK387).2, (c2 BK364).1, (c2 BK364).2⟩ (fun hHeld => ?_)
       clear hK K
       refine norm_ (a' := ?_) ?_ ?_
       rotate_left
       ·show Act.put _ (some 51) _ = _
        simp only [Act.put, List.setIfInBounds_toArray, List.set_cons_zero, List.set_cons_succ, i64_w, i32_w]
        rfl
       refine pure_ (i := 4) (N := some 52) (v := ?_) (a' := ?_) #[true, true, true, true, true] rfl rfl (by kernel_rfl) (fun _ _ _ h => h) (Or.inl ⟨by rfl, ?_⟩) ?_ ?_
       rotate_left
       ·intro w'
        go_simp
        with_reducible rfl
       rotate_left
       ·simp only [Act.put, List.setIfInBounds_toArray, List.set_cons_zero, List.set_cons_succ, i64_w, i32_w]
        rfl
       refine done_ (by kernel_rfl) ?_
       try go_wp2
       replace HO373 := Aside0.mk (Kd.S_drew HO373.out)
       replace HO377 := Aside0.mk (Kd.R_drew HO377.out)
       replace HO381 := Aside0.mk (Kd.R_drew HO381.out)
       replace HO386 := Aside0.mk (Kd.S_drew HO386.out)
       replace HO391 := Aside0.mk (Kd.R_drew HO391.out)
       replace HO396 := Aside0.mk (Kd.R_drew HO396.out)
       replace HO402 := Aside0.mk (Kd.S_drew HO402.out)
       replace BK364 := Aside0.mk (blk_drew BK364.out)
       replace BK365 := Aside0.mk (blk_drew BK365.out)
       replace BK366 := Aside0.mk (blk_drew BK366.out)
       replace BK387 := Aside0.mk (blk_drew BK387.out)
       replace BK392 := Aside0.mk (blk_drew BK392.out)
       replace BK397 := Aside0.mk (blk_drew BK397.out)
       replace HB := Aside0.mk (below_drew1 HB.out)
       refine start_ (n := 5) (S := fun w' => w'.cell? ⟨gb392, 0, none⟩ = some (.int .i64 t388) ∧ w'.cell? ⟨gb392, 1, none⟩ = some (.slice Ao267 t389.length co267) ∧ w'.cell? ⟨gb365, 0, none⟩ = some (.int .i64 a1_0) ∧ w'.cell? ⟨gb365, 1, none⟩ = some (.slice A1_1 l1_1.length c1_1)) (ds := []) #[false, false, false, false, false] (by kernel_rfl) rfl rfl ⟨(c2 BK392).1, (c2 BK392).2, (c2 BK365).1, (c2 BK365).2⟩ (fun hHeld => ?_)
       generalize w284.drew = w285 at HO373 HO377 HO381 HO386 HO391 HO396 HO402 BK364 BK365 BK366 BK387 BK392 BK397 HB hHeld ⊢
       refine take_ (i := 0) (N := some 53) (v := ?_) (a' := ?_) #[true, false, false, false, false] rfl rfl (by kernel_rfl) (fun _ _ _ h => h) (Or.inl ⟨by rfl, ?_⟩) hHeld ?_ ?_
       rotate_left
       ·rintro w' ⟨s0, s1, s2, s3⟩
        go_simp
        with_reducible rfl
       rotate_left
       ·simp only [Act.put, List.setIfInBounds_toArray, List.set_cons_zero, List.set_cons_succ, i64_w, i32_w]
        rfl
       refine take_ (i := 1) (N := some 54) (v := ?_) (a' := ?_) #[true, true, false, false, false] rfl rfl (by kernel_rfl) (fun _ _ _ h => h) (Or.inl ⟨by rfl, ?_⟩) hHeld ?_ ?_
       rotate_left
       ·rintro w' ⟨s0, s1, s2, s3⟩
        go_simp
        with_reducible rfl
       rotate_left
       ·simp only [Act.put, List.setIfInBounds_toArray, List.set_cons_zero, List.set_cons_succ, i64_w, i32_w]
        rfl
       refine one_ (i := 2) (N := some 55) #[true, true, true, false, false] rfl rfl (by kernel_rfl) (by decide) (fun K hK => ?_)
       refine goes_ Try.func15 (by kernel_rfl) rfl #[.agg #[.int .i64 a1_0, .slice A1_1 l1_1.length c1_1]] (by rfl) rfl rfl (by (try simp only [List.map_toArray, List.map_cons, List.map_nil]); first | done | rfl | (simp only [List.length_drop, List.length_take]; rfl)) ?_
       with_reducible refine (laws_toLin.calls k a1_0 _ _ l1_1 t404 t405 _ ?side1 ?side2 A101.out).mono ?_
       (case side1 => exact mc ((Kd.C_below HR1_1.out HB.out)))
       (case side2 => exact HC1_1.out)
       rintro e w286 ⟨v406, rfl, ho0, hb⟩
       refine ⟨_, rfl, ?_⟩
       replace HO373 := lS HO373 ho0 hb
       replace HO386 := lS HO386 ho0 hb
       replace HO402 := lS HO402 ho0 hb
       have HO407 := Aside0.mk (Kd.R_lower (Kd.R_new' (Kd.R_new' (Kd.R_new' (Kd.R_new' ho0 (Kd.R_lt (mr HO377))) (Kd.R_lt (mr HO381))) (Kd.R_lt (mr HO391))) (Kd.R_lt (mr HO396))) (below_size (ms HB)))
       replace HO377 := rl HO377 ho0 hb
       replace HO381 := rl HO381 ho0 hb
       replace HO391 := rl HO391 ho0 hb
       replace HO396 := rl HO396 ho0 hb
       replace BK364 := bb BK364 hb
       replace BK365 := bb BK365 hb
       replace BK366 := bb BK366 hb
       replace BK387 := bb BK387 hb
       replace BK392 := bb BK392 hb
       replace BK397 := bb BK397 hb
       replace HB := bs HB hb
       (try clear hb)
       (try clear hb2)
       (try clear hk)
       (try clear hi)
       (try clear ho0)
       obtain ⟨Ao287, co287, eo287⟩ := Kd.R_slice HO407.out
       (first | subst eo287 | (injection eo287 with f1_ f2_ f3_; have f4_ := f1_.symm; have f5_ := f3_.symm; clear f1_ f2_ f3_; subst f4_; subst f5_))
       refine hK.out _ _ ⟨(c2 BK392).1, (c2 BK392).2, (c2 BK365).1, (c2 BK365).2⟩ (fun hHeld => ?_)
       clear hK K
       refine norm_ (a' := ?_) ?_ ?_
       rotate_left
       ·show Act.put _ (some 55) _ = _
        simp only [Act.put, List.setIfInBounds_toArray, List.set_cons_zero, List.set_cons_succ, i64_w, i32_w]
        rfl
       refine one_ (i := 3) (N := some 56) #[true, true, true, true, false] rfl rfl (by kernel_rfl) (by decide) (fun K hK => ?_)
       refine goes_ Try.func18 (by kernel_rfl) rfl #[.agg #[.int .i64 t388, .slice Ao267 t389.length co267], .agg #[.int .i64 t404, .slice Ao287 t405.length co287]] (by rfl) rfl rfl (by (try simp only [List.map_toArray, List.map_cons, List.map_nil]); first | done | rfl | (simp only [List.length_drop, List.length_take]; rfl)) ?_
       with_reducible refine (laws_eqLin.calls k t388 _ _ t389 t404 _ _ t405 false _ ?side1 ?side2 ?side3 ?side4 A102.out).mono ?_
       (case side1 => exact mc ((Kd.R_reads' HO391.out).2.2))
       (case side2 => exact (Kd.R_reads' HO391.out).2.1)
       (case side3 => exact mc ((Kd.R_reads' HO407.out).2.2))
       (case side4 => exact (Kd.R_reads' HO407.out).2.1)
       rintro e w288 ⟨rfl, hb⟩
       refine ⟨_, rfl, ?_⟩
       replace HO373 := bS HO373 hb
       replace HO377 := rb HO377 hb
       replace HO381 := rb HO381 hb
       replace HO386 := bS HO386 hb
       replace HO391 := rb HO391 hb
       replace HO396 := rb HO396 hb
       replace HO402 := bS HO402 hb
       replace HO407 := rb HO407 hb
       replace BK364 := bb BK364 hb
       replace BK365 := bb BK365 hb
       replace BK366 := bb BK366 hb
       replace BK387 := bb BK387 hb
       replace BK392 := bb BK392 hb
       replace BK397 := bb BK397 hb
       replace HB := bs HB hb
       (try clear hb)
       (try clear hb2)
       (try clear hk)
       (try clear hi)
       refine hK.out _ _ ⟨(c2 BK392).1, (c2 BK392).2, (c2 BK365).1, (c2 BK365).2⟩ (fun hHeld => ?_)
       clear hK K
       refine norm_ (a' := ?_) ?_ ?_
       rotate_left
       ·show Act.put _ (some 56) _ = _
        simp only [Act.put, List.setIfInBounds_toArray, List.set_cons_zero, List.set_cons_succ, i64_w, i32_w]
        rfl
       refine pure_ (i := 4) (N := some 57) (v := ?_) (a' := ?_) #[true, true, true, true, true] rfl rfl (by kernel_rfl) (fun _ _ _ h => h) (Or.inl ⟨by rfl, ?_⟩) ?_ ?_
       rotate_left
       ·intro w'
        go_simp
        with_reducible rfl
       rotate_left
       ·simp only [Act.put, List.setIfInBounds_toArray, List.set_cons_zero, List.set_cons_succ, i64_w, i32_w]
        rfl
       refine done_ (by kernel_rfl) ?_
       try go_wp2
       go_ret
       exact ⟨by first | rfl | (simp [errW_none, errW_some] <;> rfl) | (simp [*, errW_none, errW_some] <;> rfl), ms HB⟩
     ·replace c100 := Bool.eq_false_iff.mpr c100
      subst c100
      have H1 : (some false) = some r := by rw [if_neg (show ¬ (false = true) by decide)] at H; exact H
      clear H
      have H := H1
      clear H1
      obtain rfl := Option.some.inj H
      go_enter Try.func8, Try.ntmps8
      try go_wp2_with (first | ((with_reducible refine gate_dst (N := 3) rfl ?_); refine box_event ?hg (N := 3) ?hd (cs := #[.int .i64 a0_0, .slice A0_1 l0_1.length c0_1]) (t := 24) ?hr ?_; (case hd => rfl); (case hg => rfl); (case hr => first | (go_simp; done) | (go_simp; rfl)); intro gb364 hg w289 hbox hb; have BK364 := Aside0.mk (hbox); have GW364 := gw hg HB; have GE364 := gw hg HB; replace HB := bs HB hb; clear hb hbox hg) | ((with_reducible refine gate_dst (N := 4) rfl ?_); refine box_event ?hg (N := 4) ?hd (cs := #[.int .i64 a1_0, .slice A1_1 l1_1.length c1_1]) (t := 27) ?hr ?_; (case hd => rfl); (case hg => rfl); (case hr => first | (go_simp; done) | (go_simp; rfl)); intro gb365 hg w290 hbox hb; have BK365 := Aside0.mk (hbox); have GW365 := gw hg HB; have GE365 := gw hg HB; replace HB := bs HB hb; have NB364_365 := nl hg BK364; have NB365_364 := ng hg BK364; replace BK364 := bb BK364 hb; clear hb hbox hg) | ((with_reducible refine gate_dst (N := 5) rfl ?_); refine box_event ?hg (N := 5) ?hd (cs := #[.int .i64 a2_0, .slice A2_1 l2_1.length c2_1]) (t := 62) ?hr ?_; (case hd => rfl); (case hg => rfl); (case hr => first | (go_simp; done) | (go_simp; rfl)); intro gb366 hg w291 hbox hb; have BK366 := Aside0.mk (hbox); have GW366 := gw hg HB; have GE366 := gw hg HB; replace HB := bs HB hb; have NB364_366 := nl hg BK364; have NB366_364 := ng hg BK364; replace BK364 := bb BK364 hb; have NB365_366 := nl hg BK365; have NB366_365 := ng hg BK365; replace BK365 := bb BK365 hb; clear hb hbox hg; have hnb292 := NB364_365.out; have hnc292 := NB365_364.out; have hnb293 := NB364_366.out; have hnc293 := NB366_364.out; obtain ⟨hcz294_0, hcz294_1⟩ := c2 BK364; have hfz294_0 := blk_frozen BK364.out 0; have hfz294_1 := blk_frozen BK364.out 1) | ((with_reducible refine gate_callee (f := 11) rfl ?_); refine goesL_ (some 15) rfl rfl Try.func11 (by kernel_rfl) rfl #[.agg #[.int .i64 a0_0, .slice A0_1 l0_1.length c0_1], .int .i64 1048576] rfl (by (try simp only [List.map_toArray, List.map_cons, List.map_nil]); first | done | rfl | (simp only [List.length_drop, List.length_take]; rfl)) ?_; (with_reducible refine (laws_szSystem.calls k a0_0 _ _ l0_1 1048576 t367 _ ?side1 ?side2 A4.out).mono ?_); (case side1 => exact mc ((Kd.C_below HR0_1.out HB.out))); (case side2 => exact HC0_1.out); rintro e w295 ⟨rfl, hb⟩; refine ⟨_, rfl, ?_⟩; replace BK364 := bb BK364 hb; replace BK365 := bb BK365 hb; replace BK366 := bb BK366 hb; replace HB := bs HB hb; (try clear hb); have hnb296 := NB365_366.out; have hnc296 := NB366_365.out; obtain ⟨hcz297_0, hcz297_1⟩ := c2 BK365; have hfz297_0 := blk_frozen BK365.out 0; have hfz297_1 := blk_frozen BK365.out 1) | ((with_reducible refine gate_callee (f := 12) rfl ?_); refine goesL_ (some 20) rfl rfl Try.func12 (by kernel_rfl) rfl #[.agg #[.int .i64 a1_0, .slice A1_1 l1_1.length c1_1], .int .i64 t367] rfl (by (try simp only [List.map_toArray, List.map_cons, List.map_nil]); first | done | rfl | (simp only [List.length_drop, List.length_take]; rfl)) ?_; (with_reducible refine (laws_szLin.calls a1_0 _ _ l1_1 t367 t368 _ ?side1 ?side2 A13.out).mono ?_); (case side1 => exact mc ((Kd.C_below HR1_1.out HB.out))); (case side2 => exact HC1_1.out); rintro e w298 ⟨rfl, hb⟩; refine ⟨_, rfl, ?_⟩; replace BK364 := bb BK364 hb; replace BK365 := bb BK365 hb; replace BK366 := bb BK366 hb; replace HB := bs HB hb; (try clear hb); obtain ⟨hcz299_0, hcz299_1⟩ := c2 BK366; have hfz299_0 := blk_frozen BK366.out 0; have hfz299_1 := blk_frozen BK366.out 1) | ((with_reducible refine gate_callee (f := 45) rfl ?_); refine goesL_ (some 25) rfl rfl Try.func45 (by kernel_rfl) rfl #[.agg #[.int .i64 a2_0, .slice A2_1 l2_1.length c2_1], .int .i64 t368] rfl (by (try simp only [List.map_toArray, List.map_cons, List.map_nil]); first | done | rfl | (simp only [List.length_drop, List.length_take]; rfl)) ?_; (with_reducible refine (laws_szFarkas.calls a2_0 _ _ l2_1 t368 t369 _ ?side1 ?side2 A25.out).mono ?_); (case side1 => exact mc ((Kd.C_below HR2_1.out HB.out))); (case side2 => exact HC2_1.out); rintro e w300 ⟨rfl, hb⟩; refine ⟨_, rfl, ?_⟩; replace BK364 := bb BK364 hb; replace BK365 := bb BK365 hb; replace BK366 := bb BK366 hb; replace HB := bs HB hb; (try clear hb)))
      replace BK364 := Aside0.mk (blk_drew BK364.out)
      replace BK365 := Aside0.mk (blk_drew BK365.out)
      replace BK366 := Aside0.mk (blk_drew BK366.out)
      replace HB := Aside0.mk (below_drew1 HB.out)
      refine start_ (n := 8) (S := fun w' => w'.cell? ⟨gb364, 0, none⟩ = some (.int .i64 a0_0) ∧ w'.cell? ⟨gb364, 1, none⟩ = some (.slice A0_1 l0_1.length c0_1) ∧ w'.cell? ⟨gb365, 0, none⟩ = some (.int .i64 a1_0) ∧ w'.cell? ⟨gb365, 1, none⟩ = some (.slice A1_1 l1_1.length c1_1) ∧ w'.cell? ⟨gb366, 0, none⟩ = some (.int .i64 a2_0) ∧ w'.cell? ⟨gb366, 1, none⟩ = some (.slice A2_1 l2_1.length c2_1)) (ds := []) #[false, false, false, false, false, false, false, false] (by kernel_rfl) rfl rfl ⟨(c2 BK364).1, (c2 BK364).2, (c2 BK365).1, (c2 BK365).2, (c2 BK366).1, (c2 BK366).2⟩ (fun hHeld => ?_); refine with_tabW laws_FnExactCheckFarkas.tab11 laws_FnExactCheckFarkas.bits11 (fun HT_ HW_ => ?_)
      generalize w300.drew = w301 at BK364 BK365 BK366 HB hHeld ⊢
      refine take_ (i := 0) (N := some 28) (v := ?_) (a' := ?_) #[true, false, false, false, false, false, false, false] rfl rfl (take_ofW HT_.out HW_.out (by kernel_rfl)) (fun _ _ _ h => h) (Or.inl ⟨by rfl, ?_⟩) hHeld ?_ ?_
      rotate_left
      ·rintro w' ⟨s0, s1, s2, s3, s4, s5⟩
       go_simp
       with_reducible rfl
      rotate_left
      ·simp only [Act.put, List.setIfInBounds_toArray, List.set_cons_zero, List.set_cons_succ, i64_w, i32_w]
       rfl
      refine take_ (i := 2) (N := some 30) (v := ?_) (a' := ?_) #[true, false, true, false, false, false, false, false] rfl rfl (take_ofW HT_.out HW_.out (by kernel_rfl)) (fun _ _ _ h => h) (Or.inl ⟨by rfl, ?_⟩) hHeld ?_ ?_
      rotate_left
      ·rintro w' ⟨s0, s1, s2, s3, s4, s5⟩
       go_simp
       with_reducible rfl
      rotate_left
      ·simp only [Act.put, List.setIfInBounds_toArray, List.set_cons_zero, List.set_cons_succ, i64_w, i32_w]
       rfl
      refine take_ (i := 4) (N := some 32) (v := ?_) (a' := ?_) #[true, false, true, false, true, false, false, false] rfl rfl (take_ofW HT_.out HW_.out (by kernel_rfl)) (fun _ _ _ h => h) (Or.inl ⟨by rfl, ?_⟩) hHeld ?_ ?_
      rotate_left
      ·rintro w' ⟨s0, s1, s2, s3, s4, s5⟩
       go_simp
       with_reducible rfl
      rotate_left
      ·simp only [Act.put, List.setIfInBounds_toArray, List.set_cons_zero, List.set_cons_succ, i64_w, i32_w]
       rfl
      refine one_ (i := 1) (N := some 29) #[true, true, true, false, true, false, false, false] rfl rfl (one_of HT_.out (by kernel_rfl)) (by decide) (fun K hK => ?_)
      refine goes_ Try.func14 (by kernel_rfl) rfl #[.agg #[.int .i64 a0_0, .slice A0_1 l0_1.length c0_1]] (by rfl) rfl rfl (by (try simp only [List.map_toArray, List.map_cons, List.map_nil]); first | done | rfl | (simp only [List.length_drop, List.length_take]; rfl)) ?_
      with_reducible refine (laws_toSystem.calls k a0_0 _ _ l0_1 t370 t371 _ ?side1 ?side2 A39.out).mono ?_
      (case side1 => exact mc ((Kd.C_below HR0_1.out HB.out)))
      (case side2 => exact HC0_1.out)
      rintro e w302 ⟨v372, rfl, ho0, hb⟩
      refine ⟨_, rfl, ?_⟩
      have HO373 := Aside0.mk (Kd.S_lower ho0 (below_size (ms HB)))
      replace BK364 := bb BK364 hb
      replace BK365 := bb BK365 hb
      replace BK366 := bb BK366 hb
      replace HB := bs HB hb
      (try clear hb)
      (try clear hb2)
      (try clear hk)
      (try clear hi)
      (try clear ho0)
      refine hK.out _ _ ⟨(c2 BK364).1, (c2 BK364).2, (c2 BK365).1, (c2 BK365).2, (c2 BK366).1, (c2 BK366).2⟩ (fun hHeld => ?_)
      clear hK K
      refine norm_ (a' := ?_) ?_ ?_
      rotate_left
      ·show Act.put _ (some 29) _ = _
       simp only [Act.put, List.setIfInBounds_toArray, List.set_cons_zero, List.set_cons_succ, i64_w, i32_w]
       rfl
      refine one_ (i := 3) (N := some 31) #[true, true, true, true, true, false, false, false] rfl rfl (one_of HT_.out (by kernel_rfl)) (by decide) (fun K hK => ?_)
      refine goes_ Try.func15 (by kernel_rfl) rfl #[.agg #[.int .i64 a1_0, .slice A1_1 l1_1.length c1_1]] (by rfl) rfl rfl (by (try simp only [List.map_toArray, List.map_cons, List.map_nil]); first | done | rfl | (simp only [List.length_drop, List.length_take]; rfl)) ?_
      with_reducible refine (laws_toLin.calls k a1_0 _ _ l1_1 t374 t375 _ ?side1 ?side2 A40.out).mono ?_
      (case side1 => exact mc ((Kd.C_below HR1_1.out HB.out)))
      (case side2 => exact HC1_1.out)
      rintro e w303 ⟨v376, rfl, ho0, hb⟩
      refine ⟨_, rfl, ?_⟩
      replace HO373 := lS HO373 ho0 hb
      have HO377 := Aside0.mk (Kd.R_lower ho0 (below_size (ms HB)))
      replace BK364 := bb BK364 hb
      replace BK365 := bb BK365 hb
      replace BK366 := bb BK366 hb
      replace HB := bs HB hb
      (try clear hb)
      (try clear hb2)
      (try clear hk)
      (try clear hi)
      (try clear ho0)
      refine hK.out _ _ ⟨(c2 BK364).1, (c2 BK364).2, (c2 BK365).1, (c2 BK365).2, (c2 BK366).1, (c2 BK366).2⟩ (fun hHeld => ?_)
      clear hK K
      refine norm_ (a' := ?_) ?_ ?_
      rotate_left
      ·show Act.put _ (some 31) _ = _
       simp only [Act.put, List.setIfInBounds_toArray, List.set_cons_zero, List.set_cons_succ, i64_w, i32_w]
       rfl
      refine one_ (i := 5) (N := some 33) #[true, true, true, true, true, true, false, false] rfl rfl (one_of HT_.out (by kernel_rfl)) (by decide) (fun K hK => ?_)
      refine goes_ Try.func47 (by kernel_rfl) rfl #[.agg #[.int .i64 a2_0, .slice A2_1 l2_1.length c2_1]] (by rfl) rfl rfl (by (try simp only [List.map_toArray, List.map_cons, List.map_nil]); first | done | rfl | (simp only [List.length_drop, List.length_take]; rfl)) ?_
      with_reducible refine (laws_toFarkas.calls k a2_0 _ _ l2_1 t378 t379 _ ?side1 ?side2 A41.out).mono ?_
      (case side1 => exact mc ((Kd.C_below HR2_1.out HB.out)))
      (case side2 => exact HC2_1.out)
      rintro e w304 ⟨v380, rfl, ho0, hb⟩
      refine ⟨_, rfl, ?_⟩
      replace HO373 := lS HO373 ho0 hb
      have HO381 := Aside0.mk (Kd.R_lower (Kd.R_new' ho0 (Kd.R_lt (mr HO377))) (below_size (ms HB)))
      replace HO377 := rl HO377 ho0 hb
      replace BK364 := bb BK364 hb
      replace BK365 := bb BK365 hb
      replace BK366 := bb BK366 hb
      replace HB := bs HB hb
      (try clear hb)
      (try clear hb2)
      (try clear hk)
      (try clear hi)
      (try clear ho0)
      obtain ⟨Ao305, co305, eo305⟩ := Kd.S_slice HO373.out
      (first | subst eo305 | (injection eo305 with f1_ f2_ f3_; have f4_ := f1_.symm; have f5_ := f3_.symm; clear f1_ f2_ f3_; subst f4_; subst f5_))
      obtain ⟨Ao306, co306, eo306⟩ := Kd.R_slice HO377.out
      (first | subst eo306 | (injection eo306 with f1_ f2_ f3_; have f4_ := f1_.symm; have f5_ := f3_.symm; clear f1_ f2_ f3_; subst f4_; subst f5_))
      obtain ⟨Ao307, co307, eo307⟩ := Kd.R_slice HO381.out
      (first | subst eo307 | (injection eo307 with f1_ f2_ f3_; have f4_ := f1_.symm; have f5_ := f3_.symm; clear f1_ f2_ f3_; subst f4_; subst f5_))
      refine hK.out _ _ ⟨(c2 BK364).1, (c2 BK364).2, (c2 BK365).1, (c2 BK365).2, (c2 BK366).1, (c2 BK366).2⟩ (fun hHeld => ?_)
      clear hK K
      refine norm_ (a' := ?_) ?_ ?_
      rotate_left
      ·show Act.put _ (some 33) _ = _
       simp only [Act.put, List.setIfInBounds_toArray, List.set_cons_zero, List.set_cons_succ, i64_w, i32_w]
       rfl
      refine one_ (i := 6) (N := some 34) #[true, true, true, true, true, true, true, false] rfl rfl (one_of HT_.out (by kernel_rfl)) (by decide) (fun K hK => ?_)
      refine goes_ Try.func46 (by kernel_rfl) rfl #[.agg #[.int .i64 t370, .slice Ao305 t371.length co305], .agg #[.int .i64 t374, .slice Ao306 t375.length co306], .agg #[.int .i64 t378, .slice Ao307 t379.length co307]] (by rfl) rfl rfl (by (try simp only [List.map_toArray, List.map_cons, List.map_nil]); first | done | rfl | (simp only [List.length_drop, List.length_take]; rfl)) ?_
      with_reducible refine (spec_CheckFarkas.calls k t370 _ _ t371 t374 _ _ t375 t378 _ _ t379 t382 _ ?side1 ?side2 ?side3 ?side4 ?side5 ?side6 A42.out).mono ?_
      (case side1 => exact mc ((Kd.S_reads' HO373.out).2.2))
      (case side2 => exact (Kd.S_reads' HO373.out).2.1)
      (case side3 => exact mc ((Kd.R_reads' HO377.out).2.2))
      (case side4 => exact (Kd.R_reads' HO377.out).2.1)
      (case side5 => exact mc ((Kd.R_reads' HO381.out).2.2))
      (case side6 => exact (Kd.R_reads' HO381.out).2.1)
      rintro e w308 ⟨rfl, hb⟩
      refine ⟨_, rfl, ?_⟩
      replace HO373 := bS HO373 hb
      replace HO377 := rb HO377 hb
      replace HO381 := rb HO381 hb
      replace BK364 := bb BK364 hb
      replace BK365 := bb BK365 hb
      replace BK366 := bb BK366 hb
      replace HB := bs HB hb
      (try clear hb)
      (try clear hb2)
      (try clear hk)
      (try clear hi)
      refine hK.out _ _ ⟨(c2 BK364).1, (c2 BK364).2, (c2 BK365).1, (c2 BK365).2, (c2 BK366).1, (c2 BK366).2⟩ (fun hHeld => ?_)
      clear hK K
      refine norm_ (a' := ?_) ?_ ?_
      rotate_left
      ·show Act.put _ (some 34) _ = _
       simp only [Act.put, List.setIfInBounds_toArray, List.set_cons_zero, List.set_cons_succ, i64_w, i32_w]
       rfl
      refine pure_ (i := 7) (N := some 8) (v := ?_) (a' := ?_) #[true, true, true, true, true, true, true, true] rfl rfl (any_of HT_.out (by kernel_rfl)) (fun _ _ _ h => h) (Or.inl ⟨by rfl, ?_⟩) ?_ ?_
      rotate_left
      ·intro w'
       go_simp
       with_reducible rfl
      rotate_left
      ·simp only [Act.put, List.setIfInBounds_toArray, List.set_cons_zero, List.set_cons_succ, i64_w, i32_w]
       rfl
      refine done_ (done_of HT_.out (by kernel_rfl)) ?_
      obtain ⟨hcz309_0, hcz309_1⟩ := c2 BK364
      have hfz309_0 := blk_frozen BK364.out 0
      have hfz309_1 := blk_frozen BK364.out 1
      try go_wp2_with (first | ((with_reducible refine gate_callee (f := 14) rfl ?_); refine goesL_ (some 36) rfl rfl Try.func14 (by kernel_rfl) rfl #[.agg #[.int .i64 a0_0, .slice A0_1 l0_1.length c0_1]] rfl (by (try simp only [List.map_toArray, List.map_cons, List.map_nil]); first | done | rfl | (simp only [List.length_drop, List.length_take]; rfl)) ?_; (with_reducible refine (laws_toSystem.calls k a0_0 _ _ l0_1 t383 t384 _ ?side1 ?side2 A43.out).mono ?_); (case side1 => exact mc ((Kd.C_below HR0_1.out HB.out))); (case side2 => exact HC0_1.out); rintro e w310 ⟨v385, rfl, ho0, hb⟩; refine ⟨_, rfl, ?_⟩; have HO386 := Aside0.mk (Kd.S_lower (Kd.S_new' (Kd.S_new' (Kd.S_new' ho0 (Kd.S_lt (mS HO373))) (Kd.R_lt (mr HO377))) (Kd.R_lt (mr HO381))) (below_size (ms HB))); replace HO373 := Aside0.mk (Kd.S_elder' (mS HO373) (Kd.S_base ho0) hb); replace HO377 := rb HO377 hb; replace HO381 := rb HO381 hb; replace BK364 := bb BK364 hb; replace BK365 := bb BK365 hb; replace BK366 := bb BK366 hb; replace HB := bs HB hb; (try clear hb); (try clear ho0)) | ((with_reducible refine gate_dst (N := 9) rfl ?_); refine box_event ?hg (N := 9) ?hd (cs := #[.int .i64 0, .slice none 0 0]) (t := 32) ?hr ?_; (case hd => rfl); (case hg => rfl); (case hr => first | (go_simp; done) | (go_simp; rfl)); intro gb387 hg w311 hbox hb; replace HO373 := bS HO373 hb; replace HO377 := rb HO377 hb; replace HO381 := rb HO381 hb; replace HO386 := bS HO386 hb; have BK387 := Aside0.mk (hbox); have GW387 := gw hg HB; have GE387 := gw hg HB; replace HB := bs HB hb; have NB364_387 := nl hg BK364; have NB387_364 := ng hg BK364; replace BK364 := bb BK364 hb; have NB365_387 := nl hg BK365; have NB387_365 := ng hg BK365; replace BK365 := bb BK365 hb; have NB366_387 := nl hg BK366; have NB387_366 := ng hg BK366; replace BK366 := bb BK366 hb; clear hb hbox hg; have hnb312 := NB387_364.out; have hnc312 := NB364_387.out; have hnb313 := NB387_365.out; have hnc313 := NB365_387.out; have hnb314 := NB387_366.out; have hnc314 := NB366_387.out; obtain ⟨hcz315_0, hcz315_1⟩ := c2 BK387; have hfz315_0 := blk_frozen BK387.out 0; have hfz315_1 := blk_frozen BK387.out 1; obtain ⟨Ao316, co316, eo316⟩ := Kd.S_slice HO386.out; subst eo316; obtain ⟨hcz317_0, hcz317_1⟩ := c2 BK365; have hfz317_0 := blk_frozen BK365.out 0; have hfz317_1 := blk_frozen BK365.out 1) | ((with_reducible refine gate_callee (f := 15) rfl ?_); refine goesL_ (some 38) rfl rfl Try.func15 (by kernel_rfl) rfl #[.agg #[.int .i64 a1_0, .slice A1_1 l1_1.length c1_1]] rfl (by (try simp only [List.map_toArray, List.map_cons, List.map_nil]); first | done | rfl | (simp only [List.length_drop, List.length_take]; rfl)) ?_; (with_reducible refine (laws_toLin.calls k a1_0 _ _ l1_1 t388 t389 _ ?side1 ?side2 A44.out).mono ?_); (case side1 => exact Kd.C_below HR1_1.out (ms HB)); (case side2 => exact HC1_1.out); rintro e w318 ⟨v390, rfl, ho0, hb⟩; refine ⟨_, rfl, ?_⟩; have n0_ := Aside0.mk (Kd.S_elder' (by (with_reducible repeat (first | apply Kd.S_alloc | apply Kd.S_drewN | apply Kd.S_drew)); exact (Kd.S_mono (Kd.S_far (p := ⟨gb387, 1, none⟩) (Kd.S_far (p := ⟨gb387, 0, none⟩) (Kd.S_types HO373.out BK387.out (by decide)) (fun _ hk => hk.2) (.int .i64 t383)) (fun _ hk => hk.2) (.slice Ao316 t384.length co316)) (fun _ h_ => h_.1))) (Kd.R_base ho0) hb); have n1_ := Aside0.mk (Kd.R_elder' (by (with_reducible repeat (first | apply Kd.R_alloc | apply Kd.R_drewN | apply Kd.R_drew)); exact (Kd.R_mono (Kd.R_far (p := ⟨gb387, 1, none⟩) (Kd.R_far (p := ⟨gb387, 0, none⟩) (Kd.R_types HO377.out BK387.out (by decide)) (fun _ hk => hk.2) (.int .i64 t383)) (fun _ hk => hk.2) (.slice Ao316 t384.length co316)) (fun _ h_ => h_.1))) (Kd.R_base ho0) hb); have n2_ := Aside0.mk (Kd.R_elder' (by (with_reducible repeat (first | apply Kd.R_alloc | apply Kd.R_drewN | apply Kd.R_drew)); exact (Kd.R_mono (Kd.R_far (p := ⟨gb387, 1, none⟩) (Kd.R_far (p := ⟨gb387, 0, none⟩) (Kd.R_types HO381.out BK387.out (by decide)) (fun _ hk => hk.2) (.int .i64 t383)) (fun _ hk => hk.2) (.slice Ao316 t384.length co316)) (fun _ h_ => h_.1))) (Kd.R_base ho0) hb); have n3_ := Aside0.mk (Kd.S_elder' (by (with_reducible repeat (first | apply Kd.S_alloc | apply Kd.S_drewN | apply Kd.S_drew)); exact (Kd.S_mono (Kd.S_far (p := ⟨gb387, 1, none⟩) (Kd.S_far (p := ⟨gb387, 0, none⟩) (Kd.S_types HO386.out BK387.out (by decide)) (fun _ hk => hk.2) (.int .i64 t383)) (fun _ hk => hk.2) (.slice Ao316 t384.length co316)) (fun _ h_ => h_.1))) (Kd.R_base ho0) hb); have n4_ := Aside0.mk (Kd.R_lower (Kd.R_new' (Kd.R_new' ho0 (Kd.R_lt (by (with_reducible repeat (first | apply Kd.R_alloc | apply Kd.R_drewN | apply Kd.R_drew)); exact (Kd.R_mono (Kd.R_far (p := ⟨gb387, 1, none⟩) (Kd.R_far (p := ⟨gb387, 0, none⟩) (Kd.R_types HO377.out BK387.out (by decide)) (fun _ hk => hk.2) (.int .i64 t383)) (fun _ hk => hk.2) (.slice Ao316 t384.length co316)) (fun _ h_ => h_.1))))) (Kd.R_lt (by (with_reducible repeat (first | apply Kd.R_alloc | apply Kd.R_drewN | apply Kd.R_drew)); exact (Kd.R_mono (Kd.R_far (p := ⟨gb387, 1, none⟩) (Kd.R_far (p := ⟨gb387, 0, none⟩) (Kd.R_types HO381.out BK387.out (by decide)) (fun _ hk => hk.2) (.int .i64 t383)) (fun _ hk => hk.2) (.slice Ao316 t384.length co316)) (fun _ h_ => h_.1))))) (below_size (ms HB))); have n5_ := bf BK364 hb; have n6_ := bf BK365 hb; have n7_ := bf BK366 hb; have n8_ := Aside0.mk (blk_below (g := gb387) (o := .cells #[.int .i64 t383, .slice Ao316 t384.length co316] 32 (0, 0)) (by (with_reducible repeat (first | refine blk_drewN ?_ _ | refine blk_drew ?_ | refine blk_alloc ?_ _)); refine blk_put (cs := #[.int .i64 t383, .slice none 0 0]) ?_ 1 _ rfl; (with_reducible repeat (first | refine blk_drewN ?_ _ | refine blk_drew ?_ | refine blk_alloc ?_ _)); refine blk_put (cs := #[.int .i64 0, .slice none 0 0]) ?_ 0 _ rfl; (with_reducible repeat (first | refine blk_drewN ?_ _ | refine blk_drew ?_ | refine blk_alloc ?_ _)); exact BK387.out) hb); have n9_ := bs HB hb; clear HO373 HO377 HO381 HO386 BK364 BK365 BK366 BK387 HB; have HO373 := n0_; have HO377 := n1_; have HO381 := n2_; have HO386 := n3_; have HO391 := n4_; have BK364 := n5_; have BK365 := n6_; have BK366 := n7_; have BK387 := n8_; have HB := n9_; clear n0_ n1_ n2_ n3_ n4_ n5_ n6_ n7_ n8_ n9_; (try clear hb); (try clear ho0)) | ((with_reducible refine gate_dst (N := 10) rfl ?_); refine box_event ?hg (N := 10) ?hd (cs := #[.int .i64 0, .slice none 0 0]) (t := 36) ?hr ?_; (case hd => rfl); (case hg => rfl); (case hr => first | (go_simp; done) | (go_simp; rfl)); intro gb392 hg w319 hbox hb; replace HO373 := Aside0.mk (Kd.S_below (Kd.S_elderB (mS HO373) gb392 (Nat.le_of_eq hg.symm)) hb); replace HO377 := rb HO377 hb; replace HO381 := rb HO381 hb; replace HO386 := Aside0.mk (Kd.S_below (Kd.S_elderB (mS HO386) gb392 (Nat.le_of_eq hg.symm)) hb); replace HO391 := rb HO391 hb; have BK392 := Aside0.mk (hbox); have GW392 := gw hg HB; have GE392 := gw hg HB; replace HB := bs HB hb; have NB364_392 := nl hg BK364; have NB392_364 := ng hg BK364; replace BK364 := bb BK364 hb; have NB365_392 := nl hg BK365; have NB392_365 := ng hg BK365; replace BK365 := bb BK365 hb; have NB366_392 := nl hg BK366; have NB392_366 := ng hg BK366; replace BK366 := bb BK366 hb; have NB387_392 := nl hg BK387; have NB392_387 := ng hg BK387; replace BK387 := bb BK387 hb; clear hb hbox hg; have hnb320 := NB392_364.out; have hnc320 := NB364_392.out; have hnb321 := NB392_365.out; have hnc321 := NB365_392.out; have hnb322 := NB392_366.out; have hnc322 := NB366_392.out; have hnb323 := NB392_387.out; have hnc323 := NB387_392.out; obtain ⟨hcz324_0, hcz324_1⟩ := c2 BK392; have hfz324_0 := blk_frozen BK392.out 0; have hfz324_1 := blk_frozen BK392.out 1; obtain ⟨Ao325, co325, eo325⟩ := Kd.R_slice HO391.out; subst eo325; obtain ⟨hcz326_0, hcz326_1⟩ := c2 BK366; have hfz326_0 := blk_frozen BK366.out 0; have hfz326_1 := blk_frozen BK366.out 1) | ((with_reducible refine gate_callee (f := 47) rfl ?_); refine goesL_ (some 40) rfl rfl Try.func47 (by kernel_rfl) rfl #[.agg #[.int .i64 a2_0, .slice A2_1 l2_1.length c2_1]] rfl (by (try simp only [List.map_toArray, List.map_cons, List.map_nil]); first | done | rfl | (simp only [List.length_drop, List.length_take]; rfl)) ?_; (with_reducible refine (laws_toFarkas.calls k a2_0 _ _ l2_1 t393 t394 _ ?side1 ?side2 A45.out).mono ?_); (case side1 => exact Kd.C_below HR2_1.out (ms HB)); (case side2 => exact HC2_1.out); rintro e w327 ⟨v395, rfl, ho0, hb⟩; refine ⟨_, rfl, ?_⟩; have n0_ := Aside0.mk (Kd.S_elder' (by (with_reducible repeat (first | apply Kd.S_alloc | apply Kd.S_drewN | apply Kd.S_drew)); exact (Kd.S_mono (Kd.S_far (p := ⟨gb392, 1, none⟩) (Kd.S_far (p := ⟨gb392, 0, none⟩) (Kd.S_mono HO373.out (fun k_ hk => (⟨hk, hk.2⟩ : _ ∧ k_ ≠ gb392))) (fun _ hk => hk.2) (.int .i64 t388)) (fun _ hk => hk.2) (.slice Ao325 t389.length co325)) (fun _ h_ => h_.1))) (Kd.R_base ho0) hb); have n1_ := Aside0.mk (Kd.R_elder' (by (with_reducible repeat (first | apply Kd.R_alloc | apply Kd.R_drewN | apply Kd.R_drew)); exact (Kd.R_mono (Kd.R_far (p := ⟨gb392, 1, none⟩) (Kd.R_far (p := ⟨gb392, 0, none⟩) (Kd.R_types HO377.out BK392.out (by decide)) (fun _ hk => hk.2) (.int .i64 t388)) (fun _ hk => hk.2) (.slice Ao325 t389.length co325)) (fun _ h_ => h_.1))) (Kd.R_base ho0) hb); have n2_ := Aside0.mk (Kd.R_elder' (by (with_reducible repeat (first | apply Kd.R_alloc | apply Kd.R_drewN | apply Kd.R_drew)); exact (Kd.R_mono (Kd.R_far (p := ⟨gb392, 1, none⟩) (Kd.R_far (p := ⟨gb392, 0, none⟩) (Kd.R_types HO381.out BK392.out (by decide)) (fun _ hk => hk.2) (.int .i64 t388)) (fun _ hk => hk.2) (.slice Ao325 t389.length co325)) (fun _ h_ => h_.1))) (Kd.R_base ho0) hb); have n3_ := Aside0.mk (Kd.S_elder' (by (with_reducible repeat (first | apply Kd.S_alloc | apply Kd.S_drewN | apply Kd.S_drew)); exact (Kd.S_mono (Kd.S_far (p := ⟨gb392, 1, none⟩) (Kd.S_far (p := ⟨gb392, 0, none⟩) (Kd.S_mono HO386.out (fun k_ hk => (⟨hk, hk.2⟩ : _ ∧ k_ ≠ gb392))) (fun _ hk => hk.2) (.int .i64 t388)) (fun _ hk => hk.2) (.slice Ao325 t389.length co325)) (fun _ h_ => h_.1))) (Kd.R_base ho0) hb); have n4_ := Aside0.mk (Kd.R_elder' (by (with_reducible repeat (first | apply Kd.R_alloc | apply Kd.R_drewN | apply Kd.R_drew)); exact (Kd.R_mono (Kd.R_far (p := ⟨gb392, 1, none⟩) (Kd.R_far (p := ⟨gb392, 0, none⟩) (Kd.R_types HO391.out BK392.out (by decide)) (fun _ hk => hk.2) (.int .i64 t388)) (fun _ hk => hk.2) (.slice Ao325 t389.length co325)) (fun _ h_ => h_.1))) (Kd.R_base ho0) hb); have n5_ := Aside0.mk (Kd.R_lower (Kd.R_new' (Kd.R_new' (Kd.R_new' ho0 (Kd.R_lt (by (with_reducible repeat (first | apply Kd.R_alloc | apply Kd.R_drewN | apply Kd.R_drew)); exact (Kd.R_mono (Kd.R_far (p := ⟨gb392, 1, none⟩) (Kd.R_far (p := ⟨gb392, 0, none⟩) (Kd.R_types HO377.out BK392.out (by decide)) (fun _ hk => hk.2) (.int .i64 t388)) (fun _ hk => hk.2) (.slice Ao325 t389.length co325)) (fun _ h_ => h_.1))))) (Kd.R_lt (by (with_reducible repeat (first | apply Kd.R_alloc | apply Kd.R_drewN | apply Kd.R_drew)); exact (Kd.R_mono (Kd.R_far (p := ⟨gb392, 1, none⟩) (Kd.R_far (p := ⟨gb392, 0, none⟩) (Kd.R_types HO381.out BK392.out (by decide)) (fun _ hk => hk.2) (.int .i64 t388)) (fun _ hk => hk.2) (.slice Ao325 t389.length co325)) (fun _ h_ => h_.1))))) (Kd.R_lt (by (with_reducible repeat (first | apply Kd.R_alloc | apply Kd.R_drewN | apply Kd.R_drew)); exact (Kd.R_mono (Kd.R_far (p := ⟨gb392, 1, none⟩) (Kd.R_far (p := ⟨gb392, 0, none⟩) (Kd.R_types HO391.out BK392.out (by decide)) (fun _ hk => hk.2) (.int .i64 t388)) (fun _ hk => hk.2) (.slice Ao325 t389.length co325)) (fun _ h_ => h_.1))))) (below_size (ms HB))); have n6_ := bf BK364 hb; have n7_ := bf BK365 hb; have n8_ := bf BK366 hb; have n9_ := bf BK387 hb; have n10_ := Aside0.mk (blk_below (g := gb392) (o := .cells #[.int .i64 t388, .slice Ao325 t389.length co325] 36 (0, 0)) (by (with_reducible repeat (first | refine blk_drewN ?_ _ | refine blk_drew ?_ | refine blk_alloc ?_ _)); refine blk_put (cs := #[.int .i64 t388, .slice none 0 0]) ?_ 1 _ rfl; (with_reducible repeat (first | refine blk_drewN ?_ _ | refine blk_drew ?_ | refine blk_alloc ?_ _)); refine blk_put (cs := #[.int .i64 0, .slice none 0 0]) ?_ 0 _ rfl; (with_reducible repeat (first | refine blk_drewN ?_ _ | refine blk_drew ?_ | refine blk_alloc ?_ _)); exact BK392.out) hb); have n11_ := bs HB hb; clear HO373 HO377 HO381 HO386 HO391 BK364 BK365 BK366 BK387 BK392 HB; have HO373 := n0_; have HO377 := n1_; have HO381 := n2_; have HO386 := n3_; have HO391 := n4_; have HO396 := n5_; have BK364 := n6_; have BK365 := n7_; have BK366 := n8_; have BK387 := n9_; have BK392 := n10_; have HB := n11_; clear n0_ n1_ n2_ n3_ n4_ n5_ n6_ n7_ n8_ n9_ n10_ n11_; (try clear hb); (try clear ho0)) | ((with_reducible refine gate_dst (N := 11) rfl ?_); refine box_event ?hg (N := 11) ?hd (cs := #[.int .i64 0, .slice none 0 0]) (t := 65) ?hr ?_; (case hd => rfl); (case hg => rfl); (case hr => first | (go_simp; done) | (go_simp; rfl)); intro gb397 hg w328 hbox hb; replace HO373 := bS HO373 hb; replace HO377 := rb HO377 hb; replace HO381 := rb HO381 hb; replace HO386 := bS HO386 hb; replace HO391 := rb HO391 hb; replace HO396 := rb HO396 hb; have BK397 := Aside0.mk (hbox); have GW397 := gw hg HB; have GE397 := gw hg HB; replace HB := bs HB hb; have NB364_397 := nl hg BK364; have NB397_364 := ng hg BK364; replace BK364 := bb BK364 hb; have NB365_397 := nl hg BK365; have NB397_365 := ng hg BK365; replace BK365 := bb BK365 hb; have NB366_397 := nl hg BK366; have NB397_366 := ng hg BK366; replace BK366 := bb BK366 hb; have NB387_397 := nl hg BK387; have NB397_387 := ng hg BK387; replace BK387 := bb BK387 hb; have NB392_397 := nl hg BK392; have NB397_392 := ng hg BK392; replace BK392 := bb BK392 hb; clear hb hbox hg; have hnb329 := NB397_364.out; have hnc329 := NB364_397.out; have hnb330 := NB397_365.out; have hnc330 := NB365_397.out; have hnb331 := NB397_366.out; have hnc331 := NB366_397.out; have hnb332 := NB397_387.out; have hnc332 := NB387_397.out; have hnb333 := NB397_392.out; have hnc333 := NB392_397.out; obtain ⟨hcz334_0, hcz334_1⟩ := c2 BK397; have hfz334_0 := blk_frozen BK397.out 0; have hfz334_1 := blk_frozen BK397.out 1; obtain ⟨Ao335, co335, eo335⟩ := Kd.R_slice HO396.out; subst eo335; obtain ⟨hcz336_0, hcz336_1⟩ := c2 BK387; have hfz336_0 := blk_frozen BK387.out 0; have hfz336_1 := blk_frozen BK387.out 1; obtain ⟨hcz337_0, hcz337_1⟩ := c2 BK392; have hfz337_0 := blk_frozen BK392.out 0; have hfz337_1 := blk_frozen BK392.out 1) | ((with_reducible refine gate_callee (f := 48) rfl ?_); refine goesL_ (some 44) rfl rfl Try.func48 (by kernel_rfl) rfl #[.agg #[.int .i64 t383, .slice Ao316 t384.length co316], .agg #[.int .i64 t388, .slice Ao325 t389.length co325], .agg #[.int .i64 t393, .slice Ao335 t394.length co335]] rfl (by (try simp only [List.map_toArray, List.map_cons, List.map_nil]); first | done | rfl | (simp only [List.length_drop, List.length_take]; rfl)) ?_; (with_reducible refine (impl_CheckFarkas.calls k t383 _ _ t384 t388 _ _ t389 t393 _ _ t394 t398 _ ?side1 ?side2 ?side3 ?side4 ?side5 ?side6 A46.out).mono ?_); (case side1 => refine (Kd.S_reads' (e := 36) (base := w.heap.size) (ok := fun k_ => ((((((True ∧ some k_ ≠ (.slice Ao305 t371.length co305 : Value).ownBlock) ∧ some k_ ≠ (.slice Ao306 t375.length co306 : Value).ownBlock) ∧ some k_ ≠ (.slice Ao307 t379.length co307 : Value).ownBlock) ∧ some k_ ≠ (.slice Ao325 t389.length co325 : Value).ownBlock) ∧ k_ ≠ gb392) ∧ some k_ ≠ (.slice Ao335 t394.length co335 : Value).ownBlock)) (n := t384.length) (c := co316) ?_).2.2; exact (by (with_reducible repeat (first | apply Kd.S_alloc | apply Kd.S_drewN | apply Kd.S_drew)); exact (Kd.S_mono (Kd.S_far (p := ⟨gb397, 1, none⟩) (Kd.S_far (p := ⟨gb397, 0, none⟩) (Kd.S_types HO386.out BK397.out (by decide)) (fun _ hk => hk.2) (.int .i64 t393)) (fun _ hk => hk.2) (.slice Ao335 t394.length co335)) (fun _ h_ => h_.1)))); (case side2 => exact (Kd.S_reads' HO386.out).2.1); (case side3 => refine (Kd.R_reads' (e := 3) (base := w.heap.size) (ok := fun k_ => (((True ∧ some k_ ≠ (.slice Ao306 t375.length co306 : Value).ownBlock) ∧ some k_ ≠ (.slice Ao307 t379.length co307 : Value).ownBlock) ∧ some k_ ≠ (.slice Ao335 t394.length co335 : Value).ownBlock)) (n := t389.length) (c := co325) ?_).2.2; exact (by (with_reducible repeat (first | apply Kd.R_alloc | apply Kd.R_drewN | apply Kd.R_drew)); exact (Kd.R_mono (Kd.R_far (p := ⟨gb397, 1, none⟩) (Kd.R_far (p := ⟨gb397, 0, none⟩) (Kd.R_types HO391.out BK397.out (by decide)) (fun _ hk => hk.2) (.int .i64 t393)) (fun _ hk => hk.2) (.slice Ao335 t394.length co335)) (fun _ h_ => h_.1)))); (case side4 => exact (Kd.R_reads' HO391.out).2.1); (case side5 => refine (Kd.R_reads' (e := 3) (base := w.heap.size) (ok := fun k_ => (((True ∧ some k_ ≠ (.slice Ao306 t375.length co306 : Value).ownBlock) ∧ some k_ ≠ (.slice Ao307 t379.length co307 : Value).ownBlock) ∧ some k_ ≠ (.slice Ao325 t389.length co325 : Value).ownBlock)) (n := t394.length) (c := co335) ?_).2.2; exact (by (with_reducible repeat (first | apply Kd.R_alloc | apply Kd.R_drewN | apply Kd.R_drew)); exact (Kd.R_mono (Kd.R_far (p := ⟨gb397, 1, none⟩) (Kd.R_far (p := ⟨gb397, 0, none⟩) (Kd.R_types HO396.out BK397.out (by decide)) (fun _ hk => hk.2) (.int .i64 t393)) (fun _ hk => hk.2) (.slice Ao335 t394.length co335)) (fun _ h_ => h_.1)))); (case side6 => exact (Kd.R_reads' HO396.out).2.1); rintro e w338 ⟨rfl, hb⟩; refine ⟨_, rfl, ?_⟩; have n0_ := Aside0.mk (Kd.S_below (by (with_reducible repeat (first | apply Kd.S_alloc | apply Kd.S_drewN | apply Kd.S_drew)); exact (Kd.S_mono (Kd.S_far (p := ⟨gb397, 1, none⟩) (Kd.S_far (p := ⟨gb397, 0, none⟩) (Kd.S_types HO373.out BK397.out (by decide)) (fun _ hk => hk.2) (.int .i64 t393)) (fun _ hk => hk.2) (.slice Ao335 t394.length co335)) (fun _ h_ => h_.1))) hb); have n1_ := Aside0.mk (Kd.R_below (by (with_reducible repeat (first | apply Kd.R_alloc | apply Kd.R_drewN | apply Kd.R_drew)); exact (Kd.R_mono (Kd.R_far (p := ⟨gb397, 1, none⟩) (Kd.R_far (p := ⟨gb397, 0, none⟩) (Kd.R_types HO377.out BK397.out (by decide)) (fun _ hk => hk.2) (.int .i64 t393)) (fun _ hk => hk.2) (.slice Ao335 t394.length co335)) (fun _ h_ => h_.1))) hb); have n2_ := Aside0.mk (Kd.R_below (by (with_reducible repeat (first | apply Kd.R_alloc | apply Kd.R_drewN | apply Kd.R_drew)); exact (Kd.R_mono (Kd.R_far (p := ⟨gb397, 1, none⟩) (Kd.R_far (p := ⟨gb397, 0, none⟩) (Kd.R_types HO381.out BK397.out (by decide)) (fun _ hk => hk.2) (.int .i64 t393)) (fun _ hk => hk.2) (.slice Ao335 t394.length co335)) (fun _ h_ => h_.1))) hb); have n3_ := Aside0.mk (Kd.S_below (by (with_reducible repeat (first | apply Kd.S_alloc | apply Kd.S_drewN | apply Kd.S_drew)); exact (Kd.S_mono (Kd.S_far (p := ⟨gb397, 1, none⟩) (Kd.S_far (p := ⟨gb397, 0, none⟩) (Kd.S_types HO386.out BK397.out (by decide)) (fun _ hk => hk.2) (.int .i64 t393)) (fun _ hk => hk.2) (.slice Ao335 t394.length co335)) (fun _ h_ => h_.1))) hb); have n4_ := Aside0.mk (Kd.R_below (by (with_reducible repeat (first | apply Kd.R_alloc | apply Kd.R_drewN | apply Kd.R_drew)); exact (Kd.R_mono (Kd.R_far (p := ⟨gb397, 1, none⟩) (Kd.R_far (p := ⟨gb397, 0, none⟩) (Kd.R_types HO391.out BK397.out (by decide)) (fun _ hk => hk.2) (.int .i64 t393)) (fun _ hk => hk.2) (.slice Ao335 t394.length co335)) (fun _ h_ => h_.1))) hb); have n5_ := Aside0.mk (Kd.R_below (by (with_reducible repeat (first | apply Kd.R_alloc | apply Kd.R_drewN | apply Kd.R_drew)); exact (Kd.R_mono (Kd.R_far (p := ⟨gb397, 1, none⟩) (Kd.R_far (p := ⟨gb397, 0, none⟩) (Kd.R_types HO396.out BK397.out (by decide)) (fun _ hk => hk.2) (.int .i64 t393)) (fun _ hk => hk.2) (.slice Ao335 t394.length co335)) (fun _ h_ => h_.1))) hb); have n6_ := bf BK364 hb; have n7_ := bf BK365 hb; have n8_ := bf BK366 hb; have n9_ := bf BK387 hb; have n10_ := bf BK392 hb; have n11_ := Aside0.mk (blk_below (g := gb397) (o := .cells #[.int .i64 t393, .slice Ao335 t394.length co335] 65 (0, 0)) (by (with_reducible repeat (first | refine blk_drewN ?_ _ | refine blk_drew ?_ | refine blk_alloc ?_ _)); refine blk_put (cs := #[.int .i64 t393, .slice none 0 0]) ?_ 1 _ rfl; (with_reducible repeat (first | refine blk_drewN ?_ _ | refine blk_drew ?_ | refine blk_alloc ?_ _)); refine blk_put (cs := #[.int .i64 0, .slice none 0 0]) ?_ 0 _ rfl; (with_reducible repeat (first | refine blk_drewN ?_ _ | refine blk_drew ?_ | refine blk_alloc ?_ _)); exact BK397.out) hb); have n12_ := bs HB hb; clear HO373 HO377 HO381 HO386 HO391 HO396 BK364 BK365 BK366 BK387 BK392 BK397 HB; have HO373 := n0_; have HO377 := n1_; have HO381 := n2_; have HO386 := n3_; have HO391 := n4_; have HO396 := n5_; have BK364 := n6_; have BK365 := n7_; have BK366 := n8_; have BK387 := n9_; have BK392 := n10_; have BK397 := n11_; have HB := n12_; clear n0_ n1_ n2_ n3_ n4_ n5_ n6_ n7_ n8_ n9_ n10_ n11_ n12_; (try clear hb)))
      replace HO373 := Aside0.mk (Kd.S_drew HO373.out)
      replace HO377 := Aside0.mk (Kd.R_drew HO377.out)
      replace HO381 := Aside0.mk (Kd.R_drew HO381.out)
      replace HO386 := Aside0.mk (Kd.S_drew HO386.out)
      replace HO391 := Aside0.mk (Kd.R_drew HO391.out)
      replace HO396 := Aside0.mk (Kd.R_drew HO396.out)
      replace BK364 := Aside0.mk (blk_drew BK364.out)
      replace BK365 := Aside0.mk (blk_drew BK365.out)
      replace BK366 := Aside0.mk (blk_drew BK366.out)
      replace BK387 := Aside0.mk (blk_drew BK387.out)
      replace BK392 := Aside0.mk (blk_drew BK392.out)
      replace BK397 := Aside0.mk (blk_drew BK397.out)
      replace HB := Aside0.mk (below_drew1 HB.out)
      refine start_ (n := 5) (S := fun w' => w'.cell? ⟨gb387, 0, none⟩ = some (.int .i64 t383) ∧ w'.cell? ⟨gb387, 1, none⟩ = some (.slice Ao316 t384.length co316) ∧ w'.cell? ⟨gb364, 0, none⟩ = some (.int .i64 a0_0) ∧ w'.cell? ⟨gb364, 1, none⟩ = some (.slice A0_1 l0_1.length c0_1)) (ds := []) #[false, false, false, false, false] (by kernel_rfl) rfl rfl ⟨(c2 BK387).1, (c2 BK387).2, (c2 BK364).1, (c2 BK364).2⟩ (fun hHeld => ?_)
      generalize w338.drew = w339 at HO373 HO377 HO381 HO386 HO391 HO396 BK364 BK365 BK366 BK387 BK392 BK397 HB hHeld ⊢
      refine take_ (i := 0) (N := some 48) (v := ?_) (a' := ?_) #[true, false, false, false, false] rfl rfl (by kernel_rfl) (fun _ _ _ h => h) (Or.inl ⟨by rfl, ?_⟩) hHeld ?_ ?_
      rotate_left
      ·rintro w' ⟨s0, s1, s2, s3⟩
       go_simp
       with_reducible rfl
      rotate_left
      ·simp only [Act.put, List.setIfInBounds_toArray, List.set_cons_zero, List.set_cons_succ, i64_w, i32_w]
       rfl
      refine take_ (i := 1) (N := some 49) (v := ?_) (a' := ?_) #[true, true, false, false, false] rfl rfl (by kernel_rfl) (fun _ _ _ h => h) (Or.inl ⟨by rfl, ?_⟩) hHeld ?_ ?_
      rotate_left
      ·rintro w' ⟨s0, s1, s2, s3⟩
       go_simp
       with_reducible rfl
      rotate_left
      ·simp only [Act.put, List.setIfInBounds_toArray, List.set_cons_zero, List.set_cons_succ, i64_w, i32_w]
       rfl
      refine one_ (i := 2) (N := some 50) #[true, true, true, false, false] rfl rfl (by kernel_rfl) (by decide) (fun K hK => ?_)
      refine goes_ Try.func14 (by kernel_rfl) rfl #[.agg #[.int .i64 a0_0, .slice A0_1 l0_1.length c0_1]] (by rfl) rfl rfl (by (try simp only [List.map_toArray, List.map_cons, List.map_nil]); first | done | rfl | (simp only [List.length_drop, List.length_take]; rfl)) ?_
      with_reducible refine (laws_toSystem.calls k a0_0 _ _ l0_1 t399 t400 _ ?side1 ?side2 A98.out).mono ?_
      (case side1 => exact mc ((Kd.C_below HR0_1.out HB.out)))
      (case side2 => exact HC0_1.out)
      rintro e w340 ⟨v401, rfl, ho0, hb⟩
      refine ⟨_, rfl, ?_⟩
      have HO402 := Aside0.mk (Kd.S_lower (Kd.S_newB (Kd.S_new' (Kd.S_new' (Kd.S_new' (Kd.S_new' (Kd.S_new' (Kd.S_new' ho0 (Kd.S_lt (mS HO373))) (Kd.R_lt (mr HO377))) (Kd.R_lt (mr HO381))) (Kd.S_lt (mS HO386))) (Kd.R_lt (mr HO391))) (Kd.R_lt (mr HO396))) (g := gb392) (o := .cells #[.int .i64 t388, .slice Ao325 t389.length co325] 36 (0, 0)) (mb BK392)) (below_size (ms HB)))
      replace HO373 := Aside0.mk (Kd.S_elder' (mS HO373) (Kd.S_base ho0) hb)
      replace HO377 := rb HO377 hb
      replace HO381 := rb HO381 hb
      replace HO386 := Aside0.mk (Kd.S_elder' (mS HO386) (Kd.S_base ho0) hb)
      replace HO391 := rb HO391 hb
      replace HO396 := rb HO396 hb
      replace BK364 := bb BK364 hb
      replace BK365 := bb BK365 hb
      replace BK366 := bb BK366 hb
      replace BK387 := bb BK387 hb
      replace BK392 := bb BK392 hb
      replace BK397 := bb BK397 hb
      replace HB := bs HB hb
      (try clear hb)
      (try clear hb2)
      (try clear hk)
      (try clear hi)
      (try clear ho0)
      obtain ⟨Ao341, co341, eo341⟩ := Kd.S_slice HO402.out
      (first | subst eo341 | (injection eo341 with f1_ f2_ f3_; have f4_ := f1_.symm; have f5_ := f3_.symm; clear f1_ f2_ f3_; subst f4_; subst f5_))
      refine hK.out _ _ ⟨(c2 BK387).1, (c2 BK387).2, (c2 BK364).1, (c2 BK364).2⟩ (fun hHeld => ?_)
      clear hK K
      refine norm_ (a' := ?_) ?_ ?_
      rotate_left
      ·show Act.put _ (some 50) _ = _
       simp only [Act.put, List.setIfInBounds_toArray, List.set_cons_zero, List.set_cons_succ, i64_w, i32_w]
       rfl
      refine one_ (i := 3) (N := some 51) #[true, true, true, true, false] rfl rfl (by kernel_rfl) (by decide) (fun K hK => ?_)
      refine goes_ Try.func17 (by kernel_rfl) rfl #[.agg #[.int .i64 t383, .slice Ao316 t384.length co316], .agg #[.int .i64 t399, .slice Ao341 t400.length co341]] (by rfl) rfl rfl (by (try simp only [List.map_toArray, List.map_cons, List.map_nil]); first | done | rfl | (simp only [List.length_drop, List.length_take]; rfl)) ?_
      with_reducible refine (laws_eqSystem.calls k t383 _ _ t384 t399 _ _ t400 false _ ?side1 ?side2 ?side3 ?side4 A99.out).mono ?_
      (case side1 => exact mc ((Kd.S_reads' HO386.out).2.2))
      (case side2 => exact (Kd.S_reads' HO386.out).2.1)
      (case side3 => exact mc ((Kd.S_reads' HO402.out).2.2))
      (case side4 => exact (Kd.S_reads' HO402.out).2.1)
      rintro e w342 ⟨rfl, hb⟩
      refine ⟨_, rfl, ?_⟩
      replace HO373 := bS HO373 hb
      replace HO377 := rb HO377 hb
      replace HO381 := rb HO381 hb
      replace HO386 := bS HO386 hb
      replace HO391 := rb HO391 hb
      replace HO396 := rb HO396 hb
      replace HO402 := bS HO402 hb
      replace BK364 := bb BK364 hb
      replace BK365 := bb BK365 hb
      replace BK366 := bb BK366 hb
      replace BK387 := bb BK387 hb
      replace BK392 := bb BK392 hb
      replace BK397 := bb BK397 hb
      replace HB := bs HB hb
      (try clear hb)
      (try clear hb2)
      (try clear hk)
      (try clear hi)
      refine hK.out _ _ ⟨(c2 BK387).1, (c2 BK387).2, (c2 BK364).1, (c2 BK364).2⟩ (fun hHeld => ?_)
      clear hK K
      refine norm_ (a' := ?_) ?_ ?_
      rotate_left
      ·show Act.put _ (some 51) _ = _
       simp only [Act.put, List.setIfInBounds_toArray, List.set_cons_zero, List.set_cons_succ, i64_w, i32_w]
       rfl
      refine pure_ (i := 4) (N := some 52) (v := ?_) (a' := ?_) #[true, true, true, true, true] rfl rfl (by kernel_rfl) (fun _ _ _ h => h) (Or.inl ⟨by rfl, ?_⟩) ?_ ?_
      rotate_left
      ·intro w'
       go_simp
       with_reducible rfl
      rotate_left
      ·simp only [Act.put, List.setIfInBounds_toArray, List.set_cons_zero, List.set_cons_succ, i64_w, i32_w]
       rfl
      refine done_ (by kernel_rfl) ?_
      try go_wp2
      go_ret
      exact ⟨by first | rfl | (simp [errW_none, errW_some] <;> rfl) | (simp [*, errW_none, errW_some] <;> rfl), ms HB⟩

/-- THE ONE PURE STATEMENT of laws_FnExactCheckFarkas. -/
def laws_FnExactCheckFarkas.Pure : Prop := ∀ (a0_0 : Int) (l0_1 : List (S27)) (a1_0 : Int) (l1_1 : List Int) (a2_0 : Int) (l2_1 : List Int), ((Lit.int .i64 a0_0).wf = true) → (l0_1.length ≤ 9223372036854775807 ∧ ∀ x0 ∈ l0_1, ((Lit.int .i64 x0.f0).wf = true) ∧ (x0.f1.length ≤ 9223372036854775807 ∧ ∀ x1 ∈ x0.f1, (Lit.int .i64 x1).wf = true)) → ((Lit.int .i64 a1_0).wf = true) → (l1_1.length ≤ 9223372036854775807 ∧ ∀ x0 ∈ l1_1, (Lit.int .i64 x0).wf = true) → ((Lit.int .i64 a2_0).wf = true) → (l2_1.length ≤ 9223372036854775807 ∧ ∀ x0 ∈ l2_1, (Lit.int .i64 x0).wf = true) → ∃ k, laws_FnExactCheckFarkas.f k a0_0 l0_1 a1_0 l1_1 a2_0 l2_1 = some true

end Go.Proofs.Ytghiljjkaiggfaa.QFnExactCheckFarkas
