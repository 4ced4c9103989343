-- Made by a program of this claim's own (wip/print): not the kit's print as it stands.
import Derived.Test.YtelgmnlkkhikfaaUFnFarkasTri
import Derived.Test.YtelgmnlkkhikfaaQFnFarkasx0
import Derived.Test.YtelgmnlkkhikfaaQFnFarkasx1
import Derived.Test.YtelgmnlkkhikfaaQFnFarkasx4
import Derived.Test.YtelgmnlkkhikfaaQFnFarkasx8
import Derived.Test.YtelgmnlkkhikfaaQFnFarkasx10
namespace Go.Proofs.Ytelgmnlkkhikfaa.QFnFarkas
open Go.RowKit Go.Proofs.YtelgmnlkkhikfaaV.PrintWords Go.Proofs.YtelgmnlkkhikfaaV.PrintLast Go.Proofs.YtelgmnlkkhikfaaV.PrintMore
attribute [local go_sem] max2_int min2_int max_two min_two max_three min_three max_four min_four   -- for this text's walks alone
set_option linter.unusedVariables false
set_option linter.unusedSimpArgs false

/-! ### spec_DrawCheckFarkas: function 26 -/
def spec_DrawCheckFarkas.j0 : Nat → List Int → Bool → List Int → Int → Int → Int → List (S36) → Int → List Int → Option (Int × (List (S36)) × Int × List Int × Int × List Int)
 | 0, _, _, _, _, _, _, _, _, _ => none
 | k + 1, x7, x30, x343000, x343001, x343002, x350000, x350001, x361000, x361001 => if x30 = true then ((spec_l7Target.f k x343000 x343001 x343002 x350000 x350001).bind fun bt364 => ((spec_l1Below.f x343000 bt364.2.2.1 bt364.2.2.2 3).bind fun bt370 => (some (x350000, x350001, bt364.1, bt364.2.1, bt370.1, x7)))) else ((spec_l1Below.f x343000 x343001 x343002 3).bind fun bt373 => (some (x350000, x350001, wrap64 ((wrap64 (x361000 + bt373.1)) - 1), x361001, 1, x7)))
def spec_DrawCheckFarkas.f (k : Nat) (l0 : List Int) : Option (Int × (List (S36)) × Int × List Int × Int × List Int) := (spec_l1New.f k l0).bind fun bt339 => ((spec_l6Bent.f k bt339.1 bt339.2.1 bt339.2.2).bind fun bt343 => ((spec_l7Mult.f k bt339.1 bt343.2.2.1 bt343.2.2.2 (bt343.2.1.length : Int)).bind fun bt350 => ((spec_CombineRows.f k bt343.1 bt343.2.1 bt350.1).bind fun bt355 => (if bt355.2.2 = true then ((spec_l1Once.f bt339.1 bt350.2.1 bt350.2.2 3).bind fun bt361 => (spec_DrawCheckFarkas.j0 k bt350.1 bt361.1 bt339.1 bt361.2.1 bt361.2.2 bt343.1 bt343.2.1 bt355.1 bt355.2.1)) else (spec_DrawCheckFarkas.j0 k bt350.1 true bt339.1 bt350.2.1 bt350.2.2 bt343.1 bt343.2.1 bt355.1 bt355.2.1)))))
theorem spec_DrawCheckFarkas.mono_l : ∀ k, (∀ y0 y1 y2 y3 y4 y5 y6 y7 y8, LeO (spec_DrawCheckFarkas.j0 k y0 y1 y2 y3 y4 y5 y6 y7 y8) (spec_DrawCheckFarkas.j0 (k + 1) y0 y1 y2 y3 y4 y5 y6 y7 y8))
 | 0 => fun _ _ _ _ _ _ _ _ _ r h => by simp [spec_DrawCheckFarkas.j0] at h
 | k + 1 => by
  have ih0 := spec_DrawCheckFarkas.mono_l k
  ·intro y0 y1 y2 y3 y4 y5 y6 y7 y8
   unfold spec_DrawCheckFarkas.j0
   repeat' with_reducible first
   | exact ih0 _ _ _ _ _ _ _ _ _
   | exact spec_CombineRows.mono _ _ _ _
   | exact spec_l1New.mono _ _
   | exact spec_l6Bent.mono _ _ _ _
   | exact spec_l7Mult.mono _ _ _ _ _
   | exact spec_l7Target.mono _ _ _ _ _ _
   | exact LeO.refl _
   | exact LeO.none _
   | refine LeO.ite ?_ ?_
   | refine LeO.bind ?_ (fun _ => ?_)
theorem spec_DrawCheckFarkas.mono : ∀ a0 k, LeO (spec_DrawCheckFarkas.f k a0) (spec_DrawCheckFarkas.f (k + 1) a0) := by
 intro a0 k
 have ih0 := spec_DrawCheckFarkas.mono_l k
 unfold spec_DrawCheckFarkas.f
 repeat' with_reducible first
 | exact ih0 _ _ _ _ _ _ _ _ _
 | exact spec_CombineRows.mono _ _ _ _
 | exact spec_l1New.mono _ _
 | exact spec_l6Bent.mono _ _ _ _
 | exact spec_l7Mult.mono _ _ _ _ _
 | exact spec_l7Target.mono _ _ _ _ _ _
 | exact LeO.refl _
 | exact LeO.none _
 | refine LeO.ite ?_ ?_
 | refine LeO.bind ?_ (fun _ => ?_)
def spec_DrawCheckFarkas.T6 : Bool × List (List Nat × List Nat) := (true, [([], []), ([], []), ([], []), ([1, 2], [1, 2]), ([], []), ([4, 3], [4]), ([], []), ([5, 6], [5, 6]), ([0, 5, 0], [0]), ([3, 8, 0, 1, 2, 3, 8], [3]), ([7, 9, 0, 1, 2, 3, 4, 5, 6, 7, 8, 9], [7])])
def spec_DrawCheckFarkas.B6 : List Nat := [0, 0, 0, 6, 0, 30, 0, 126, 63, 319, 1023]
theorem spec_DrawCheckFarkas.tab6 : rtab .any (opsOf Try.f26 6) = spec_DrawCheckFarkas.T6 := by kernel_rfl
theorem spec_DrawCheckFarkas.bits6 : waitsOk spec_DrawCheckFarkas.T6.2 spec_DrawCheckFarkas.B6 = true := by kernel_rfl
def spec_DrawCheckFarkas.T7 : Bool × List (List Nat × List Nat) := (true, [([], []), ([0], [0]), ([], []), ([2], [2]), ([1, 3], [1, 3]), ([4], [4]), ([0, 1, 2, 3, 4, 5], []), ([6, 5, 3, 0, 1, 2, 3, 4, 5], [5, 6])])
def spec_DrawCheckFarkas.B7 : List Nat := [0, 1, 0, 4, 15, 31, 63, 127]
theorem spec_DrawCheckFarkas.tab7 : rtab .any (opsOf Try.f26 7) = spec_DrawCheckFarkas.T7 := by kernel_rfl
theorem spec_DrawCheckFarkas.bits7 : waitsOk spec_DrawCheckFarkas.T7.2 spec_DrawCheckFarkas.B7 = true := by kernel_rfl
set_option maxHeartbeats 8000000 in
set_option maxRecDepth 100000 in
theorem spec_DrawCheckFarkas.calls (k : Nat) (A0 : Option Addr) (c0 : Nat) (l0 : List Int) (r1 : Int) (r2 : List (S36)) (r3 : Int) (r4 : List Int) (r5 : Int) (r6 : List Int) (w : World) (hr0 : Kd.C (Kd.int .u8) w A0 l0.length l0) (hc0 : l0.length ≤ c0) (h : spec_DrawCheckFarkas.f k l0 = some (r1, r2, r3, r4, r5, r6)) :
  Calls Try.prog 26 #[.slice A0 l0.length c0] w fun e w' => ∃ v1_ v3_ v5_ : Value, e = .returned (.tuple #[.agg #[.int .i64 r1, v1_], .agg #[.int .i64 r3, v3_], .agg #[.int .i64 r5, v5_]]) ∧ Kd.S k36 36 w' w.heap.size (fun k_ => some k_ ≠ (v3_ : Value).ownBlock ∧ some k_ ≠ (v5_ : Value).ownBlock) v1_ r2 ∧ Kd.R (Kd.int .i64) 3 w' w.heap.size (fun k_ => some k_ ≠ (v5_ : Value).ownBlock) v3_ r4 ∧ Kd.R (Kd.int .i64) 3 w' w.heap.size (fun k_ => some k_ ≠ (v3_ : Value).ownBlock) v5_ r6 ∧ Below w.heap.size w w' := by
 have hu33 := Try.underlying33
 have hu36 := Try.underlying36
 have hu38 := Try.underlying38
 have HR0 := Aside0.mk hr0
 have HC0 := Aside0.mk hc0
 clear hr0 hc0
 have HB := Aside0.mk (Below.refl w.heap.size w)
 have H : ((spec_l1New.f k l0).bind fun bt339 => ((spec_l6Bent.f k bt339.1 bt339.2.1 bt339.2.2).bind fun bt343 => ((spec_l7Mult.f k bt339.1 bt343.2.2.1 bt343.2.2.2 (bt343.2.1.length : Int)).bind fun bt350 => ((spec_CombineRows.f k bt343.1 bt343.2.1 bt350.1).bind fun bt355 => (if bt355.2.2 = true then ((spec_l1Once.f bt339.1 bt350.2.1 bt350.2.2 3).bind fun bt361 => (spec_DrawCheckFarkas.j0 k bt350.1 bt361.1 bt339.1 bt361.2.1 bt361.2.2 bt343.1 bt343.2.1 bt355.1 bt355.2.1)) else (spec_DrawCheckFarkas.j0 k bt350.1 true bt339.1 bt350.2.1 bt350.2.2 bt343.1 bt343.2.1 bt355.1 bt355.2.1)))))) = some (r1, r2, r3, r4, r5, r6) := h
 clear h
 replace H := Option.bind_eq_some_iff.mp H
 obtain ⟨⟨t339, t340, t341⟩, A20, H⟩ := H
 replace H : ((spec_l6Bent.f k t339 t340 t341).bind fun bt343 => ((spec_l7Mult.f k t339 bt343.2.2.1 bt343.2.2.2 (bt343.2.1.length : Int)).bind fun bt350 => ((spec_CombineRows.f k bt343.1 bt343.2.1 bt350.1).bind fun bt355 => (if bt355.2.2 = true then ((spec_l1Once.f t339 bt350.2.1 bt350.2.2 3).bind fun bt361 => (spec_DrawCheckFarkas.j0 k bt350.1 bt361.1 t339 bt361.2.1 bt361.2.2 bt343.1 bt343.2.1 bt355.1 bt355.2.1)) else (spec_DrawCheckFarkas.j0 k bt350.1 true t339 bt350.2.1 bt350.2.2 bt343.1 bt343.2.1 bt355.1 bt355.2.1))))) = some (r1, r2, r3, r4, r5, r6) := H
 have A2 := Aside0.mk A20
 clear A20
 replace H := Option.bind_eq_some_iff.mp H
 obtain ⟨⟨t343, t344, t347, t348⟩, A30, H⟩ := H
 replace H : ((spec_l7Mult.f k t339 t347 t348 (t344.length : Int)).bind fun bt350 => ((spec_CombineRows.f k t343 t344 bt350.1).bind fun bt355 => (if bt355.2.2 = true then ((spec_l1Once.f t339 bt350.2.1 bt350.2.2 3).bind fun bt361 => (spec_DrawCheckFarkas.j0 k bt350.1 bt361.1 t339 bt361.2.1 bt361.2.2 t343 t344 bt355.1 bt355.2.1)) else (spec_DrawCheckFarkas.j0 k bt350.1 true t339 bt350.2.1 bt350.2.2 t343 t344 bt355.1 bt355.2.1)))) = some (r1, r2, r3, r4, r5, r6) := H
 have A3 := Aside0.mk A30
 clear A30
 replace H := Option.bind_eq_some_iff.mp H
 obtain ⟨⟨t350, t353, t354⟩, A40, H⟩ := H
 replace H : ((spec_CombineRows.f k t343 t344 t350).bind fun bt355 => (if bt355.2.2 = true then ((spec_l1Once.f t339 t353 t354 3).bind fun bt361 => (spec_DrawCheckFarkas.j0 k t350 bt361.1 t339 bt361.2.1 bt361.2.2 t343 t344 bt355.1 bt355.2.1)) else (spec_DrawCheckFarkas.j0 k t350 true t339 t353 t354 t343 t344 bt355.1 bt355.2.1))) = some (r1, r2, r3, r4, r5, r6) := H
 have A4 := Aside0.mk A40
 clear A40
 replace H := Option.bind_eq_some_iff.mp H
 obtain ⟨⟨t355, t356, t359⟩, A50, H⟩ := H
 replace H : (if t359 = true then ((spec_l1Once.f t339 t353 t354 3).bind fun bt361 => (spec_DrawCheckFarkas.j0 k t350 bt361.1 t339 bt361.2.1 bt361.2.2 t343 t344 t355 t356)) else (spec_DrawCheckFarkas.j0 k t350 true t339 t353 t354 t343 t344 t355 t356)) = some (r1, r2, r3, r4, r5, r6) := H
 have A5 := Aside0.mk A50
 clear A50
 have HC6 := Aside0.mk H
 clear H
 go_enter Try.func26, Try.ntmps26
 go_upto_region 5 with (first | ((with_reducible refine gate_dst (N := 2) rfl ?_); refine box_event ?hg (N := 2) ?hd (cs := #[.int .i64 0, .slice none 0 0]) (t := 33) ?hr ?_; (case hd => rfl); (case hg => rfl); (case hr => first | (go_simp; done) | (go_simp; rfl)); intro gb336 hg w7 hbox hb; have BK336 := Aside0.mk (hbox); have GW336 := gw hg HB; have GE336 := gw hg HB; replace HB := bs HB hb; clear hb hbox hg) | ((with_reducible refine gate_dst (N := 3) rfl ?_); refine box_event ?hg (N := 3) ?hd (cs := #[.int .i64 0, .slice none 0 0]) (t := 36) ?hr ?_; (case hd => rfl); (case hg => rfl); (case hr => first | (go_simp; done) | (go_simp; rfl)); intro gb337 hg w8 hbox hb; have BK337 := Aside0.mk (hbox); have GW337 := gw hg HB; have GE337 := gw hg HB; replace HB := bs HB hb; have NB336_337 := nl hg BK336; have NB337_336 := ng hg BK336; replace BK336 := bb BK336 hb; clear hb hbox hg) | ((with_reducible refine gate_dst (N := 4) rfl ?_); refine box_event ?hg (N := 4) ?hd (cs := #[.int .i64 0, .slice none 0 0]) (t := 38) ?hr ?_; (case hd => rfl); (case hg => rfl); (case hr => first | (go_simp; done) | (go_simp; rfl)); intro gb338 hg w9 hbox hb; have BK338 := Aside0.mk (hbox); have GW338 := gw hg HB; have GE338 := gw hg HB; replace HB := bs HB hb; have NB336_338 := nl hg BK336; have NB338_336 := ng hg BK336; replace BK336 := bb BK336 hb; have NB337_338 := nl hg BK337; have NB338_337 := ng hg BK337; replace BK337 := bb BK337 hb; clear hb hbox hg) | ((with_reducible refine gate_callee (f := 55) rfl ?_); refine gl (some 11) rfl rfl Try.func55 (by kernel_rfl) rfl #[.slice A0 l0.length c0] rfl ?_; (with_reducible refine (spec_l1New.calls k _ _ l0 t339 t340 t341 w _ ?side1 ?side2 ?side3 A2.out).mono ?_); (case side1 => exact ms HB); (case side2 => exact HR0.out); (case side3 => exact HC0.out); rintro e w10 ⟨g342, rfl, hi, hb, hb2⟩; refine ⟨_, rfl, ?_⟩; replace HB := Aside0.mk (hb); have HI342 := Aside0.mk (hi); have NB342_336 := Aside0.mk (IsS75.ne_blk hi (blk_below (mb BK336) hb2) (by decide)); have NB336_342 := Aside0.mk (Ne.symm (IsS75.ne_blk hi (blk_below (mb BK336) hb2) (by decide))); replace BK336 := Aside0.mk (blk_below (mb BK336) hb2); have NB342_337 := Aside0.mk (IsS75.ne_blk hi (blk_below (mb BK337) hb2) (by decide)); have NB337_342 := Aside0.mk (Ne.symm (IsS75.ne_blk hi (blk_below (mb BK337) hb2) (by decide))); replace BK337 := Aside0.mk (blk_below (mb BK337) hb2); have NB342_338 := Aside0.mk (IsS75.ne_blk hi (blk_below (mb BK338) hb2) (by decide)); have NB338_342 := Aside0.mk (Ne.symm (IsS75.ne_blk hi (blk_below (mb BK338) hb2) (by decide))); replace BK338 := Aside0.mk (blk_below (mb BK338) hb2); (try clear hb)) | ((with_reducible refine gate_callee (f := 56) rfl ?_); refine gl (some 13) rfl rfl Try.func56 (by kernel_rfl) rfl #[.pointer (some ⟨g342, 0, none⟩)] rfl ?_; (with_reducible refine (spec_l6Bent.calls k g342 t339 t340 t341 t343 t344 t347 t348 w _ ?side1 ?side2 A3.out).mono ?_); (case side1 => exact IsS75.mi HI342); (case side2 => exact IsS75.ms HB); rintro e w11 ⟨v345, rfl, ho0, hi, hb, hk⟩; refine ⟨_, rfl, ?_⟩; replace BK336 := Aside0.mk (KeepBut.blk hk (g' := gb336) (o := .cells #[.int .i64 0, .slice none 0 0] 33 (0, 0)) (mb BK336) NB336_342.out (by simp)); replace BK338 := Aside0.mk (KeepBut.blk hk (g' := gb338) (o := .cells #[.int .i64 0, .slice none 0 0] 38 (0, 0)) (mb BK338) NB338_342.out (by simp)); have HO346 := Aside0.mk (Kd.S_lower (Kd.S_newB ho0 (g := gb337) (o := .cells #[.int .i64 0, .slice none 0 0] 36 (0, 0)) (mb BK337)) (below_size (IsS75.ms HB))); replace BK337 := Aside0.mk (KeepBut.blk hk (g' := gb337) (o := .cells #[.int .i64 0, .slice none 0 0] 36 (0, 0)) (mb BK337) NB337_342.out (by simp)); replace HB := Aside0.mk (hb); replace HI342 := Aside0.mk (hi); (try clear hb); (try clear ho0)) | ((with_reducible refine gate_dst (N := 6) rfl ?_); refine box_event ?hg (N := 6) ?hd (cs := #[.int .i64 0, .slice none 0 0]) (t := 33) ?hr ?_; (case hd => rfl); (case hg => rfl); (case hr => first | (go_simp; done) | (go_simp; rfl)); intro gb349 hg w12 hbox hb; have n0_ := bS HO346 hb; have n1_ := bb BK336 hb; have n2_ := bb BK337 hb; have n3_ := bb BK338 hb; have n4_ := Aside0.mk (IsS75.below (IsS75.mi HI342) hb); have n5_ := Aside0.mk (below_step (IsS75.ms HB) hb); have n6_ := Aside0.mk (hbox); have n7_ := Aside0.mk ((by rw [hg]; exact (below_size (IsS75.ms HB)) : w.heap.size ≤ gb349)); have n8_ := Aside0.mk ((by rw [hg]; exact (below_size (IsS75.ms HB)) : w.heap.size ≤ gb349)); have n9_ := nl hg BK336; have n10_ := ng hg BK336; have n11_ := nl hg BK337; have n12_ := ng hg BK337; have n13_ := nl hg BK338; have n14_ := ng hg BK338; have n15_ := Aside0.mk ((by rw [hg]; exact Nat.ne_of_lt (IsS75.lt (show IsS75 w _ g342 t339 t347 t348 from IsS75.mi HI342)) : g342 ≠ gb349)); have n16_ := Aside0.mk ((by rw [hg]; exact Nat.ne_of_gt (IsS75.lt (show IsS75 w _ g342 t339 t347 t348 from IsS75.mi HI342)) : gb349 ≠ g342)); clear HO346 BK336 BK337 BK338 HI342 HB; have HO346 := n0_; have BK336 := n1_; have BK337 := n2_; have BK338 := n3_; have HI342 := n4_; have HB := n5_; have BK349 := n6_; have GW349 := n7_; have GE349 := n8_; have NB336_349 := n9_; have NB349_336 := n10_; have NB337_349 := n11_; have NB349_337 := n12_; have NB338_349 := n13_; have NB349_338 := n14_; have NB342_349 := n15_; have NB349_342 := n16_; clear n0_ n1_ n2_ n3_ n4_ n5_ n6_ n7_ n8_ n9_ n10_ n11_ n12_ n13_ n14_ n15_ n16_; clear hb hbox hg; have := NB349_336.out; have := NB336_349.out; have := NB349_337.out; have := NB337_349.out; have := NB349_338.out; have := NB338_349.out; have := NB349_342.out; have := NB342_349.out; obtain ⟨hcz17_0, hcz17_1, hfz17_0, hfz17_1⟩ := cFour BK349; obtain ⟨Ao18, co18, eo18⟩ := Kd.S_slice HO346.out; subst eo18) | ((with_reducible refine gate_callee (f := 57) rfl ?_); refine gl (some 18) rfl rfl Try.func57 (by kernel_rfl) rfl #[.pointer (some ⟨g342, 0, none⟩), .int .i64 (t344.length : Int)] rfl ?_; (with_reducible refine (spec_l7Mult.calls k g342 t339 t347 t348 (t344.length : Int) t350 t353 t354 w _ ?side1 ?side2 A4.out).mono ?_); (case side1 => exact IsS75.mi HI342); (case side2 => exact IsS75.ms HB); rintro e w19 ⟨v351, rfl, ho0, hi, hb, hk⟩; refine ⟨_, rfl, ?_⟩; have n0_ := Aside0.mk (KeepBut.blk hk (g' := gb336) (o := .cells #[.int .i64 0, .slice none 0 0] 33 (0, 0)) (mf BK336) NB336_342.out (by simp)); have n1_ := Aside0.mk (KeepBut.blk hk (g' := gb337) (o := .cells #[.int .i64 0, .slice none 0 0] 36 (0, 0)) (mf BK337) NB337_342.out (by simp)); have n2_ := Aside0.mk (KeepBut.blk hk (g' := gb338) (o := .cells #[.int .i64 0, .slice none 0 0] 38 (0, 0)) (mf BK338) NB338_342.out (by simp)); have n3_ := Aside0.mk (Kd.S_mono (Kd.S_told (Kd.S_oldK (IsS75.apartS (show IsS75 w _ g342 t339 t347 t348 from IsS75.mi HI342) (by (with_reducible repeat (first | apply Kd.S_alloc | apply Kd.S_drewN | apply Kd.S_drew)); exact (Kd.S_mono (Kd.S_far (p := ⟨gb349, 1, none⟩) (Kd.S_far (p := ⟨gb349, 0, none⟩) (Kd.S_types HO346.out BK349.out (by decide)) (fun _ hk => hk.2) (.int .i64 t343)) (fun _ hk => hk.2) (.slice Ao18 t344.length co18)) (fun _ h_ => h_.1))) (by decide)) hk) (Kd.R_base ho0)) (fun _ h_ => h_.1)); have n4_ := Aside0.mk (KeepBut.blk hk (g' := gb349) (o := .cells #[.int .i64 t343, .slice Ao18 t344.length co18] 33 (0, 0)) (mq BK349) NB349_342.out (by simp)); have n5_ := Aside0.mk (Kd.R_lower ho0 (below_size (IsS75.ms HB))); have n6_ := Aside0.mk (hb); have n7_ := Aside0.mk (hi); clear BK336 BK337 BK338 HO346 BK349 HB HI342; have BK336 := n0_; have BK337 := n1_; have BK338 := n2_; have HO346 := n3_; have BK349 := n4_; have HO352 := n5_; have HB := n6_; have HI342 := n7_; clear n0_ n1_ n2_ n3_ n4_ n5_ n6_ n7_; (try clear hb); (try clear ho0); obtain ⟨hcz20_0, hcz20_1, hfz20_0, hfz20_1⟩ := cFour BK349; obtain ⟨Ao21, co21, eo21⟩ := Kd.R_slice HO352.out; subst eo21) | ((with_reducible refine gate_callee (f := 58) rfl ?_); refine gl (some 22) rfl rfl Try.func58 (by kernel_rfl) rfl #[.agg #[.int .i64 t343, .slice Ao18 t344.length co18], .slice Ao21 t350.length co21] rfl ?_; (with_reducible refine (spec_CombineRows.calls k t343 _ _ t344 _ _ t350 t355 t356 t359 _ ?side1 ?side2 ?side3 ?side4 A5.out).mono ?_); (case side1 => exact mc ((Kd.S_reads' HO346.out).2.2)); (case side2 => exact (Kd.S_reads' HO346.out).2.1); (case side3 => exact mc ((Kd.R_reads' HO352.out).2.2)); (case side4 => exact (Kd.R_reads' HO352.out).2.1); rintro e w22 ⟨v357, rfl, ho0, hb⟩; refine ⟨_, rfl, ?_⟩; replace HO346 := lS HO346 ho0 hb; have HO358 := Aside0.mk (Kd.R_lower (Kd.R_new' ho0 (Kd.R_lt (mr HO352))) (below_size (IsS75.ms HB))); replace HO352 := rl HO352 ho0 hb; replace BK336 := bb BK336 hb; replace BK337 := bb BK337 hb; replace BK338 := bb BK338 hb; replace BK349 := bb BK349 hb; replace HB := Aside0.mk (below_step (IsS75.ms HB) hb); replace HI342 := Aside0.mk (IsS75.below (IsS75.mi HI342) hb); (try clear hb); (try clear ho0)) | ((with_reducible refine gate_dst (N := 8) rfl ?_); refine box_event ?hg (N := 8) ?hd (cs := #[.int .i64 0, .slice none 0 0]) (t := 36) ?hr ?_; (case hd => rfl); (case hg => rfl); (case hr => first | (go_simp; done) | (go_simp; rfl)); intro gb360 hg w23 hbox hb; have n0_ := Aside0.mk (Kd.S_below (Kd.S_elderB (mS HO346) gb360 (Nat.le_of_eq hg.symm)) hb); have n1_ := rb HO352 hb; have n2_ := rb HO358 hb; have n3_ := bb BK336 hb; have n4_ := bb BK337 hb; have n5_ := bb BK338 hb; have n6_ := Aside0.mk (IsS75.below (IsS75.mi HI342) hb); have n7_ := bb BK349 hb; have n8_ := Aside0.mk (below_step (IsS75.ms HB) hb); have n9_ := Aside0.mk (hbox); have n10_ := Aside0.mk ((by rw [hg]; exact (below_size (IsS75.ms HB)) : w.heap.size ≤ gb360)); have n11_ := Aside0.mk ((by rw [hg]; exact (below_size (IsS75.ms HB)) : w.heap.size ≤ gb360)); have n12_ := nl hg BK336; have n13_ := ng hg BK336; have n14_ := nl hg BK337; have n15_ := ng hg BK337; have n16_ := nl hg BK338; have n17_ := ng hg BK338; have n18_ := nl hg BK349; have n19_ := ng hg BK349; have n20_ := Aside0.mk ((by rw [hg]; exact Nat.ne_of_lt (IsS75.lt (show IsS75 w _ g342 t339 t353 t354 from IsS75.mi HI342)) : g342 ≠ gb360)); have n21_ := Aside0.mk ((by rw [hg]; exact Nat.ne_of_gt (IsS75.lt (show IsS75 w _ g342 t339 t353 t354 from IsS75.mi HI342)) : gb360 ≠ g342)); clear HO346 HO352 HO358 BK336 BK337 BK338 HI342 BK349 HB; have HO346 := n0_; have HO352 := n1_; have HO358 := n2_; have BK336 := n3_; have BK337 := n4_; have BK338 := n5_; have HI342 := n6_; have BK349 := n7_; have HB := n8_; have BK360 := n9_; have GW360 := n10_; have GE360 := n11_; have NB336_360 := n12_; have NB360_336 := n13_; have NB337_360 := n14_; have NB360_337 := n15_; have NB338_360 := n16_; have NB360_338 := n17_; have NB349_360 := n18_; have NB360_349 := n19_; have NB342_360 := n20_; have NB360_342 := n21_; clear n0_ n1_ n2_ n3_ n4_ n5_ n6_ n7_ n8_ n9_ n10_ n11_ n12_ n13_ n14_ n15_ n16_ n17_ n18_ n19_ n20_ n21_; clear hb hbox hg; have := NB360_336.out; have := NB336_360.out; have := NB360_337.out; have := NB337_360.out; have := NB360_338.out; have := NB338_360.out; have := NB360_349.out; have := NB349_360.out; have := NB360_342.out; have := NB342_360.out; obtain ⟨hcz29_0, hcz29_1, hfz29_0, hfz29_1⟩ := cFour BK360; obtain ⟨Ao30, co30, eo30⟩ := Kd.R_slice HO358.out; subst eo30))
 (try simp only [Act.put, List.setIfInBounds_toArray, List.set_cons_zero, List.set_cons_succ])
 go_cut [30] (fun v30 wc => ∃ (kq : Nat) (x30_5 : Bool) (x343001_5 : Int) (x343002_5 : Int), v30 = .bool x30_5 ∧ Aside0 (spec_DrawCheckFarkas.j0 kq t350 x30_5 t339 x343001_5 x343002_5 t343 t344 t355 t356 = some (r1, r2, r3, r4, r5, r6)) ∧ Aside0 (kq ≤ k) ∧ Aside0 (Kd.R (Kd.int .i64) 3 wc w.heap.size (fun k_ => some k_ ≠ ((.slice Ao30 t356.length co30) : Value).ownBlock) (.slice Ao21 t350.length co21) t350) ∧ Aside0 (Kd.S k36 36 wc w.heap.size (fun k_ => some k_ ≠ ((.slice Ao21 t350.length co21) : Value).ownBlock ∧ some k_ ≠ ((.slice Ao30 t356.length co30) : Value).ownBlock ∧ k_ ≠ gb337 ∧ k_ ≠ gb360) (.slice Ao18 t344.length co18) t344) ∧ Aside0 (Kd.R (Kd.int .i64) 3 wc w.heap.size (fun k_ => some k_ ≠ ((.slice Ao21 t350.length co21) : Value).ownBlock) (.slice Ao30 t356.length co30) t356) ∧ Aside0 (wc.heap[gb336]? = some (.cells #[.int .i64 0, (.slice none 0 0)] 33 (0, 0))) ∧ Aside0 (wc.heap[gb337]? = some (.cells #[.int .i64 0, (.slice none 0 0)] 36 (0, 0))) ∧ Aside0 (wc.heap[gb338]? = some (.cells #[.int .i64 0, (.slice none 0 0)] 38 (0, 0))) ∧ Aside0 (wc.heap[gb349]? = some (.cells #[.int .i64 t343, (.slice Ao18 t344.length co18)] 33 (0, 0))) ∧ Aside0 (wc.heap[gb360]? = some (.cells #[.int .i64 t355, (.slice Ao30 t356.length co30)] 36 (0, 0))) ∧ Aside0 (IsS75 w wc g342 t339 x343001_5 x343002_5) ∧ Aside0 (Below w.heap.size w wc))
 case first =>
  have H := HC6.out
  clear HC6
  by_cases c31 : t359 = true
  ·subst c31
   have H1 : ((spec_l1Once.f t339 t353 t354 3).bind fun bt361 => (spec_DrawCheckFarkas.j0 k t350 bt361.1 t339 bt361.2.1 bt361.2.2 t343 t344 t355 t356)) = some (r1, r2, r3, r4, r5, r6) := by rw [if_pos rfl] at H; exact H
   clear H
   have H := H1
   clear H1
   replace H := Option.bind_eq_some_iff.mp H
   obtain ⟨⟨t361, t362, t363⟩, A320, H⟩ := H
   replace H : (spec_DrawCheckFarkas.j0 k t350 t361 t339 t362 t363 t343 t344 t355 t356) = some (r1, r2, r3, r4, r5, r6) := H
   have A32 := Aside0.mk A320
   clear A320
   have H' := Aside0.mk H
   clear H
   go_wp2_with (first | (go_at_call 59; (with_reducible refine (spec_l1Once.calls g342 t339 t353 t354 3 t361 t362 t363 w _ ?side1 ?side2 A32.out).mono ?_); (case side1 => exact IsS75.mi HI342); (case side2 => exact IsS75.ms HB); rintro e w33 ⟨rfl, hi, hb, hk⟩; have n0_ := Aside0.mk (KeepBut.blk hk (g' := gb336) (o := .cells #[.int .i64 0, .slice none 0 0] 33 (0, 0)) (mf BK336) NB336_342.out (by simp)); have n1_ := Aside0.mk (KeepBut.blk hk (g' := gb337) (o := .cells #[.int .i64 0, .slice none 0 0] 36 (0, 0)) (mf BK337) NB337_342.out (by simp)); have n2_ := Aside0.mk (KeepBut.blk hk (g' := gb338) (o := .cells #[.int .i64 0, .slice none 0 0] 38 (0, 0)) (mf BK338) NB338_342.out (by simp)); have n3_ := Aside0.mk (Kd.S_mono (Kd.S_keep (IsS75.apartS (show IsS75 w _ g342 t339 t353 t354 from IsS75.mi HI342) (by (with_reducible repeat (first | apply Kd.S_alloc | apply Kd.S_drewN | apply Kd.S_drew)); exact (Kd.S_mono (Kd.S_far (p := ⟨gb360, 1, none⟩) (Kd.S_far (p := ⟨gb360, 0, none⟩) (Kd.S_mono HO346.out (fun k_ hk => (⟨hk, hk.2⟩ : _ ∧ k_ ≠ gb360))) (fun _ hk => hk.2) (.int .i64 t355)) (fun _ hk => hk.2) (.slice Ao30 t356.length co30)) (fun _ h_ => h_.1))) (by decide)) hk (fun _ h => h.2)) (fun _ h => h.1)); have n4_ := Aside0.mk (KeepBut.blk hk (g' := gb349) (o := .cells #[.int .i64 t343, .slice Ao18 t344.length co18] 33 (0, 0)) (mf BK349) NB349_342.out (by simp)); have n5_ := Aside0.mk (Kd.R_mono (Kd.R_keep (IsS75.apart (show IsS75 w _ g342 t339 t353 t354 from IsS75.mi HI342) (by (with_reducible repeat (first | apply Kd.R_alloc | apply Kd.R_drewN | apply Kd.R_drew)); exact (rTwo HO352 BK360)) (by decide)) hk (fun _ h => h.2)) (fun _ h => h.1)); have n6_ := Aside0.mk (Kd.R_mono (Kd.R_keep (IsS75.apart (show IsS75 w _ g342 t339 t353 t354 from IsS75.mi HI342) (by (with_reducible repeat (first | apply Kd.R_alloc | apply Kd.R_drewN | apply Kd.R_drew)); exact (rTwo HO358 BK360)) (by decide)) hk (fun _ h => h.2)) (fun _ h => h.1)); have n7_ := Aside0.mk (KeepBut.blk hk (g' := gb360) (o := .cells #[.int .i64 t355, .slice Ao30 t356.length co30] 36 (0, 0)) (mq BK360) NB360_342.out (by simp)); have n8_ := Aside0.mk (hb); have n9_ := Aside0.mk (hi); clear BK336 BK337 BK338 HO346 BK349 HO352 HO358 BK360 HB HI342; have BK336 := n0_; have BK337 := n1_; have BK338 := n2_; have HO346 := n3_; have BK349 := n4_; have HO352 := n5_; have HO358 := n6_; have BK360 := n7_; have HB := n8_; have HI342 := n9_; clear n0_ n1_ n2_ n3_ n4_ n5_ n6_ n7_ n8_ n9_; (try clear hb)))
   go_meet
   case rel => exact ⟨_, (t361), (t362), (t363), (by first | rfl | (simp; done) | (simp [*]; done)), H', ⟨by first | omega | exact Nat.le_refl _⟩, ⟨by (with_reducible repeat (first | apply Kd.R_alloc | apply Kd.R_drewN | apply Kd.R_drew)); exact Kd.R_mono HO352.out (fun _ hk => hk.2)⟩, ⟨by (with_reducible repeat (first | apply Kd.S_alloc | apply Kd.S_drewN | apply Kd.S_drew)); exact Kd.S_mono HO346.out (fun _ hk => ⟨hk.1.1.2, ⟨hk.1.2, ⟨hk.1.1.1.2, hk.2⟩⟩⟩)⟩, ⟨by (with_reducible repeat (first | apply Kd.R_alloc | apply Kd.R_drewN | apply Kd.R_drew)); exact Kd.R_mono HO358.out (fun _ hk => hk.2)⟩, ⟨mb BK336⟩, ⟨mb BK337⟩, ⟨mb BK338⟩, ⟨mb BK349⟩, ⟨mb BK360⟩, ⟨IsS75.mi HI342⟩, ⟨IsS75.ms HB⟩⟩
  replace c31 := Bool.eq_false_iff.mpr c31
  subst c31
  have H1 : (spec_DrawCheckFarkas.j0 k t350 true t339 t353 t354 t343 t344 t355 t356) = some (r1, r2, r3, r4, r5, r6) := by rw [if_neg (show ¬ (false = true) by decide)] at H; exact H
  clear H
  have H := H1
  clear H1
  have H' := Aside0.mk H
  clear H
  go_wp2
  go_meet
  case rel => exact ⟨_, (true), (t353), (t354), (by first | rfl | (simp; done) | (simp [*]; done)), H', ⟨by first | omega | exact Nat.le_refl _⟩, ⟨by (with_reducible repeat (first | apply Kd.R_alloc | apply Kd.R_drewN | apply Kd.R_drew)); exact Kd.R_mono (Kd.R_far (p := ⟨gb360, 1, none⟩) (Kd.R_far (p := ⟨gb360, 0, none⟩) (Kd.R_types HO352.out BK360.out (by decide)) (fun _ hk => hk.2) (.int .i64 t355)) (fun _ hk => hk.2) (.slice Ao30 t356.length co30)) (fun _ hk => hk.1.2)⟩, ⟨by (with_reducible repeat (first | apply Kd.S_alloc | apply Kd.S_drewN | apply Kd.S_drew)); exact Kd.S_mono (Kd.S_far (p := ⟨gb360, 1, none⟩) (Kd.S_far (p := ⟨gb360, 0, none⟩) (Kd.S_mono HO346.out (fun k_ hk => (⟨hk, hk.2⟩ : _ ∧ k_ ≠ gb360))) (fun _ hk => hk.2) (.int .i64 t355)) (fun _ hk => hk.2) (.slice Ao30 t356.length co30)) (fun _ hk => ⟨hk.1.1.1.2, ⟨hk.1.1.2, ⟨hk.1.1.1.1.2, hk.1.2⟩⟩⟩)⟩, ⟨by (with_reducible repeat (first | apply Kd.R_alloc | apply Kd.R_drewN | apply Kd.R_drew)); exact Kd.R_mono (Kd.R_far (p := ⟨gb360, 1, none⟩) (Kd.R_far (p := ⟨gb360, 0, none⟩) (Kd.R_types HO358.out BK360.out (by decide)) (fun _ hk => hk.2) (.int .i64 t355)) (fun _ hk => hk.2) (.slice Ao30 t356.length co30)) (fun _ hk => hk.1.2)⟩, ⟨mf BK336⟩, ⟨mf BK337⟩, ⟨mf BK338⟩, ⟨mf BK349⟩, ⟨mq BK360⟩, ⟨IsS75.mi HI342⟩, ⟨IsS75.ms HB⟩⟩
 case rest =>
  clear HC6
  try clear c1
  try clear c2
  try clear p2
  try clear c3
  try clear c5
  try clear c13
  try clear c14
  try clear c15
  try clear c16
  try clear c24
  try clear c25
  try clear c26
  try clear c27
  try clear c28
  try clear c31
  try clear hcz17_0
  try clear hcz17_1
  try clear hcz20_0
  try clear hcz20_1
  try clear hcz29_0
  try clear hcz29_1
  try clear hfz17_0
  try clear hfz17_1
  try clear hfz20_0
  try clear hfz20_1
  try clear hfz29_0
  try clear hfz29_1
  obtain ⟨kq, x30_5, x343001_5, x343002_5, rfl, HA, HJ5, HO_7, HO_350001, HO_361001, BK336, BK337, BK338, BK349, BK360, HI342, HB⟩ := hcut
  cases kq with
  | zero => exact absurd HA.out (by simp [spec_DrawCheckFarkas.j0])
  | succ kj5 =>
   have H := HA.out
   clear HA
   simp only [spec_DrawCheckFarkas.j0] at H
   by_cases c34 : x30_5 = true
   ·subst c34
    have H1 : ((spec_l7Target.f kj5 t339 x343001_5 x343002_5 t343 t344).bind fun bt364 => ((spec_l1Below.f t339 bt364.2.2.1 bt364.2.2.2 3).bind fun bt370 => (some (t343, t344, bt364.1, bt364.2.1, bt370.1, t350)))) = some (r1, r2, r3, r4, r5, r6) := by rw [if_pos rfl] at H; exact H
    clear H
    have H := H1
    clear H1
    replace H := Option.bind_eq_some_iff.mp H
    obtain ⟨⟨t364, t365, t368, t369⟩, A350, H⟩ := H
    replace H : ((spec_l1Below.f t339 t368 t369 3).bind fun bt370 => (some (t343, t344, t364, t365, bt370.1, t350))) = some (r1, r2, r3, r4, r5, r6) := H
    have A35 := Aside0.mk A350
    clear A350
    replace H := Option.bind_eq_some_iff.mp H
    obtain ⟨⟨t370, t371, t372⟩, A360, H⟩ := H
    replace H : (some (t343, t344, t364, t365, t370, t350)) = some (r1, r2, r3, r4, r5, r6) := H
    have A36 := Aside0.mk A360
    clear A360
    simp only [Option.some.injEq, Prod.mk.injEq] at H
    obtain ⟨rfl, rfl, rfl, rfl, rfl, rfl⟩ := H
    try go_wp2
    replace HO_7 := Aside0.mk (Kd.R_drew HO_7.out)
    replace HO_350001 := Aside0.mk (Kd.S_drew HO_350001.out)
    replace HO_361001 := Aside0.mk (Kd.R_drew HO_361001.out)
    replace BK336 := Aside0.mk (blk_drew BK336.out)
    replace BK337 := Aside0.mk (blk_drew BK337.out)
    replace BK338 := Aside0.mk (blk_drew BK338.out)
    replace BK349 := Aside0.mk (blk_drew BK349.out)
    replace BK360 := Aside0.mk (blk_drew BK360.out)
    replace HI342 := Aside0.mk (IsS75.drew HI342.out)
    replace HB := Aside0.mk (below_drew1 HB.out)
    refine start_ (n := 11) (S := fun w' => w'.cell? ⟨gb349, 0, none⟩ = some (.int .i64 t343) ∧ w'.cell? ⟨gb349, 1, none⟩ = some (.slice Ao18 t344.length co18)) (ds := []) #[false, false, false, false, false, false, false, false, false, false, false] (by kernel_rfl) rfl rfl ⟨(c2 BK349).1, (c2 BK349).2⟩ (fun hHeld => ?_); refine with_tabW spec_DrawCheckFarkas.tab6 spec_DrawCheckFarkas.bits6 (fun HT_ HW_ => ?_)
    generalize wc.drew = w37 at HO_7 HO_350001 HO_361001 BK336 BK337 BK338 BK349 BK360 HI342 HB hHeld ⊢
    refine pu 1 (some 32) (v := ?_) (a' := ?_) #[false, true, false, false, false, false, false, false, false, false, false] rfl rfl HT_ (fun _ _ _ h => h) (by rfl) ?_ ?_ ?_
    rotate_left
    ·intro w'
     go_simp
     with_reducible rfl
    rotate_left
    ·simp only [Act.put, z1, z2, z3, i64_w, i32_w]
     rfl
    refine pu 4 (some 35) (v := ?_) (a' := ?_) #[false, true, false, false, true, false, false, false, false, false, false] rfl rfl HT_ (fun _ _ _ h => h) (by rfl) ?_ ?_ ?_
    rotate_left
    ·intro w'
     go_simp
     with_reducible rfl
    rotate_left
    ·simp only [Act.put, z1, z2, z3, i64_w, i32_w]
     rfl
    refine pu 6 (some 37) (v := ?_) (a' := ?_) #[false, true, false, false, true, false, true, false, false, false, false] rfl rfl HT_ (fun _ _ _ h => h) (by rfl) ?_ ?_ ?_
    rotate_left
    ·intro w'
     go_simp
     with_reducible rfl
    rotate_left
    ·simp only [Act.put, z1, z2, z3, i64_w, i32_w]
     rfl
    refine tk 0 (some 31) (v := ?_) (a' := ?_) #[true, true, false, false, true, false, true, false, false, false, false] rfl rfl HT_ HW_ (fun _ _ _ h => h) (by rfl) ?_ hHeld ?_ ?_
    rotate_left
    ·rintro w' ⟨s0, s1⟩
     go_simp
     with_reducible rfl
    rotate_left
    ·simp only [Act.put, z1, z2, z3, i64_w, i32_w]
     rfl
    refine tk 2 (some 33) (v := ?_) (a' := ?_) #[true, true, true, false, true, false, true, false, false, false, false] rfl rfl HT_ HW_ (fun _ _ _ h => h) (by rfl) ?_ hHeld ?_ ?_
    rotate_left
    ·rintro w' ⟨s0, s1⟩
     go_simp
     with_reducible rfl
    rotate_left
    ·simp only [Act.put, z1, z2, z3, i64_w, i32_w]
     rfl
    refine one_ (i := 3) (N := some 34) #[true, true, true, true, true, false, true, false, false, false, false] rfl rfl (one_of HT_.out (by kernel_rfl)) (by decide) (fun K hK => ?_)
    refine gs Try.func60 (by kernel_rfl) rfl #[.pointer (some ⟨g342, 0, none⟩), .agg #[.int .i64 t343, .slice Ao18 t344.length co18]] (by rfl) rfl rfl ?_
    with_reducible refine (spec_l7Target.calls kj5 g342 t339 x343001_5 x343002_5 t343 _ _ t344 t364 t365 t368 t369 w _ ?side1 ?side2 ?side3 ?side4 A35.out).mono ?_
    (case side1 => exact IsS75.mi HI342)
    (case side2 => exact IsS75.ms HB)
    (case side3 => exact Kd.C_foot_own ((Kd.S_R (IsS75.apartS (show IsS75 w _ g342 t339 x343001_5 x343002_5 from IsS75.mi HI342) (mS HO_350001) (by decide)))) (fun _ h_ => h_.2))
    (case side4 => exact (Kd.S_reads' HO_350001.out).2.1)
    rintro e w38 ⟨v366, rfl, ho0, hi, hb, hk⟩
    refine ⟨_, rfl, ?_⟩
    replace HO_350001 := Aside0.mk (Kd.S_mono (Kd.S_told (Kd.S_oldK (IsS75.apartS (show IsS75 w _ g342 t339 x343001_5 x343002_5 from IsS75.mi HI342) (mS HO_350001) (by decide)) hk) (Kd.R_base ho0)) (fun _ h_ => h_.1))
    replace BK336 := Aside0.mk (KeepBut.blk hk (g' := gb336) (o := .cells #[.int .i64 0, .slice none 0 0] 33 (0, 0)) (mb BK336) NB336_342.out (by simp))
    replace BK337 := Aside0.mk (KeepBut.blk hk (g' := gb337) (o := .cells #[.int .i64 0, .slice none 0 0] 36 (0, 0)) (mb BK337) NB337_342.out (by simp))
    replace BK338 := Aside0.mk (KeepBut.blk hk (g' := gb338) (o := .cells #[.int .i64 0, .slice none 0 0] 38 (0, 0)) (mb BK338) NB338_342.out (by simp))
    replace BK349 := Aside0.mk (KeepBut.blk hk (g' := gb349) (o := .cells #[.int .i64 t343, .slice Ao18 t344.length co18] 33 (0, 0)) (mb BK349) NB349_342.out (by simp))
    replace BK360 := Aside0.mk (KeepBut.blk hk (g' := gb360) (o := .cells #[.int .i64 t355, .slice Ao30 t356.length co30] 36 (0, 0)) (mb BK360) NB360_342.out (by simp))
    have HO367 := Aside0.mk (Kd.R_lower (Kd.R_new' (Kd.R_new' ho0 (Kd.R_lt (mr HO_7))) (Kd.R_lt (mr HO_361001))) (below_size (IsS75.ms HB)))
    replace HO_7 := Aside0.mk (Kd.R_mono (Kd.R_told (Kd.R_oldK (IsS75.apart (show IsS75 w _ g342 t339 x343001_5 x343002_5 from IsS75.mi HI342) (mr HO_7) (by decide)) hk) (Kd.R_base ho0)) (fun _ h_ => h_.1))
    replace HO_361001 := Aside0.mk (Kd.R_mono (Kd.R_told (Kd.R_oldK (IsS75.apart (show IsS75 w _ g342 t339 x343001_5 x343002_5 from IsS75.mi HI342) (mr HO_361001) (by decide)) hk) (Kd.R_base ho0)) (fun _ h_ => h_.1))
    replace HB := Aside0.mk (hb)
    replace HI342 := Aside0.mk (hi)
    (try clear hb)
    (try clear hb2)
    (try clear hk)
    (try clear hi)
    (try clear ho0)
    refine hK.out _ _ ⟨(c2 BK349).1, (c2 BK349).2⟩ (fun hHeld => ?_)
    clear hK K
    refine norm_ (a' := ?_) ?_ ?_
    rotate_left
    ·show Act.put _ (some 34) _ = _
     simp only [Act.put, z1, z2, z3, i64_w, i32_w]
     rfl
    refine one_ (i := 5) (N := some 36) #[true, true, true, true, true, true, true, false, false, false, false] rfl rfl (one_of HT_.out (by kernel_rfl)) (by decide) (fun K hK => ?_)
    refine gs Try.func61 (by kernel_rfl) rfl #[.pointer (some ⟨g342, 0, none⟩), .int .i64 3] (by rfl) rfl rfl ?_
    with_reducible refine (spec_l1Below.calls g342 t339 t368 t369 3 t370 t371 t372 w _ ?side1 ?side2 A36.out).mono ?_
    (case side1 => exact IsS75.mi HI342)
    (case side2 => exact IsS75.ms HB)
    rintro e w39 ⟨rfl, hi, hb, hk⟩
    refine ⟨_, rfl, ?_⟩
    replace HO_7 := Aside0.mk (Kd.R_mono (Kd.R_keep (IsS75.apart (show IsS75 w _ g342 t339 t368 t369 from IsS75.mi HI342) (mr HO_7) (by decide)) hk (fun _ h => h.2)) (fun _ h => h.1))
    replace HO_350001 := Aside0.mk (Kd.S_mono (Kd.S_keep (IsS75.apartS (show IsS75 w _ g342 t339 t368 t369 from IsS75.mi HI342) (mS HO_350001) (by decide)) hk (fun _ h => h.2)) (fun _ h => h.1))
    replace HO_361001 := Aside0.mk (Kd.R_mono (Kd.R_keep (IsS75.apart (show IsS75 w _ g342 t339 t368 t369 from IsS75.mi HI342) (mr HO_361001) (by decide)) hk (fun _ h => h.2)) (fun _ h => h.1))
    replace BK336 := Aside0.mk (KeepBut.blk hk (g' := gb336) (o := .cells #[.int .i64 0, .slice none 0 0] 33 (0, 0)) (mb BK336) NB336_342.out (by simp))
    replace BK337 := Aside0.mk (KeepBut.blk hk (g' := gb337) (o := .cells #[.int .i64 0, .slice none 0 0] 36 (0, 0)) (mb BK337) NB337_342.out (by simp))
    replace BK338 := Aside0.mk (KeepBut.blk hk (g' := gb338) (o := .cells #[.int .i64 0, .slice none 0 0] 38 (0, 0)) (mb BK338) NB338_342.out (by simp))
    replace BK349 := Aside0.mk (KeepBut.blk hk (g' := gb349) (o := .cells #[.int .i64 t343, .slice Ao18 t344.length co18] 33 (0, 0)) (mb BK349) NB349_342.out (by simp))
    replace BK360 := Aside0.mk (KeepBut.blk hk (g' := gb360) (o := .cells #[.int .i64 t355, .slice Ao30 t356.length co30] 36 (0, 0)) (mb BK360) NB360_342.out (by simp))
    replace HO367 := Aside0.mk (Kd.R_mono (Kd.R_keep (IsS75.apart (show IsS75 w _ g342 t339 t368 t369 from IsS75.mi HI342) (mr HO367) (by decide)) hk (fun _ h => h.2)) (fun _ h => h.1))
    replace HB := Aside0.mk (hb)
    replace HI342 := Aside0.mk (hi)
    (try clear hb)
    (try clear hb2)
    (try clear hk)
    (try clear hi)
    obtain ⟨Ao43, co43, eo43⟩ := Kd.R_slice HO367.out
    (first | subst eo43 | (injection eo43 with f1_ f2_ f3_; have f4_ := f1_.symm; have f5_ := f3_.symm; clear f1_ f2_ f3_; subst f4_; subst f5_))
    refine hK.out _ _ ⟨(c2 BK349).1, (c2 BK349).2⟩ (fun hHeld => ?_)
    clear hK K
    refine norm_ (a' := ?_) ?_ ?_
    rotate_left
    ·show Act.put _ (some 36) _ = _
     simp only [Act.put, z1, z2, z3, i64_w, i32_w]
     rfl
    refine pu 7 (some 38) (v := ?_) (a' := ?_) #[true, true, true, true, true, true, true, true, false, false, false] rfl rfl HT_ (fun _ _ _ h => h) (by rfl) ?_ ?_ ?_
    rotate_left
    ·intro w'
     go_simp
     with_reducible rfl
    rotate_left
    ·simp only [Act.put, z1, z2, z3, i64_w, i32_w]
     rfl
    refine one_ (i := 8) (N := none) #[true, true, true, true, true, true, true, true, true, false, false] rfl rfl (one_of HT_.out (by kernel_rfl)) (by decide) (fun K hK => ?_)
    have hs40 : w39.cell? ⟨gb336, 0, none⟩ = some (.int .i64 0) := (blk_cell BK336.out 0).trans rfl
    have hfs40 := blk_frozen BK336.out 0
    have hns40_1 := NB337_336.out
    have hns40_2 := NB338_336.out
    have hns40_3 := NB349_336.out
    have hns40_4 := NB360_336.out
    have hms40_1 := NB336_337.out
    have hms40_2 := NB336_338.out
    have hms40_3 := NB336_349.out
    have hms40_4 := NB336_360.out
    have hs41 : w39.cell? ⟨gb336, 1, none⟩ = some (.slice none 0 0) := (blk_cell BK336.out 1).trans rfl
    have hfs41 := blk_frozen BK336.out 1
    have hns41_1 := NB337_336.out
    have hns41_2 := NB338_336.out
    have hns41_3 := NB349_336.out
    have hns41_4 := NB360_336.out
    have hms41_1 := NB336_337.out
    have hms41_2 := NB336_338.out
    have hms41_3 := NB336_349.out
    have hms41_4 := NB336_360.out
    refine skip_ (w1 := ?_) (by rfl) rfl ?_ ?_
    rotate_left
    ·go_simp
     rfl
    refine hK.out _ _ ⟨((cell_far (p := ⟨gb336, _, none⟩) NB349_336.out _).trans (((cell_far (p := ⟨gb336, _, none⟩) NB349_336.out _).trans (hHeld.1)))), ((cell_far (p := ⟨gb336, _, none⟩) NB349_336.out _).trans (((cell_far (p := ⟨gb336, _, none⟩) NB349_336.out _).trans (hHeld.2))))⟩ (fun hHeld => ?_)
    clear hK K
    refine one_ (i := 9) (N := none) #[true, true, true, true, true, true, true, true, true, true, false] rfl rfl (one_of HT_.out (by kernel_rfl)) (by decide) (fun K hK => ?_)
    have hs42 : w39.cell? ⟨gb337, 0, none⟩ = some (.int .i64 0) := (blk_cell BK337.out 0).trans rfl
    have hfs42 := blk_frozen BK337.out 0
    have hns42_0 := NB336_337.out
    have hns42_2 := NB338_337.out
    have hns42_3 := NB349_337.out
    have hns42_4 := NB360_337.out
    have hms42_0 := NB337_336.out
    have hms42_2 := NB337_338.out
    have hms42_3 := NB337_349.out
    have hms42_4 := NB337_360.out
    have hs44 : w39.cell? ⟨gb337, 1, none⟩ = some (.slice none 0 0) := (blk_cell BK337.out 1).trans rfl
    have hfs44 := blk_frozen BK337.out 1
    have hns44_0 := NB336_337.out
    have hns44_2 := NB338_337.out
    have hns44_3 := NB349_337.out
    have hns44_4 := NB360_337.out
    have hms44_0 := NB337_336.out
    have hms44_2 := NB337_338.out
    have hms44_3 := NB337_349.out
    have hms44_4 := NB337_360.out
    refine skip_ (w1 := ?_) (by rfl) rfl ?_ ?_
    rotate_left
    ·go_simp
     rfl
    refine hK.out _ _ ⟨((cell_far (p := ⟨gb337, _, none⟩) NB349_337.out _).trans (((cell_far (p := ⟨gb337, _, none⟩) NB349_337.out _).trans (hHeld.1)))), ((cell_far (p := ⟨gb337, _, none⟩) NB349_337.out _).trans (((cell_far (p := ⟨gb337, _, none⟩) NB349_337.out _).trans (hHeld.2))))⟩ (fun hHeld => ?_)
    clear hK K
    refine one_ (i := 10) (N := none) #[true, true, true, true, true, true, true, true, true, true, true] rfl rfl (one_of HT_.out (by kernel_rfl)) (by decide) (fun K hK => ?_)
    have hs45 : w39.cell? ⟨gb338, 0, none⟩ = some (.int .i64 0) := (blk_cell BK338.out 0).trans rfl
    have hfs45 := blk_frozen BK338.out 0
    have hns45_0 := NB336_338.out
    have hns45_1 := NB337_338.out
    have hns45_3 := NB349_338.out
    have hns45_4 := NB360_338.out
    have hms45_0 := NB338_336.out
    have hms45_1 := NB338_337.out
    have hms45_3 := NB338_349.out
    have hms45_4 := NB338_360.out
    have hs46 : w39.cell? ⟨gb338, 1, none⟩ = some (.slice none 0 0) := (blk_cell BK338.out 1).trans rfl
    have hfs46 := blk_frozen BK338.out 1
    have hns46_0 := NB336_338.out
    have hns46_1 := NB337_338.out
    have hns46_3 := NB349_338.out
    have hns46_4 := NB360_338.out
    have hms46_0 := NB338_336.out
    have hms46_1 := NB338_337.out
    have hms46_3 := NB338_349.out
    have hms46_4 := NB338_360.out
    refine skip_ (w1 := ?_) (by rfl) rfl ?_ ?_
    rotate_left
    ·go_simp
     rfl
    refine hK.out _ _ ⟨((cell_far (p := ⟨gb338, _, none⟩) NB349_338.out _).trans (((cell_far (p := ⟨gb338, _, none⟩) NB349_338.out _).trans (hHeld.1)))), ((cell_far (p := ⟨gb338, _, none⟩) NB349_338.out _).trans (((cell_far (p := ⟨gb338, _, none⟩) NB349_338.out _).trans (hHeld.2))))⟩ (fun hHeld => ?_)
    clear hK K
    refine done_ (done_of HT_.out (by kernel_rfl)) ?_
    try go_wp2
    refine bodyPost_ret (results_list (rs := [.cell 2 33, .cell 3 36, .cell 4 38]) rfl (by simp) (.cell gb336 33 #[.int .i64 t343, .slice Ao18 t344.length co18] (0, 0) _ rfl (by (with_reducible repeat (first | refine blk_drewN ?_ _ | refine blk_drew ?_ | refine blk_alloc ?_ _)); refine blk_far ?_ NB336_338.out _; (with_reducible repeat (first | refine blk_drewN ?_ _ | refine blk_drew ?_ | refine blk_alloc ?_ _)); refine blk_far ?_ NB336_338.out _; (with_reducible repeat (first | refine blk_drewN ?_ _ | refine blk_drew ?_ | refine blk_alloc ?_ _)); refine blk_far ?_ NB336_337.out _; (with_reducible repeat (first | refine blk_drewN ?_ _ | refine blk_drew ?_ | refine blk_alloc ?_ _)); refine blk_far ?_ NB336_337.out _; (with_reducible repeat (first | refine blk_drewN ?_ _ | refine blk_drew ?_ | refine blk_alloc ?_ _)); refine blk_put (cs := #[.int .i64 t343, .slice none 0 0]) ?_ 1 _ rfl; (with_reducible repeat (first | refine blk_drewN ?_ _ | refine blk_drew ?_ | refine blk_alloc ?_ _)); refine blk_put (cs := #[.int .i64 0, .slice none 0 0]) ?_ 0 _ rfl; (with_reducible repeat (first | refine blk_drewN ?_ _ | refine blk_drew ?_ | refine blk_alloc ?_ _)); exact BK336.out) Try.underlying33 rfl (by kernel_rfl) (.cell gb337 36 #[.int .i64 t364, .slice Ao43 t365.length co43] (0, 0) _ rfl (by (with_reducible repeat (first | refine blk_drewN ?_ _ | refine blk_drew ?_ | refine blk_alloc ?_ _)); refine blk_far ?_ NB337_338.out _; (with_reducible repeat (first | refine blk_drewN ?_ _ | refine blk_drew ?_ | refine blk_alloc ?_ _)); refine blk_far ?_ NB337_338.out _; (with_reducible repeat (first | refine blk_drewN ?_ _ | refine blk_drew ?_ | refine blk_alloc ?_ _)); refine blk_put (cs := #[.int .i64 t364, .slice none 0 0]) ?_ 1 _ rfl; (with_reducible repeat (first | refine blk_drewN ?_ _ | refine blk_drew ?_ | refine blk_alloc ?_ _)); refine blk_put (cs := #[.int .i64 0, .slice none 0 0]) ?_ 0 _ rfl; (with_reducible repeat (first | refine blk_drewN ?_ _ | refine blk_drew ?_ | refine blk_alloc ?_ _)); refine blk_far ?_ NB337_336.out _; (with_reducible repeat (first | refine blk_drewN ?_ _ | refine blk_drew ?_ | refine blk_alloc ?_ _)); refine blk_far ?_ NB337_336.out _; (with_reducible repeat (first | refine blk_drewN ?_ _ | refine blk_drew ?_ | refine blk_alloc ?_ _)); exact BK337.out) Try.underlying36 rfl (by kernel_rfl) (.cell gb338 38 #[.int .i64 t370, .slice Ao21 t350.length co21] (0, 0) _ rfl (by (with_reducible repeat (first | refine blk_drewN ?_ _ | refine blk_drew ?_ | refine blk_alloc ?_ _)); refine blk_put (cs := #[.int .i64 t370, .slice none 0 0]) ?_ 1 _ rfl; (with_reducible repeat (first | refine blk_drewN ?_ _ | refine blk_drew ?_ | refine blk_alloc ?_ _)); refine blk_put (cs := #[.int .i64 0, .slice none 0 0]) ?_ 0 _ rfl; (with_reducible repeat (first | refine blk_drewN ?_ _ | refine blk_drew ?_ | refine blk_alloc ?_ _)); refine blk_far ?_ NB338_337.out _; (with_reducible repeat (first | refine blk_drewN ?_ _ | refine blk_drew ?_ | refine blk_alloc ?_ _)); refine blk_far ?_ NB338_337.out _; (with_reducible repeat (first | refine blk_drewN ?_ _ | refine blk_drew ?_ | refine blk_alloc ?_ _)); refine blk_far ?_ NB338_336.out _; (with_reducible repeat (first | refine blk_drewN ?_ _ | refine blk_drew ?_ | refine blk_alloc ?_ _)); refine blk_far ?_ NB338_336.out _; (with_reducible repeat (first | refine blk_drewN ?_ _ | refine blk_drew ?_ | refine blk_alloc ?_ _)); exact BK338.out) Try.underlying38 rfl (by kernel_rfl) .nil)))) rfl ?_
    exact ⟨_, _, _, by first | rfl | (simp [errW_none, errW_some] <;> rfl) | (simp [*, errW_none, errW_some] <;> rfl), by (with_reducible repeat (first | apply Kd.S_alloc | apply Kd.S_drewN | apply Kd.S_drew)); exact Kd.S_mono (Kd.S_far (p := ⟨gb338, 1, none⟩) (Kd.S_far (p := ⟨gb338, 0, none⟩) (Kd.S_far (p := ⟨gb337, 1, none⟩) (Kd.S_far (p := ⟨gb337, 0, none⟩) (Kd.S_far (p := ⟨gb336, 1, none⟩) (Kd.S_far (p := ⟨gb336, 0, none⟩) (Kd.S_types (Kd.S_mono (Kd.S_types HO_350001.out BK336.out (by decide)) (fun k_ hk => (⟨hk, hk.1.1.2.2.1⟩ : _ ∧ k_ ≠ gb337))) BK338.out (by decide)) (fun _ hk => hk.1.1.2) (.int .i64 t343)) (fun _ hk => hk.1.1.2) (.slice Ao18 t344.length co18)) (fun _ hk => hk.1.2) (.int .i64 t364)) (fun _ hk => hk.1.2) (.slice Ao43 t365.length co43)) (fun _ hk => hk.2) (.int .i64 t370)) (fun _ hk => hk.2) (.slice Ao21 t350.length co21)) (fun _ hk => ⟨hk.1.1.1.2, hk.1.1.1.1.1⟩), by (with_reducible repeat (first | apply Kd.R_alloc | apply Kd.R_drewN | apply Kd.R_drew)); exact Kd.R_mono (Kd.R_far (p := ⟨gb338, 1, none⟩) (Kd.R_far (p := ⟨gb338, 0, none⟩) (Kd.R_far (p := ⟨gb337, 1, none⟩) (Kd.R_far (p := ⟨gb337, 0, none⟩) (Kd.R_far (p := ⟨gb336, 1, none⟩) (Kd.R_far (p := ⟨gb336, 0, none⟩) (Kd.R_types (Kd.R_types (Kd.R_types HO367.out BK336.out (by decide)) BK337.out (by decide)) BK338.out (by decide)) (fun _ hk => hk.1.1.2) (.int .i64 t343)) (fun _ hk => hk.1.1.2) (.slice Ao18 t344.length co18)) (fun _ hk => hk.1.2) (.int .i64 t364)) (fun _ hk => hk.1.2) (.slice Ao43 t365.length co43)) (fun _ hk => hk.2) (.int .i64 t370)) (fun _ hk => hk.2) (.slice Ao21 t350.length co21)) (fun _ hk => hk.1.1.1.1.2), by (with_reducible repeat (first | apply Kd.R_alloc | apply Kd.R_drewN | apply Kd.R_drew)); exact Kd.R_mono (Kd.R_far (p := ⟨gb338, 1, none⟩) (Kd.R_far (p := ⟨gb338, 0, none⟩) (Kd.R_far (p := ⟨gb337, 1, none⟩) (Kd.R_far (p := ⟨gb337, 0, none⟩) (Kd.R_far (p := ⟨gb336, 1, none⟩) (Kd.R_far (p := ⟨gb336, 0, none⟩) (Kd.R_types (Kd.R_types (Kd.R_types HO_7.out BK336.out (by decide)) BK337.out (by decide)) BK338.out (by decide)) (fun _ hk => hk.1.1.2) (.int .i64 t343)) (fun _ hk => hk.1.1.2) (.slice Ao18 t344.length co18)) (fun _ hk => hk.1.2) (.int .i64 t364)) (fun _ hk => hk.1.2) (.slice Ao43 t365.length co43)) (fun _ hk => hk.2) (.int .i64 t370)) (fun _ hk => hk.2) (.slice Ao21 t350.length co21)) (fun _ hk => hk.1.1.1.2), IsS75.ms HB⟩
   replace c34 := Bool.eq_false_iff.mpr c34
   subst c34
   have H1 : ((spec_l1Below.f t339 x343001_5 x343002_5 3).bind fun bt373 => (some (t343, t344, wrap64 ((wrap64 (t355 + bt373.1)) - 1), t356, 1, t350))) = some (r1, r2, r3, r4, r5, r6) := by rw [if_neg (show ¬ (false = true) by decide)] at H; exact H
   clear H
   have H := H1
   clear H1
   replace H := Option.bind_eq_some_iff.mp H
   obtain ⟨⟨t373, t374, t375⟩, A470, H⟩ := H
   replace H : (some (t343, t344, wrap64 ((wrap64 (t355 + t373)) - 1), t356, 1, t350)) = some (r1, r2, r3, r4, r5, r6) := H
   have A47 := Aside0.mk A470
   clear A470
   simp only [Option.some.injEq, Prod.mk.injEq] at H
   obtain ⟨rfl, rfl, rfl, rfl, rfl, rfl⟩ := H
   try go_wp2
   replace HO_7 := Aside0.mk (Kd.R_drew HO_7.out)
   replace HO_350001 := Aside0.mk (Kd.S_drew HO_350001.out)
   replace HO_361001 := Aside0.mk (Kd.R_drew HO_361001.out)
   replace BK336 := Aside0.mk (blk_drew BK336.out)
   replace BK337 := Aside0.mk (blk_drew BK337.out)
   replace BK338 := Aside0.mk (blk_drew BK338.out)
   replace BK349 := Aside0.mk (blk_drew BK349.out)
   replace BK360 := Aside0.mk (blk_drew BK360.out)
   replace HI342 := Aside0.mk (IsS75.drew HI342.out)
   replace HB := Aside0.mk (below_drew1 HB.out)
   refine start_ (n := 8) (S := fun w' => w'.cell? ⟨gb360, 0, none⟩ = some (.int .i64 t355) ∧ w'.cell? ⟨gb360, 1, none⟩ = some (.slice Ao30 t356.length co30)) (ds := [7]) #[false, false, false, false, false, false, false, false] (by kernel_rfl) rfl rfl ⟨(c2 BK360).1, (c2 BK360).2⟩ (fun hHeld => ?_); refine with_tabW spec_DrawCheckFarkas.tab7 spec_DrawCheckFarkas.bits7 (fun HT_ HW_ => ?_)
   generalize wc.drew = w48 at HO_7 HO_350001 HO_361001 BK336 BK337 BK338 BK349 BK360 HI342 HB hHeld ⊢
   refine pu 0 (some 39) (v := ?_) (a' := ?_) #[true, false, false, false, false, false, false, false] rfl rfl HT_ (fun _ _ _ h => h) (by rfl) ?_ ?_ ?_
   rotate_left
   ·intro w'
    go_simp
    with_reducible rfl
   rotate_left
   ·simp only [Act.put, z1, z2, z3, i64_w, i32_w]
    rfl
   refine pu 2 (some 41) (v := ?_) (a' := ?_) #[true, false, true, false, false, false, false, false] rfl rfl HT_ (fun _ _ _ h => h) (by rfl) ?_ ?_ ?_
   rotate_left
   ·intro w'
    go_simp
    with_reducible rfl
   rotate_left
   ·simp only [Act.put, z1, z2, z3, i64_w, i32_w]
    rfl
   refine tk 1 (some 40) (v := ?_) (a' := ?_) #[true, true, true, false, false, false, false, false] rfl rfl HT_ HW_ (fun _ _ _ h => h) (by rfl) ?_ hHeld ?_ ?_
   rotate_left
   ·rintro w' ⟨s0, s1⟩
    go_simp
    with_reducible rfl
   rotate_left
   ·simp only [Act.put, z1, z2, z3, i64_w, i32_w]
    rfl
   refine one_ (i := 3) (N := some 42) #[true, true, true, true, false, false, false, false] rfl rfl (one_of HT_.out (by kernel_rfl)) (by decide) (fun K hK => ?_)
   refine gs Try.func61 (by kernel_rfl) rfl #[.pointer (some ⟨g342, 0, none⟩), .int .i64 3] (by rfl) rfl rfl ?_
   with_reducible refine (spec_l1Below.calls g342 t339 x343001_5 x343002_5 3 t373 t374 t375 w _ ?side1 ?side2 A47.out).mono ?_
   (case side1 => exact IsS75.mi HI342)
   (case side2 => exact IsS75.ms HB)
   rintro e w49 ⟨rfl, hi, hb, hk⟩
   refine ⟨_, rfl, ?_⟩
   replace HO_7 := Aside0.mk (Kd.R_mono (Kd.R_keep (IsS75.apart (show IsS75 w _ g342 t339 x343001_5 x343002_5 from IsS75.mi HI342) (mr HO_7) (by decide)) hk (fun _ h => h.2)) (fun _ h => h.1))
   replace HO_350001 := Aside0.mk (Kd.S_mono (Kd.S_keep (IsS75.apartS (show IsS75 w _ g342 t339 x343001_5 x343002_5 from IsS75.mi HI342) (mS HO_350001) (by decide)) hk (fun _ h => h.2)) (fun _ h => h.1))
   replace HO_361001 := Aside0.mk (Kd.R_mono (Kd.R_keep (IsS75.apart (show IsS75 w _ g342 t339 x343001_5 x343002_5 from IsS75.mi HI342) (mr HO_361001) (by decide)) hk (fun _ h => h.2)) (fun _ h => h.1))
   replace BK336 := Aside0.mk (KeepBut.blk hk (g' := gb336) (o := .cells #[.int .i64 0, .slice none 0 0] 33 (0, 0)) (mb BK336) NB336_342.out (by simp))
   replace BK337 := Aside0.mk (KeepBut.blk hk (g' := gb337) (o := .cells #[.int .i64 0, .slice none 0 0] 36 (0, 0)) (mb BK337) NB337_342.out (by simp))
   replace BK338 := Aside0.mk (KeepBut.blk hk (g' := gb338) (o := .cells #[.int .i64 0, .slice none 0 0] 38 (0, 0)) (mb BK338) NB338_342.out (by simp))
   replace BK349 := Aside0.mk (KeepBut.blk hk (g' := gb349) (o := .cells #[.int .i64 t343, .slice Ao18 t344.length co18] 33 (0, 0)) (mb BK349) NB349_342.out (by simp))
   replace BK360 := Aside0.mk (KeepBut.blk hk (g' := gb360) (o := .cells #[.int .i64 t355, .slice Ao30 t356.length co30] 36 (0, 0)) (mb BK360) NB360_342.out (by simp))
   replace HB := Aside0.mk (hb)
   replace HI342 := Aside0.mk (hi)
   (try clear hb)
   (try clear hb2)
   (try clear hk)
   (try clear hi)
   refine hK.out _ _ ⟨(c2 BK360).1, (c2 BK360).2⟩ (fun hHeld => ?_)
   clear hK K
   refine norm_ (a' := ?_) ?_ ?_
   rotate_left
   ·show Act.put _ (some 42) _ = _
    simp only [Act.put, z1, z2, z3, i64_w, i32_w]
    rfl
   refine pu 4 (some 43) (v := ?_) (a' := ?_) #[true, true, true, true, true, false, false, false] rfl rfl HT_ (fun _ _ _ h => h) (by rfl) ?_ ?_ ?_
   rotate_left
   ·intro w'
    go_simp
    with_reducible rfl
   rotate_left
   ·simp only [Act.put, z1, z2, z3, i64_w, i32_w]
    rfl
   refine pu 5 (some 44) (v := ?_) (a' := ?_) #[true, true, true, true, true, true, false, false] rfl rfl HT_ (fun _ _ _ h => h) (by rfl) ?_ ?_ ?_
   rotate_left
   ·intro w'
    go_simp
    with_reducible rfl
   rotate_left
   ·simp only [Act.put, z1, z2, z3, i64_w, i32_w]
    rfl
   refine pu 6 (some 45) (v := ?_) (a' := ?_) #[true, true, true, true, true, true, true, false] rfl rfl HT_ (fun _ _ _ h => h) (by rfl) ?_ ?_ ?_
   rotate_left
   ·intro w'
    go_simp
    with_reducible rfl
   rotate_left
   ·simp only [Act.put, z1, z2, z3, i64_w, i32_w]
    rfl
   refine last_ (i := 7) (N := none) #[true, true, true, true, true, true, true, true] rfl rfl (one_of HT_.out (by kernel_rfl)) (by decide) (fun K hK => ?_)
   have hs50 : w49.cell? ⟨gb360, 0, none⟩ = some (.int .i64 t355) := (blk_cell BK360.out 0).trans rfl
   have hfs50 := blk_frozen BK360.out 0
   have hns50_0 := NB336_360.out
   have hns50_1 := NB337_360.out
   have hns50_2 := NB338_360.out
   have hns50_3 := NB349_360.out
   have hms50_0 := NB360_336.out
   have hms50_1 := NB360_337.out
   have hms50_2 := NB360_338.out
   have hms50_3 := NB360_349.out
   refine skip_ (w1 := ?_) (by rfl) rfl ?_ ?_
   rotate_left
   ·go_simp
    rfl
   refine hK.out _ _ ?_
   clear hK K
   refine done_ (done_of HT_.out (by kernel_rfl)) ?_
   try go_wp2
   have n0_ : Aside0 (Kd.R (Kd.int .i64) 3 (w49.setCell ⟨gb360, 0, none⟩ (.int .i64 (wrap64 ((wrap64 (t355 + t373)) - 1)))) w.heap.size (fun k_ => some k_ ≠ (.slice Ao30 t356.length co30 : Value).ownBlock) (.slice Ao21 t350.length co21) t350) := ⟨by (with_reducible repeat (first | apply Kd.R_alloc | apply Kd.R_drewN | apply Kd.R_drew)); exact Kd.R_mono (Kd.R_far (p := ⟨gb360, 0, none⟩) (Kd.R_types HO_7.out BK360.out (by decide)) (fun _ hk => hk.2) (.int .i64 (wrap64 ((wrap64 (t355 + t373)) - 1)))) (fun _ hk => hk.1)⟩
   have n1_ : Aside0 (Kd.S k36 36 (w49.setCell ⟨gb360, 0, none⟩ (.int .i64 (wrap64 ((wrap64 (t355 + t373)) - 1)))) w.heap.size (fun k_ => some k_ ≠ (.slice Ao21 t350.length co21 : Value).ownBlock ∧ some k_ ≠ (.slice Ao30 t356.length co30 : Value).ownBlock ∧ k_ ≠ gb337 ∧ k_ ≠ gb360) (.slice Ao18 t344.length co18) t344) := ⟨by (with_reducible repeat (first | apply Kd.S_alloc | apply Kd.S_drewN | apply Kd.S_drew)); exact Kd.S_mono (Kd.S_far (p := ⟨gb360, 0, none⟩) (Kd.S_mono HO_350001.out (fun k_ hk => (⟨hk, hk.2.2.2⟩ : _ ∧ k_ ≠ gb360))) (fun _ hk => hk.2) (.int .i64 (wrap64 ((wrap64 (t355 + t373)) - 1)))) (fun _ hk => ⟨hk.1.1, ⟨hk.1.2.1, ⟨hk.1.2.2.1, hk.1.2.2.2⟩⟩⟩)⟩
   have n2_ : Aside0 (Kd.R (Kd.int .i64) 3 (w49.setCell ⟨gb360, 0, none⟩ (.int .i64 (wrap64 ((wrap64 (t355 + t373)) - 1)))) w.heap.size (fun k_ => some k_ ≠ (.slice Ao21 t350.length co21 : Value).ownBlock) (.slice Ao30 t356.length co30) t356) := ⟨by (with_reducible repeat (first | apply Kd.R_alloc | apply Kd.R_drewN | apply Kd.R_drew)); exact Kd.R_mono (Kd.R_far (p := ⟨gb360, 0, none⟩) (Kd.R_types HO_361001.out BK360.out (by decide)) (fun _ hk => hk.2) (.int .i64 (wrap64 ((wrap64 (t355 + t373)) - 1)))) (fun _ hk => hk.1)⟩
   have n3_ : Aside0 ((w49.setCell ⟨gb360, 0, none⟩ (.int .i64 (wrap64 ((wrap64 (t355 + t373)) - 1)))).heap[gb336]? = some (.cells #[.int .i64 0, .slice none 0 0] 33 (0, 0))) := ⟨mf BK336⟩
   have n4_ : Aside0 ((w49.setCell ⟨gb360, 0, none⟩ (.int .i64 (wrap64 ((wrap64 (t355 + t373)) - 1)))).heap[gb337]? = some (.cells #[.int .i64 0, .slice none 0 0] 36 (0, 0))) := ⟨mf BK337⟩
   have n5_ : Aside0 ((w49.setCell ⟨gb360, 0, none⟩ (.int .i64 (wrap64 ((wrap64 (t355 + t373)) - 1)))).heap[gb338]? = some (.cells #[.int .i64 0, .slice none 0 0] 38 (0, 0))) := ⟨mf BK338⟩
   have n6_ : Aside0 ((w49.setCell ⟨gb360, 0, none⟩ (.int .i64 (wrap64 ((wrap64 (t355 + t373)) - 1)))).heap[gb349]? = some (.cells #[.int .i64 t343, .slice Ao18 t344.length co18] 33 (0, 0))) := ⟨mf BK349⟩
   have n7_ : Aside0 ((w49.setCell ⟨gb360, 0, none⟩ (.int .i64 (wrap64 ((wrap64 (t355 + t373)) - 1)))).heap[gb360]? = some (.cells #[.int .i64 (wrap64 ((wrap64 (t355 + t373)) - 1)), .slice Ao30 t356.length co30] 36 (0, 0))) := ⟨by (with_reducible repeat (first | refine blk_drewN ?_ _ | refine blk_drew ?_ | refine blk_alloc ?_ _)); refine blk_put (cs := #[.int .i64 t355, .slice Ao30 t356.length co30]) ?_ 0 _ rfl; (with_reducible repeat (first | refine blk_drewN ?_ _ | refine blk_drew ?_ | refine blk_alloc ?_ _)); exact BK360.out⟩
   have n8_ : Aside0 (IsS75 w (w49.setCell ⟨gb360, 0, none⟩ (.int .i64 (wrap64 ((wrap64 (t355 + t373)) - 1)))) g342 t339 t374 t375) := ⟨IsS75.mi HI342⟩
   have n9_ : Aside0 (Below w.heap.size w (w49.setCell ⟨gb360, 0, none⟩ (.int .i64 (wrap64 ((wrap64 (t355 + t373)) - 1))))) := ⟨IsS75.ms HB⟩
   (try clear HO_7)
   (try clear HO_350001)
   (try clear HO_361001)
   (try clear BK336)
   (try clear BK337)
   (try clear BK338)
   (try clear BK349)
   (try clear BK360)
   (try clear HI342)
   (try clear HB)
   generalize (w49.setCell ⟨gb360, 0, none⟩ (.int .i64 (wrap64 ((wrap64 (t355 + t373)) - 1)))) = w51 at n0_ n1_ n2_ n3_ n4_ n5_ n6_ n7_ n8_ n9_ ⊢
   have HO_7 := n0_
   have HO_350001 := n1_
   have HO_361001 := n2_
   have BK336 := n3_
   have BK337 := n4_
   have BK338 := n5_
   have BK349 := n6_
   have BK360 := n7_
   have HI342 := n8_
   have HB := n9_
   clear n0_ n1_ n2_ n3_ n4_ n5_ n6_ n7_ n8_ n9_
   replace HO_7 := Aside0.mk (Kd.R_drew HO_7.out)
   replace HO_350001 := Aside0.mk (Kd.S_drew HO_350001.out)
   replace HO_361001 := Aside0.mk (Kd.R_drew HO_361001.out)
   replace BK336 := Aside0.mk (blk_drew BK336.out)
   replace BK337 := Aside0.mk (blk_drew BK337.out)
   replace BK338 := Aside0.mk (blk_drew BK338.out)
   replace BK349 := Aside0.mk (blk_drew BK349.out)
   replace BK360 := Aside0.mk (blk_drew BK360.out)
   replace HI342 := Aside0.mk (IsS75.drew HI342.out)
   replace HB := Aside0.mk (below_drew1 HB.out)
   refine start_ (n := 7) (S := fun w' => w'.cell? ⟨gb349, 0, none⟩ = some (.int .i64 t343) ∧ w'.cell? ⟨gb349, 1, none⟩ = some (.slice Ao18 t344.length co18) ∧ w'.cell? ⟨gb360, 0, none⟩ = some (.int .i64 (wrap64 ((wrap64 (t355 + t373)) - 1))) ∧ w'.cell? ⟨gb360, 1, none⟩ = some (.slice Ao30 t356.length co30)) (ds := []) #[false, false, false, false, false, false, false] (by kernel_rfl) rfl rfl ⟨(c2 BK349).1, (c2 BK349).2, (c2 BK360).1, (c2 BK360).2⟩ (fun hHeld => ?_)
   generalize w51.drew = w52 at HO_7 HO_350001 HO_361001 BK336 BK337 BK338 BK349 BK360 HI342 HB hHeld ⊢
   refine pure_ (i := 2) (N := some 48) (v := ?_) (a' := ?_) #[false, false, true, false, false, false, false] rfl rfl (by kernel_rfl) (fun _ _ _ h => h) (Or.inl ⟨by rfl, ?_⟩) ?_ ?_
   rotate_left
   ·intro w'
    go_simp
    with_reducible rfl
   rotate_left
   ·simp only [Act.put, z1, z2, z3, i64_w, i32_w]
    rfl
   refine pure_ (i := 3) (N := some 49) (v := ?_) (a' := ?_) #[false, false, true, true, false, false, false] rfl rfl (by kernel_rfl) (fun _ _ _ h => h) (Or.inl ⟨by rfl, ?_⟩) ?_ ?_
   rotate_left
   ·intro w'
    go_simp
    with_reducible rfl
   rotate_left
   ·simp only [Act.put, z1, z2, z3, i64_w, i32_w]
    rfl
   refine take_ (i := 0) (N := some 46) (v := ?_) (a' := ?_) #[true, false, true, true, false, false, false] rfl rfl (by kernel_rfl) (fun _ _ _ h => h) (Or.inl ⟨by rfl, ?_⟩) hHeld ?_ ?_
   rotate_left
   ·rintro w' ⟨s0, s1, s2, s3⟩
    go_simp
    with_reducible rfl
   rotate_left
   ·simp only [Act.put, z1, z2, z3, i64_w, i32_w]
    rfl
   refine take_ (i := 1) (N := some 47) (v := ?_) (a' := ?_) #[true, true, true, true, false, false, false] rfl rfl (by kernel_rfl) (fun _ _ _ h => h) (Or.inl ⟨by rfl, ?_⟩) hHeld ?_ ?_
   rotate_left
   ·rintro w' ⟨s0, s1, s2, s3⟩
    go_simp
    with_reducible rfl
   rotate_left
   ·simp only [Act.put, z1, z2, z3, i64_w, i32_w]
    rfl
   refine one_ (i := 4) (N := none) #[true, true, true, true, true, false, false] rfl rfl (by kernel_rfl) (by decide) (fun K hK => ?_)
   have hs53 : w52.cell? ⟨gb336, 0, none⟩ = some (.int .i64 0) := (blk_cell BK336.out 0).trans rfl
   have hfs53 := blk_frozen BK336.out 0
   have hns53_1 := NB337_336.out
   have hns53_2 := NB338_336.out
   have hns53_3 := NB349_336.out
   have hns53_4 := NB360_336.out
   have hms53_1 := NB336_337.out
   have hms53_2 := NB336_338.out
   have hms53_3 := NB336_349.out
   have hms53_4 := NB336_360.out
   have hs54 : w52.cell? ⟨gb336, 1, none⟩ = some (.slice none 0 0) := (blk_cell BK336.out 1).trans rfl
   have hfs54 := blk_frozen BK336.out 1
   have hns54_1 := NB337_336.out
   have hns54_2 := NB338_336.out
   have hns54_3 := NB349_336.out
   have hns54_4 := NB360_336.out
   have hms54_1 := NB336_337.out
   have hms54_2 := NB336_338.out
   have hms54_3 := NB336_349.out
   have hms54_4 := NB336_360.out
   refine skip_ (w1 := ?_) (by rfl) rfl ?_ ?_
   rotate_left
   ·go_simp
    rfl
   refine hK.out _ _ ⟨((cell_far (p := ⟨gb336, _, none⟩) NB349_336.out _).trans (((cell_far (p := ⟨gb336, _, none⟩) NB349_336.out _).trans (hHeld.1)))), ((cell_far (p := ⟨gb336, _, none⟩) NB349_336.out _).trans (((cell_far (p := ⟨gb336, _, none⟩) NB349_336.out _).trans (hHeld.2.1)))), ((cell_far (p := ⟨gb336, _, none⟩) NB360_336.out _).trans (((cell_far (p := ⟨gb336, _, none⟩) NB360_336.out _).trans (hHeld.2.2.1)))), ((cell_far (p := ⟨gb336, _, none⟩) NB360_336.out _).trans (((cell_far (p := ⟨gb336, _, none⟩) NB360_336.out _).trans (hHeld.2.2.2))))⟩ (fun hHeld => ?_)
   clear hK K
   refine one_ (i := 5) (N := none) #[true, true, true, true, true, true, false] rfl rfl (by kernel_rfl) (by decide) (fun K hK => ?_)
   have hs55 : w52.cell? ⟨gb337, 0, none⟩ = some (.int .i64 0) := (blk_cell BK337.out 0).trans rfl
   have hfs55 := blk_frozen BK337.out 0
   have hns55_0 := NB336_337.out
   have hns55_2 := NB338_337.out
   have hns55_3 := NB349_337.out
   have hns55_4 := NB360_337.out
   have hms55_0 := NB337_336.out
   have hms55_2 := NB337_338.out
   have hms55_3 := NB337_349.out
   have hms55_4 := NB337_360.out
   have hs56 : w52.cell? ⟨gb337, 1, none⟩ = some (.slice none 0 0) := (blk_cell BK337.out 1).trans rfl
   have hfs56 := blk_frozen BK337.out 1
   have hns56_0 := NB336_337.out
   have hns56_2 := NB338_337.out
   have hns56_3 := NB349_337.out
   have hns56_4 := NB360_337.out
   have hms56_0 := NB337_336.out
   have hms56_2 := NB337_338.out
   have hms56_3 := NB337_349.out
   have hms56_4 := NB337_360.out
   refine skip_ (w1 := ?_) (by rfl) rfl ?_ ?_
   rotate_left
   ·go_simp
    rfl
   refine hK.out _ _ ⟨((cell_far (p := ⟨gb337, _, none⟩) NB349_337.out _).trans (((cell_far (p := ⟨gb337, _, none⟩) NB349_337.out _).trans (hHeld.1)))), ((cell_far (p := ⟨gb337, _, none⟩) NB349_337.out _).trans (((cell_far (p := ⟨gb337, _, none⟩) NB349_337.out _).trans (hHeld.2.1)))), ((cell_far (p := ⟨gb337, _, none⟩) NB360_337.out _).trans (((cell_far (p := ⟨gb337, _, none⟩) NB360_337.out _).trans (hHeld.2.2.1)))), ((cell_far (p := ⟨gb337, _, none⟩) NB360_337.out _).trans (((cell_far (p := ⟨gb337, _, none⟩) NB360_337.out _).trans (hHeld.2.2.2))))⟩ (fun hHeld => ?_)
   clear hK K
   refine one_ (i := 6) (N := none) #[true, true, true, true, true, true, true] rfl rfl (by kernel_rfl) (by decide) (fun K hK => ?_)
   have hs57 : w52.cell? ⟨gb338, 0, none⟩ = some (.int .i64 0) := (blk_cell BK338.out 0).trans rfl
   have hfs57 := blk_frozen BK338.out 0
   have hns57_0 := NB336_338.out
   have hns57_1 := NB337_338.out
   have hns57_3 := NB349_338.out
   have hns57_4 := NB360_338.out
   have hms57_0 := NB338_336.out
   have hms57_1 := NB338_337.out
   have hms57_3 := NB338_349.out
   have hms57_4 := NB338_360.out
   have hs58 : w52.cell? ⟨gb338, 1, none⟩ = some (.slice none 0 0) := (blk_cell BK338.out 1).trans rfl
   have hfs58 := blk_frozen BK338.out 1
   have hns58_0 := NB336_338.out
   have hns58_1 := NB337_338.out
   have hns58_3 := NB349_338.out
   have hns58_4 := NB360_338.out
   have hms58_0 := NB338_336.out
   have hms58_1 := NB338_337.out
   have hms58_3 := NB338_349.out
   have hms58_4 := NB338_360.out
   refine skip_ (w1 := ?_) (by rfl) rfl ?_ ?_
   rotate_left
   ·go_simp
    rfl
   refine hK.out _ _ ⟨((cell_far (p := ⟨gb338, _, none⟩) NB349_338.out _).trans (((cell_far (p := ⟨gb338, _, none⟩) NB349_338.out _).trans (hHeld.1)))), ((cell_far (p := ⟨gb338, _, none⟩) NB349_338.out _).trans (((cell_far (p := ⟨gb338, _, none⟩) NB349_338.out _).trans (hHeld.2.1)))), ((cell_far (p := ⟨gb338, _, none⟩) NB360_338.out _).trans (((cell_far (p := ⟨gb338, _, none⟩) NB360_338.out _).trans (hHeld.2.2.1)))), ((cell_far (p := ⟨gb338, _, none⟩) NB360_338.out _).trans (((cell_far (p := ⟨gb338, _, none⟩) NB360_338.out _).trans (hHeld.2.2.2))))⟩ (fun hHeld => ?_)
   clear hK K
   refine done_ (by kernel_rfl) ?_
   try go_wp2
   refine bodyPost_ret (results_list (rs := [.cell 2 33, .cell 3 36, .cell 4 38]) rfl (by simp) (.cell gb336 33 #[.int .i64 t343, .slice Ao18 t344.length co18] (0, 0) _ rfl (by (with_reducible repeat (first | refine blk_drewN ?_ _ | refine blk_drew ?_ | refine blk_alloc ?_ _)); refine blk_far ?_ NB336_338.out _; (with_reducible repeat (first | refine blk_drewN ?_ _ | refine blk_drew ?_ | refine blk_alloc ?_ _)); refine blk_far ?_ NB336_338.out _; (with_reducible repeat (first | refine blk_drewN ?_ _ | refine blk_drew ?_ | refine blk_alloc ?_ _)); refine blk_far ?_ NB336_337.out _; (with_reducible repeat (first | refine blk_drewN ?_ _ | refine blk_drew ?_ | refine blk_alloc ?_ _)); refine blk_far ?_ NB336_337.out _; (with_reducible repeat (first | refine blk_drewN ?_ _ | refine blk_drew ?_ | refine blk_alloc ?_ _)); refine blk_put (cs := #[.int .i64 t343, .slice none 0 0]) ?_ 1 _ rfl; (with_reducible repeat (first | refine blk_drewN ?_ _ | refine blk_drew ?_ | refine blk_alloc ?_ _)); refine blk_put (cs := #[.int .i64 0, .slice none 0 0]) ?_ 0 _ rfl; (with_reducible repeat (first | refine blk_drewN ?_ _ | refine blk_drew ?_ | refine blk_alloc ?_ _)); exact BK336.out) Try.underlying33 rfl (by kernel_rfl) (.cell gb337 36 #[.int .i64 (wrap64 ((wrap64 (t355 + t373)) - 1)), .slice Ao30 t356.length co30] (0, 0) _ rfl (by (with_reducible repeat (first | refine blk_drewN ?_ _ | refine blk_drew ?_ | refine blk_alloc ?_ _)); refine blk_far ?_ NB337_338.out _; (with_reducible repeat (first | refine blk_drewN ?_ _ | refine blk_drew ?_ | refine blk_alloc ?_ _)); refine blk_far ?_ NB337_338.out _; (with_reducible repeat (first | refine blk_drewN ?_ _ | refine blk_drew ?_ | refine blk_alloc ?_ _)); refine blk_put (cs := #[.int .i64 (wrap64 ((wrap64 (t355 + t373)) - 1)), .slice none 0 0]) ?_ 1 _ rfl; (with_reducible repeat (first | refine blk_drewN ?_ _ | refine blk_drew ?_ | refine blk_alloc ?_ _)); refine blk_put (cs := #[.int .i64 0, .slice none 0 0]) ?_ 0 _ rfl; (with_reducible repeat (first | refine blk_drewN ?_ _ | refine blk_drew ?_ | refine blk_alloc ?_ _)); refine blk_far ?_ NB337_336.out _; (with_reducible repeat (first | refine blk_drewN ?_ _ | refine blk_drew ?_ | refine blk_alloc ?_ _)); refine blk_far ?_ NB337_336.out _; (with_reducible repeat (first | refine blk_drewN ?_ _ | refine blk_drew ?_ | refine blk_alloc ?_ _)); exact BK337.out) Try.underlying36 rfl (by kernel_rfl) (.cell gb338 38 #[.int .i64 1, .slice Ao21 t350.length co21] (0, 0) _ rfl (by (with_reducible repeat (first | refine blk_drewN ?_ _ | refine blk_drew ?_ | refine blk_alloc ?_ _)); refine blk_put (cs := #[.int .i64 1, .slice none 0 0]) ?_ 1 _ rfl; (with_reducible repeat (first | refine blk_drewN ?_ _ | refine blk_drew ?_ | refine blk_alloc ?_ _)); refine blk_put (cs := #[.int .i64 0, .slice none 0 0]) ?_ 0 _ rfl; (with_reducible repeat (first | refine blk_drewN ?_ _ | refine blk_drew ?_ | refine blk_alloc ?_ _)); refine blk_far ?_ NB338_337.out _; (with_reducible repeat (first | refine blk_drewN ?_ _ | refine blk_drew ?_ | refine blk_alloc ?_ _)); refine blk_far ?_ NB338_337.out _; (with_reducible repeat (first | refine blk_drewN ?_ _ | refine blk_drew ?_ | refine blk_alloc ?_ _)); refine blk_far ?_ NB338_336.out _; (with_reducible repeat (first | refine blk_drewN ?_ _ | refine blk_drew ?_ | refine blk_alloc ?_ _)); refine blk_far ?_ NB338_336.out _; (with_reducible repeat (first | refine blk_drewN ?_ _ | refine blk_drew ?_ | refine blk_alloc ?_ _)); exact BK338.out) Try.underlying38 rfl (by kernel_rfl) .nil)))) rfl ?_
   exact ⟨_, _, _, by first | rfl | (simp [errW_none, errW_some] <;> rfl) | (simp [*, errW_none, errW_some] <;> rfl), by (with_reducible repeat (first | apply Kd.S_alloc | apply Kd.S_drewN | apply Kd.S_drew)); exact Kd.S_mono (Kd.S_far (p := ⟨gb338, 1, none⟩) (Kd.S_far (p := ⟨gb338, 0, none⟩) (Kd.S_far (p := ⟨gb337, 1, none⟩) (Kd.S_far (p := ⟨gb337, 0, none⟩) (Kd.S_far (p := ⟨gb336, 1, none⟩) (Kd.S_far (p := ⟨gb336, 0, none⟩) (Kd.S_types (Kd.S_mono (Kd.S_types HO_350001.out BK336.out (by decide)) (fun k_ hk => (⟨hk, hk.1.2.2.1⟩ : _ ∧ k_ ≠ gb337))) BK338.out (by decide)) (fun _ hk => hk.1.1.2) (.int .i64 t343)) (fun _ hk => hk.1.1.2) (.slice Ao18 t344.length co18)) (fun _ hk => hk.1.2) (.int .i64 (wrap64 ((wrap64 (t355 + t373)) - 1)))) (fun _ hk => hk.1.2) (.slice Ao30 t356.length co30)) (fun _ hk => hk.2) (.int .i64 1)) (fun _ hk => hk.2) (.slice Ao21 t350.length co21)) (fun _ hk => ⟨hk.1.1.1.2.1, hk.1.1.1.1⟩), by (with_reducible repeat (first | apply Kd.R_alloc | apply Kd.R_drewN | apply Kd.R_drew)); exact Kd.R_mono (Kd.R_far (p := ⟨gb338, 1, none⟩) (Kd.R_far (p := ⟨gb338, 0, none⟩) (Kd.R_far (p := ⟨gb337, 1, none⟩) (Kd.R_far (p := ⟨gb337, 0, none⟩) (Kd.R_far (p := ⟨gb336, 1, none⟩) (Kd.R_far (p := ⟨gb336, 0, none⟩) (Kd.R_types (Kd.R_types (Kd.R_types HO_361001.out BK336.out (by decide)) BK337.out (by decide)) BK338.out (by decide)) (fun _ hk => hk.1.1.2) (.int .i64 t343)) (fun _ hk => hk.1.1.2) (.slice Ao18 t344.length co18)) (fun _ hk => hk.1.2) (.int .i64 (wrap64 ((wrap64 (t355 + t373)) - 1)))) (fun _ hk => hk.1.2) (.slice Ao30 t356.length co30)) (fun _ hk => hk.2) (.int .i64 1)) (fun _ hk => hk.2) (.slice Ao21 t350.length co21)) (fun _ hk => hk.1.1.1), by (with_reducible repeat (first | apply Kd.R_alloc | apply Kd.R_drewN | apply Kd.R_drew)); exact Kd.R_mono (Kd.R_far (p := ⟨gb338, 1, none⟩) (Kd.R_far (p := ⟨gb338, 0, none⟩) (Kd.R_far (p := ⟨gb337, 1, none⟩) (Kd.R_far (p := ⟨gb337, 0, none⟩) (Kd.R_far (p := ⟨gb336, 1, none⟩) (Kd.R_far (p := ⟨gb336, 0, none⟩) (Kd.R_types (Kd.R_types (Kd.R_types HO_7.out BK336.out (by decide)) BK337.out (by decide)) BK338.out (by decide)) (fun _ hk => hk.1.1.2) (.int .i64 t343)) (fun _ hk => hk.1.1.2) (.slice Ao18 t344.length co18)) (fun _ hk => hk.1.2) (.int .i64 (wrap64 ((wrap64 (t355 + t373)) - 1)))) (fun _ hk => hk.1.2) (.slice Ao30 t356.length co30)) (fun _ hk => hk.2) (.int .i64 1)) (fun _ hk => hk.2) (.slice Ao21 t350.length co21)) (fun _ hk => hk.1.1.1), IsS75.ms HB⟩

/-! ### impl_within: function 50 -/
def impl_within.f (a0 : Int) (a1 : Int) (a2 : Int) : Option (Bool) := if a0 ≥ a1 then (some (decide (a0 ≤ a2))) else (some false)
set_option maxHeartbeats 8000000 in
set_option maxRecDepth 100000 in
theorem impl_within.calls (a0 : Int) (a1 : Int) (a2 : Int) (r : Bool) (w : World) (h : impl_within.f a0 a1 a2 = some r) :
  Calls Try.prog 50 #[.int .i64 a0, .int .i64 a1, .int .i64 a2] w fun e w' => e = .returned (.bool r) ∧ Drawn0 w w' := by
 have H : (if a0 ≥ a1 then (some (decide (a0 ≤ a2))) else (some false)) = some r := h
 clear h
 by_cases c4 : a0 ≥ a1
 ·rw [if_pos c4] at H
  have c4b0 : decide (a1 ≤ a0) = true := decide_eq_true c4
  clear c4
  obtain rfl := Option.some.inj H
  go_enter Try.func50, Try.ntmps50
  go_wp2
  go_ret
  exact ⟨by first | rfl | (simp; done) | (simp [*]; done), by repeat (first | exact Drawn0.refl _ | apply Drawn0.step)⟩
 rw [if_neg c4] at H
 have c4b0 : decide (a1 ≤ a0) = false := decide_eq_false c4
 clear c4
 obtain rfl := Option.some.inj H
 go_enter Try.func50, Try.ntmps50
 go_wp2
 go_ret
 exact ⟨by first | rfl | (simp; done) | (simp [*]; done), by repeat (first | exact Drawn0.refl _ | apply Drawn0.step)⟩

/-! ### impl_coeffOk: function 52 -/
def impl_coeffOk.f (a0 : Int) : Option (Bool) := (impl_within.f a0 (-1000000000) 1000000000).bind fun t376 => (some t376)
set_option maxHeartbeats 8000000 in
set_option maxRecDepth 100000 in
theorem impl_coeffOk.calls (a0 : Int) (r : Bool) (w : World) (h : impl_coeffOk.f a0 = some r) :
  Calls Try.prog 52 #[.int .i64 a0] w fun e w' => e = .returned (.bool r) ∧ Drawn0 w w' := by
 have H : ((impl_within.f a0 (-1000000000) 1000000000).bind fun t376 => (some t376)) = some r := h
 clear h
 replace H := Option.bind_eq_some_iff.mp H
 obtain ⟨t376, A20, H⟩ := H
 replace H : (some t376) = some r := H
 have A2 := Aside0.mk A20
 clear A20
 obtain rfl := Option.some.inj H
 go_enter Try.func52, Try.ntmps52
 go_wp2_with (first | ((with_reducible refine gate_callee (f := 50) rfl ?_); refine gl (some 4) rfl rfl Try.func50 (by kernel_rfl) rfl #[.int .i64 a0, .int .i64 (-1000000000), .int .i64 1000000000] rfl ?_; (with_reducible refine (impl_within.calls a0 (-1000000000) 1000000000 t376 _ A2.out).mono ?_); rintro e w' ⟨rfl, ⟨nd, rfl⟩⟩; refine ⟨_, rfl, ?_⟩))
 go_ret
 exact ⟨by first | rfl | (simp; done) | (simp [*]; done), by repeat (first | exact Drawn0.refl _ | apply Drawn0.step)⟩

/-! ### impl_IsValidLin_1: function 87 -/
def impl_IsValidLin_1.f (a0 : Int) : Option (Bool) := (impl_coeffOk.f a0).bind fun t377 => (some (!t377))
set_option maxHeartbeats 8000000 in
set_option maxRecDepth 100000 in
theorem impl_IsValidLin_1.calls (a0 : Int) (r : Bool) (w : World) (h : impl_IsValidLin_1.f a0 = some r) :
  Calls Try.prog 87 #[.int .i64 a0] w fun e w' => e = .returned (.bool r) ∧ Drawn0 w w' := by
 have H : ((impl_coeffOk.f a0).bind fun t377 => (some (!t377))) = some r := h
 clear h
 replace H := Option.bind_eq_some_iff.mp H
 obtain ⟨t377, A20, H⟩ := H
 replace H : (some (!t377)) = some r := H
 have A2 := Aside0.mk A20
 clear A20
 obtain rfl := Option.some.inj H
 go_enter Try.func87, Try.ntmps87
 go_wp2_with (first | ((with_reducible refine gate_callee (f := 52) rfl ?_); refine gl (some 4) rfl rfl Try.func52 (by kernel_rfl) rfl #[.int .i64 a0] rfl ?_; (with_reducible refine (impl_coeffOk.calls a0 t377 _ A2.out).mono ?_); rintro e w' ⟨rfl, ⟨nd, rfl⟩⟩; refine ⟨_, rfl, ?_⟩))
 go_ret
 exact ⟨by first | rfl | (simp; done) | (simp [*]; done), by repeat (first | exact Drawn0.refl _ | apply Drawn0.step)⟩

end Go.Proofs.Ytelgmnlkkhikfaa.QFnFarkas
