-- Made by a program of this claim's own (wip/print): not the kit's print as it stands.
import Derived.Test.YtghiljjkaiggfaaUFnCombinedTri
import Derived.Test.YtghiljjkaiggfaaQFnCombinedx0
import Derived.Test.YtghiljjkaiggfaaQFnCombinedx8
import Derived.Test.YtghiljjkaiggfaaQFnCombinedx11
namespace Go.Proofs.Ytghiljjkaiggfaa.QFnCombined
open Go.RowKit Go.Proofs.YtghiljjkaiggfaaV.PrintWords Go.Proofs.YtghiljjkaiggfaaV.PrintLast Go.Proofs.YtghiljjkaiggfaaV.PrintMore
attribute [local go_sem] max2_int min2_int max_two min_two max_three min_three max_four min_four   -- for this text's walks alone
set_option linter.unusedVariables false
set_option linter.unusedSimpArgs false

/-! ### spec_DrawCombineRows: function 40 -/
def spec_DrawCombineRows.f (k : Nat) (l0 : List Int) : Option (Int × (List (S36)) × List Int) := (spec_l1New.f k l0).bind fun bt416 => ((spec_l6Bent.f k bt416.1 bt416.2.1 bt416.2.2).bind fun bt420 => ((spec_l1Once.f bt416.1 bt420.2.2.1 bt420.2.2.2 12).bind fun bt427 => (if bt427.1 = true then ((spec_l7Mult.f k bt416.1 bt427.2.1 bt427.2.2 (wrap64 ((bt420.2.1.length : Int) + 1))).bind fun bt430 => (some (bt420.1, bt420.2.1, bt430.1))) else ((spec_l7Mult.f k bt416.1 bt427.2.1 bt427.2.2 (bt420.2.1.length : Int)).bind fun bt435 => (some (bt420.1, bt420.2.1, bt435.1))))))
theorem spec_DrawCombineRows.mono : ∀ a0 k, LeO (spec_DrawCombineRows.f k a0) (spec_DrawCombineRows.f (k + 1) a0) := by
 intro a0 k
 unfold spec_DrawCombineRows.f
 repeat' first
   | (with_reducible exact spec_l1New.mono _ _)
   | (with_reducible exact spec_l6Bent.mono _ _ _ _)
   | (with_reducible exact spec_l7Mult.mono _ _ _ _ _)
   | (with_reducible exact LeO.refl _)
   | (with_reducible exact LeO.none _)
   | (with_reducible refine LeO.ite ?_ ?_)
   | (with_reducible refine LeO.bind ?_ (fun _ => ?_))
   | exact spec_l1New.mono _ _
   | exact spec_l6Bent.mono _ _ _ _
   | exact spec_l7Mult.mono _ _ _ _ _
   | exact LeO.none _
   | refine LeO.ite ?_ ?_
   | refine LeO.bind ?_ (fun _ => ?_)
set_option maxHeartbeats 8000000 in
set_option maxRecDepth 100000 in
theorem spec_DrawCombineRows.calls (k : Nat) (A0 : Option Addr) (c0 : Nat) (l0 : List Int) (r1 : Int) (r2 : List (S36)) (r3 : List Int) (w : World) (hr0 : Kd.C (Kd.int .u8) w A0 l0.length l0) (hc0 : l0.length ≤ c0) (h : spec_DrawCombineRows.f k l0 = some (r1, r2, r3)) :
  Calls Try.prog 40 #[.slice A0 l0.length c0] w fun e w' => ∃ v1_ v2_ : Value, e = .returned (.tuple #[.agg #[.int .i64 r1, v1_], v2_]) ∧ Kd.S k36 36 w' w.heap.size (fun k_ => some k_ ≠ (v2_ : Value).ownBlock) v1_ r2 ∧ Kd.R (Kd.int .i64) 3 w' w.heap.size (fun _ => True) v2_ r3 ∧ Below w.heap.size w w' := by
 have hu32 := Try.underlying32
 have HR0 := Aside0.mk hr0
 have HC0 := Aside0.mk hc0
 clear hr0 hc0
 have HB := Aside0.mk (Below.refl w.heap.size w)
 have H : ((spec_l1New.f k l0).bind fun bt416 => ((spec_l6Bent.f k bt416.1 bt416.2.1 bt416.2.2).bind fun bt420 => ((spec_l1Once.f bt416.1 bt420.2.2.1 bt420.2.2.2 12).bind fun bt427 => (if bt427.1 = true then ((spec_l7Mult.f k bt416.1 bt427.2.1 bt427.2.2 (wrap64 ((bt420.2.1.length : Int) + 1))).bind fun bt430 => (some (bt420.1, bt420.2.1, bt430.1))) else ((spec_l7Mult.f k bt416.1 bt427.2.1 bt427.2.2 (bt420.2.1.length : Int)).bind fun bt435 => (some (bt420.1, bt420.2.1, bt435.1))))))) = some (r1, r2, r3) := h
 clear h
 replace H := Option.bind_eq_some_iff.mp H
 obtain ⟨⟨t416, t417, t418⟩, A20, H⟩ := H
 replace H : ((spec_l6Bent.f k t416 t417 t418).bind fun bt420 => ((spec_l1Once.f t416 bt420.2.2.1 bt420.2.2.2 12).bind fun bt427 => (if bt427.1 = true then ((spec_l7Mult.f k t416 bt427.2.1 bt427.2.2 (wrap64 ((bt420.2.1.length : Int) + 1))).bind fun bt430 => (some (bt420.1, bt420.2.1, bt430.1))) else ((spec_l7Mult.f k t416 bt427.2.1 bt427.2.2 (bt420.2.1.length : Int)).bind fun bt435 => (some (bt420.1, bt420.2.1, bt435.1)))))) = some (r1, r2, r3) := H
 have A2 := Aside0.mk A20
 clear A20
 replace H := Option.bind_eq_some_iff.mp H
 obtain ⟨⟨t420, t421, t424, t425⟩, A30, H⟩ := H
 replace H : ((spec_l1Once.f t416 t424 t425 12).bind fun bt427 => (if bt427.1 = true then ((spec_l7Mult.f k t416 bt427.2.1 bt427.2.2 (wrap64 ((t421.length : Int) + 1))).bind fun bt430 => (some (t420, t421, bt430.1))) else ((spec_l7Mult.f k t416 bt427.2.1 bt427.2.2 (t421.length : Int)).bind fun bt435 => (some (t420, t421, bt435.1))))) = some (r1, r2, r3) := H
 have A3 := Aside0.mk A30
 clear A30
 replace H := Option.bind_eq_some_iff.mp H
 obtain ⟨⟨t427, t428, t429⟩, A40, H⟩ := H
 replace H : (if t427 = true then ((spec_l7Mult.f k t416 t428 t429 (wrap64 ((t421.length : Int) + 1))).bind fun bt430 => (some (t420, t421, bt430.1))) else ((spec_l7Mult.f k t416 t428 t429 (t421.length : Int)).bind fun bt435 => (some (t420, t421, bt435.1)))) = some (r1, r2, r3) := H
 have A4 := Aside0.mk A40
 clear A40
 by_cases c5 : t427 = true
 ·subst c5
  have H1 : ((spec_l7Mult.f k t416 t428 t429 (wrap64 ((t421.length : Int) + 1))).bind fun bt430 => (some (t420, t421, bt430.1))) = some (r1, r2, r3) := by rw [if_pos rfl] at H; exact H
  clear H
  have H := H1
  clear H1
  replace H := Option.bind_eq_some_iff.mp H
  obtain ⟨⟨t430, t433, t434⟩, A60, H⟩ := H
  replace H : (some (t420, t421, t430)) = some (r1, r2, r3) := H
  have A6 := Aside0.mk A60
  clear A60
  simp only [Option.some.injEq, Prod.mk.injEq] at H
  obtain ⟨rfl, rfl, rfl⟩ := H
  go_enter Try.func40, Try.ntmps40
  try go_wp2_with (first | ((with_reducible refine gate_dst (N := 2) rfl ?_); refine box_event ?hg (N := 2) ?hd (cs := #[.int .i64 0, .slice none 0 0]) (t := 32) ?hr ?_; (case hd => rfl); (case hg => rfl); (case hr => first | (go_simp; done) | (go_simp; rfl)); intro gb415 hg w7 hbox hb; have BK415 := Aside0.mk (hbox); have GW415 := gw hg HB; have GE415 := gw hg HB; replace HB := bs HB hb; clear hb hbox hg) | ((with_reducible refine gate_callee (f := 77) rfl ?_); refine gl (some 8) rfl rfl Try.func77 (by kernel_rfl) rfl #[.slice A0 l0.length c0] rfl ?_; (with_reducible refine (spec_l1New.calls k _ _ l0 t416 t417 t418 w _ ?side1 ?side2 ?side3 A2.out).mono ?_); (case side1 => repeat (first | (with_reducible first | exact HB.out | apply below_alloc | apply pw_below_drewN | apply below_drew1 | refine below_set ?_ GE415.out) | exact HB.out)); (case side2 => exact HR0.out); (case side3 => exact HC0.out); rintro e w8 ⟨g419, rfl, hi, hb, hb2⟩; refine ⟨_, rfl, ?_⟩; replace HB := Aside0.mk (hb); have HI419 := Aside0.mk (hi); have NB419_415 := Aside0.mk (IsS105.ne_blk hi (blk_below (mb BK415) hb2) (by decide)); have NB415_419 := Aside0.mk (Ne.symm (IsS105.ne_blk hi (blk_below (mb BK415) hb2) (by decide))); replace BK415 := Aside0.mk (blk_below (mb BK415) hb2); (try clear hb)) | ((with_reducible refine gate_callee (f := 78) rfl ?_); refine gl (some 10) rfl rfl Try.func78 (by kernel_rfl) rfl #[.pointer (some ⟨g419, 0, none⟩)] rfl ?_; (with_reducible refine (spec_l6Bent.calls k g419 t416 t417 t418 t420 t421 t424 t425 w _ ?side1 ?side2 A3.out).mono ?_); (case side1 => repeat (first | (with_reducible first | exact HI419.out | apply IsS105.alloc | apply IsS105.drewN | apply IsS105.drew | apply IsS105.set_1 | apply IsS105.set_2 | refine IsS105.far ?_ NB419_415.out _) | exact HI419.out)); (case side2 => repeat (first | (with_reducible first | exact HB.out | apply below_alloc | apply pw_below_drewN | apply below_drew1 | refine below_set ?_ (IsS105.ge HI419.out) | refine below_set ?_ GE415.out) | exact HB.out)); rintro e w9 ⟨v422, rfl, ho0, hi, hb, hk⟩; refine ⟨_, rfl, ?_⟩; replace BK415 := Aside0.mk (KeepBut.blk hk (g' := gb415) (o := .cells #[.int .i64 0, .slice none 0 0] 32 (0, 0)) (mb BK415) NB415_419.out (by simp)); have HO423 := Aside0.mk (Kd.S_lower ho0 (below_size (by repeat (first | (with_reducible first | exact HB.out | apply below_alloc | apply pw_below_drewN | apply below_drew1 | refine below_set ?_ (IsS105.ge HI419.out) | refine below_set ?_ GE415.out) | exact HB.out)))); replace HB := Aside0.mk (hb); replace HI419 := Aside0.mk (hi); (try clear hb); (try clear ho0)) | ((with_reducible refine gate_dst (N := 5) rfl ?_); refine box_event ?hg (N := 5) ?hd (cs := #[.int .i64 0, .slice none 0 0]) (t := 32) ?hr ?_; (case hd => rfl); (case hg => rfl); (case hr => first | (go_simp; done) | (go_simp; rfl)); intro gb426 hg w10 hbox hb; have n0_ := bS HO423 hb; have n1_ := bb BK415 hb; have n2_ := Aside0.mk (IsS105.below (by repeat (first | (with_reducible first | exact HI419.out | apply IsS105.alloc | apply IsS105.drewN | apply IsS105.drew | apply IsS105.set_1 | apply IsS105.set_2 | refine IsS105.far ?_ NB419_415.out _) | exact HI419.out)) hb); have n3_ := Aside0.mk (below_step (by repeat (first | (with_reducible first | exact HB.out | apply below_alloc | apply pw_below_drewN | apply below_drew1 | refine below_set ?_ (IsS105.ge HI419.out) | refine below_set ?_ GE415.out) | exact HB.out)) hb); have n4_ := Aside0.mk (hbox); have n5_ := Aside0.mk ((by rw [hg]; exact (below_size (by repeat (first | (with_reducible first | exact HB.out | apply below_alloc | apply pw_below_drewN | apply below_drew1 | refine below_set ?_ (IsS105.ge HI419.out) | refine below_set ?_ GE415.out) | exact HB.out))) : w.heap.size ≤ gb426)); have n6_ := Aside0.mk ((by rw [hg]; exact (below_size (by repeat (first | (with_reducible first | exact HB.out | apply below_alloc | apply pw_below_drewN | apply below_drew1 | refine below_set ?_ (IsS105.ge HI419.out) | refine below_set ?_ GE415.out) | exact HB.out))) : w.heap.size ≤ gb426)); have n7_ := nl hg BK415; have n8_ := ng hg BK415; have n9_ := Aside0.mk ((by rw [hg]; exact Nat.ne_of_lt (IsS105.lt (show IsS105 w _ g419 t416 t424 t425 from by repeat (first | (with_reducible first | exact HI419.out | apply IsS105.alloc | apply IsS105.drewN | apply IsS105.drew | apply IsS105.set_1 | apply IsS105.set_2 | refine IsS105.far ?_ NB419_415.out _) | exact HI419.out))) : g419 ≠ gb426)); have n10_ := Aside0.mk ((by rw [hg]; exact Nat.ne_of_gt (IsS105.lt (show IsS105 w _ g419 t416 t424 t425 from by repeat (first | (with_reducible first | exact HI419.out | apply IsS105.alloc | apply IsS105.drewN | apply IsS105.drew | apply IsS105.set_1 | apply IsS105.set_2 | refine IsS105.far ?_ NB419_415.out _) | exact HI419.out))) : gb426 ≠ g419)); clear HO423 BK415 HI419 HB; have HO423 := n0_; have BK415 := n1_; have HI419 := n2_; have HB := n3_; have BK426 := n4_; have GW426 := n5_; have GE426 := n6_; have NB415_426 := n7_; have NB426_415 := n8_; have NB419_426 := n9_; have NB426_419 := n10_; clear n0_ n1_ n2_ n3_ n4_ n5_ n6_ n7_ n8_ n9_ n10_; clear hb hbox hg; have hnb11 := NB426_415.out; have hnc11 := NB415_426.out; have hnb12 := NB426_419.out; have hnc12 := NB419_426.out; obtain ⟨hcz13_0, hcz13_1⟩ := c2 BK426; have hfz13_0 := blk_frozen BK426.out 0; have hfz13_1 := blk_frozen BK426.out 1; obtain ⟨Ao14, co14, eo14⟩ := Kd.S_slice HO423.out; subst eo14) | ((with_reducible refine gate_callee (f := 79) rfl ?_); refine gl (some 15) rfl rfl Try.func79 (by kernel_rfl) rfl #[.pointer (some ⟨g419, 0, none⟩), .int .i64 12] rfl ?_; (with_reducible refine (spec_l1Once.calls g419 t416 t424 t425 12 true t428 t429 w _ ?side1 ?side2 A4.out).mono ?_); (case side1 => repeat (first | (with_reducible first | exact HI419.out | apply IsS105.alloc | apply IsS105.drewN | apply IsS105.drew | apply IsS105.set_1 | apply IsS105.set_2 | refine IsS105.far ?_ NB419_415.out _ | refine IsS105.far ?_ NB419_426.out _) | exact HI419.out)); (case side2 => repeat (first | (with_reducible first | exact HB.out | apply below_alloc | apply pw_below_drewN | apply below_drew1 | refine below_set ?_ (IsS105.ge HI419.out) | refine below_set ?_ GE415.out | refine below_set ?_ GE426.out) | exact HB.out)); rintro e w15 ⟨rfl, hi, hb, hk⟩; refine ⟨_, rfl, ?_⟩; have n0_ := Aside0.mk (KeepBut.blk hk (g' := gb415) (o := .cells #[.int .i64 0, .slice none 0 0] 32 (0, 0)) (mf BK415) NB415_419.out (by simp)); have n1_ := Aside0.mk (Kd.S_mono (Kd.S_keep (IsS105.apartS (show IsS105 w _ g419 t416 t424 t425 from by repeat (first | (with_reducible first | exact HI419.out | apply IsS105.alloc | apply IsS105.drewN | apply IsS105.drew | apply IsS105.set_1 | apply IsS105.set_2 | refine IsS105.far ?_ NB419_415.out _ | refine IsS105.far ?_ NB419_426.out _) | exact HI419.out)) (by (with_reducible repeat (first | apply Kd.S_alloc | apply Kd.S_drewN | apply Kd.S_drew)); exact (Kd.S_mono (Kd.S_far (p := ⟨gb426, 1, none⟩) (Kd.S_far (p := ⟨gb426, 0, none⟩) (Kd.S_types HO423.out BK426.out (by decide)) (fun _ hk => hk.2) (.int .i64 t420)) (fun _ hk => hk.2) (.slice Ao14 t421.length co14)) (fun _ h_ => h_.1))) (by decide)) hk (fun _ h => h.2)) (fun _ h => h.1)); have n2_ := Aside0.mk (KeepBut.blk hk (g' := gb426) (o := .cells #[.int .i64 t420, .slice Ao14 t421.length co14] 32 (0, 0)) (by (with_reducible repeat (first | refine blk_drewN ?_ _ | refine blk_drew ?_ | refine blk_alloc ?_ _)); refine blk_put (cs := #[.int .i64 t420, .slice none 0 0]) ?_ 1 _ rfl; (with_reducible repeat (first | refine blk_drewN ?_ _ | refine blk_drew ?_ | refine blk_alloc ?_ _)); refine blk_put (cs := #[.int .i64 0, .slice none 0 0]) ?_ 0 _ rfl; (with_reducible repeat (first | refine blk_drewN ?_ _ | refine blk_drew ?_ | refine blk_alloc ?_ _)); exact BK426.out) NB426_419.out (by simp)); have n3_ := Aside0.mk (hb); have n4_ := Aside0.mk (hi); clear BK415 HO423 BK426 HB HI419; have BK415 := n0_; have HO423 := n1_; have BK426 := n2_; have HB := n3_; have HI419 := n4_; clear n0_ n1_ n2_ n3_ n4_; (try clear hb)))
  replace HO423 := Aside0.mk (Kd.S_drew HO423.out)
  replace BK415 := Aside0.mk (blk_drew BK415.out)
  replace BK426 := Aside0.mk (blk_drew BK426.out)
  replace HI419 := Aside0.mk (IsS105.drew HI419.out)
  replace HB := Aside0.mk (below_drew1 HB.out)
  refine start_ (n := 6) (S := fun w' => w'.cell? ⟨gb426, 0, none⟩ = some (.int .i64 t420) ∧ w'.cell? ⟨gb426, 1, none⟩ = some (.slice Ao14 t421.length co14)) (ds := []) #[false, false, false, false, false, false] (by kernel_rfl) rfl rfl ⟨(c2 BK426).1, (c2 BK426).2⟩ (fun hHeld => ?_)
  generalize w15.drew = w16 at HO423 BK415 BK426 HI419 HB hHeld ⊢
  refine pure_ (i := 1) (N := some 19) (v := ?_) (a' := ?_) #[false, true, false, false, false, false] rfl rfl (by kernel_rfl) (fun _ _ _ h => h) (Or.inl ⟨by rfl, ?_⟩) ?_ ?_
  rotate_left
  ·intro w'
   go_simp
   with_reducible rfl
  rotate_left
  ·simp only [Act.put, List.setIfInBounds_toArray, List.set_cons_zero, List.set_cons_succ, i64_w, i32_w]
   rfl
  refine pure_ (i := 2) (N := some 20) (v := ?_) (a' := ?_) #[false, true, true, false, false, false] rfl rfl (by kernel_rfl) (fun _ _ _ h => h) (Or.inl ⟨by rfl, ?_⟩) ?_ ?_
  rotate_left
  ·intro w'
   go_simp
   with_reducible rfl
  rotate_left
  ·simp only [Act.put, List.setIfInBounds_toArray, List.set_cons_zero, List.set_cons_succ, i64_w, i32_w]
   rfl
  refine take_ (i := 0) (N := some 18) (v := ?_) (a' := ?_) #[true, true, true, false, false, false] rfl rfl (by kernel_rfl) (fun _ _ _ h => h) (Or.inl ⟨by rfl, ?_⟩) hHeld ?_ ?_
  rotate_left
  ·rintro w' ⟨s0, s1⟩
   go_simp
   with_reducible rfl
  rotate_left
  ·simp only [Act.put, List.setIfInBounds_toArray, List.set_cons_zero, List.set_cons_succ, i64_w, i32_w]
   rfl
  refine one_ (i := 3) (N := some 21) #[true, true, true, true, false, false] rfl rfl (by kernel_rfl) (by decide) (fun K hK => ?_)
  refine gs Try.func91 (by kernel_rfl) rfl #[.pointer (some ⟨g419, 0, none⟩), .int .i64 (wrap64 ((t421.length : Int) + 1))] (by rfl) rfl rfl ?_
  with_reducible refine (spec_l7Mult.calls k g419 t416 t428 t429 (wrap64 ((t421.length : Int) + 1)) t430 t433 t434 w _ ?side1 ?side2 A6.out).mono ?_
  (case side1 => repeat (first | (with_reducible first | exact HI419.out | apply IsS105.alloc | apply IsS105.drewN | apply IsS105.drew | apply IsS105.set_1 | apply IsS105.set_2 | refine IsS105.far ?_ NB419_415.out _ | refine IsS105.far ?_ NB419_426.out _) | exact HI419.out))
  (case side2 => repeat (first | (with_reducible first | exact HB.out | apply below_alloc | apply pw_below_drewN | apply below_drew1 | refine below_set ?_ (IsS105.ge HI419.out) | refine below_set ?_ GE415.out | refine below_set ?_ GE426.out) | exact HB.out))
  rintro e w17 ⟨v431, rfl, ho0, hi, hb, hk⟩
  refine ⟨_, rfl, ?_⟩
  replace BK415 := Aside0.mk (KeepBut.blk hk (g' := gb415) (o := .cells #[.int .i64 0, .slice none 0 0] 32 (0, 0)) (mb BK415) NB415_419.out (by simp))
  replace HO423 := Aside0.mk (Kd.S_mono (Kd.S_told (Kd.S_oldK (IsS105.apartS (show IsS105 w _ g419 t416 t428 t429 from by repeat (first | (with_reducible first | exact HI419.out | apply IsS105.alloc | apply IsS105.drewN | apply IsS105.drew | apply IsS105.set_1 | apply IsS105.set_2 | refine IsS105.far ?_ NB419_415.out _ | refine IsS105.far ?_ NB419_426.out _) | exact HI419.out)) (mS HO423) (by decide)) hk) (Kd.R_base ho0)) (fun _ h_ => h_.1))
  replace BK426 := Aside0.mk (KeepBut.blk hk (g' := gb426) (o := .cells #[.int .i64 t420, .slice Ao14 t421.length co14] 32 (0, 0)) (mb BK426) NB426_419.out (by simp))
  have HO432 := Aside0.mk (Kd.R_lower ho0 (below_size (by repeat (first | (with_reducible first | exact HB.out | apply below_alloc | apply pw_below_drewN | apply below_drew1 | refine below_set ?_ (IsS105.ge HI419.out) | refine below_set ?_ GE415.out | refine below_set ?_ GE426.out) | exact HB.out))))
  replace HB := Aside0.mk (hb)
  replace HI419 := Aside0.mk (hi)
  (try clear hb)
  (try clear hb2)
  (try clear hk)
  (try clear hi)
  (try clear ho0)
  refine hK.out _ _ ⟨(c2 BK426).1, (c2 BK426).2⟩ (fun hHeld => ?_)
  clear hK K
  refine norm_ (a' := ?_) ?_ ?_
  rotate_left
  ·show Act.put _ (some 21) _ = _
   simp only [Act.put, List.setIfInBounds_toArray, List.set_cons_zero, List.set_cons_succ, i64_w, i32_w]
   rfl
  refine one_ (i := 4) (N := none) #[true, true, true, true, true, false] rfl rfl (by kernel_rfl) (by decide) (fun K hK => ?_)
  have hs18 : w17.cell? ⟨gb415, 0, none⟩ = some (.int .i64 0) := (blk_cell BK415.out 0).trans rfl
  have hfs18 := blk_frozen BK415.out 0
  have hns18_1 := NB426_415.out
  have hms18_1 := NB415_426.out
  have hs19 : w17.cell? ⟨gb415, 1, none⟩ = some (.slice none 0 0) := (blk_cell BK415.out 1).trans rfl
  have hfs19 := blk_frozen BK415.out 1
  have hns19_1 := NB426_415.out
  have hms19_1 := NB415_426.out
  refine skip_ (w1 := ?_) (by rfl) rfl ?_ ?_
  rotate_left
  ·go_simp
   rfl
  refine hK.out _ _ ⟨((cell_far (p := ⟨gb415, _, none⟩) NB426_415.out _).trans (((cell_far (p := ⟨gb415, _, none⟩) NB426_415.out _).trans (hHeld.1)))), ((cell_far (p := ⟨gb415, _, none⟩) NB426_415.out _).trans (((cell_far (p := ⟨gb415, _, none⟩) NB426_415.out _).trans (hHeld.2))))⟩ (fun hHeld => ?_)
  clear hK K
  refine pure_ (i := 5) (N := some 3) (v := ?_) (a' := ?_) #[true, true, true, true, true, true] rfl rfl (by kernel_rfl) (fun _ _ _ h => h) (Or.inl ⟨by rfl, ?_⟩) ?_ ?_
  rotate_left
  ·intro w'
   go_simp
   with_reducible rfl
  rotate_left
  ·simp only [Act.put, List.setIfInBounds_toArray, List.set_cons_zero, List.set_cons_succ, i64_w, i32_w]
   rfl
  refine done_ (by kernel_rfl) ?_
  try go_wp2
  refine bodyPost_ret (results_ct rfl _ _ gb415 32 #[.int .i64 t420, .slice Ao14 t421.length co14] (0, 0) _ rfl (by (with_reducible repeat (first | refine blk_drewN ?_ _ | refine blk_drew ?_ | refine blk_alloc ?_ _)); refine blk_put (cs := #[.int .i64 t420, .slice none 0 0]) ?_ 1 _ rfl; (with_reducible repeat (first | refine blk_drewN ?_ _ | refine blk_drew ?_ | refine blk_alloc ?_ _)); refine blk_put (cs := #[.int .i64 0, .slice none 0 0]) ?_ 0 _ rfl; (with_reducible repeat (first | refine blk_drewN ?_ _ | refine blk_drew ?_ | refine blk_alloc ?_ _)); exact BK415.out) Try.underlying32 rfl (by kernel_rfl)) rfl ?_
  exact ⟨_, _, by first | rfl | (simp [errW_none, errW_some] <;> rfl) | (simp [*, errW_none, errW_some] <;> rfl), by (with_reducible repeat (first | apply Kd.S_alloc | apply Kd.S_drewN | apply Kd.S_drew)); exact Kd.S_mono (Kd.S_far (p := ⟨gb415, 1, none⟩) (Kd.S_far (p := ⟨gb415, 0, none⟩) (Kd.S_types HO423.out BK415.out (by decide)) (fun _ hk => hk.2) (.int .i64 t420)) (fun _ hk => hk.2) (.slice Ao14 t421.length co14)) (fun _ hk => hk.1.2), by (with_reducible repeat (first | apply Kd.R_alloc | apply Kd.R_drewN | apply Kd.R_drew)); exact Kd.R_mono (Kd.R_far (p := ⟨gb415, 1, none⟩) (Kd.R_far (p := ⟨gb415, 0, none⟩) (Kd.R_types HO432.out BK415.out (by decide)) (fun _ hk => hk.2) (.int .i64 t420)) (fun _ hk => hk.2) (.slice Ao14 t421.length co14)) (fun _ hk => trivial), by repeat (first | (with_reducible first | exact HB.out | apply below_alloc | apply pw_below_drewN | apply below_drew1 | refine below_set ?_ (IsS105.ge HI419.out) | refine below_set ?_ GE415.out | refine below_set ?_ GE426.out) | exact HB.out)⟩
 ·replace c5 := Bool.eq_false_iff.mpr c5
  subst c5
  have H1 : ((spec_l7Mult.f k t416 t428 t429 (t421.length : Int)).bind fun bt435 => (some (t420, t421, bt435.1))) = some (r1, r2, r3) := by rw [if_neg (show ¬ (false = true) by decide)] at H; exact H
  clear H
  have H := H1
  clear H1
  replace H := Option.bind_eq_some_iff.mp H
  obtain ⟨⟨t435, t438, t439⟩, A200, H⟩ := H
  replace H : (some (t420, t421, t435)) = some (r1, r2, r3) := H
  have A20 := Aside0.mk A200
  clear A200
  simp only [Option.some.injEq, Prod.mk.injEq] at H
  obtain ⟨rfl, rfl, rfl⟩ := H
  go_enter Try.func40, Try.ntmps40
  try go_wp2_with (first | ((with_reducible refine gate_dst (N := 2) rfl ?_); refine box_event ?hg (N := 2) ?hd (cs := #[.int .i64 0, .slice none 0 0]) (t := 32) ?hr ?_; (case hd => rfl); (case hg => rfl); (case hr => first | (go_simp; done) | (go_simp; rfl)); intro gb415 hg w21 hbox hb; have BK415 := Aside0.mk (hbox); have GW415 := gw hg HB; have GE415 := gw hg HB; replace HB := bs HB hb; clear hb hbox hg) | ((with_reducible refine gate_callee (f := 77) rfl ?_); refine gl (some 8) rfl rfl Try.func77 (by kernel_rfl) rfl #[.slice A0 l0.length c0] rfl ?_; (with_reducible refine (spec_l1New.calls k _ _ l0 t416 t417 t418 w _ ?side1 ?side2 ?side3 A2.out).mono ?_); (case side1 => repeat (first | (with_reducible first | exact HB.out | apply below_alloc | apply pw_below_drewN | apply below_drew1 | refine below_set ?_ GE415.out) | exact HB.out)); (case side2 => exact HR0.out); (case side3 => exact HC0.out); rintro e w22 ⟨g419, rfl, hi, hb, hb2⟩; refine ⟨_, rfl, ?_⟩; replace HB := Aside0.mk (hb); have HI419 := Aside0.mk (hi); have NB419_415 := Aside0.mk (IsS105.ne_blk hi (blk_below (mb BK415) hb2) (by decide)); have NB415_419 := Aside0.mk (Ne.symm (IsS105.ne_blk hi (blk_below (mb BK415) hb2) (by decide))); replace BK415 := Aside0.mk (blk_below (mb BK415) hb2); (try clear hb)) | ((with_reducible refine gate_callee (f := 78) rfl ?_); refine gl (some 10) rfl rfl Try.func78 (by kernel_rfl) rfl #[.pointer (some ⟨g419, 0, none⟩)] rfl ?_; (with_reducible refine (spec_l6Bent.calls k g419 t416 t417 t418 t420 t421 t424 t425 w _ ?side1 ?side2 A3.out).mono ?_); (case side1 => repeat (first | (with_reducible first | exact HI419.out | apply IsS105.alloc | apply IsS105.drewN | apply IsS105.drew | apply IsS105.set_1 | apply IsS105.set_2 | refine IsS105.far ?_ NB419_415.out _) | exact HI419.out)); (case side2 => repeat (first | (with_reducible first | exact HB.out | apply below_alloc | apply pw_below_drewN | apply below_drew1 | refine below_set ?_ (IsS105.ge HI419.out) | refine below_set ?_ GE415.out) | exact HB.out)); rintro e w23 ⟨v422, rfl, ho0, hi, hb, hk⟩; refine ⟨_, rfl, ?_⟩; replace BK415 := Aside0.mk (KeepBut.blk hk (g' := gb415) (o := .cells #[.int .i64 0, .slice none 0 0] 32 (0, 0)) (mb BK415) NB415_419.out (by simp)); have HO423 := Aside0.mk (Kd.S_lower ho0 (below_size (by repeat (first | (with_reducible first | exact HB.out | apply below_alloc | apply pw_below_drewN | apply below_drew1 | refine below_set ?_ (IsS105.ge HI419.out) | refine below_set ?_ GE415.out) | exact HB.out)))); replace HB := Aside0.mk (hb); replace HI419 := Aside0.mk (hi); (try clear hb); (try clear ho0)) | ((with_reducible refine gate_dst (N := 5) rfl ?_); refine box_event ?hg (N := 5) ?hd (cs := #[.int .i64 0, .slice none 0 0]) (t := 32) ?hr ?_; (case hd => rfl); (case hg => rfl); (case hr => first | (go_simp; done) | (go_simp; rfl)); intro gb426 hg w24 hbox hb; have n0_ := bS HO423 hb; have n1_ := bb BK415 hb; have n2_ := Aside0.mk (IsS105.below (by repeat (first | (with_reducible first | exact HI419.out | apply IsS105.alloc | apply IsS105.drewN | apply IsS105.drew | apply IsS105.set_1 | apply IsS105.set_2 | refine IsS105.far ?_ NB419_415.out _) | exact HI419.out)) hb); have n3_ := Aside0.mk (below_step (by repeat (first | (with_reducible first | exact HB.out | apply below_alloc | apply pw_below_drewN | apply below_drew1 | refine below_set ?_ (IsS105.ge HI419.out) | refine below_set ?_ GE415.out) | exact HB.out)) hb); have n4_ := Aside0.mk (hbox); have n5_ := Aside0.mk ((by rw [hg]; exact (below_size (by repeat (first | (with_reducible first | exact HB.out | apply below_alloc | apply pw_below_drewN | apply below_drew1 | refine below_set ?_ (IsS105.ge HI419.out) | refine below_set ?_ GE415.out) | exact HB.out))) : w.heap.size ≤ gb426)); have n6_ := Aside0.mk ((by rw [hg]; exact (below_size (by repeat (first | (with_reducible first | exact HB.out | apply below_alloc | apply pw_below_drewN | apply below_drew1 | refine below_set ?_ (IsS105.ge HI419.out) | refine below_set ?_ GE415.out) | exact HB.out))) : w.heap.size ≤ gb426)); have n7_ := nl hg BK415; have n8_ := ng hg BK415; have n9_ := Aside0.mk ((by rw [hg]; exact Nat.ne_of_lt (IsS105.lt (show IsS105 w _ g419 t416 t424 t425 from by repeat (first | (with_reducible first | exact HI419.out | apply IsS105.alloc | apply IsS105.drewN | apply IsS105.drew | apply IsS105.set_1 | apply IsS105.set_2 | refine IsS105.far ?_ NB419_415.out _) | exact HI419.out))) : g419 ≠ gb426)); have n10_ := Aside0.mk ((by rw [hg]; exact Nat.ne_of_gt (IsS105.lt (show IsS105 w _ g419 t416 t424 t425 from by repeat (first | (with_reducible first | exact HI419.out | apply IsS105.alloc | apply IsS105.drewN | apply IsS105.drew | apply IsS105.set_1 | apply IsS105.set_2 | refine IsS105.far ?_ NB419_415.out _) | exact HI419.out))) : gb426 ≠ g419)); clear HO423 BK415 HI419 HB; have HO423 := n0_; have BK415 := n1_; have HI419 := n2_; have HB := n3_; have BK426 := n4_; have GW426 := n5_; have GE426 := n6_; have NB415_426 := n7_; have NB426_415 := n8_; have NB419_426 := n9_; have NB426_419 := n10_; clear n0_ n1_ n2_ n3_ n4_ n5_ n6_ n7_ n8_ n9_ n10_; clear hb hbox hg; have hnb25 := NB426_415.out; have hnc25 := NB415_426.out; have hnb26 := NB426_419.out; have hnc26 := NB419_426.out; obtain ⟨hcz27_0, hcz27_1⟩ := c2 BK426; have hfz27_0 := blk_frozen BK426.out 0; have hfz27_1 := blk_frozen BK426.out 1; obtain ⟨Ao28, co28, eo28⟩ := Kd.S_slice HO423.out; subst eo28) | ((with_reducible refine gate_callee (f := 79) rfl ?_); refine gl (some 15) rfl rfl Try.func79 (by kernel_rfl) rfl #[.pointer (some ⟨g419, 0, none⟩), .int .i64 12] rfl ?_; (with_reducible refine (spec_l1Once.calls g419 t416 t424 t425 12 false t428 t429 w _ ?side1 ?side2 A4.out).mono ?_); (case side1 => repeat (first | (with_reducible first | exact HI419.out | apply IsS105.alloc | apply IsS105.drewN | apply IsS105.drew | apply IsS105.set_1 | apply IsS105.set_2 | refine IsS105.far ?_ NB419_415.out _ | refine IsS105.far ?_ NB419_426.out _) | exact HI419.out)); (case side2 => repeat (first | (with_reducible first | exact HB.out | apply below_alloc | apply pw_below_drewN | apply below_drew1 | refine below_set ?_ (IsS105.ge HI419.out) | refine below_set ?_ GE415.out | refine below_set ?_ GE426.out) | exact HB.out)); rintro e w29 ⟨rfl, hi, hb, hk⟩; refine ⟨_, rfl, ?_⟩; have n0_ := Aside0.mk (KeepBut.blk hk (g' := gb415) (o := .cells #[.int .i64 0, .slice none 0 0] 32 (0, 0)) (mf BK415) NB415_419.out (by simp)); have n1_ := Aside0.mk (Kd.S_mono (Kd.S_keep (IsS105.apartS (show IsS105 w _ g419 t416 t424 t425 from by repeat (first | (with_reducible first | exact HI419.out | apply IsS105.alloc | apply IsS105.drewN | apply IsS105.drew | apply IsS105.set_1 | apply IsS105.set_2 | refine IsS105.far ?_ NB419_415.out _ | refine IsS105.far ?_ NB419_426.out _) | exact HI419.out)) (by (with_reducible repeat (first | apply Kd.S_alloc | apply Kd.S_drewN | apply Kd.S_drew)); exact (Kd.S_mono (Kd.S_far (p := ⟨gb426, 1, none⟩) (Kd.S_far (p := ⟨gb426, 0, none⟩) (Kd.S_types HO423.out BK426.out (by decide)) (fun _ hk => hk.2) (.int .i64 t420)) (fun _ hk => hk.2) (.slice Ao28 t421.length co28)) (fun _ h_ => h_.1))) (by decide)) hk (fun _ h => h.2)) (fun _ h => h.1)); have n2_ := Aside0.mk (KeepBut.blk hk (g' := gb426) (o := .cells #[.int .i64 t420, .slice Ao28 t421.length co28] 32 (0, 0)) (by (with_reducible repeat (first | refine blk_drewN ?_ _ | refine blk_drew ?_ | refine blk_alloc ?_ _)); refine blk_put (cs := #[.int .i64 t420, .slice none 0 0]) ?_ 1 _ rfl; (with_reducible repeat (first | refine blk_drewN ?_ _ | refine blk_drew ?_ | refine blk_alloc ?_ _)); refine blk_put (cs := #[.int .i64 0, .slice none 0 0]) ?_ 0 _ rfl; (with_reducible repeat (first | refine blk_drewN ?_ _ | refine blk_drew ?_ | refine blk_alloc ?_ _)); exact BK426.out) NB426_419.out (by simp)); have n3_ := Aside0.mk (hb); have n4_ := Aside0.mk (hi); clear BK415 HO423 BK426 HB HI419; have BK415 := n0_; have HO423 := n1_; have BK426 := n2_; have HB := n3_; have HI419 := n4_; clear n0_ n1_ n2_ n3_ n4_; (try clear hb)))
  replace HO423 := Aside0.mk (Kd.S_drew HO423.out)
  replace BK415 := Aside0.mk (blk_drew BK415.out)
  replace BK426 := Aside0.mk (blk_drew BK426.out)
  replace HI419 := Aside0.mk (IsS105.drew HI419.out)
  replace HB := Aside0.mk (below_drew1 HB.out)
  refine start_ (n := 6) (S := fun w' => w'.cell? ⟨gb426, 0, none⟩ = some (.int .i64 t420) ∧ w'.cell? ⟨gb426, 1, none⟩ = some (.slice Ao28 t421.length co28)) (ds := []) #[false, false, false, false, false, false] (by kernel_rfl) rfl rfl ⟨(c2 BK426).1, (c2 BK426).2⟩ (fun hHeld => ?_)
  generalize w29.drew = w30 at HO423 BK415 BK426 HI419 HB hHeld ⊢
  refine pure_ (i := 1) (N := some 19) (v := ?_) (a' := ?_) #[false, true, false, false, false, false] rfl rfl (by kernel_rfl) (fun _ _ _ h => h) (Or.inl ⟨by rfl, ?_⟩) ?_ ?_
  rotate_left
  ·intro w'
   go_simp
   with_reducible rfl
  rotate_left
  ·simp only [Act.put, List.setIfInBounds_toArray, List.set_cons_zero, List.set_cons_succ, i64_w, i32_w]
   rfl
  refine pure_ (i := 2) (N := some 20) (v := ?_) (a' := ?_) #[false, true, true, false, false, false] rfl rfl (by kernel_rfl) (fun _ _ _ h => h) (Or.inl ⟨by rfl, ?_⟩) ?_ ?_
  rotate_left
  ·intro w'
   go_simp
   with_reducible rfl
  rotate_left
  ·simp only [Act.put, List.setIfInBounds_toArray, List.set_cons_zero, List.set_cons_succ, i64_w, i32_w]
   rfl
  refine take_ (i := 0) (N := some 18) (v := ?_) (a' := ?_) #[true, true, true, false, false, false] rfl rfl (by kernel_rfl) (fun _ _ _ h => h) (Or.inl ⟨by rfl, ?_⟩) hHeld ?_ ?_
  rotate_left
  ·rintro w' ⟨s0, s1⟩
   go_simp
   with_reducible rfl
  rotate_left
  ·simp only [Act.put, List.setIfInBounds_toArray, List.set_cons_zero, List.set_cons_succ, i64_w, i32_w]
   rfl
  refine one_ (i := 3) (N := some 21) #[true, true, true, true, false, false] rfl rfl (by kernel_rfl) (by decide) (fun K hK => ?_)
  refine gs Try.func91 (by kernel_rfl) rfl #[.pointer (some ⟨g419, 0, none⟩), .int .i64 (t421.length : Int)] (by rfl) rfl rfl ?_
  with_reducible refine (spec_l7Mult.calls k g419 t416 t428 t429 (t421.length : Int) t435 t438 t439 w _ ?side1 ?side2 A20.out).mono ?_
  (case side1 => repeat (first | (with_reducible first | exact HI419.out | apply IsS105.alloc | apply IsS105.drewN | apply IsS105.drew | apply IsS105.set_1 | apply IsS105.set_2 | refine IsS105.far ?_ NB419_415.out _ | refine IsS105.far ?_ NB419_426.out _) | exact HI419.out))
  (case side2 => repeat (first | (with_reducible first | exact HB.out | apply below_alloc | apply pw_below_drewN | apply below_drew1 | refine below_set ?_ (IsS105.ge HI419.out) | refine below_set ?_ GE415.out | refine below_set ?_ GE426.out) | exact HB.out))
  rintro e w31 ⟨v436, rfl, ho0, hi, hb, hk⟩
  refine ⟨_, rfl, ?_⟩
  replace BK415 := Aside0.mk (KeepBut.blk hk (g' := gb415) (o := .cells #[.int .i64 0, .slice none 0 0] 32 (0, 0)) (mb BK415) NB415_419.out (by simp))
  replace HO423 := Aside0.mk (Kd.S_mono (Kd.S_told (Kd.S_oldK (IsS105.apartS (show IsS105 w _ g419 t416 t428 t429 from by repeat (first | (with_reducible first | exact HI419.out | apply IsS105.alloc | apply IsS105.drewN | apply IsS105.drew | apply IsS105.set_1 | apply IsS105.set_2 | refine IsS105.far ?_ NB419_415.out _ | refine IsS105.far ?_ NB419_426.out _) | exact HI419.out)) (mS HO423) (by decide)) hk) (Kd.R_base ho0)) (fun _ h_ => h_.1))
  replace BK426 := Aside0.mk (KeepBut.blk hk (g' := gb426) (o := .cells #[.int .i64 t420, .slice Ao28 t421.length co28] 32 (0, 0)) (mb BK426) NB426_419.out (by simp))
  have HO437 := Aside0.mk (Kd.R_lower ho0 (below_size (by repeat (first | (with_reducible first | exact HB.out | apply below_alloc | apply pw_below_drewN | apply below_drew1 | refine below_set ?_ (IsS105.ge HI419.out) | refine below_set ?_ GE415.out | refine below_set ?_ GE426.out) | exact HB.out))))
  replace HB := Aside0.mk (hb)
  replace HI419 := Aside0.mk (hi)
  (try clear hb)
  (try clear hb2)
  (try clear hk)
  (try clear hi)
  (try clear ho0)
  refine hK.out _ _ ⟨(c2 BK426).1, (c2 BK426).2⟩ (fun hHeld => ?_)
  clear hK K
  refine norm_ (a' := ?_) ?_ ?_
  rotate_left
  ·show Act.put _ (some 21) _ = _
   simp only [Act.put, List.setIfInBounds_toArray, List.set_cons_zero, List.set_cons_succ, i64_w, i32_w]
   rfl
  refine one_ (i := 4) (N := none) #[true, true, true, true, true, false] rfl rfl (by kernel_rfl) (by decide) (fun K hK => ?_)
  have hs32 : w31.cell? ⟨gb415, 0, none⟩ = some (.int .i64 0) := (blk_cell BK415.out 0).trans rfl
  have hfs32 := blk_frozen BK415.out 0
  have hns32_1 := NB426_415.out
  have hms32_1 := NB415_426.out
  have hs33 : w31.cell? ⟨gb415, 1, none⟩ = some (.slice none 0 0) := (blk_cell BK415.out 1).trans rfl
  have hfs33 := blk_frozen BK415.out 1
  have hns33_1 := NB426_415.out
  have hms33_1 := NB415_426.out
  refine skip_ (w1 := ?_) (by rfl) rfl ?_ ?_
  rotate_left
  ·go_simp
   rfl
  refine hK.out _ _ ⟨((cell_far (p := ⟨gb415, _, none⟩) NB426_415.out _).trans (((cell_far (p := ⟨gb415, _, none⟩) NB426_415.out _).trans (hHeld.1)))), ((cell_far (p := ⟨gb415, _, none⟩) NB426_415.out _).trans (((cell_far (p := ⟨gb415, _, none⟩) NB426_415.out _).trans (hHeld.2))))⟩ (fun hHeld => ?_)
  clear hK K
  refine pure_ (i := 5) (N := some 3) (v := ?_) (a' := ?_) #[true, true, true, true, true, true] rfl rfl (by kernel_rfl) (fun _ _ _ h => h) (Or.inl ⟨by rfl, ?_⟩) ?_ ?_
  rotate_left
  ·intro w'
   go_simp
   with_reducible rfl
  rotate_left
  ·simp only [Act.put, List.setIfInBounds_toArray, List.set_cons_zero, List.set_cons_succ, i64_w, i32_w]
   rfl
  refine done_ (by kernel_rfl) ?_
  try go_wp2
  refine bodyPost_ret (results_ct rfl _ _ gb415 32 #[.int .i64 t420, .slice Ao28 t421.length co28] (0, 0) _ rfl (by (with_reducible repeat (first | refine blk_drewN ?_ _ | refine blk_drew ?_ | refine blk_alloc ?_ _)); refine blk_put (cs := #[.int .i64 t420, .slice none 0 0]) ?_ 1 _ rfl; (with_reducible repeat (first | refine blk_drewN ?_ _ | refine blk_drew ?_ | refine blk_alloc ?_ _)); refine blk_put (cs := #[.int .i64 0, .slice none 0 0]) ?_ 0 _ rfl; (with_reducible repeat (first | refine blk_drewN ?_ _ | refine blk_drew ?_ | refine blk_alloc ?_ _)); exact BK415.out) Try.underlying32 rfl (by kernel_rfl)) rfl ?_
  exact ⟨_, _, by first | rfl | (simp [errW_none, errW_some] <;> rfl) | (simp [*, errW_none, errW_some] <;> rfl), by (with_reducible repeat (first | apply Kd.S_alloc | apply Kd.S_drewN | apply Kd.S_drew)); exact Kd.S_mono (Kd.S_far (p := ⟨gb415, 1, none⟩) (Kd.S_far (p := ⟨gb415, 0, none⟩) (Kd.S_types HO423.out BK415.out (by decide)) (fun _ hk => hk.2) (.int .i64 t420)) (fun _ hk => hk.2) (.slice Ao28 t421.length co28)) (fun _ hk => hk.1.2), by (with_reducible repeat (first | apply Kd.R_alloc | apply Kd.R_drewN | apply Kd.R_drew)); exact Kd.R_mono (Kd.R_far (p := ⟨gb415, 1, none⟩) (Kd.R_far (p := ⟨gb415, 0, none⟩) (Kd.R_types HO437.out BK415.out (by decide)) (fun _ hk => hk.2) (.int .i64 t420)) (fun _ hk => hk.2) (.slice Ao28 t421.length co28)) (fun _ hk => trivial), by repeat (first | (with_reducible first | exact HB.out | apply below_alloc | apply pw_below_drewN | apply below_drew1 | refine below_set ?_ (IsS105.ge HI419.out) | refine below_set ?_ GE415.out | refine below_set ?_ GE426.out) | exact HB.out)⟩

/-! ### spec_l1Ints: function 92 -/
def spec_l1Ints.l0 : Nat → List Int → List Int → Int → Option (Bool)
 | 0, _, _, _ => none
 | k + 1, x0, x1, x5 => if x5 < (x0.length : Int) then (if 0 ≤ x5 then (if x5 < (x1.length : Int) then (if (rd x0 x5) = (rd x1 x5) then (spec_l1Ints.l0 k x0 x1 (wrap64 (x5 + 1))) else (some false)) else (none)) else (none)) else (some true)
def spec_l1Ints.f (k : Nat) (l0 : List Int) (l1 : List Int) : Option (Bool) := if (l0.length : Int) = (l1.length : Int) then (spec_l1Ints.l0 k l0 l1 0) else (some false)
theorem spec_l1Ints.mono_l : ∀ k, (∀ y0 y1 y2, LeO (spec_l1Ints.l0 k y0 y1 y2) (spec_l1Ints.l0 (k + 1) y0 y1 y2))
 | 0 => fun _ _ _ r h => by simp [spec_l1Ints.l0] at h
 | k + 1 => by
  have ih0 := spec_l1Ints.mono_l k
  ·intro y0 y1 y2
   unfold spec_l1Ints.l0
   repeat' first
   | (with_reducible exact ih0 _ _ _)
   | (with_reducible exact LeO.refl _)
   | (with_reducible exact LeO.none _)
   | (with_reducible refine LeO.ite ?_ ?_)
   | (with_reducible refine LeO.bind ?_ (fun _ => ?_))
   | exact ih0 _ _ _
   | exact LeO.none _
   | refine LeO.ite ?_ ?_
   | refine LeO.bind ?_ (fun _ => ?_)
theorem spec_l1Ints.mono : ∀ a0 a1 k, LeO (spec_l1Ints.f k a0 a1) (spec_l1Ints.f (k + 1) a0 a1) := by
 intro a0 a1 k
 have ih0 := spec_l1Ints.mono_l k
 unfold spec_l1Ints.f
 repeat' first
   | (with_reducible exact ih0 _ _ _)
   | (with_reducible exact LeO.refl _)
   | (with_reducible exact LeO.none _)
   | (with_reducible refine LeO.ite ?_ ?_)
   | (with_reducible refine LeO.bind ?_ (fun _ => ?_))
   | exact ih0 _ _ _
   | exact LeO.none _
   | refine LeO.ite ?_ ?_
   | refine LeO.bind ?_ (fun _ => ?_)
set_option maxHeartbeats 8000000 in
set_option maxRecDepth 100000 in
theorem spec_l1Ints.calls (k : Nat) (A0 : Option Addr) (c0 : Nat) (l0 : List Int) (A1 : Option Addr) (c1 : Nat) (l1 : List Int) (r : Bool) (w : World) (hr0 : Kd.C (Kd.int .i64) w A0 l0.length l0) (hc0 : l0.length ≤ c0) (hr1 : Kd.C (Kd.int .i64) w A1 l1.length l1) (hc1 : l1.length ≤ c1) (h : spec_l1Ints.f k l0 l1 = some r) :
  Calls Try.prog 92 #[.slice A0 l0.length c0, .slice A1 l1.length c1] w fun e w' => e = .returned (.bool r) ∧ Drawn0 w w' := by
 have HR0 := Aside0.mk hr0
 have HC0 := Aside0.mk hc0
 clear hr0 hc0
 have HR1 := Aside0.mk hr1
 have HC1 := Aside0.mk hc1
 clear hr1 hc1
 have H : (if (l0.length : Int) = (l1.length : Int) then (spec_l1Ints.l0 k l0 l1 0) else (some false)) = some r := h
 clear h
 by_cases c3 : (l0.length : Int) = (l1.length : Int)
 ·rw [if_pos c3] at H
  have c3b0 : ((l0.length : Int) == (l1.length : Int)) = true := beq_iff_eq.mpr c3
  have c3b1 : ((l0.length : Int) != (l1.length : Int)) = false := bne_eq_false_iff_eq.mpr c3
  have c3b2 : (l0.length == l1.length) = true := by first | simpa using c3 | (simp at c3 ⊢; omega)
  clear c3
  have H' := Aside0.mk H
  clear H
  go_enter Try.func92, Try.ntmps92
  go_wp2
  repeat (go_quiet (fail); try go_wp2)
  go_loopg [5] k (fun kq v5 w' => ∃ (x5_1 : Int), v5 = .int .i64 x5_1 ∧ Aside0 (spec_l1Ints.l0 kq l0 l1 x5_1 = some r) ∧ Aside0 (kq ≤ k) ∧ Drawn0 w w')
  case atStart => exact ⟨(0), (by first | rfl | (simp; done) | (simp [*]; done)), H', ⟨Nat.le_refl _⟩, by repeat (first | exact Drawn0.refl _ | apply Drawn0.step)⟩
  case round =>
   clear H'
   try clear c1
   try clear p2
   try clear c3
   try clear c3b0
   try clear c3b1
   try clear c3b2
   obtain ⟨x5_1, rfl, HA, HK1, ⟨m1, rfl⟩⟩ := hrel
   cases gk with
   | zero => exact absurd HA.out (by simp [spec_l1Ints.l0])
   | succ k1 =>
    have H := HA.out
    clear HA
    simp only [spec_l1Ints.l0] at H
    by_cases c4 : x5_1 < (l0.length : Int)
    ·rw [if_pos c4] at H
     have c4b0 : decide (x5_1 < (l0.length : Int)) = true := decide_eq_true c4
     clear c4
     by_cases c5 : 0 ≤ x5_1
     ·rw [if_pos c5] at H
      have c5b0 : decide (0 ≤ x5_1) = true := decide_eq_true c5
      clear c5
      by_cases c6 : x5_1 < (l1.length : Int)
      ·rw [if_pos c6] at H
       have c6b0 : decide (x5_1 < (l1.length : Int)) = true := decide_eq_true c6
       clear c6
       by_cases c7 : (rd l0 x5_1) = (rd l1 x5_1)
       ·rw [if_pos c7] at H
        have c7b0 : ((rd l0 x5_1) == (rd l1 x5_1)) = true := beq_iff_eq.mpr c7
        have c7b1 : ((rd l0 x5_1) != (rd l1 x5_1)) = false := bne_eq_false_iff_eq.mpr c7
        clear c7
        have H' := Aside0.mk H
        clear H
        have p440 : 0 ≤ (x5_1 : Int) := of_decide_eq_true (by first | (with_reducible assumption) | assumption)
        have q440 : x5_1 < (l0.length : Int) := of_decide_eq_true (by first | (with_reducible assumption) | assumption)
        obtain ⟨ad440, e440, hx440_0⟩ := Kd.at_int HR0.out x5_1 p440 q440
        cases e440
        replace p440 := eq_true p440
        replace q440 := eq_true q440
        have p441 : 0 ≤ (x5_1 : Int) := of_decide_eq_true (by first | (with_reducible assumption) | assumption)
        have q441 : x5_1 < (l1.length : Int) := of_decide_eq_true (by first | (with_reducible assumption) | assumption)
        obtain ⟨ad441, e441, hx441_0⟩ := Kd.at_int HR1.out x5_1 p441 q441
        cases e441
        replace p441 := eq_true p441
        replace q441 := eq_true q441
        go_wp2
        repeat (go_quiet (fail); try go_wp2)
        go_roundg k1
        case measure => have := HK1.out; omega
        case rel => exact ⟨(wrap64 (x5_1 + 1)), (by first | rfl | (simp; done) | (simp [*]; done)), H', ⟨by have := HK1.out; omega⟩, by repeat (first | exact Drawn0.refl _ | apply Drawn0.step)⟩
       ·rw [if_neg c7] at H
        have c7b0 : ((rd l0 x5_1) == (rd l1 x5_1)) = false := beq_eq_false_iff_ne.mpr c7
        have c7b1 : ((rd l0 x5_1) != (rd l1 x5_1)) = true := bne_iff_ne.mpr c7
        obtain rfl := Option.some.inj H
        have p440 : 0 ≤ (x5_1 : Int) := of_decide_eq_true (by first | (with_reducible assumption) | assumption)
        have q440 : x5_1 < (l0.length : Int) := of_decide_eq_true (by first | (with_reducible assumption) | assumption)
        obtain ⟨ad440, e440, hx440_0⟩ := Kd.at_int HR0.out x5_1 p440 q440
        cases e440
        replace p440 := eq_true p440
        replace q440 := eq_true q440
        have p441 : 0 ≤ (x5_1 : Int) := of_decide_eq_true (by first | (with_reducible assumption) | assumption)
        have q441 : x5_1 < (l1.length : Int) := of_decide_eq_true (by first | (with_reducible assumption) | assumption)
        obtain ⟨ad441, e441, hx441_0⟩ := Kd.at_int HR1.out x5_1 p441 q441
        cases e441
        replace p441 := eq_true p441
        replace q441 := eq_true q441
        go_wp2
        repeat (go_quiet (fail); try go_wp2)
        go_ret
        exact ⟨by first | rfl | (simp; done) | (simp [*]; done), by repeat (first | exact Drawn0.refl _ | apply Drawn0.step)⟩
      ·rw [if_neg c6] at H
       exact absurd H (by simp)
     ·rw [if_neg c5] at H
      exact absurd H (by simp)
    ·rw [if_neg c4] at H
     have c4b0 : decide (x5_1 < (l0.length : Int)) = false := decide_eq_false c4
     clear c4
     obtain rfl := Option.some.inj H
     go_wp2
     repeat (go_quiet (fail); try go_wp2)
     go_ret
     exact ⟨by first | rfl | (simp; done) | (simp [*]; done), by repeat (first | exact Drawn0.refl _ | apply Drawn0.step)⟩
 ·rw [if_neg c3] at H
  have c3b0 : ((l0.length : Int) == (l1.length : Int)) = false := beq_eq_false_iff_ne.mpr c3
  have c3b1 : ((l0.length : Int) != (l1.length : Int)) = true := bne_iff_ne.mpr c3
  have c3b2 : (l0.length == l1.length) = false := by first | simpa using c3 | (simp at c3 ⊢; omega)
  obtain rfl := Option.some.inj H
  go_enter Try.func92, Try.ntmps92
  go_wp2
  repeat (go_quiet (fail); try go_wp2)
  go_ret
  exact ⟨by first | rfl | (simp; done) | (simp [*]; done), by repeat (first | exact Drawn0.refl _ | apply Drawn0.step)⟩

/-! ### spec_EqualLin: function 41 -/
def spec_EqualLin.f (k : Nat) (a0_0 : Int) (l0_1 : List Int) (a1_0 : Int) (l1_1 : List Int) : Option (Bool) := if a0_0 = a1_0 then ((spec_l1Ints.f k l0_1 l1_1).bind fun t444 => (some t444)) else (some false)
theorem spec_EqualLin.mono : ∀ a0 a1 a2 a3 k, LeO (spec_EqualLin.f k a0 a1 a2 a3) (spec_EqualLin.f (k + 1) a0 a1 a2 a3) := by
 intro a0 a1 a2 a3 k
 unfold spec_EqualLin.f
 repeat' first
   | (with_reducible exact spec_l1Ints.mono _ _ _)
   | (with_reducible exact LeO.refl _)
   | (with_reducible exact LeO.none _)
   | (with_reducible refine LeO.ite ?_ ?_)
   | (with_reducible refine LeO.bind ?_ (fun _ => ?_))
   | exact spec_l1Ints.mono _ _ _
   | exact LeO.none _
   | refine LeO.ite ?_ ?_
   | refine LeO.bind ?_ (fun _ => ?_)
set_option maxHeartbeats 8000000 in
set_option maxRecDepth 100000 in
theorem spec_EqualLin.calls (k : Nat) (a0_0 : Int) (A0_1 : Option Addr) (c0_1 : Nat) (l0_1 : List Int) (a1_0 : Int) (A1_1 : Option Addr) (c1_1 : Nat) (l1_1 : List Int) (r : Bool) (w : World) (hr0_1 : Kd.C (Kd.int .i64) w A0_1 l0_1.length l0_1) (hc0_1 : l0_1.length ≤ c0_1) (hr1_1 : Kd.C (Kd.int .i64) w A1_1 l1_1.length l1_1) (hc1_1 : l1_1.length ≤ c1_1) (h : spec_EqualLin.f k a0_0 l0_1 a1_0 l1_1 = some r) :
  Calls Try.prog 41 #[.agg #[.int .i64 a0_0, .slice A0_1 l0_1.length c0_1], .agg #[.int .i64 a1_0, .slice A1_1 l1_1.length c1_1]] w fun e w' => e = .returned (.bool r) ∧ Below w.heap.size w w' := by
 have hu36 := Try.underlying36
 have HR0_1 := Aside0.mk hr0_1
 have HC0_1 := Aside0.mk hc0_1
 clear hr0_1 hc0_1
 have HR1_1 := Aside0.mk hr1_1
 have HC1_1 := Aside0.mk hc1_1
 clear hr1_1 hc1_1
 have HB := Aside0.mk (Below.refl w.heap.size w)
 have H : (if a0_0 = a1_0 then ((spec_l1Ints.f k l0_1 l1_1).bind fun t444 => (some t444)) else (some false)) = some r := h
 clear h
 by_cases c3 : a0_0 = a1_0
 ·rw [if_pos c3] at H
  have c3b0 : (a0_0 == a1_0) = true := beq_iff_eq.mpr c3
  have c3b1 : (a0_0 != a1_0) = false := bne_eq_false_iff_eq.mpr c3
  clear c3
  replace H := Option.bind_eq_some_iff.mp H
  obtain ⟨t444, A40, H⟩ := H
  replace H : (some t444) = some r := H
  have A4 := Aside0.mk A40
  clear A40
  obtain rfl := Option.some.inj H
  go_enter Try.func41, Try.ntmps41
  go_wp2_with (first | ((with_reducible refine gate_dst (N := 2) rfl ?_); refine box_event ?hg (N := 2) ?hd (cs := #[.int .i64 a0_0, .slice A0_1 l0_1.length c0_1]) (t := 36) ?hr ?_; (case hd => rfl); (case hg => rfl); (case hr => first | (go_simp; done) | (go_simp; rfl)); intro gb442 hg w5 hbox hb; have BK442 := Aside0.mk (hbox); have GW442 := gw hg HB; have GE442 := gw hg HB; replace HB := bs HB hb; clear hb hbox hg) | ((with_reducible refine gate_dst (N := 3) rfl ?_); refine box_event ?hg (N := 3) ?hd (cs := #[.int .i64 a1_0, .slice A1_1 l1_1.length c1_1]) (t := 36) ?hr ?_; (case hd => rfl); (case hg => rfl); (case hr => first | (go_simp; done) | (go_simp; rfl)); intro gb443 hg w6 hbox hb; have BK443 := Aside0.mk (hbox); have GW443 := gw hg HB; have GE443 := gw hg HB; replace HB := bs HB hb; have NB442_443 := nl hg BK442; have NB443_442 := ng hg BK442; replace BK442 := bb BK442 hb; clear hb hbox hg; have hnb7 := NB442_443.out; have hnc7 := NB443_442.out; obtain ⟨hcz8_0, hcz8_1⟩ := c2 BK442; have hfz8_0 := blk_frozen BK442.out 0; have hfz8_1 := blk_frozen BK442.out 1; obtain ⟨hcz9_0, hcz9_1⟩ := c2 BK443; have hfz9_0 := blk_frozen BK443.out 0; have hfz9_1 := blk_frozen BK443.out 1) | (go_at_call 92; (with_reducible refine (spec_l1Ints.calls k _ _ l0_1 _ _ l1_1 t444 _ ?side1 ?side2 ?side3 ?side4 A4.out).mono ?_); (case side1 => exact mc ((Kd.C_below HR0_1.out HB.out))); (case side2 => exact HC0_1.out); (case side3 => exact mc ((Kd.C_below HR1_1.out HB.out))); (case side4 => exact HC1_1.out); rintro e w' ⟨rfl, ⟨nd, rfl⟩⟩))
  go_ret
  exact ⟨by first | rfl | (simp [errW_none, errW_some] <;> rfl) | (simp [*, errW_none, errW_some] <;> rfl), ms HB⟩
 ·rw [if_neg c3] at H
  have c3b0 : (a0_0 == a1_0) = false := beq_eq_false_iff_ne.mpr c3
  have c3b1 : (a0_0 != a1_0) = true := bne_iff_ne.mpr c3
  obtain rfl := Option.some.inj H
  go_enter Try.func41, Try.ntmps41
  go_wp2_with (first | ((with_reducible refine gate_dst (N := 2) rfl ?_); refine box_event ?hg (N := 2) ?hd (cs := #[.int .i64 a0_0, .slice A0_1 l0_1.length c0_1]) (t := 36) ?hr ?_; (case hd => rfl); (case hg => rfl); (case hr => first | (go_simp; done) | (go_simp; rfl)); intro gb442 hg w10 hbox hb; have BK442 := Aside0.mk (hbox); have GW442 := gw hg HB; have GE442 := gw hg HB; replace HB := bs HB hb; clear hb hbox hg) | ((with_reducible refine gate_dst (N := 3) rfl ?_); refine box_event ?hg (N := 3) ?hd (cs := #[.int .i64 a1_0, .slice A1_1 l1_1.length c1_1]) (t := 36) ?hr ?_; (case hd => rfl); (case hg => rfl); (case hr => first | (go_simp; done) | (go_simp; rfl)); intro gb443 hg w11 hbox hb; have BK443 := Aside0.mk (hbox); have GW443 := gw hg HB; have GE443 := gw hg HB; replace HB := bs HB hb; have NB442_443 := nl hg BK442; have NB443_442 := ng hg BK442; replace BK442 := bb BK442 hb; clear hb hbox hg; have hnb12 := NB442_443.out; have hnc12 := NB443_442.out; obtain ⟨hcz13_0, hcz13_1⟩ := c2 BK442; have hfz13_0 := blk_frozen BK442.out 0; have hfz13_1 := blk_frozen BK442.out 1; obtain ⟨hcz14_0, hcz14_1⟩ := c2 BK443; have hfz14_0 := blk_frozen BK443.out 0; have hfz14_1 := blk_frozen BK443.out 1))
  go_ret
  exact ⟨by first | rfl | (simp [errW_none, errW_some] <;> rfl) | (simp [*, errW_none, errW_some] <;> rfl), ms HB⟩

/-! ### spec_DrawCheckEmpty: function 44 -/
def spec_DrawCheckEmpty.f (k : Nat) (l0 : List Int) : Option (Int × (List (S36)) × List Int) := (spec_l1New.f k l0).bind fun bt446 => ((spec_l1Below.f bt446.1 bt446.2.1 bt446.2.2 5).bind fun bt450 => ((spec_l1Below.f bt446.1 bt450.2.1 bt450.2.2 5).bind fun bt456 => ((spec_l7Mult.f k bt446.1 bt456.2.1 bt456.2.2 2).bind fun bt466 => (some (1, (([(⟨wrap64 (bt450.1 - 3), (([1] : List Int))⟩ : S36), (⟨wrap64 (bt456.1 - 3), (([(-1)] : List Int))⟩ : S36)] : List (S36))), bt466.1)))))
theorem spec_DrawCheckEmpty.mono : ∀ a0 k, LeO (spec_DrawCheckEmpty.f k a0) (spec_DrawCheckEmpty.f (k + 1) a0) := by
 intro a0 k
 unfold spec_DrawCheckEmpty.f
 repeat' first
   | (with_reducible exact spec_l1New.mono _ _)
   | (with_reducible exact spec_l7Mult.mono _ _ _ _ _)
   | (with_reducible exact LeO.refl _)
   | (with_reducible exact LeO.none _)
   | (with_reducible refine LeO.ite ?_ ?_)
   | (with_reducible refine LeO.bind ?_ (fun _ => ?_))
   | exact spec_l1New.mono _ _
   | exact spec_l7Mult.mono _ _ _ _ _
   | exact LeO.none _
   | refine LeO.ite ?_ ?_
   | refine LeO.bind ?_ (fun _ => ?_)
set_option maxHeartbeats 8000000 in
set_option maxRecDepth 100000 in
theorem spec_DrawCheckEmpty.calls (k : Nat) (A0 : Option Addr) (c0 : Nat) (l0 : List Int) (r1 : Int) (r2 : List (S36)) (r3 : List Int) (w : World) (hr0 : Kd.C (Kd.int .u8) w A0 l0.length l0) (hc0 : l0.length ≤ c0) (h : spec_DrawCheckEmpty.f k l0 = some (r1, r2, r3)) :
  Calls Try.prog 44 #[.slice A0 l0.length c0] w fun e w' => ∃ v1_ v2_ : Value, e = .returned (.tuple #[.agg #[.int .i64 r1, v1_], v2_]) ∧ Kd.N k36 36 w' w.heap.size (fun k_ => (w.heap.size ≤ k_) ∧ some k_ ≠ (v2_ : Value).ownBlock) v1_ r2 ∧ Kd.R (Kd.int .i64) 3 w' w.heap.size (fun k_ => (w.heap.size ≤ k_)) v2_ r3 ∧ Below w.heap.size w w' := by
 have hu32 := Try.underlying32
 have hu36 := Try.underlying36
 have HR0 := Aside0.mk hr0
 have HC0 := Aside0.mk hc0
 clear hr0 hc0
 have HB := Aside0.mk (Below.refl w.heap.size w)
 have H : ((spec_l1New.f k l0).bind fun bt446 => ((spec_l1Below.f bt446.1 bt446.2.1 bt446.2.2 5).bind fun bt450 => ((spec_l1Below.f bt446.1 bt450.2.1 bt450.2.2 5).bind fun bt456 => ((spec_l7Mult.f k bt446.1 bt456.2.1 bt456.2.2 2).bind fun bt466 => (some (1, (([(⟨wrap64 (bt450.1 - 3), (([1] : List Int))⟩ : S36), (⟨wrap64 (bt456.1 - 3), (([(-1)] : List Int))⟩ : S36)] : List (S36))), bt466.1)))))) = some (r1, r2, r3) := h
 clear h
 replace H := Option.bind_eq_some_iff.mp H
 obtain ⟨⟨t446, t447, t448⟩, A20, H⟩ := H
 replace H : ((spec_l1Below.f t446 t447 t448 5).bind fun bt450 => ((spec_l1Below.f t446 bt450.2.1 bt450.2.2 5).bind fun bt456 => ((spec_l7Mult.f k t446 bt456.2.1 bt456.2.2 2).bind fun bt466 => (some (1, (([(⟨wrap64 (bt450.1 - 3), (([1] : List Int))⟩ : S36), (⟨wrap64 (bt456.1 - 3), (([(-1)] : List Int))⟩ : S36)] : List (S36))), bt466.1))))) = some (r1, r2, r3) := H
 have A2 := Aside0.mk A20
 clear A20
 replace H := Option.bind_eq_some_iff.mp H
 obtain ⟨⟨t450, t451, t452⟩, A30, H⟩ := H
 replace H : ((spec_l1Below.f t446 t451 t452 5).bind fun bt456 => ((spec_l7Mult.f k t446 bt456.2.1 bt456.2.2 2).bind fun bt466 => (some (1, (([(⟨wrap64 (t450 - 3), (([1] : List Int))⟩ : S36), (⟨wrap64 (bt456.1 - 3), (([(-1)] : List Int))⟩ : S36)] : List (S36))), bt466.1)))) = some (r1, r2, r3) := H
 have A3 := Aside0.mk A30
 clear A30
 obtain ⟨y453, hy453⟩ : ∃ y_ : List Int, y_ = (([1] : List Int)) := ⟨_, rfl⟩
 replace H : ((spec_l1Below.f t446 t451 t452 5).bind fun bt456 => ((spec_l7Mult.f k t446 bt456.2.1 bt456.2.2 2).bind fun bt466 => (some (1, (([(⟨wrap64 (t450 - 3), y453⟩ : S36), (⟨wrap64 (bt456.1 - 3), (([(-1)] : List Int))⟩ : S36)] : List (S36))), bt466.1)))) = some (r1, r2, r3) := by first | (rw [hy453]; with_reducible exact H) | (have H2_ := (Option.bind_some _ _).symm.trans H; rw [hy453]; with_reducible exact H2_) | (have H2_ := (Option.bind_some _ _).symm.trans H; with_reducible exact H2_) | with_reducible exact H | (rw [hy453]; exact H) | exact H
 have Ny453 := Aside0.mk hy453
 clear hy453
 replace H := Option.bind_eq_some_iff.mp H
 obtain ⟨⟨t456, t457, t458⟩, A40, H⟩ := H
 replace H : ((spec_l7Mult.f k t446 t457 t458 2).bind fun bt466 => (some (1, (([(⟨wrap64 (t450 - 3), y453⟩ : S36), (⟨wrap64 (t456 - 3), (([(-1)] : List Int))⟩ : S36)] : List (S36))), bt466.1))) = some (r1, r2, r3) := H
 have A4 := Aside0.mk A40
 clear A40
 obtain ⟨y459, hy459⟩ : ∃ y_ : List Int, y_ = (([(-1)] : List Int)) := ⟨_, rfl⟩
 replace H : ((spec_l7Mult.f k t446 t457 t458 2).bind fun bt466 => (some (1, (([(⟨wrap64 (t450 - 3), y453⟩ : S36), (⟨wrap64 (t456 - 3), y459⟩ : S36)] : List (S36))), bt466.1))) = some (r1, r2, r3) := by first | (rw [hy459]; with_reducible exact H) | (have H2_ := (Option.bind_some _ _).symm.trans H; rw [hy459]; with_reducible exact H2_) | (have H2_ := (Option.bind_some _ _).symm.trans H; with_reducible exact H2_) | with_reducible exact H | (rw [hy459]; exact H) | exact H
 have Ny459 := Aside0.mk hy459
 clear hy459
 obtain ⟨y462, hy462⟩ : ∃ y_ : List (S36), y_ = (([(⟨wrap64 (t450 - 3), y453⟩ : S36), (⟨wrap64 (t456 - 3), y459⟩ : S36)] : List (S36))) := ⟨_, rfl⟩
 replace H : ((spec_l7Mult.f k t446 t457 t458 2).bind fun bt466 => (some (1, y462, bt466.1))) = some (r1, r2, r3) := by first | (rw [hy462]; with_reducible exact H) | (have H2_ := (Option.bind_some _ _).symm.trans H; rw [hy462]; with_reducible exact H2_) | (have H2_ := (Option.bind_some _ _).symm.trans H; with_reducible exact H2_) | with_reducible exact H | (rw [hy462]; exact H) | exact H
 have Ny462 := Aside0.mk hy462
 clear hy462
 replace H := Option.bind_eq_some_iff.mp H
 obtain ⟨⟨t466, t469, t470⟩, A50, H⟩ := H
 replace H : (some (1, y462, t466)) = some (r1, r2, r3) := H
 have A5 := Aside0.mk A50
 clear A50
 simp only [Option.some.injEq, Prod.mk.injEq] at H
 obtain ⟨rfl, rfl, rfl⟩ := H
 go_enter Try.func44, Try.ntmps44
 try go_wp2_with (first | ((with_reducible refine gate_dst (N := 2) rfl ?_); refine box_event ?hg (N := 2) ?hd (cs := #[.int .i64 0, .slice none 0 0]) (t := 32) ?hr ?_; (case hd => rfl); (case hg => rfl); (case hr => first | (go_simp; done) | (go_simp; rfl)); intro gb445 hg w6 hbox hb; have BK445 := Aside0.mk (hbox); have GW445 := gw hg HB; have GE445 := gw hg HB; replace HB := bs HB hb; clear hb hbox hg) | ((with_reducible refine gate_callee (f := 77) rfl ?_); refine gl (some 7) rfl rfl Try.func77 (by kernel_rfl) rfl #[.slice A0 l0.length c0] rfl ?_; (with_reducible refine (spec_l1New.calls k _ _ l0 t446 t447 t448 w _ ?side1 ?side2 ?side3 A2.out).mono ?_); (case side1 => repeat (first | (with_reducible first | exact HB.out | apply below_alloc | apply pw_below_drewN | apply below_drew1 | refine below_set ?_ GE445.out) | exact HB.out)); (case side2 => exact HR0.out); (case side3 => exact HC0.out); rintro e w7 ⟨g449, rfl, hi, hb, hb2⟩; refine ⟨_, rfl, ?_⟩; replace HB := Aside0.mk (hb); have HI449 := Aside0.mk (hi); have NB449_445 := Aside0.mk (IsS105.ne_blk hi (blk_below (mb BK445) hb2) (by decide)); have NB445_449 := Aside0.mk (Ne.symm (IsS105.ne_blk hi (blk_below (mb BK445) hb2) (by decide))); replace BK445 := Aside0.mk (blk_below (mb BK445) hb2); (try clear hb)) | ((with_reducible refine gate_callee (f := 94) rfl ?_); refine gl (some 9) rfl rfl Try.func94 (by kernel_rfl) rfl #[.pointer (some ⟨g449, 0, none⟩), .int .i64 5] rfl ?_; (with_reducible refine (spec_l1Below.calls g449 t446 t447 t448 5 t450 t451 t452 w _ ?side1 ?side2 A3.out).mono ?_); (case side1 => repeat (first | (with_reducible first | exact HI449.out | apply IsS105.alloc | apply IsS105.drewN | apply IsS105.drew | apply IsS105.set_1 | apply IsS105.set_2 | refine IsS105.far ?_ NB449_445.out _) | exact HI449.out)); (case side2 => repeat (first | (with_reducible first | exact HB.out | apply below_alloc | apply pw_below_drewN | apply below_drew1 | refine below_set ?_ (IsS105.ge HI449.out) | refine below_set ?_ GE445.out) | exact HB.out)); rintro e w8 ⟨rfl, hi, hb, hk⟩; refine ⟨_, rfl, ?_⟩; replace BK445 := Aside0.mk (KeepBut.blk hk (g' := gb445) (o := .cells #[.int .i64 0, .slice none 0 0] 32 (0, 0)) (mb BK445) NB445_449.out (by simp)); replace HB := Aside0.mk (hb); replace HI449 := Aside0.mk (hi); (try clear hb)) | ((with_reducible refine gate_dst (N := 11) rfl ?_); refine Kd.R_lit (Kd.int .i64) _ 3 ?hg (N := 11) ?hd (xs := ([1] : List Int)) (inner := [.int .i64 1]) (ok := fun _ => True) (okp := fun _ => True) ?hr ?hp (fun _ hk => hk) trivial (Below.refl _ _) (Nat.le_refl _) (by simp) ?_; (case hd => rfl); (case hg => rfl); (case hr => first | (go_simp; done) | (go_simp; rfl)); (case hp => exact (Reps.one (show Kd.M (Kd.int .i64) _ _ _ 1 [.int .i64 1] from rfl) (Reps.none _ _))); intro v454 w9 ho10 hb hg_ hnew_; clear hg_ hnew_; (first | rw [← Ny453.out] at ho10 | (simp only [Int.reduceToNat] at ho10; rw [← Ny453.out] at ho10)); have HO455 := Aside0.mk (Kd.R_lower (Kd.R_newM (M := fun k_ => (w.heap.size ≤ k_)) ho10 (below_size (by repeat (first | (with_reducible first | exact HB.out | apply below_alloc | apply pw_below_drewN | apply below_drew1 | refine below_set ?_ (IsS105.ge HI449.out) | refine below_set ?_ GE445.out) | exact HB.out))) (fun k_ h_ => h_)) (below_size (by repeat (first | (with_reducible first | exact HB.out | apply below_alloc | apply pw_below_drewN | apply below_drew1 | refine below_set ?_ (IsS105.ge HI449.out) | refine below_set ?_ GE445.out) | exact HB.out)))); replace BK445 := bb BK445 hb; replace HB := Aside0.mk (below_step (by repeat (first | (with_reducible first | exact HB.out | apply below_alloc | apply pw_below_drewN | apply below_drew1 | refine below_set ?_ (IsS105.ge HI449.out) | refine below_set ?_ GE445.out) | exact HB.out)) hb); replace HI449 := Aside0.mk (IsS105.below (by repeat (first | (with_reducible first | exact HI449.out | apply IsS105.alloc | apply IsS105.drewN | apply IsS105.drew | apply IsS105.set_1 | apply IsS105.set_2 | refine IsS105.far ?_ NB449_445.out _) | exact HI449.out)) hb); clear hb ho10; obtain ⟨Ao11, co11, eo11⟩ := Kd.R_slice HO455.out; subst eo11) | ((with_reducible refine gate_callee (f := 94) rfl ?_); refine gl (some 14) rfl rfl Try.func94 (by kernel_rfl) rfl #[.pointer (some ⟨g449, 0, none⟩), .int .i64 5] rfl ?_; (with_reducible refine (spec_l1Below.calls g449 t446 t451 t452 5 t456 t457 t458 w _ ?side1 ?side2 A4.out).mono ?_); (case side1 => repeat (first | (with_reducible first | exact HI449.out | apply IsS105.alloc | apply IsS105.drewN | apply IsS105.drew | apply IsS105.set_1 | apply IsS105.set_2 | refine IsS105.far ?_ NB449_445.out _) | exact HI449.out)); (case side2 => repeat (first | (with_reducible first | exact HB.out | apply below_alloc | apply pw_below_drewN | apply below_drew1 | refine below_set ?_ (IsS105.ge HI449.out) | refine below_set ?_ GE445.out) | exact HB.out)); rintro e w12 ⟨rfl, hi, hb, hk⟩; refine ⟨_, rfl, ?_⟩; replace BK445 := Aside0.mk (KeepBut.blk hk (g' := gb445) (o := .cells #[.int .i64 0, .slice none 0 0] 32 (0, 0)) (mb BK445) NB445_449.out (by simp)); replace HO455 := Aside0.mk (Kd.R_mono (Kd.R_keep (IsS105.apart (show IsS105 w _ g449 t446 t451 t452 from by repeat (first | (with_reducible first | exact HI449.out | apply IsS105.alloc | apply IsS105.drewN | apply IsS105.drew | apply IsS105.set_1 | apply IsS105.set_2 | refine IsS105.far ?_ NB449_445.out _) | exact HI449.out)) (mr HO455) (by decide)) hk (fun _ h => h.2)) (fun _ h => h.1)); replace HB := Aside0.mk (hb); replace HI449 := Aside0.mk (hi); (try clear hb)) | ((with_reducible refine gate_dst (N := 16) rfl ?_); refine Kd.R_lit (Kd.int .i64) _ 3 ?hg (N := 16) ?hd (xs := ([(-1)] : List Int)) (inner := [.int .i64 (-1)]) (ok := fun _ => True) (okp := fun _ => True) ?hr ?hp (fun _ hk => hk) trivial (Below.refl _ _) (Nat.le_refl _) (by simp) ?_; (case hd => rfl); (case hg => rfl); (case hr => first | (go_simp; done) | (go_simp; rfl)); (case hp => exact (Reps.one (show Kd.M (Kd.int .i64) _ _ _ (-1) [.int .i64 (-1)] from rfl) (Reps.none _ _))); intro v460 w13 ho14 hb hg_ hnew_; clear hg_ hnew_; (first | rw [← Ny459.out] at ho14 | (simp only [Int.reduceToNat] at ho14; rw [← Ny459.out] at ho14)); have HO461 := Aside0.mk (Kd.R_lower (Kd.R_new' (Kd.R_newM (M := fun k_ => (w.heap.size ≤ k_)) ho14 (below_size (by repeat (first | (with_reducible first | exact HB.out | apply below_alloc | apply pw_below_drewN | apply below_drew1 | refine below_set ?_ (IsS105.ge HI449.out) | refine below_set ?_ GE445.out) | exact HB.out))) (fun k_ h_ => h_)) (Kd.R_lt (mr HO455))) (below_size (by repeat (first | (with_reducible first | exact HB.out | apply below_alloc | apply pw_below_drewN | apply below_drew1 | refine below_set ?_ (IsS105.ge HI449.out) | refine below_set ?_ GE445.out) | exact HB.out)))); replace HO455 := rl HO455 ho14 hb; replace BK445 := bb BK445 hb; replace HB := Aside0.mk (below_step (by repeat (first | (with_reducible first | exact HB.out | apply below_alloc | apply pw_below_drewN | apply below_drew1 | refine below_set ?_ (IsS105.ge HI449.out) | refine below_set ?_ GE445.out) | exact HB.out)) hb); replace HI449 := Aside0.mk (IsS105.below (by repeat (first | (with_reducible first | exact HI449.out | apply IsS105.alloc | apply IsS105.drewN | apply IsS105.drew | apply IsS105.set_1 | apply IsS105.set_2 | refine IsS105.far ?_ NB449_445.out _) | exact HI449.out)) hb); clear hb ho14; obtain ⟨Ao15, co15, eo15⟩ := Kd.R_slice HO461.out; subst eo15) | ((with_reducible refine gate_dst (N := 18) rfl ?_); refine Kd.N_lit k36 _ 36 ?hg (N' := 18) ?hd (xs := ([(⟨wrap64 (t450 - 3), y453⟩ : S36), (⟨wrap64 (t456 - 3), y459⟩ : S36)] : List (S36))) (inner := [.int .i64 (wrap64 (t450 - 3)), .slice Ao11 y453.length co11, .int .i64 (wrap64 (t456 - 3)), .slice Ao15 y459.length co15]) (ok := (fun k_ => (w.heap.size ≤ k_) ∧ k_ ≠ gb445 ∧ k_ ≠ g449)) (okp := (fun k_ => (w.heap.size ≤ k_) ∧ k_ ≠ gb445 ∧ k_ ≠ g449)) ?hr ?hp (fun _ hk => hk) ((show ∀ k_, w13.heap.size ≤ k_ → (fun k_ => (w.heap.size ≤ k_) ∧ k_ ≠ gb445 ∧ k_ ≠ g449) k_ from fun k_ hk => ⟨(Nat.le_trans (below_size (by repeat (first | (with_reducible first | exact HB.out | apply below_alloc | apply pw_below_drewN | apply below_drew1 | refine below_set ?_ (IsS105.ge HI449.out) | refine below_set ?_ GE445.out) | exact HB.out))) hk), Kd.freshB (g := gb445) (o := .cells #[.int .i64 0, .slice none 0 0] 32 (0, 0)) (mb BK445) k_ hk, IsS105.fresh (by repeat (first | (with_reducible first | exact HI449.out | apply IsS105.alloc | apply IsS105.drewN | apply IsS105.drew | apply IsS105.set_1 | apply IsS105.set_2 | refine IsS105.far ?_ NB449_445.out _) | exact HI449.out)) k_ hk⟩) _ (Nat.le_refl _)) (Below.refl _ _) (Nat.le_refl _) (by simp) ?_; (case hd => rfl); (case hg => rfl); (case hr => first | (go_simp; done) | (go_simp; rfl)); (case hp => exact (Reps.c2 (show Kd.FK k36 _ _ (⟨wrap64 (t450 - 3), y453⟩ : S36) [.int .i64 (wrap64 (t450 - 3)), .slice Ao11 y453.length co11] from (k36_mkF _ _ (⟨wrap64 (t450 - 3), y453⟩ : S36) (Kd.R_reads' (Kd.R_mono (ok' := (fun k_ => (w.heap.size ≤ k_) ∧ k_ ≠ gb445 ∧ k_ ≠ g449)) (IsS105.apart HI449.out (Kd.R_types (HO455.out) BK445.out (by decide)) (by decide)) (fun k_ hk => ⟨hk.1.1.1.1, ⟨hk.1.2, hk.2⟩⟩))).2.1 (Kd.R_F (Kd.R_mono (ok' := (fun k_ => (w.heap.size ≤ k_) ∧ k_ ≠ gb445 ∧ k_ ≠ g449)) (IsS105.apart HI449.out (Kd.R_types (HO455.out) BK445.out (by decide)) (by decide)) (fun k_ hk => ⟨hk.1.1.1.1, ⟨hk.1.2, hk.2⟩⟩))))) (Reps.c2 (show Kd.FK k36 _ _ (⟨wrap64 (t456 - 3), y459⟩ : S36) [.int .i64 (wrap64 (t456 - 3)), .slice Ao15 y459.length co15] from (k36_mkF _ _ (⟨wrap64 (t456 - 3), y459⟩ : S36) (Kd.R_reads' (Kd.R_mono (ok' := (fun k_ => (w.heap.size ≤ k_) ∧ k_ ≠ gb445 ∧ k_ ≠ g449)) (IsS105.apart HI449.out (Kd.R_types (HO461.out) BK445.out (by decide)) (by decide)) (fun k_ hk => ⟨hk.1.1.1.1, ⟨hk.1.2, hk.2⟩⟩))).2.1 (Kd.R_F (Kd.R_mono (ok' := (fun k_ => (w.heap.size ≤ k_) ∧ k_ ≠ gb445 ∧ k_ ≠ g449)) (IsS105.apart HI449.out (Kd.R_types (HO461.out) BK445.out (by decide)) (by decide)) (fun k_ hk => ⟨hk.1.1.1.1, ⟨hk.1.2, hk.2⟩⟩))))) (Reps.none _ _)))); intro v463 w16 ho17 hb hg_ hnew_; clear hg_ hnew_; (first | rw [← Ny462.out] at ho17 | (simp only [Int.reduceToNat] at ho17; rw [← Ny462.out] at ho17)); have HO464 := Aside0.mk (Kd.N_lower ho17 (below_size (by repeat (first | (with_reducible first | exact HB.out | apply below_alloc | apply pw_below_drewN | apply below_drew1 | refine below_set ?_ (IsS105.ge HI449.out) | refine below_set ?_ GE445.out) | exact HB.out)))); replace BK445 := bb BK445 hb; replace HB := Aside0.mk (below_step (by repeat (first | (with_reducible first | exact HB.out | apply below_alloc | apply pw_below_drewN | apply below_drew1 | refine below_set ?_ (IsS105.ge HI449.out) | refine below_set ?_ GE445.out) | exact HB.out)) hb); replace HI449 := Aside0.mk (IsS105.below (by repeat (first | (with_reducible first | exact HI449.out | apply IsS105.alloc | apply IsS105.drewN | apply IsS105.drew | apply IsS105.set_1 | apply IsS105.set_2 | refine IsS105.far ?_ NB449_445.out _) | exact HI449.out)) hb); clear HO455 HO461 hb ho17; obtain ⟨Ao18, co18, eo18⟩ := Kd.N_slice HO464.out; subst eo18) | ((with_reducible refine gate_dst (N := 5) rfl ?_); refine box_event ?hg (N := 5) ?hd (cs := #[.int .i64 0, .slice none 0 0]) (t := 32) ?hr ?_; (case hd => rfl); (case hg => rfl); (case hr => first | (go_simp; done) | (go_simp; rfl)); intro gb465 hg w19 hbox hb; have n0_ := Aside0.mk (Kd.N_below (Kd.N_elderB (mN HO464) gb465 (Nat.le_of_eq hg.symm)) hb); have n1_ := bb BK445 hb; have n2_ := Aside0.mk (IsS105.below (by repeat (first | (with_reducible first | exact HI449.out | apply IsS105.alloc | apply IsS105.drewN | apply IsS105.drew | apply IsS105.set_1 | apply IsS105.set_2 | refine IsS105.far ?_ NB449_445.out _) | exact HI449.out)) hb); have n3_ := Aside0.mk (below_step (by repeat (first | (with_reducible first | exact HB.out | apply below_alloc | apply pw_below_drewN | apply below_drew1 | refine below_set ?_ (IsS105.ge HI449.out) | refine below_set ?_ GE445.out) | exact HB.out)) hb); have n4_ := Aside0.mk (hbox); have n5_ := Aside0.mk ((by rw [hg]; exact (below_size (by repeat (first | (with_reducible first | exact HB.out | apply below_alloc | apply pw_below_drewN | apply below_drew1 | refine below_set ?_ (IsS105.ge HI449.out) | refine below_set ?_ GE445.out) | exact HB.out))) : w.heap.size ≤ gb465)); have n6_ := Aside0.mk ((by rw [hg]; exact (below_size (by repeat (first | (with_reducible first | exact HB.out | apply below_alloc | apply pw_below_drewN | apply below_drew1 | refine below_set ?_ (IsS105.ge HI449.out) | refine below_set ?_ GE445.out) | exact HB.out))) : w.heap.size ≤ gb465)); have n7_ := nl hg BK445; have n8_ := ng hg BK445; have n9_ := Aside0.mk ((by rw [hg]; exact Nat.ne_of_lt (IsS105.lt (show IsS105 w _ g449 t446 t457 t458 from by repeat (first | (with_reducible first | exact HI449.out | apply IsS105.alloc | apply IsS105.drewN | apply IsS105.drew | apply IsS105.set_1 | apply IsS105.set_2 | refine IsS105.far ?_ NB449_445.out _) | exact HI449.out))) : g449 ≠ gb465)); have n10_ := Aside0.mk ((by rw [hg]; exact Nat.ne_of_gt (IsS105.lt (show IsS105 w _ g449 t446 t457 t458 from by repeat (first | (with_reducible first | exact HI449.out | apply IsS105.alloc | apply IsS105.drewN | apply IsS105.drew | apply IsS105.set_1 | apply IsS105.set_2 | refine IsS105.far ?_ NB449_445.out _) | exact HI449.out))) : gb465 ≠ g449)); clear HO464 BK445 HI449 HB; have HO464 := n0_; have BK445 := n1_; have HI449 := n2_; have HB := n3_; have BK465 := n4_; have GW465 := n5_; have GE465 := n6_; have NB445_465 := n7_; have NB465_445 := n8_; have NB449_465 := n9_; have NB465_449 := n10_; clear n0_ n1_ n2_ n3_ n4_ n5_ n6_ n7_ n8_ n9_ n10_; clear hb hbox hg; have hnb20 := NB465_445.out; have hnc20 := NB445_465.out; have hnb21 := NB465_449.out; have hnc21 := NB449_465.out; obtain ⟨hcz22_0, hcz22_1⟩ := c2 BK465; have hfz22_0 := blk_frozen BK465.out 0; have hfz22_1 := blk_frozen BK465.out 1))
 have n0_ : Aside0 (Kd.N k36 36 ((w19.setCell ⟨gb465, 0, none⟩ (.int .i64 1)).setCell ⟨gb465, 1, none⟩ (.slice Ao18 y462.length co18)) w.heap.size (fun k_ => (w.heap.size ≤ k_) ∧ k_ ≠ gb445 ∧ k_ ≠ g449 ∧ k_ ≠ gb465) (.slice Ao18 y462.length co18) y462) := ⟨by (with_reducible repeat (first | apply Kd.N_alloc | apply Kd.N_drewN | apply Kd.N_drew)); exact Kd.N_mono (Kd.N_far (p := ⟨gb465, 1, none⟩) (Kd.N_far (p := ⟨gb465, 0, none⟩) (Kd.N_mono HO464.out (fun k_ hk => (⟨hk, hk.2⟩ : _ ∧ k_ ≠ gb465))) (fun _ hk => hk.2) (.int .i64 1)) (fun _ hk => hk.2) (.slice Ao18 y462.length co18)) (fun _ hk => ⟨hk.1.1.1, ⟨hk.1.1.2.1, ⟨hk.1.1.2.2, hk.1.2⟩⟩⟩)⟩
 have n1_ : Aside0 (((w19.setCell ⟨gb465, 0, none⟩ (.int .i64 1)).setCell ⟨gb465, 1, none⟩ (.slice Ao18 y462.length co18)).heap[gb445]? = some (.cells #[.int .i64 0, .slice none 0 0] 32 (0, 0))) := ⟨by (with_reducible repeat (first | refine blk_drewN ?_ _ | refine blk_drew ?_ | refine blk_alloc ?_ _)); refine blk_far ?_ NB445_465.out _; (with_reducible repeat (first | refine blk_drewN ?_ _ | refine blk_drew ?_ | refine blk_alloc ?_ _)); refine blk_far ?_ NB445_465.out _; (with_reducible repeat (first | refine blk_drewN ?_ _ | refine blk_drew ?_ | refine blk_alloc ?_ _)); exact BK445.out⟩
 have n2_ : Aside0 (((w19.setCell ⟨gb465, 0, none⟩ (.int .i64 1)).setCell ⟨gb465, 1, none⟩ (.slice Ao18 y462.length co18)).heap[gb465]? = some (.cells #[.int .i64 1, .slice Ao18 y462.length co18] 32 (0, 0))) := ⟨by (with_reducible repeat (first | refine blk_drewN ?_ _ | refine blk_drew ?_ | refine blk_alloc ?_ _)); refine blk_put (cs := #[.int .i64 1, .slice none 0 0]) ?_ 1 _ rfl; (with_reducible repeat (first | refine blk_drewN ?_ _ | refine blk_drew ?_ | refine blk_alloc ?_ _)); refine blk_put (cs := #[.int .i64 0, .slice none 0 0]) ?_ 0 _ rfl; (with_reducible repeat (first | refine blk_drewN ?_ _ | refine blk_drew ?_ | refine blk_alloc ?_ _)); exact BK465.out⟩
 have n3_ : Aside0 (IsS105 w ((w19.setCell ⟨gb465, 0, none⟩ (.int .i64 1)).setCell ⟨gb465, 1, none⟩ (.slice Ao18 y462.length co18)) g449 t446 t457 t458) := ⟨by repeat (first | (with_reducible first | exact HI449.out | apply IsS105.alloc | apply IsS105.drewN | apply IsS105.drew | apply IsS105.set_1 | apply IsS105.set_2 | refine IsS105.far ?_ NB449_445.out _ | refine IsS105.far ?_ NB449_465.out _) | exact HI449.out)⟩
 have n4_ : Aside0 (Below w.heap.size w ((w19.setCell ⟨gb465, 0, none⟩ (.int .i64 1)).setCell ⟨gb465, 1, none⟩ (.slice Ao18 y462.length co18))) := ⟨by repeat (first | (with_reducible first | exact HB.out | apply below_alloc | apply pw_below_drewN | apply below_drew1 | refine below_set ?_ (IsS105.ge HI449.out) | refine below_set ?_ GE445.out | refine below_set ?_ GE465.out) | exact HB.out)⟩
 (try clear HO464)
 (try clear BK445)
 (try clear BK465)
 (try clear HI449)
 (try clear HB)
 generalize ((w19.setCell ⟨gb465, 0, none⟩ (.int .i64 1)).setCell ⟨gb465, 1, none⟩ (.slice Ao18 y462.length co18)) = w23 at n0_ n1_ n2_ n3_ n4_ ⊢
 have HO464 := n0_
 have BK445 := n1_
 have BK465 := n2_
 have HI449 := n3_
 have HB := n4_
 clear n0_ n1_ n2_ n3_ n4_
 replace HO464 := Aside0.mk (Kd.N_drew HO464.out)
 replace BK445 := Aside0.mk (blk_drew BK445.out)
 replace BK465 := Aside0.mk (blk_drew BK465.out)
 replace HI449 := Aside0.mk (IsS105.drew HI449.out)
 replace HB := Aside0.mk (below_drew1 HB.out)
 refine start_ (n := 5) (S := fun w' => w'.cell? ⟨gb465, 0, none⟩ = some (.int .i64 1) ∧ w'.cell? ⟨gb465, 1, none⟩ = some (.slice Ao18 y462.length co18)) (ds := []) #[false, false, false, false, false] (by kernel_rfl) rfl rfl ⟨(c2 BK465).1, (c2 BK465).2⟩ (fun hHeld => ?_)
 generalize w23.drew = w24 at HO464 BK445 BK465 HI449 HB hHeld ⊢
 refine pure_ (i := 1) (N := some 21) (v := ?_) (a' := ?_) #[false, true, false, false, false] rfl rfl (by kernel_rfl) (fun _ _ _ h => h) (Or.inl ⟨by rfl, ?_⟩) ?_ ?_
 rotate_left
 ·intro w'
  go_simp
  with_reducible rfl
 rotate_left
 ·simp only [Act.put, List.setIfInBounds_toArray, List.set_cons_zero, List.set_cons_succ, i64_w, i32_w]
  rfl
 refine take_ (i := 0) (N := some 20) (v := ?_) (a' := ?_) #[true, true, false, false, false] rfl rfl (by kernel_rfl) (fun _ _ _ h => h) (Or.inl ⟨by rfl, ?_⟩) hHeld ?_ ?_
 rotate_left
 ·rintro w' ⟨s0, s1⟩
  go_simp
  with_reducible rfl
 rotate_left
 ·simp only [Act.put, List.setIfInBounds_toArray, List.set_cons_zero, List.set_cons_succ, i64_w, i32_w]
  rfl
 refine one_ (i := 2) (N := some 22) #[true, true, true, false, false] rfl rfl (by kernel_rfl) (by decide) (fun K hK => ?_)
 refine gs Try.func91 (by kernel_rfl) rfl #[.pointer (some ⟨g449, 0, none⟩), .int .i64 2] (by rfl) rfl rfl ?_
 with_reducible refine (spec_l7Mult.calls k g449 t446 t457 t458 2 t466 t469 t470 w _ ?side1 ?side2 A5.out).mono ?_
 (case side1 => repeat (first | (with_reducible first | exact HI449.out | apply IsS105.alloc | apply IsS105.drewN | apply IsS105.drew | apply IsS105.set_1 | apply IsS105.set_2 | refine IsS105.far ?_ NB449_445.out _ | refine IsS105.far ?_ NB449_465.out _) | exact HI449.out))
 (case side2 => repeat (first | (with_reducible first | exact HB.out | apply below_alloc | apply pw_below_drewN | apply below_drew1 | refine below_set ?_ (IsS105.ge HI449.out) | refine below_set ?_ GE445.out | refine below_set ?_ GE465.out) | exact HB.out))
 rintro e w25 ⟨v467, rfl, ho0, hi, hb, hk⟩
 refine ⟨_, rfl, ?_⟩
 replace BK445 := Aside0.mk (KeepBut.blk hk (g' := gb445) (o := .cells #[.int .i64 0, .slice none 0 0] 32 (0, 0)) (mb BK445) NB445_449.out (by simp))
 replace HO464 := Aside0.mk (Kd.N_mono (Kd.N_told (Kd.N_oldK (Kd.N_mono (ok := fun k_ => (((w.heap.size ≤ k_)) ∧ (k_ ≠ gb445 ∧ (k_ ≠ g449 ∧ k_ ≠ gb465)))) (mN HO464) (fun k_ hk_ => (⟨hk_, hk_.2.2.1⟩ : _ ∧ k_ ≠ g449))) hk) (Kd.R_base ho0)) (fun _ h_ => h_.1))
 replace BK465 := Aside0.mk (KeepBut.blk hk (g' := gb465) (o := .cells #[.int .i64 1, .slice Ao18 y462.length co18] 32 (0, 0)) (mb BK465) NB465_449.out (by simp))
 have HO468 := Aside0.mk (Kd.R_lower (Kd.R_newM (M := fun k_ => (w.heap.size ≤ k_)) ho0 (below_size (by repeat (first | (with_reducible first | exact HB.out | apply below_alloc | apply pw_below_drewN | apply below_drew1 | refine below_set ?_ (IsS105.ge HI449.out) | refine below_set ?_ GE445.out | refine below_set ?_ GE465.out) | exact HB.out))) (fun k_ h_ => h_)) (below_size (by repeat (first | (with_reducible first | exact HB.out | apply below_alloc | apply pw_below_drewN | apply below_drew1 | refine below_set ?_ (IsS105.ge HI449.out) | refine below_set ?_ GE445.out | refine below_set ?_ GE465.out) | exact HB.out))))
 replace HB := Aside0.mk (hb)
 replace HI449 := Aside0.mk (hi)
 (try clear hb)
 (try clear hb2)
 (try clear hk)
 (try clear hi)
 (try clear ho0)
 refine hK.out _ _ ⟨(c2 BK465).1, (c2 BK465).2⟩ (fun hHeld => ?_)
 clear hK K
 refine norm_ (a' := ?_) ?_ ?_
 rotate_left
 ·show Act.put _ (some 22) _ = _
  simp only [Act.put, List.setIfInBounds_toArray, List.set_cons_zero, List.set_cons_succ, i64_w, i32_w]
  rfl
 refine one_ (i := 3) (N := none) #[true, true, true, true, false] rfl rfl (by kernel_rfl) (by decide) (fun K hK => ?_)
 have hs26 : w25.cell? ⟨gb445, 0, none⟩ = some (.int .i64 0) := (blk_cell BK445.out 0).trans rfl
 have hfs26 := blk_frozen BK445.out 0
 have hns26_1 := NB465_445.out
 have hms26_1 := NB445_465.out
 have hs27 : w25.cell? ⟨gb445, 1, none⟩ = some (.slice none 0 0) := (blk_cell BK445.out 1).trans rfl
 have hfs27 := blk_frozen BK445.out 1
 have hns27_1 := NB465_445.out
 have hms27_1 := NB445_465.out
 refine skip_ (w1 := ?_) (by rfl) rfl ?_ ?_
 rotate_left
 ·go_simp
  rfl
 refine hK.out _ _ ⟨((cell_far (p := ⟨gb445, _, none⟩) NB465_445.out _).trans (((cell_far (p := ⟨gb445, _, none⟩) NB465_445.out _).trans (hHeld.1)))), ((cell_far (p := ⟨gb445, _, none⟩) NB465_445.out _).trans (((cell_far (p := ⟨gb445, _, none⟩) NB465_445.out _).trans (hHeld.2))))⟩ (fun hHeld => ?_)
 clear hK K
 refine pure_ (i := 4) (N := some 3) (v := ?_) (a' := ?_) #[true, true, true, true, true] rfl rfl (by kernel_rfl) (fun _ _ _ h => h) (Or.inl ⟨by rfl, ?_⟩) ?_ ?_
 rotate_left
 ·intro w'
  go_simp
  with_reducible rfl
 rotate_left
 ·simp only [Act.put, List.setIfInBounds_toArray, List.set_cons_zero, List.set_cons_succ, i64_w, i32_w]
  rfl
 refine done_ (by kernel_rfl) ?_
 try go_wp2
 refine bodyPost_ret (results_ct rfl _ _ gb445 32 #[.int .i64 1, .slice Ao18 y462.length co18] (0, 0) _ rfl (by (with_reducible repeat (first | refine blk_drewN ?_ _ | refine blk_drew ?_ | refine blk_alloc ?_ _)); refine blk_put (cs := #[.int .i64 1, .slice none 0 0]) ?_ 1 _ rfl; (with_reducible repeat (first | refine blk_drewN ?_ _ | refine blk_drew ?_ | refine blk_alloc ?_ _)); refine blk_put (cs := #[.int .i64 0, .slice none 0 0]) ?_ 0 _ rfl; (with_reducible repeat (first | refine blk_drewN ?_ _ | refine blk_drew ?_ | refine blk_alloc ?_ _)); exact BK445.out) Try.underlying32 rfl (by kernel_rfl)) rfl ?_
 exact ⟨_, _, by first | rfl | (simp [errW_none, errW_some] <;> rfl) | (simp [*, errW_none, errW_some] <;> rfl), by (with_reducible repeat (first | apply Kd.N_alloc | apply Kd.N_drewN | apply Kd.N_drew)); exact Kd.N_mono (Kd.N_far (p := ⟨gb445, 1, none⟩) (Kd.N_far (p := ⟨gb445, 0, none⟩) (Kd.N_mono HO464.out (fun k_ hk => (⟨hk, hk.1.2.1⟩ : _ ∧ k_ ≠ gb445))) (fun _ hk => hk.2) (.int .i64 1)) (fun _ hk => hk.2) (.slice Ao18 y462.length co18)) (fun _ hk => ⟨hk.1.1.1, hk.1.2⟩), by (with_reducible repeat (first | apply Kd.R_alloc | apply Kd.R_drewN | apply Kd.R_drew)); exact Kd.R_mono (Kd.R_far (p := ⟨gb445, 1, none⟩) (Kd.R_far (p := ⟨gb445, 0, none⟩) (Kd.R_types HO468.out BK445.out (by decide)) (fun _ hk => hk.2) (.int .i64 1)) (fun _ hk => hk.2) (.slice Ao18 y462.length co18)) (fun _ hk => hk.1.1), by repeat (first | (with_reducible first | exact HB.out | apply below_alloc | apply pw_below_drewN | apply below_drew1 | refine below_set ?_ (IsS105.ge HI449.out) | refine below_set ?_ GE445.out | refine below_set ?_ GE465.out) | exact HB.out)⟩

end Go.Proofs.Ytghiljjkaiggfaa.QFnCombined
