-- Made by a program of this claim's own (wip/print): not the kit's print as it stands.
import Derived.Test.YtlencemmlgkflaaUFnExactIsEmptySystemTri
import Derived.Test.YtlencemmlgkflaaQFnExactIsEmptySystemx0
import Derived.Test.YtlencemmlgkflaaQFnExactIsEmptySystemx7
import Derived.Test.YtlencemmlgkflaaQFnExactIsEmptySystemx12
import Derived.Test.YtlencemmlgkflaaQFnExactIsEmptySystemx13
namespace Go.Proofs.Ytlencemmlgkflaa.QFnExactIsEmptySystem
open Go.RowKit Go.Proofs.YtlencemmlgkflaaV.PrintWords Go.Proofs.YtlencemmlgkflaaV.PrintLast Go.Proofs.YtlencemmlgkflaaV.PrintMore
attribute [local go_sem] max2_int min2_int max_two min_two max_three min_three max_four min_four   -- for this text's walks alone
set_option linter.unusedVariables false
set_option linter.unusedSimpArgs false

/-! ### laws_FnExactIsEmptySystem: function 7 -/
def laws_FnExactIsEmptySystem.f (k : Nat) (a0_0 : Int) (l0_1 : List (S43)) : Option (Bool) := (laws_szSystem.f k a0_0 l0_1 1048576).bind fun t366 => (if t366 < 0 then (some true) else ((laws_toSystem.f k a0_0 l0_1).bind fun bt367 => ((spec_IsEmptySystem.f k bt367.1 bt367.2).bind fun t371 => ((laws_toSystem.f k a0_0 l0_1).bind fun bt372 => ((impl_IsEmptySystem.f k bt372.1 bt372.2).bind fun t377 => (if (t377 != t371) = true then (some false) else ((laws_toSystem.f k a0_0 l0_1).bind fun bt378 => ((laws_eqSystem.f k bt372.1 bt372.2 bt378.1 bt378.2).bind fun t382 => (if t382 = true then (some true) else (some false))))))))))
theorem laws_FnExactIsEmptySystem.mono : ∀ a0 a1 k, LeO (laws_FnExactIsEmptySystem.f k a0 a1) (laws_FnExactIsEmptySystem.f (k + 1) a0 a1) := by
 intro a0 a1 k
 unfold laws_FnExactIsEmptySystem.f
 repeat' with_reducible first
 | exact impl_IsEmptySystem.mono _ _ _
 | exact laws_eqSystem.mono _ _ _ _ _
 | exact laws_szSystem.mono _ _ _ _
 | exact laws_toSystem.mono _ _ _
 | exact spec_IsEmptySystem.mono _ _ _
 | exact LeO.refl _
 | exact LeO.none _
 | refine LeO.ite ?_ ?_
 | refine LeO.bind ?_ (fun _ => ?_)
set_option maxHeartbeats 8000000 in
set_option maxRecDepth 100000 in
theorem laws_FnExactIsEmptySystem.calls (k : Nat) (a0_0 : Int) (A0_1 : Option Addr) (c0_1 : Nat) (l0_1 : List (S43)) (r : Bool) (w : World) (hr0_1 : Kd.C k43 w A0_1 l0_1.length l0_1) (hc0_1 : l0_1.length ≤ c0_1) (hT_ : r = true) (h : laws_FnExactIsEmptySystem.f k a0_0 l0_1 = some r) :
  Calls Try.prog 7 #[.agg #[.int .i64 a0_0, .slice A0_1 l0_1.length c0_1]] w fun e w' => e = .returned (.bool r) ∧ Below w.heap.size w w' := by
 have hu42 := Try.underlying42
 have hu26 := Try.underlying26
 have HR0_1 := Aside0.mk hr0_1
 have HC0_1 := Aside0.mk hc0_1
 clear hr0_1 hc0_1
 have HB := Aside0.mk (Below.refl w.heap.size w)
 have H : ((laws_szSystem.f k a0_0 l0_1 1048576).bind fun t366 => (if t366 < 0 then (some true) else ((laws_toSystem.f k a0_0 l0_1).bind fun bt367 => ((spec_IsEmptySystem.f k bt367.1 bt367.2).bind fun t371 => ((laws_toSystem.f k a0_0 l0_1).bind fun bt372 => ((impl_IsEmptySystem.f k bt372.1 bt372.2).bind fun t377 => (if (t377 != t371) = true then (some false) else ((laws_toSystem.f k a0_0 l0_1).bind fun bt378 => ((laws_eqSystem.f k bt372.1 bt372.2 bt378.1 bt378.2).bind fun t382 => (if t382 = true then (some true) else (some false))))))))))) = some r := h
 clear h
 replace H := Option.bind_eq_some_iff.mp H
 obtain ⟨t366, A20, H⟩ := H
 replace H : (if t366 < 0 then (some true) else ((laws_toSystem.f k a0_0 l0_1).bind fun bt367 => ((spec_IsEmptySystem.f k bt367.1 bt367.2).bind fun t371 => ((laws_toSystem.f k a0_0 l0_1).bind fun bt372 => ((impl_IsEmptySystem.f k bt372.1 bt372.2).bind fun t377 => (if (t377 != t371) = true then (some false) else ((laws_toSystem.f k a0_0 l0_1).bind fun bt378 => ((laws_eqSystem.f k bt372.1 bt372.2 bt378.1 bt378.2).bind fun t382 => (if t382 = true then (some true) else (some false)))))))))) = some r := H
 have A2 := Aside0.mk A20
 clear A20
 by_cases c3 : t366 < 0
 ·rw [if_pos c3] at H
  have c3b0 : decide (t366 < 0) = true := decide_eq_true c3
  clear c3
  obtain rfl := Option.some.inj H
  go_enter Try.func7, Try.ntmps7
  go_wp2_with (first | ((with_reducible refine gate_dst (N := 1) rfl ?_); refine box_event ?hg (N := 1) ?hd (cs := #[.int .i64 a0_0, .slice A0_1 l0_1.length c0_1]) (t := 42) ?hr ?_; (case hd => rfl); (case hg => rfl); (case hr => first | (go_simp; done) | (go_simp; rfl)); intro gb365 hg w4 hbox hb; have BK365 := Aside0.mk (hbox); have GW365 := gw hg HB; have GE365 := gw hg HB; replace HB := bs HB hb; clear hb hbox hg; obtain ⟨_, _, _, _⟩ := cFour BK365) | ((with_reducible refine gate_callee (f := 22) rfl ?_); refine gl (some 9) rfl rfl Try.func22 (by kernel_rfl) rfl #[.agg #[.int .i64 a0_0, .slice A0_1 l0_1.length c0_1], .int .i64 1048576] rfl ?_; (with_reducible refine (laws_szSystem.calls k a0_0 _ _ l0_1 1048576 t366 _ ?side1 ?side2 A2.out).mono ?_); (case side1 => exact mc ((Kd.C_below HR0_1.out HB.out))); (case side2 => exact HC0_1.out); rintro e w6 ⟨rfl, hb⟩; refine ⟨_, rfl, ?_⟩; replace BK365 := bb BK365 hb; replace HB := bs HB hb; (try clear hb)))
  go_ret
  exact ⟨by first | rfl | (simp [errW_none, errW_some] <;> rfl) | (simp [*, errW_none, errW_some] <;> rfl), ms HB⟩
 rw [if_neg c3] at H
 have c3b0 : decide (t366 < 0) = false := decide_eq_false c3
 clear c3
 replace H := Option.bind_eq_some_iff.mp H
 obtain ⟨⟨t367, t368⟩, A70, H⟩ := H
 replace H : ((spec_IsEmptySystem.f k t367 t368).bind fun t371 => ((laws_toSystem.f k a0_0 l0_1).bind fun bt372 => ((impl_IsEmptySystem.f k bt372.1 bt372.2).bind fun t377 => (if (t377 != t371) = true then (some false) else ((laws_toSystem.f k a0_0 l0_1).bind fun bt378 => ((laws_eqSystem.f k bt372.1 bt372.2 bt378.1 bt378.2).bind fun t382 => (if t382 = true then (some true) else (some false)))))))) = some r := H
 have A7 := Aside0.mk A70
 clear A70
 replace H := Option.bind_eq_some_iff.mp H
 obtain ⟨t371, A80, H⟩ := H
 replace H : ((laws_toSystem.f k a0_0 l0_1).bind fun bt372 => ((impl_IsEmptySystem.f k bt372.1 bt372.2).bind fun t377 => (if (t377 != t371) = true then (some false) else ((laws_toSystem.f k a0_0 l0_1).bind fun bt378 => ((laws_eqSystem.f k bt372.1 bt372.2 bt378.1 bt378.2).bind fun t382 => (if t382 = true then (some true) else (some false))))))) = some r := H
 have A8 := Aside0.mk A80
 clear A80
 replace H := Option.bind_eq_some_iff.mp H
 obtain ⟨⟨t372, t373⟩, A90, H⟩ := H
 replace H : ((impl_IsEmptySystem.f k t372 t373).bind fun t377 => (if (t377 != t371) = true then (some false) else ((laws_toSystem.f k a0_0 l0_1).bind fun bt378 => ((laws_eqSystem.f k t372 t373 bt378.1 bt378.2).bind fun t382 => (if t382 = true then (some true) else (some false)))))) = some r := H
 have A9 := Aside0.mk A90
 clear A90
 replace H := Option.bind_eq_some_iff.mp H
 obtain ⟨t377, A100, H⟩ := H
 replace H : (if (t377 != t371) = true then (some false) else ((laws_toSystem.f k a0_0 l0_1).bind fun bt378 => ((laws_eqSystem.f k t372 t373 bt378.1 bt378.2).bind fun t382 => (if t382 = true then (some true) else (some false))))) = some r := H
 have A10 := Aside0.mk A100
 clear A100
 by_cases c11 : (t377 != t371) = true
 ·rw [if_pos c11] at H
  have c11b0 : (t377 != t371) = true := c11
  (try (have c11b1 : decide (t377 = t371) = false := by simpa using c11))
  (try (have c11b2 : (t377 == t371) = false := by simpa using c11))
  (try (have c11b3 : ¬ (t377 = t371) := by simpa using c11))
  clear c11
  obtain rfl := Option.some.inj H
  exact absurd hT_ (by decide)
 rw [if_neg c11] at H
 have c11b0 : (t377 != t371) = false := by simpa using c11
 (try (have c11b1 : decide (t377 = t371) = true := by simpa using c11))
 (try (have c11b2 : (t377 == t371) = true := by simpa using c11))
 clear c11
 replace H := Option.bind_eq_some_iff.mp H
 obtain ⟨⟨t378, t379⟩, A120, H⟩ := H
 replace H : ((laws_eqSystem.f k t372 t373 t378 t379).bind fun t382 => (if t382 = true then (some true) else (some false))) = some r := H
 have A12 := Aside0.mk A120
 clear A120
 replace H := Option.bind_eq_some_iff.mp H
 obtain ⟨t382, A130, H⟩ := H
 replace H : (if t382 = true then (some true) else (some false)) = some r := H
 have A13 := Aside0.mk A130
 clear A130
 by_cases c14 : t382 = true
 ·subst c14
  have H1 : (some true) = some r := by rw [if_pos rfl] at H; exact H
  clear H
  have H := H1
  clear H1
  obtain rfl := Option.some.inj H
  go_enter Try.func7, Try.ntmps7
  try go_wp2_with (first | ((with_reducible refine gate_dst (N := 1) rfl ?_); refine box_event ?hg (N := 1) ?hd (cs := #[.int .i64 a0_0, .slice A0_1 l0_1.length c0_1]) (t := 42) ?hr ?_; (case hd => rfl); (case hg => rfl); (case hr => first | (go_simp; done) | (go_simp; rfl)); intro gb365 hg w15 hbox hb; have BK365 := Aside0.mk (hbox); have GW365 := gw hg HB; have GE365 := gw hg HB; replace HB := bs HB hb; clear hb hbox hg; obtain ⟨_, _, _, _⟩ := cFour BK365) | ((with_reducible refine gate_callee (f := 22) rfl ?_); refine gl (some 9) rfl rfl Try.func22 (by kernel_rfl) rfl #[.agg #[.int .i64 a0_0, .slice A0_1 l0_1.length c0_1], .int .i64 1048576] rfl ?_; (with_reducible refine (laws_szSystem.calls k a0_0 _ _ l0_1 1048576 t366 _ ?side1 ?side2 A2.out).mono ?_); (case side1 => exact mc ((Kd.C_below HR0_1.out HB.out))); (case side2 => exact HC0_1.out); rintro e w17 ⟨rfl, hb⟩; refine ⟨_, rfl, ?_⟩; replace BK365 := bb BK365 hb; replace HB := bs HB hb; (try clear hb); obtain ⟨_, _, _, _⟩ := cFour BK365) | ((with_reducible refine gate_callee (f := 25) rfl ?_); refine gl (some 13) rfl rfl Try.func25 (by kernel_rfl) rfl #[.agg #[.int .i64 a0_0, .slice A0_1 l0_1.length c0_1]] rfl ?_; (with_reducible refine (laws_toSystem.calls k a0_0 _ _ l0_1 t367 t368 _ ?side1 ?side2 A7.out).mono ?_); (case side1 => exact mc ((Kd.C_below HR0_1.out HB.out))); (case side2 => exact HC0_1.out); rintro e w19 ⟨v369, rfl, ho0, hb⟩; refine ⟨_, rfl, ?_⟩; have HO370 := Aside0.mk (Kd.S_lower ho0 (below_size (ms HB))); replace BK365 := bb BK365 hb; replace HB := bs HB hb; (try clear hb); (try clear ho0); obtain ⟨Ao20, co20, eo20⟩ := Kd.S_slice HO370.out; subst eo20) | ((with_reducible refine gate_callee (f := 21) rfl ?_); refine gl (some 14) rfl rfl Try.func21 (by kernel_rfl) rfl #[.agg #[.int .i64 t367, .slice Ao20 t368.length co20]] rfl ?_; (with_reducible refine (spec_IsEmptySystem.calls k t367 _ _ t368 t371 _ ?side1 ?side2 A8.out).mono ?_); (case side1 => exact mc ((Kd.S_reads' HO370.out).2.2)); (case side2 => exact (Kd.S_reads' HO370.out).2.1); rintro e w21 ⟨rfl, hb⟩; refine ⟨_, rfl, ?_⟩; replace HO370 := bS HO370 hb; replace BK365 := bb BK365 hb; replace HB := bs HB hb; (try clear hb); obtain ⟨_, _, _, _⟩ := cFour BK365) | ((with_reducible refine gate_callee (f := 25) rfl ?_); refine gl (some 16) rfl rfl Try.func25 (by kernel_rfl) rfl #[.agg #[.int .i64 a0_0, .slice A0_1 l0_1.length c0_1]] rfl ?_; (with_reducible refine (laws_toSystem.calls k a0_0 _ _ l0_1 t372 t373 _ ?side1 ?side2 A9.out).mono ?_); (case side1 => exact mc ((Kd.C_below HR0_1.out HB.out))); (case side2 => exact HC0_1.out); rintro e w23 ⟨v374, rfl, ho0, hb⟩; refine ⟨_, rfl, ?_⟩; have HO375 := Aside0.mk (Kd.S_lower (Kd.S_new' ho0 (Kd.S_lt (mS HO370))) (below_size (ms HB))); replace HO370 := Aside0.mk (Kd.S_elder' (mS HO370) (Kd.S_base ho0) hb); replace BK365 := bb BK365 hb; replace HB := bs HB hb; (try clear hb); (try clear ho0)) | ((with_reducible refine gate_dst (N := 5) rfl ?_); refine box_event ?hg (N := 5) ?hd (cs := #[.int .i64 0, .slice none 0 0]) (t := 26) ?hr ?_; (case hd => rfl); (case hg => rfl); (case hr => first | (go_simp; done) | (go_simp; rfl)); intro gb376 hg w24 hbox hb; replace HO370 := bS HO370 hb; replace HO375 := bS HO375 hb; have BK376 := Aside0.mk (hbox); have GW376 := gw hg HB; have GE376 := gw hg HB; replace HB := bs HB hb; have NB365_376 := nl hg BK365; have NB376_365 := ng hg BK365; replace BK365 := bb BK365 hb; clear hb hbox hg; have := NB376_365.out; have := NB365_376.out; obtain ⟨_, _, _, _⟩ := cFour BK376; obtain ⟨Ao27, co27, eo27⟩ := Kd.S_slice HO375.out; subst eo27) | ((with_reducible refine gate_callee (f := 20) rfl ?_); refine gl (some 18) rfl rfl Try.func20 (by kernel_rfl) rfl #[.agg #[.int .i64 t372, .slice Ao27 t373.length co27]] rfl ?_; (with_reducible refine (impl_IsEmptySystem.calls k t372 _ _ t373 t377 _ ?side1 ?side2 A10.out).mono ?_); (case side1 => refine (Kd.S_reads' (e := 29) (base := w.heap.size) (ok := fun k_ => (True ∧ some k_ ≠ (.slice Ao20 t368.length co20 : Value).ownBlock)) (n := t373.length) (c := co27) ?_).2.2; exact (by (with_reducible repeat (first | apply Kd.S_alloc | apply Kd.S_drewN | apply Kd.S_drew)); exact (Kd.S_mono (Kd.S_far (p := ⟨gb376, 1, none⟩) (Kd.S_far (p := ⟨gb376, 0, none⟩) (Kd.S_types HO375.out BK376.out (by decide)) (fun _ hk => hk.2) (.int .i64 t372)) (fun _ hk => hk.2) (.slice Ao27 t373.length co27)) (fun _ h_ => h_.1)))); (case side2 => exact (Kd.S_reads' HO375.out).2.1); rintro e w28 ⟨rfl, hb⟩; refine ⟨_, rfl, ?_⟩; have n0_ := Aside0.mk (Kd.S_below (by (with_reducible repeat (first | apply Kd.S_alloc | apply Kd.S_drewN | apply Kd.S_drew)); exact (Kd.S_mono (Kd.S_far (p := ⟨gb376, 1, none⟩) (Kd.S_far (p := ⟨gb376, 0, none⟩) (Kd.S_types HO370.out BK376.out (by decide)) (fun _ hk => hk.2) (.int .i64 t372)) (fun _ hk => hk.2) (.slice Ao27 t373.length co27)) (fun _ h_ => h_.1))) hb); have n1_ := Aside0.mk (Kd.S_below (by (with_reducible repeat (first | apply Kd.S_alloc | apply Kd.S_drewN | apply Kd.S_drew)); exact (Kd.S_mono (Kd.S_far (p := ⟨gb376, 1, none⟩) (Kd.S_far (p := ⟨gb376, 0, none⟩) (Kd.S_types HO375.out BK376.out (by decide)) (fun _ hk => hk.2) (.int .i64 t372)) (fun _ hk => hk.2) (.slice Ao27 t373.length co27)) (fun _ h_ => h_.1))) hb); have n2_ := bf BK365 hb; have n3_ := bp BK376 hb; have n4_ := bs HB hb; clear HO370 HO375 BK365 BK376 HB; have HO370 := n0_; have HO375 := n1_; have BK365 := n2_; have BK376 := n3_; have HB := n4_; clear n0_ n1_ n2_ n3_ n4_; (try clear hb)))
  replace HO370 := Aside0.mk (Kd.S_drew HO370.out)
  replace HO375 := Aside0.mk (Kd.S_drew HO375.out)
  replace BK365 := Aside0.mk (blk_drew BK365.out)
  replace BK376 := Aside0.mk (blk_drew BK376.out)
  replace HB := Aside0.mk (below_drew1 HB.out)
  refine start_ (n := 5) (S := fun w' => w'.cell? ⟨gb376, 0, none⟩ = some (.int .i64 t372) ∧ w'.cell? ⟨gb376, 1, none⟩ = some (.slice Ao27 t373.length co27) ∧ w'.cell? ⟨gb365, 0, none⟩ = some (.int .i64 a0_0) ∧ w'.cell? ⟨gb365, 1, none⟩ = some (.slice A0_1 l0_1.length c0_1)) (ds := []) #[false, false, false, false, false] (by kernel_rfl) rfl rfl ⟨(c2 BK376).1, (c2 BK376).2, (c2 BK365).1, (c2 BK365).2⟩ (fun hHeld => ?_)
  generalize w28.drew = w29 at HO370 HO375 BK365 BK376 HB hHeld ⊢
  refine take_ (i := 0) (N := some 22) (v := ?_) (a' := ?_) #[true, false, false, false, false] rfl rfl (by kernel_rfl) (fun _ _ _ h => h) (Or.inl ⟨by rfl, ?_⟩) hHeld ?_ ?_
  rotate_left
  ·rintro w' ⟨s0, s1, s2, s3⟩
   go_simp
   with_reducible rfl
  rotate_left
  ·simp only [Act.put, z1, z2, z3, i64_w, i32_w]
   rfl
  refine take_ (i := 1) (N := some 23) (v := ?_) (a' := ?_) #[true, true, false, false, false] rfl rfl (by kernel_rfl) (fun _ _ _ h => h) (Or.inl ⟨by rfl, ?_⟩) hHeld ?_ ?_
  rotate_left
  ·rintro w' ⟨s0, s1, s2, s3⟩
   go_simp
   with_reducible rfl
  rotate_left
  ·simp only [Act.put, z1, z2, z3, i64_w, i32_w]
   rfl
  refine one_ (i := 2) (N := some 24) #[true, true, true, false, false] rfl rfl (by kernel_rfl) (by decide) (fun K hK => ?_)
  refine gs Try.func25 (by kernel_rfl) rfl #[.agg #[.int .i64 a0_0, .slice A0_1 l0_1.length c0_1]] (by rfl) rfl rfl ?_
  with_reducible refine (laws_toSystem.calls k a0_0 _ _ l0_1 t378 t379 _ ?side1 ?side2 A12.out).mono ?_
  (case side1 => exact mc ((Kd.C_below HR0_1.out HB.out)))
  (case side2 => exact HC0_1.out)
  rintro e w30 ⟨v380, rfl, ho0, hb⟩
  refine ⟨_, rfl, ?_⟩
  have HO381 := Aside0.mk (Kd.S_lower (Kd.S_new' (Kd.S_new' ho0 (Kd.S_lt (mS HO370))) (Kd.S_lt (mS HO375))) (below_size (ms HB)))
  replace HO370 := Aside0.mk (Kd.S_elder' (mS HO370) (Kd.S_base ho0) hb)
  replace HO375 := Aside0.mk (Kd.S_elder' (mS HO375) (Kd.S_base ho0) hb)
  replace BK365 := bb BK365 hb
  replace BK376 := bb BK376 hb
  replace HB := bs HB hb
  (try clear hb)
  (try clear hb2)
  (try clear hk)
  (try clear hi)
  (try clear ho0)
  obtain ⟨Ao31, co31, eo31⟩ := Kd.S_slice HO381.out
  (first | subst eo31 | (injection eo31 with f1_ f2_ f3_; have f4_ := f1_.symm; have f5_ := f3_.symm; clear f1_ f2_ f3_; subst f4_; subst f5_))
  refine hK.out _ _ ⟨(c2 BK376).1, (c2 BK376).2, (c2 BK365).1, (c2 BK365).2⟩ (fun hHeld => ?_)
  clear hK K
  refine norm_ (a' := ?_) ?_ ?_
  rotate_left
  ·show Act.put _ (some 24) _ = _
   simp only [Act.put, z1, z2, z3, i64_w, i32_w]
   rfl
  refine one_ (i := 3) (N := some 25) #[true, true, true, true, false] rfl rfl (by kernel_rfl) (by decide) (fun K hK => ?_)
  refine gs Try.func28 (by kernel_rfl) rfl #[.agg #[.int .i64 t372, .slice Ao27 t373.length co27], .agg #[.int .i64 t378, .slice Ao31 t379.length co31]] (by rfl) rfl rfl ?_
  with_reducible refine (laws_eqSystem.calls k t372 _ _ t373 t378 _ _ t379 true _ ?side1 ?side2 ?side3 ?side4 A13.out).mono ?_
  (case side1 => exact mc ((Kd.S_reads' HO375.out).2.2))
  (case side2 => exact (Kd.S_reads' HO375.out).2.1)
  (case side3 => exact mc ((Kd.S_reads' HO381.out).2.2))
  (case side4 => exact (Kd.S_reads' HO381.out).2.1)
  rintro e w32 ⟨rfl, hb⟩
  refine ⟨_, rfl, ?_⟩
  replace HO370 := bS HO370 hb
  replace HO375 := bS HO375 hb
  replace HO381 := bS HO381 hb
  replace BK365 := bb BK365 hb
  replace BK376 := bb BK376 hb
  replace HB := bs HB hb
  (try clear hb)
  (try clear hb2)
  (try clear hk)
  (try clear hi)
  refine hK.out _ _ ⟨(c2 BK376).1, (c2 BK376).2, (c2 BK365).1, (c2 BK365).2⟩ (fun hHeld => ?_)
  clear hK K
  refine norm_ (a' := ?_) ?_ ?_
  rotate_left
  ·show Act.put _ (some 25) _ = _
   simp only [Act.put, z1, z2, z3, i64_w, i32_w]
   rfl
  refine pure_ (i := 4) (N := some 26) (v := ?_) (a' := ?_) #[true, true, true, true, true] rfl rfl (by kernel_rfl) (fun _ _ _ h => h) (Or.inl ⟨by rfl, ?_⟩) ?_ ?_
  rotate_left
  ·intro w'
   go_simp
   with_reducible rfl
  rotate_left
  ·simp only [Act.put, z1, z2, z3, i64_w, i32_w]
   rfl
  refine done_ (by kernel_rfl) ?_
  try go_wp2
  go_ret
  exact ⟨by first | rfl | (simp [errW_none, errW_some] <;> rfl) | (simp [*, errW_none, errW_some] <;> rfl), ms HB⟩
 replace c14 := Bool.eq_false_iff.mpr c14
 subst c14
 have H1 : (some false) = some r := by rw [if_neg (show ¬ (false = true) by decide)] at H; exact H
 clear H
 have H := H1
 clear H1
 obtain rfl := Option.some.inj H
 exact absurd hT_ (by decide)

/-- THE ONE PURE STATEMENT of laws_FnExactIsEmptySystem. -/
def laws_FnExactIsEmptySystem.Pure : Prop := ∀ (a0_0 : Int) (l0_1 : List (S43)), ((Lit.int .i64 a0_0).wf = true) → (l0_1.length ≤ 9223372036854775807 ∧ ∀ x0 ∈ l0_1, ((Lit.int .i64 x0.f0).wf = true) ∧ (x0.f1.length ≤ 9223372036854775807 ∧ ∀ x1 ∈ x0.f1, (Lit.int .i64 x1).wf = true)) → ∃ k, laws_FnExactIsEmptySystem.f k a0_0 l0_1 = some true

end Go.Proofs.Ytlencemmlgkflaa.QFnExactIsEmptySystem
