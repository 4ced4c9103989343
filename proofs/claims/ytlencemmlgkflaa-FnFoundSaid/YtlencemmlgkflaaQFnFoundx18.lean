-- Made by a program of this claim's own (wip/print): not the kit's print as it stands.
import Derived.Test.YtlencemmlgkflaaUFnFoundTri
import Derived.Test.YtlencemmlgkflaaQFnFoundx0
import Derived.Test.YtlencemmlgkflaaQFnFoundx1
import Derived.Test.YtlencemmlgkflaaQFnFoundx17
namespace Go.Proofs.Ytlencemmlgkflaa.QFnFound
open Go.RowKit Go.Proofs.YtlencemmlgkflaaV.PrintWords Go.Proofs.YtlencemmlgkflaaV.PrintLast Go.Proofs.YtlencemmlgkflaaV.PrintMore
attribute [local go_sem] max2_int min2_int max_two min_two max_three min_three max_four min_four   -- for this text's walks alone
set_option linter.unusedVariables false
set_option linter.unusedSimpArgs false

/-! ### spec_IsEmptySystem: function 21 -/
def spec_IsEmptySystem.f (k : Nat) (a0_0 : Int) (l0_1 : List (S29)) : Option (Bool) := (spec_ConstLin.f (-1) a0_0).bind fun bt516 => ((spec_Entails.f k a0_0 l0_1 bt516.1 bt516.2).bind fun t520 => (some t520))
theorem spec_IsEmptySystem.mono : ∀ a0 a1 k, LeO (spec_IsEmptySystem.f k a0 a1) (spec_IsEmptySystem.f (k + 1) a0 a1) := by
 intro a0 a1 k
 unfold spec_IsEmptySystem.f
 repeat' with_reducible first
 | exact spec_Entails.mono _ _ _ _ _
 | exact LeO.refl _
 | exact LeO.none _
 | refine LeO.ite ?_ ?_
 | refine LeO.bind ?_ (fun _ => ?_)
set_option maxHeartbeats 8000000 in
set_option maxRecDepth 100000 in
theorem spec_IsEmptySystem.calls (k : Nat) (a0_0 : Int) (A0_1 : Option Addr) (c0_1 : Nat) (l0_1 : List (S29)) (r : Bool) (w : World) (hr0_1 : Kd.C k29 w A0_1 l0_1.length l0_1) (hc0_1 : l0_1.length ≤ c0_1) (h : spec_IsEmptySystem.f k a0_0 l0_1 = some r) :
  Calls Try.prog 21 #[.agg #[.int .i64 a0_0, .slice A0_1 l0_1.length c0_1]] w fun e w' => e = .returned (.bool r) ∧ Below w.heap.size w w' := by
 have hu26 := Try.underlying26
 have HR0_1 := Aside0.mk hr0_1
 have HC0_1 := Aside0.mk hc0_1
 clear hr0_1 hc0_1
 have HB := Aside0.mk (Below.refl w.heap.size w)
 have H : ((spec_ConstLin.f (-1) a0_0).bind fun bt516 => ((spec_Entails.f k a0_0 l0_1 bt516.1 bt516.2).bind fun t520 => (some t520))) = some r := h
 clear h
 replace H := Option.bind_eq_some_iff.mp H
 obtain ⟨⟨t516, t517⟩, A20, H⟩ := H
 replace H : ((spec_Entails.f k a0_0 l0_1 t516 t517).bind fun t520 => (some t520)) = some r := H
 have A2 := Aside0.mk A20
 clear A20
 replace H := Option.bind_eq_some_iff.mp H
 obtain ⟨t520, A30, H⟩ := H
 replace H : (some t520) = some r := H
 have A3 := Aside0.mk A30
 clear A30
 obtain rfl := Option.some.inj H
 go_enter Try.func21, Try.ntmps21
 try go_wp2_with (first | ((with_reducible refine gate_dst (N := 1) rfl ?_); refine box_event ?hg (N := 1) ?hd (cs := #[.int .i64 a0_0, .slice A0_1 l0_1.length c0_1]) (t := 26) ?hr ?_; (case hd => rfl); (case hg => rfl); (case hr => first | (go_simp; done) | (go_simp; rfl)); intro gb515 hg w4 hbox hb; have BK515 := Aside0.mk (hbox); have GW515 := gw hg HB; have GE515 := gw hg HB; replace HB := bs HB hb; clear hb hbox hg))
 replace BK515 := Aside0.mk (blk_drew BK515.out)
 replace HB := Aside0.mk (below_drew1 HB.out)
 refine start_ (n := 6) (S := fun w' => w'.cell? ⟨gb515, 0, none⟩ = some (.int .i64 a0_0) ∧ w'.cell? ⟨gb515, 1, none⟩ = some (.slice A0_1 l0_1.length c0_1)) (ds := []) #[false, false, false, false, false, false] (by kernel_rfl) rfl rfl ⟨(c2 BK515).1, (c2 BK515).2⟩ (fun hHeld => ?_)
 generalize w4.drew = w5 at BK515 HB hHeld ⊢
 refine pure_ (i := 1) (N := some 4) (v := ?_) (a' := ?_) #[false, true, false, false, false, false] rfl rfl (by kernel_rfl) (fun _ _ _ h => h) (Or.inl ⟨by rfl, ?_⟩) ?_ ?_
 rotate_left
 ·intro w'
  go_simp
  with_reducible rfl
 rotate_left
 ·simp only [Act.put, z1, z2, z3, i64_w, i32_w]
  rfl
 refine take_ (i := 0) (N := some 3) (v := ?_) (a' := ?_) #[true, true, false, false, false, false] rfl rfl (by kernel_rfl) (fun _ _ _ h => h) (Or.inl ⟨by rfl, ?_⟩) hHeld ?_ ?_
 rotate_left
 ·rintro w' ⟨s0, s1⟩
  go_simp
  with_reducible rfl
 rotate_left
 ·simp only [Act.put, z1, z2, z3, i64_w, i32_w]
  rfl
 refine take_ (i := 2) (N := some 5) (v := ?_) (a' := ?_) #[true, true, true, false, false, false] rfl rfl (by kernel_rfl) (fun _ _ _ h => h) (Or.inl ⟨by rfl, ?_⟩) hHeld ?_ ?_
 rotate_left
 ·rintro w' ⟨s0, s1⟩
  go_simp
  with_reducible rfl
 rotate_left
 ·simp only [Act.put, z1, z2, z3, i64_w, i32_w]
  rfl
 refine one_ (i := 3) (N := some 6) #[true, true, true, true, false, false] rfl rfl (by kernel_rfl) (by decide) (fun K hK => ?_)
 refine gs Try.func82 (by kernel_rfl) rfl #[.int .i64 (-1), .int .i64 a0_0] (by rfl) rfl rfl ?_
 with_reducible refine (spec_ConstLin.calls (-1) a0_0 t516 t517 _ A2.out).mono ?_
 rintro e w6 ⟨v518, rfl, ho0, hb⟩
 refine ⟨_, rfl, ?_⟩
 have HO519 := Aside0.mk (Kd.R_lower ho0 (below_size (ms HB)))
 replace BK515 := bb BK515 hb
 replace HB := bs HB hb
 (try clear hb)
 (try clear hb2)
 (try clear hk)
 (try clear hi)
 (try clear ho0)
 obtain ⟨Ao7, co7, eo7⟩ := Kd.R_slice HO519.out
 (first | subst eo7 | (injection eo7 with f1_ f2_ f3_; have f4_ := f1_.symm; have f5_ := f3_.symm; clear f1_ f2_ f3_; subst f4_; subst f5_))
 refine hK.out _ _ ⟨(c2 BK515).1, (c2 BK515).2⟩ (fun hHeld => ?_)
 clear hK K
 refine norm_ (a' := ?_) ?_ ?_
 rotate_left
 ·show Act.put _ (some 6) _ = _
  simp only [Act.put, z1, z2, z3, i64_w, i32_w]
  rfl
 refine one_ (i := 4) (N := some 7) #[true, true, true, true, true, false] rfl rfl (by kernel_rfl) (by decide) (fun K hK => ?_)
 refine gs Try.func39 (by kernel_rfl) rfl #[.agg #[.int .i64 a0_0, .slice A0_1 l0_1.length c0_1], .agg #[.int .i64 t516, .slice Ao7 t517.length co7]] (by rfl) rfl rfl ?_
 with_reducible refine (spec_Entails.calls k a0_0 _ _ l0_1 t516 _ _ t517 t520 _ ?side1 ?side2 ?side3 ?side4 A3.out).mono ?_
 (case side1 => exact mc ((Kd.C_below HR0_1.out HB.out)))
 (case side2 => exact HC0_1.out)
 (case side3 => exact mc ((Kd.R_reads' HO519.out).2.2))
 (case side4 => exact (Kd.R_reads' HO519.out).2.1)
 rintro e w8 ⟨rfl, hb⟩
 refine ⟨_, rfl, ?_⟩
 replace HO519 := rb HO519 hb
 replace BK515 := bb BK515 hb
 replace HB := bs HB hb
 (try clear hb)
 (try clear hb2)
 (try clear hk)
 (try clear hi)
 refine hK.out _ _ ⟨(c2 BK515).1, (c2 BK515).2⟩ (fun hHeld => ?_)
 clear hK K
 refine norm_ (a' := ?_) ?_ ?_
 rotate_left
 ·show Act.put _ (some 7) _ = _
  simp only [Act.put, z1, z2, z3, i64_w, i32_w]
  rfl
 refine pure_ (i := 5) (N := some 2) (v := ?_) (a' := ?_) #[true, true, true, true, true, true] rfl rfl (by kernel_rfl) (fun _ _ _ h => h) (Or.inl ⟨by rfl, ?_⟩) ?_ ?_
 rotate_left
 ·intro w'
  go_simp
  with_reducible rfl
 rotate_left
 ·simp only [Act.put, z1, z2, z3, i64_w, i32_w]
  rfl
 refine done_ (by kernel_rfl) ?_
 try go_wp2
 go_ret
 exact ⟨by first | rfl | (simp [errW_none, errW_some] <;> rfl) | (simp [*, errW_none, errW_some] <;> rfl), ms HB⟩

end Go.Proofs.Ytlencemmlgkflaa.QFnFound
