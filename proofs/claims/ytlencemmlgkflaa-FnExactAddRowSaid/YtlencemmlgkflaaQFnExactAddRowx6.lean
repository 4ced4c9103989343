-- Made by a program of this claim's own (wip/print): not the kit's print as it stands.
import Derived.Test.YtlencemmlgkflaaUFnExactAddRowTri
import Derived.Test.YtlencemmlgkflaaQFnExactAddRowx0
import Derived.Test.YtlencemmlgkflaaQFnExactAddRowx4
import Derived.Test.YtlencemmlgkflaaQFnExactAddRowx5
namespace Go.Proofs.Ytlencemmlgkflaa.QFnExactAddRow
open Go.RowKit Go.Proofs.YtlencemmlgkflaaV.PrintWords Go.Proofs.YtlencemmlgkflaaV.PrintLast Go.Proofs.YtlencemmlgkflaaV.PrintMore
attribute [local go_sem] max2_int min2_int max_two min_two max_three min_three max_four min_four   -- for this text's walks alone
set_option linter.unusedVariables false
set_option linter.unusedSimpArgs false

/-! ### impl_AddRow: function 27 -/
def impl_AddRow.f (k : Nat) (a0_0 : Int) (l0_1 : List (S29)) (a1_0 : Int) (l1_1 : List Int) : Option (Int × (List (S29)) × Bool) := (impl_copySystem.f k a0_0 l0_1).bind fun bt229 => ((impl_copyLin.f a1_0 l1_1).bind fun bt234 => (if bt229.2.length < 4398046511104 then ((some (bt229.2 ++ [(⟨bt234.1, bt234.2⟩ : S29)] : List (S29))).bind fun y238 => ((impl_IsValidSystem.f k a0_0 l0_1).bind fun t241 => (if t241 = true then ((impl_IsValidSystem.f k bt229.1 y238).bind fun t242 => (if t242 = true then (some (bt229.1, y238, true)) else ((impl_copySystem.f k a0_0 l0_1).bind fun bt243 => (some (bt243.1, bt243.2, false))))) else ((impl_copySystem.f k a0_0 l0_1).bind fun bt247 => (some (bt247.1, bt247.2, false)))))) else (none)))
theorem impl_AddRow.mono : ∀ a0 a1 a2 a3 k, LeO (impl_AddRow.f k a0 a1 a2 a3) (impl_AddRow.f (k + 1) a0 a1 a2 a3) := by
 intro a0 a1 a2 a3 k
 unfold impl_AddRow.f
 repeat' first
   | (with_reducible exact impl_IsValidSystem.mono _ _ _)
   | (with_reducible exact impl_copySystem.mono _ _ _)
   | (with_reducible exact LeO.refl _)
   | (with_reducible exact LeO.none _)
   | (with_reducible refine LeO.ite ?_ ?_)
   | (with_reducible refine LeO.bind ?_ (fun _ => ?_))
   | exact impl_IsValidSystem.mono _ _ _
   | exact impl_copySystem.mono _ _ _
   | exact LeO.none _
   | refine LeO.ite ?_ ?_
   | refine LeO.bind ?_ (fun _ => ?_)
def impl_AddRow.T2 : Bool × List (List Nat × List Nat) := (true, [([], []), ([0], [0]), ([], []), ([2], [2]), ([3], [3]), ([1, 4, 3], [1, 4]), ([0, 1, 2, 3, 4, 5], []), ([6, 5, 5, 0, 1, 2, 3, 4, 5], [5, 6])])
def impl_AddRow.B2 : List Nat := [0, 1, 0, 4, 12, 31, 63, 127]
theorem impl_AddRow.tab2 : rtab .any (opsOf Try.f27 2) = impl_AddRow.T2 := by kernel_rfl
theorem impl_AddRow.bits2 : waitsOk impl_AddRow.T2.2 impl_AddRow.B2 = true := by kernel_rfl
set_option maxHeartbeats 8000000 in
set_option maxRecDepth 100000 in
theorem impl_AddRow.calls (k : Nat) (a0_0 : Int) (A0_1 : Option Addr) (c0_1 : Nat) (l0_1 : List (S29)) (a1_0 : Int) (A1_1 : Option Addr) (c1_1 : Nat) (l1_1 : List Int) (r1 : Int) (r2 : List (S29)) (r3 : Bool) (w : World) (hr0_1 : Kd.C k29 w A0_1 l0_1.length l0_1) (hc0_1 : l0_1.length ≤ c0_1) (hr1_1 : Kd.C (Kd.int .i64) w A1_1 l1_1.length l1_1) (hc1_1 : l1_1.length ≤ c1_1) (h : impl_AddRow.f k a0_0 l0_1 a1_0 l1_1 = some (r1, r2, r3)) :
  Calls Try.prog 27 #[.agg #[.int .i64 a0_0, .slice A0_1 l0_1.length c0_1], .agg #[.int .i64 a1_0, .slice A1_1 l1_1.length c1_1]] w fun e w' => ∃ v1_ : Value, e = .returned (.tuple #[.agg #[.int .i64 r1, v1_], .bool r3]) ∧ Kd.S k29 29 w' w.heap.size (fun _ => True) v1_ r2 ∧ Below w.heap.size w w' := by
 have hu26 := Try.underlying26
 have hu29 := Try.underlying29
 have HR0_1 := Aside0.mk hr0_1
 have HC0_1 := Aside0.mk hc0_1
 clear hr0_1 hc0_1
 have HR1_1 := Aside0.mk hr1_1
 have HC1_1 := Aside0.mk hc1_1
 clear hr1_1 hc1_1
 have HB := Aside0.mk (Below.refl w.heap.size w)
 have H : ((impl_copySystem.f k a0_0 l0_1).bind fun bt229 => ((impl_copyLin.f a1_0 l1_1).bind fun bt234 => (if bt229.2.length < 4398046511104 then ((some (bt229.2 ++ [(⟨bt234.1, bt234.2⟩ : S29)] : List (S29))).bind fun y238 => ((impl_IsValidSystem.f k a0_0 l0_1).bind fun t241 => (if t241 = true then ((impl_IsValidSystem.f k bt229.1 y238).bind fun t242 => (if t242 = true then (some (bt229.1, y238, true)) else ((impl_copySystem.f k a0_0 l0_1).bind fun bt243 => (some (bt243.1, bt243.2, false))))) else ((impl_copySystem.f k a0_0 l0_1).bind fun bt247 => (some (bt247.1, bt247.2, false)))))) else (none)))) = some (r1, r2, r3) := h
 clear h
 replace H := Option.bind_eq_some_iff.mp H
 obtain ⟨⟨t229, t230⟩, A30, H⟩ := H
 replace H : ((impl_copyLin.f a1_0 l1_1).bind fun bt234 => (if t230.length < 4398046511104 then ((some (t230 ++ [(⟨bt234.1, bt234.2⟩ : S29)] : List (S29))).bind fun y238 => ((impl_IsValidSystem.f k a0_0 l0_1).bind fun t241 => (if t241 = true then ((impl_IsValidSystem.f k t229 y238).bind fun t242 => (if t242 = true then (some (t229, y238, true)) else ((impl_copySystem.f k a0_0 l0_1).bind fun bt243 => (some (bt243.1, bt243.2, false))))) else ((impl_copySystem.f k a0_0 l0_1).bind fun bt247 => (some (bt247.1, bt247.2, false)))))) else (none))) = some (r1, r2, r3) := H
 have A3 := Aside0.mk A30
 clear A30
 replace H := Option.bind_eq_some_iff.mp H
 obtain ⟨⟨t234, t235⟩, A40, H⟩ := H
 replace H : (if t230.length < 4398046511104 then ((some (t230 ++ [(⟨t234, t235⟩ : S29)] : List (S29))).bind fun y238 => ((impl_IsValidSystem.f k a0_0 l0_1).bind fun t241 => (if t241 = true then ((impl_IsValidSystem.f k t229 y238).bind fun t242 => (if t242 = true then (some (t229, y238, true)) else ((impl_copySystem.f k a0_0 l0_1).bind fun bt243 => (some (bt243.1, bt243.2, false))))) else ((impl_copySystem.f k a0_0 l0_1).bind fun bt247 => (some (bt247.1, bt247.2, false)))))) else (none)) = some (r1, r2, r3) := H
 have A4 := Aside0.mk A40
 clear A40
 by_cases c5 : t230.length < 4398046511104
 ·rw [if_pos c5] at H
  have LMc5 := Aside0.mk c5
  clear c5
  obtain ⟨y238, hy238⟩ : ∃ y_ : List (S29), y_ = (t230 ++ [(⟨t234, t235⟩ : S29)]) := ⟨_, rfl⟩
  replace H : ((impl_IsValidSystem.f k a0_0 l0_1).bind fun t241 => (if t241 = true then ((impl_IsValidSystem.f k t229 y238).bind fun t242 => (if t242 = true then (some (t229, y238, true)) else ((impl_copySystem.f k a0_0 l0_1).bind fun bt243 => (some (bt243.1, bt243.2, false))))) else ((impl_copySystem.f k a0_0 l0_1).bind fun bt247 => (some (bt247.1, bt247.2, false))))) = some (r1, r2, r3) := by first | (rw [hy238]; with_reducible exact H) | (have H2_ := (Option.bind_some _ _).symm.trans H; rw [hy238]; with_reducible exact H2_) | (have H2_ := (Option.bind_some _ _).symm.trans H; with_reducible exact H2_) | with_reducible exact H | (rw [hy238]; exact H) | exact H
  have Ny238 := Aside0.mk hy238
  clear hy238
  replace H := Option.bind_eq_some_iff.mp H
  obtain ⟨t241, A60, H⟩ := H
  replace H : (if t241 = true then ((impl_IsValidSystem.f k t229 y238).bind fun t242 => (if t242 = true then (some (t229, y238, true)) else ((impl_copySystem.f k a0_0 l0_1).bind fun bt243 => (some (bt243.1, bt243.2, false))))) else ((impl_copySystem.f k a0_0 l0_1).bind fun bt247 => (some (bt247.1, bt247.2, false)))) = some (r1, r2, r3) := H
  have A6 := Aside0.mk A60
  clear A60
  by_cases c7 : t241 = true
  ·subst c7
   have H1 : ((impl_IsValidSystem.f k t229 y238).bind fun t242 => (if t242 = true then (some (t229, y238, true)) else ((impl_copySystem.f k a0_0 l0_1).bind fun bt243 => (some (bt243.1, bt243.2, false))))) = some (r1, r2, r3) := by rw [if_pos rfl] at H; exact H
   clear H
   have H := H1
   clear H1
   replace H := Option.bind_eq_some_iff.mp H
   obtain ⟨t242, A80, H⟩ := H
   replace H : (if t242 = true then (some (t229, y238, true)) else ((impl_copySystem.f k a0_0 l0_1).bind fun bt243 => (some (bt243.1, bt243.2, false)))) = some (r1, r2, r3) := H
   have A8 := Aside0.mk A80
   clear A80
   by_cases c9 : t242 = true
   ·subst c9
    have H1 : (some (t229, y238, true)) = some (r1, r2, r3) := by rw [if_pos rfl] at H; exact H
    clear H
    have H := H1
    clear H1
    simp only [Option.some.injEq, Prod.mk.injEq] at H
    obtain ⟨rfl, rfl, rfl⟩ := H
    go_enter Try.func27, Try.ntmps27
    try go_wp2_with (first | ((with_reducible refine gate_dst (N := 2) rfl ?_); refine box_event ?hg (N := 2) ?hd (cs := #[.int .i64 a0_0, .slice A0_1 l0_1.length c0_1]) (t := 26) ?hr ?_; (case hd => rfl); (case hg => rfl); (case hr => first | (go_simp; done) | (go_simp; rfl)); intro gb226 hg w10 hbox hb; have BK226 := Aside0.mk (hbox); have GW226 := gw hg HB; have GE226 := gw hg HB; replace HB := bs HB hb; clear hb hbox hg) | ((with_reducible refine gate_dst (N := 3) rfl ?_); refine box_event ?hg (N := 3) ?hd (cs := #[.int .i64 a1_0, .slice A1_1 l1_1.length c1_1]) (t := 29) ?hr ?_; (case hd => rfl); (case hg => rfl); (case hr => first | (go_simp; done) | (go_simp; rfl)); intro gb227 hg w11 hbox hb; have BK227 := Aside0.mk (hbox); have GW227 := gw hg HB; have GE227 := gw hg HB; replace HB := bs HB hb; have NB226_227 := nl hg BK226; have NB227_226 := ng hg BK226; replace BK226 := bb BK226 hb; clear hb hbox hg) | ((with_reducible refine gate_dst (N := 4) rfl ?_); refine box_event ?hg (N := 4) ?hd (cs := #[.int .i64 0, .slice none 0 0]) (t := 26) ?hr ?_; (case hd => rfl); (case hg => rfl); (case hr => first | (go_simp; done) | (go_simp; rfl)); intro gb228 hg w12 hbox hb; have BK228 := Aside0.mk (hbox); have GW228 := gw hg HB; have GE228 := gw hg HB; replace HB := bs HB hb; have NB226_228 := nl hg BK226; have NB228_226 := ng hg BK226; replace BK226 := bb BK226 hb; have NB227_228 := nl hg BK227; have NB228_227 := ng hg BK227; replace BK227 := bb BK227 hb; clear hb hbox hg; have hnb13 := NB226_227.out; have hnc13 := NB227_226.out; have hnb14 := NB226_228.out; have hnc14 := NB228_226.out; obtain ⟨hcz15_0, hcz15_1⟩ := c2 BK226; have hfz15_0 := blk_frozen BK226.out 0; have hfz15_1 := blk_frozen BK226.out 1) | ((with_reducible refine gate_callee (f := 92) rfl ?_); refine gl (some 8) rfl rfl Try.func92 (by kernel_rfl) rfl #[.agg #[.int .i64 a0_0, .slice A0_1 l0_1.length c0_1]] rfl ?_; (with_reducible refine (impl_copySystem.calls k a0_0 _ _ l0_1 t229 t230 _ ?side1 ?side2 A3.out).mono ?_); (case side1 => exact mc ((Kd.C_below HR0_1.out HB.out))); (case side2 => exact HC0_1.out); rintro e w16 ⟨v231, rfl, ho0, hb⟩; refine ⟨_, rfl, ?_⟩; have HO232 := Aside0.mk (Kd.S_lower (Kd.S_newB ho0 (g := gb227) (o := .cells #[.int .i64 a1_0, .slice A1_1 l1_1.length c1_1] 29 (0, 0)) (mb BK227)) (below_size (ms HB))); replace BK226 := bb BK226 hb; replace BK227 := bb BK227 hb; replace BK228 := bb BK228 hb; replace HB := bs HB hb; (try clear hb); (try clear ho0)) | ((with_reducible refine gate_dst (N := 6) rfl ?_); refine box_event ?hg (N := 6) ?hd (cs := #[.int .i64 0, .slice none 0 0]) (t := 26) ?hr ?_; (case hd => rfl); (case hg => rfl); (case hr => first | (go_simp; done) | (go_simp; rfl)); intro gb233 hg w17 hbox hb; replace HO232 := bS HO232 hb; have BK233 := Aside0.mk (hbox); have GW233 := gw hg HB; have GE233 := gw hg HB; replace HB := bs HB hb; have NB226_233 := nl hg BK226; have NB233_226 := ng hg BK226; replace BK226 := bb BK226 hb; have NB227_233 := nl hg BK227; have NB233_227 := ng hg BK227; replace BK227 := bb BK227 hb; have NB228_233 := nl hg BK228; have NB233_228 := ng hg BK228; replace BK228 := bb BK228 hb; clear hb hbox hg; have hnb18 := NB233_226.out; have hnc18 := NB226_233.out; have hnb19 := NB233_227.out; have hnc19 := NB227_233.out; have hnb20 := NB233_228.out; have hnc20 := NB228_233.out; obtain ⟨hcz21_0, hcz21_1⟩ := c2 BK233; have hfz21_0 := blk_frozen BK233.out 0; have hfz21_1 := blk_frozen BK233.out 1; obtain ⟨Ao22, co22, eo22⟩ := Kd.S_slice HO232.out; subst eo22))
    have n0_ : Aside0 (Kd.S k29 29 ((w17.setCell ⟨gb233, 0, none⟩ (.int .i64 t229)).setCell ⟨gb233, 1, none⟩ (.slice Ao22 t230.length co22)) w.heap.size (fun k_ => k_ ≠ gb227) (.slice Ao22 t230.length co22) t230) := ⟨by (with_reducible repeat (first | apply Kd.S_alloc | apply Kd.S_drewN | apply Kd.S_drew)); exact Kd.S_mono (Kd.S_far (p := ⟨gb233, 1, none⟩) (Kd.S_far (p := ⟨gb233, 0, none⟩) (Kd.S_types HO232.out BK233.out (by decide)) (fun _ hk => hk.2) (.int .i64 t229)) (fun _ hk => hk.2) (.slice Ao22 t230.length co22)) (fun _ hk => hk.1.2)⟩
    have n1_ : Aside0 (((w17.setCell ⟨gb233, 0, none⟩ (.int .i64 t229)).setCell ⟨gb233, 1, none⟩ (.slice Ao22 t230.length co22)).heap[gb226]? = some (.cells #[.int .i64 a0_0, .slice A0_1 l0_1.length c0_1] 26 (0, 0))) := ⟨by (with_reducible repeat (first | refine blk_drewN ?_ _ | refine blk_drew ?_ | refine blk_alloc ?_ _)); refine blk_far ?_ NB226_233.out _; (with_reducible repeat (first | refine blk_drewN ?_ _ | refine blk_drew ?_ | refine blk_alloc ?_ _)); refine blk_far ?_ NB226_233.out _; (with_reducible repeat (first | refine blk_drewN ?_ _ | refine blk_drew ?_ | refine blk_alloc ?_ _)); exact BK226.out⟩
    have n2_ : Aside0 (((w17.setCell ⟨gb233, 0, none⟩ (.int .i64 t229)).setCell ⟨gb233, 1, none⟩ (.slice Ao22 t230.length co22)).heap[gb227]? = some (.cells #[.int .i64 a1_0, .slice A1_1 l1_1.length c1_1] 29 (0, 0))) := ⟨by (with_reducible repeat (first | refine blk_drewN ?_ _ | refine blk_drew ?_ | refine blk_alloc ?_ _)); refine blk_far ?_ NB227_233.out _; (with_reducible repeat (first | refine blk_drewN ?_ _ | refine blk_drew ?_ | refine blk_alloc ?_ _)); refine blk_far ?_ NB227_233.out _; (with_reducible repeat (first | refine blk_drewN ?_ _ | refine blk_drew ?_ | refine blk_alloc ?_ _)); exact BK227.out⟩
    have n3_ : Aside0 (((w17.setCell ⟨gb233, 0, none⟩ (.int .i64 t229)).setCell ⟨gb233, 1, none⟩ (.slice Ao22 t230.length co22)).heap[gb228]? = some (.cells #[.int .i64 0, .slice none 0 0] 26 (0, 0))) := ⟨by (with_reducible repeat (first | refine blk_drewN ?_ _ | refine blk_drew ?_ | refine blk_alloc ?_ _)); refine blk_far ?_ NB228_233.out _; (with_reducible repeat (first | refine blk_drewN ?_ _ | refine blk_drew ?_ | refine blk_alloc ?_ _)); refine blk_far ?_ NB228_233.out _; (with_reducible repeat (first | refine blk_drewN ?_ _ | refine blk_drew ?_ | refine blk_alloc ?_ _)); exact BK228.out⟩
    have n4_ : Aside0 (((w17.setCell ⟨gb233, 0, none⟩ (.int .i64 t229)).setCell ⟨gb233, 1, none⟩ (.slice Ao22 t230.length co22)).heap[gb233]? = some (.cells #[.int .i64 t229, .slice Ao22 t230.length co22] 26 (0, 0))) := ⟨by (with_reducible repeat (first | refine blk_drewN ?_ _ | refine blk_drew ?_ | refine blk_alloc ?_ _)); refine blk_put (cs := #[.int .i64 t229, .slice none 0 0]) ?_ 1 _ rfl; (with_reducible repeat (first | refine blk_drewN ?_ _ | refine blk_drew ?_ | refine blk_alloc ?_ _)); refine blk_put (cs := #[.int .i64 0, .slice none 0 0]) ?_ 0 _ rfl; (with_reducible repeat (first | refine blk_drewN ?_ _ | refine blk_drew ?_ | refine blk_alloc ?_ _)); exact BK233.out⟩
    have n5_ : Aside0 (Below w.heap.size w ((w17.setCell ⟨gb233, 0, none⟩ (.int .i64 t229)).setCell ⟨gb233, 1, none⟩ (.slice Ao22 t230.length co22))) := ⟨ms HB⟩
    (try clear HO232)
    (try clear BK226)
    (try clear BK227)
    (try clear BK228)
    (try clear BK233)
    (try clear HB)
    generalize ((w17.setCell ⟨gb233, 0, none⟩ (.int .i64 t229)).setCell ⟨gb233, 1, none⟩ (.slice Ao22 t230.length co22)) = w23 at n0_ n1_ n2_ n3_ n4_ n5_ ⊢
    have HO232 := n0_
    have BK226 := n1_
    have BK227 := n2_
    have BK228 := n3_
    have BK233 := n4_
    have HB := n5_
    clear n0_ n1_ n2_ n3_ n4_ n5_
    replace HO232 := Aside0.mk (Kd.S_drew HO232.out)
    replace BK226 := Aside0.mk (blk_drew BK226.out)
    replace BK227 := Aside0.mk (blk_drew BK227.out)
    replace BK228 := Aside0.mk (blk_drew BK228.out)
    replace BK233 := Aside0.mk (blk_drew BK233.out)
    replace HB := Aside0.mk (below_drew1 HB.out)
    refine start_ (n := 8) (S := fun w' => w'.cell? ⟨gb233, 0, none⟩ = some (.int .i64 t229) ∧ w'.cell? ⟨gb233, 1, none⟩ = some (.slice Ao22 t230.length co22) ∧ w'.cell? ⟨gb227, 0, none⟩ = some (.int .i64 a1_0) ∧ w'.cell? ⟨gb227, 1, none⟩ = some (.slice A1_1 l1_1.length c1_1)) (ds := [7]) #[false, false, false, false, false, false, false, false] (by kernel_rfl) rfl rfl ⟨(c2 BK233).1, (c2 BK233).2, (c2 BK227).1, (c2 BK227).2⟩ (fun hHeld => ?_); refine with_tabW impl_AddRow.tab2 impl_AddRow.bits2 (fun HT_ HW_ => ?_)
    generalize w23.drew = w24 at HO232 BK226 BK227 BK228 BK233 HB hHeld ⊢
    refine pure_ (i := 0) (N := some 9) (v := ?_) (a' := ?_) #[true, false, false, false, false, false, false, false] rfl rfl (any_of HT_.out (by kernel_rfl)) (fun _ _ _ h => h) (Or.inl ⟨by rfl, ?_⟩) ?_ ?_
    rotate_left
    ·intro w'
     go_simp
     with_reducible rfl
    rotate_left
    ·simp only [Act.put, List.setIfInBounds_toArray, List.set_cons_zero, List.set_cons_succ, i64_w, i32_w]
     rfl
    refine take_ (i := 1) (N := some 10) (v := ?_) (a' := ?_) #[true, true, false, false, false, false, false, false] rfl rfl (take_ofW HT_.out HW_.out (by kernel_rfl)) (fun _ _ _ h => h) (Or.inl ⟨by rfl, ?_⟩) hHeld ?_ ?_
    rotate_left
    ·rintro w' ⟨s0, s1, s2, s3⟩
     go_simp
     with_reducible rfl
    rotate_left
    ·simp only [Act.put, List.setIfInBounds_toArray, List.set_cons_zero, List.set_cons_succ, i64_w, i32_w]
     rfl
    refine take_ (i := 2) (N := some 11) (v := ?_) (a' := ?_) #[true, true, true, false, false, false, false, false] rfl rfl (take_ofW HT_.out HW_.out (by kernel_rfl)) (fun _ _ _ h => h) (Or.inl ⟨by rfl, ?_⟩) hHeld ?_ ?_
    rotate_left
    ·rintro w' ⟨s0, s1, s2, s3⟩
     go_simp
     with_reducible rfl
    rotate_left
    ·simp only [Act.put, List.setIfInBounds_toArray, List.set_cons_zero, List.set_cons_succ, i64_w, i32_w]
     rfl
    refine one_ (i := 3) (N := some 12) #[true, true, true, true, false, false, false, false] rfl rfl (one_of HT_.out (by kernel_rfl)) (by decide) (fun K hK => ?_)
    refine gs Try.func93 (by kernel_rfl) rfl #[.agg #[.int .i64 a1_0, .slice A1_1 l1_1.length c1_1]] (by rfl) rfl rfl ?_
    with_reducible refine (impl_copyLin.calls a1_0 _ _ l1_1 t234 t235 _ ?side1 ?side2 A4.out).mono ?_
    (case side1 => exact mc ((Kd.C_below HR1_1.out HB.out)))
    (case side2 => exact HC1_1.out)
    rintro e w25 ⟨v236, rfl, ho0, hb⟩
    refine ⟨_, rfl, ?_⟩
    replace HO232 := lS HO232 ho0 hb
    have HO237 := Aside0.mk (Kd.R_lower ho0 (below_size (ms HB)))
    replace BK226 := bb BK226 hb
    replace BK227 := bb BK227 hb
    replace BK228 := bb BK228 hb
    replace BK233 := bb BK233 hb
    replace HB := bs HB hb
    (try clear hb)
    (try clear hb2)
    (try clear hk)
    (try clear hi)
    (try clear ho0)
    obtain ⟨Ao27, co27, eo27⟩ := Kd.R_slice HO237.out
    (first | subst eo27 | (injection eo27 with f1_ f2_ f3_; have f4_ := f1_.symm; have f5_ := f3_.symm; clear f1_ f2_ f3_; subst f4_; subst f5_))
    refine hK.out _ _ ⟨(c2 BK233).1, (c2 BK233).2, (c2 BK227).1, (c2 BK227).2⟩ (fun hHeld => ?_)
    clear hK K
    refine norm_ (a' := ?_) ?_ ?_
    rotate_left
    ·show Act.put _ (some 12) _ = _
     simp only [Act.put, List.setIfInBounds_toArray, List.set_cons_zero, List.set_cons_succ, i64_w, i32_w]
     rfl
    refine one_ (i := 4) (N := some 13) #[true, true, true, true, true, false, false, false] rfl rfl (one_of HT_.out (by kernel_rfl)) (by decide) (fun K hK => ?_)
    refine value_ (w1 := ?_) (v := ?_) (by rfl) rfl ?_ ?_
    rotate_left 2
    ·go_simp
     constructor
     ·rfl
     ·rfl
    refine hK.out _ _ ⟨(blk_cell (blk_alloc BK233.out _) 0).trans rfl, (blk_cell (blk_alloc BK233.out _) 1).trans rfl, (blk_cell (blk_alloc BK227.out _) 0).trans rfl, (blk_cell (blk_alloc BK227.out _) 1).trans rfl⟩ (fun hHeld => ?_)
    clear hK K
    refine norm_ (a' := ?_) ?_ ?_
    rotate_left
    ·show Act.put _ (some 13) _ = _
     simp only [Act.put, List.setIfInBounds_toArray, List.set_cons_zero, List.set_cons_succ, i64_w, i32_w]
     rfl
    refine one_ (i := 5) (N := some 14) #[true, true, true, true, true, true, false, false] rfl rfl (one_of HT_.out (by kernel_rfl)) (by decide) (fun K hK => ?_)
    refine Kd.S_append_step k29 (w0 := w) w.heap.size (by rfl) (.tmp 10) (.tmp 13) 24 29 (.agg #[(.int .i64 0), (.slice none 0 0)]) 32 rfl Try.underlying24 info29 rfl (by decide) (by omega) (.slice Ao22 t230.length co22) t230 (⟨t234, t235⟩ : S29) [.int .i64 t234, .slice Ao27 t235.length co27] (fun k_ => k_ ≠ gb227) (fun k_ => some k_ = (.slice Ao27 t235.length co27 : Value).ownBlock) rfl rfl ?aP (fun k_ hk_ => ((Kd.R_mono (ok' := fun k_ => ((fun k_ => k_ ≠ gb227)) k_ ∧ some k_ ≠ (.slice Ao22 t230.length co22 : Value).ownBlock) (Kd.R_types (Kd.R_apart' (HO237.out) (Kd.S_typed HO232.out) (by decide)) BK227.out (by decide)) (fun k_ hk => ⟨hk.2, hk.1.2⟩))).1 k_ hk_.symm) ?aF ?aO ?aB ?aS ?aL ?_
    (case aP => exact k29_mkM _ _ _ (⟨t234, t235⟩ : S29) (Kd.R_mono (Kd.R_tight rfl (Kd.R_mono (ok' := fun k_ => ((fun k_ => k_ ≠ gb227)) k_ ∧ some k_ ≠ (.slice Ao22 t230.length co22 : Value).ownBlock) (Kd.R_types (Kd.R_apart' (HO237.out) (Kd.S_typed HO232.out) (by decide)) BK227.out (by decide)) (fun k_ hk => ⟨hk.2, hk.1.2⟩))) (fun _ h_ => h_)))
    (case aB => exact (ms HB))
    (case aF => exact (fun k_ hk => Kd.freshB (g := gb227) (o := .cells #[.int .i64 a1_0, .slice A1_1 l1_1.length c1_1] 29 (0, 0)) (mb BK227) k_ hk))
    (case aO => exact (by (with_reducible repeat (first | apply Kd.S_alloc | apply Kd.S_drewN | apply Kd.S_drew)); exact Kd.S_mono HO232.out (fun k_ hk => ⟨hk.1, fun e_ => hk.2 e_⟩)))
    (case aS => exact (below_size (ms HB)))
    (case aL => have := LMc5.out; omega)
    intro v239 w26 ho hb hg hat
    rw [← Ny238.out] at ho
    replace BK226 := Aside0.mk (blk_grown (g := gb226) (o := .cells #[.int .i64 a0_0, .slice A0_1 l0_1.length c0_1] 26 (0, 0)) (mb BK226) hg (Kd.S_ne HO232.out BK226.out (by decide)))
    replace BK227 := Aside0.mk (blk_grown (g := gb227) (o := .cells #[.int .i64 a1_0, .slice A1_1 l1_1.length c1_1] 29 (0, 0)) (mb BK227) hg (Kd.S_away HO232.out (fun _ hk => hk.1)))
    replace BK228 := Aside0.mk (blk_grown (g := gb228) (o := .cells #[.int .i64 0, .slice none 0 0] 26 (0, 0)) (mb BK228) hg (Kd.S_ne HO232.out BK228.out (by decide)))
    replace BK233 := Aside0.mk (blk_grown (g := gb233) (o := .cells #[.int .i64 t229, .slice Ao22 t230.length co22] 26 (0, 0)) (mb BK233) hg (Kd.S_ne HO232.out BK233.out (by decide)))
    replace HB := Aside0.mk (hb)
    have HO240 := Aside0.mk (ho)
    clear HO232
    clear HO237
    clear ho hb hg hat
    obtain ⟨Ao28, co28, eo28⟩ := Kd.S_slice HO240.out
    (first | subst eo28 | (injection eo28 with f1_ f2_ f3_; have f4_ := f1_.symm; have f5_ := f3_.symm; clear f1_ f2_ f3_; subst f4_; subst f5_))
    refine hK.out _ _ ⟨(c2 BK233).1, (c2 BK233).2, (c2 BK227).1, (c2 BK227).2⟩ (fun hHeld => ?_)
    clear hK K
    refine norm_ (a' := ?_) ?_ ?_
    rotate_left
    ·show Act.put _ (some 14) _ = _
     simp only [Act.put, List.setIfInBounds_toArray, List.set_cons_zero, List.set_cons_succ, i64_w, i32_w]
     rfl
    refine pure_ (i := 6) (N := some 15) (v := ?_) (a' := ?_) #[true, true, true, true, true, true, true, false] rfl rfl (any_of HT_.out (by kernel_rfl)) (fun _ _ _ h => h) (Or.inl ⟨by rfl, ?_⟩) ?_ ?_
    rotate_left
    ·intro w'
     go_simp
     with_reducible rfl
    rotate_left
    ·simp only [Act.put, List.setIfInBounds_toArray, List.set_cons_zero, List.set_cons_succ, i64_w, i32_w]
     rfl
    refine last_ (i := 7) (N := none) #[true, true, true, true, true, true, true, true] rfl rfl (one_of HT_.out (by kernel_rfl)) (by decide) (fun K hK => ?_)
    have hs29 : w26.cell? ⟨gb233, 1, none⟩ = some (.slice Ao22 t230.length co22) := (blk_cell BK233.out 1).trans rfl
    have hfs29 := blk_frozen BK233.out 1
    have hns29_0 := NB226_233.out
    have hns29_1 := NB227_233.out
    have hns29_2 := NB228_233.out
    have hms29_0 := NB233_226.out
    have hms29_1 := NB233_227.out
    have hms29_2 := NB233_228.out
    refine skip_ (w1 := ?_) (by rfl) rfl ?_ ?_
    rotate_left
    ·go_simp
     rfl
    refine hK.out _ _ ?_
    clear hK K
    refine done_ (done_of HT_.out (by kernel_rfl)) ?_
    obtain ⟨hcz30_0, hcz30_1⟩ := c2 BK226
    have hfz30_0 := blk_frozen BK226.out 0
    have hfz30_1 := blk_frozen BK226.out 1
    try go_wp2_with (first | ((with_reducible refine gate_callee (f := 73) rfl ?_); refine gl (some 17) rfl rfl Try.func73 (by kernel_rfl) rfl #[.agg #[.int .i64 a0_0, .slice A0_1 l0_1.length c0_1]] rfl ?_; (with_reducible refine (impl_IsValidSystem.calls k a0_0 _ _ l0_1 true _ ?side1 ?side2 A6.out).mono ?_); (case side1 => exact Kd.C_below HR0_1.out (ms HB)); (case side2 => exact HC0_1.out); rintro e w31 ⟨rfl, hb⟩; refine ⟨_, rfl, ?_⟩; have n0_ := Aside0.mk (Kd.S_below (by (with_reducible repeat (first | apply Kd.S_alloc | apply Kd.S_drewN | apply Kd.S_drew)); exact (Kd.S_mono (Kd.S_far (p := ⟨gb233, 1, none⟩) (Kd.S_types HO240.out BK233.out (by decide)) (fun _ hk => hk.2) (.slice Ao28 y238.length co28)) (fun _ h_ => h_.1))) hb); have n1_ := bf BK226 hb; have n2_ := bf BK227 hb; have n3_ := bf BK228 hb; have n4_ := Aside0.mk (blk_below (g := gb233) (o := .cells #[.int .i64 t229, .slice Ao28 y238.length co28] 26 (0, 0)) (by (with_reducible repeat (first | refine blk_drewN ?_ _ | refine blk_drew ?_ | refine blk_alloc ?_ _)); refine blk_put (cs := #[.int .i64 t229, .slice Ao22 t230.length co22]) ?_ 1 _ rfl; (with_reducible repeat (first | refine blk_drewN ?_ _ | refine blk_drew ?_ | refine blk_alloc ?_ _)); exact BK233.out) hb); have n5_ := bs HB hb; clear HO240 BK226 BK227 BK228 BK233 HB; have HO240 := n0_; have BK226 := n1_; have BK227 := n2_; have BK228 := n3_; have BK233 := n4_; have HB := n5_; clear n0_ n1_ n2_ n3_ n4_ n5_; (try clear hb); obtain ⟨hcz32_0, hcz32_1⟩ := c2 BK233; have hfz32_0 := blk_frozen BK233.out 0; have hfz32_1 := blk_frozen BK233.out 1) | (go_at_call 73; (with_reducible refine (impl_IsValidSystem.calls k t229 _ _ y238 true _ ?side1 ?side2 A8.out).mono ?_); (case side1 => exact mc ((Kd.S_reads' HO240.out).2.2)); (case side2 => exact (Kd.S_reads' HO240.out).2.1); rintro e w33 ⟨rfl, hb⟩; replace HO240 := bS HO240 hb; replace BK226 := bb BK226 hb; replace BK227 := bb BK227 hb; replace BK228 := bb BK228 hb; replace BK233 := bb BK233 hb; replace HB := bs HB hb; (try clear hb); obtain ⟨hcz34_0, hcz34_1⟩ := c2 BK233; have hfz34_0 := blk_frozen BK233.out 0; have hfz34_1 := blk_frozen BK233.out 1; have hnb35 := NB228_227.out; have hnc35 := NB227_228.out; obtain ⟨hcz36_0, hcz36_1⟩ := c2 BK228; have hfz36_0 := blk_frozen BK228.out 0; have hfz36_1 := blk_frozen BK228.out 1))
    refine bodyPost_ret (results_ct rfl _ _ gb228 26 #[.int .i64 t229, .slice Ao28 y238.length co28] (0, 0) _ rfl (by (with_reducible repeat (first | refine blk_drewN ?_ _ | refine blk_drew ?_ | refine blk_alloc ?_ _)); refine blk_put (cs := #[.int .i64 t229, .slice none 0 0]) ?_ 1 _ rfl; (with_reducible repeat (first | refine blk_drewN ?_ _ | refine blk_drew ?_ | refine blk_alloc ?_ _)); refine blk_put (cs := #[.int .i64 0, .slice none 0 0]) ?_ 0 _ rfl; (with_reducible repeat (first | refine blk_drewN ?_ _ | refine blk_drew ?_ | refine blk_alloc ?_ _)); exact BK228.out) Try.underlying26 rfl (by kernel_rfl)) rfl ?_
    exact ⟨_, by first | rfl | (simp [errW_none, errW_some] <;> rfl) | (simp [*, errW_none, errW_some] <;> rfl), by (with_reducible repeat (first | apply Kd.S_alloc | apply Kd.S_drewN | apply Kd.S_drew)); exact Kd.S_mono (Kd.S_far (p := ⟨gb228, 1, none⟩) (Kd.S_far (p := ⟨gb228, 0, none⟩) (Kd.S_types HO240.out BK228.out (by decide)) (fun _ hk => hk.2) (.int .i64 t229)) (fun _ hk => hk.2) (.slice Ao28 y238.length co28)) (fun _ hk => trivial), ms HB⟩
   ·replace c9 := Bool.eq_false_iff.mpr c9
    subst c9
    have H1 : ((impl_copySystem.f k a0_0 l0_1).bind fun bt243 => (some (bt243.1, bt243.2, false))) = some (r1, r2, r3) := by rw [if_neg (show ¬ (false = true) by decide)] at H; exact H
    clear H
    have H := H1
    clear H1
    replace H := Option.bind_eq_some_iff.mp H
    obtain ⟨⟨t243, t244⟩, A370, H⟩ := H
    replace H : (some (t243, t244, false)) = some (r1, r2, r3) := H
    have A37 := Aside0.mk A370
    clear A370
    simp only [Option.some.injEq, Prod.mk.injEq] at H
    obtain ⟨rfl, rfl, rfl⟩ := H
    go_enter Try.func27, Try.ntmps27
    try go_wp2_with (first | ((with_reducible refine gate_dst (N := 2) rfl ?_); refine box_event ?hg (N := 2) ?hd (cs := #[.int .i64 a0_0, .slice A0_1 l0_1.length c0_1]) (t := 26) ?hr ?_; (case hd => rfl); (case hg => rfl); (case hr => first | (go_simp; done) | (go_simp; rfl)); intro gb226 hg w38 hbox hb; have BK226 := Aside0.mk (hbox); have GW226 := gw hg HB; have GE226 := gw hg HB; replace HB := bs HB hb; clear hb hbox hg) | ((with_reducible refine gate_dst (N := 3) rfl ?_); refine box_event ?hg (N := 3) ?hd (cs := #[.int .i64 a1_0, .slice A1_1 l1_1.length c1_1]) (t := 29) ?hr ?_; (case hd => rfl); (case hg => rfl); (case hr => first | (go_simp; done) | (go_simp; rfl)); intro gb227 hg w39 hbox hb; have BK227 := Aside0.mk (hbox); have GW227 := gw hg HB; have GE227 := gw hg HB; replace HB := bs HB hb; have NB226_227 := nl hg BK226; have NB227_226 := ng hg BK226; replace BK226 := bb BK226 hb; clear hb hbox hg) | ((with_reducible refine gate_dst (N := 4) rfl ?_); refine box_event ?hg (N := 4) ?hd (cs := #[.int .i64 0, .slice none 0 0]) (t := 26) ?hr ?_; (case hd => rfl); (case hg => rfl); (case hr => first | (go_simp; done) | (go_simp; rfl)); intro gb228 hg w40 hbox hb; have BK228 := Aside0.mk (hbox); have GW228 := gw hg HB; have GE228 := gw hg HB; replace HB := bs HB hb; have NB226_228 := nl hg BK226; have NB228_226 := ng hg BK226; replace BK226 := bb BK226 hb; have NB227_228 := nl hg BK227; have NB228_227 := ng hg BK227; replace BK227 := bb BK227 hb; clear hb hbox hg; have hnb41 := NB226_227.out; have hnc41 := NB227_226.out; have hnb42 := NB226_228.out; have hnc42 := NB228_226.out; obtain ⟨hcz43_0, hcz43_1⟩ := c2 BK226; have hfz43_0 := blk_frozen BK226.out 0; have hfz43_1 := blk_frozen BK226.out 1) | ((with_reducible refine gate_callee (f := 92) rfl ?_); refine gl (some 8) rfl rfl Try.func92 (by kernel_rfl) rfl #[.agg #[.int .i64 a0_0, .slice A0_1 l0_1.length c0_1]] rfl ?_; (with_reducible refine (impl_copySystem.calls k a0_0 _ _ l0_1 t229 t230 _ ?side1 ?side2 A3.out).mono ?_); (case side1 => exact mc ((Kd.C_below HR0_1.out HB.out))); (case side2 => exact HC0_1.out); rintro e w44 ⟨v231, rfl, ho0, hb⟩; refine ⟨_, rfl, ?_⟩; have HO232 := Aside0.mk (Kd.S_lower (Kd.S_newB ho0 (g := gb227) (o := .cells #[.int .i64 a1_0, .slice A1_1 l1_1.length c1_1] 29 (0, 0)) (mb BK227)) (below_size (ms HB))); replace BK226 := bb BK226 hb; replace BK227 := bb BK227 hb; replace BK228 := bb BK228 hb; replace HB := bs HB hb; (try clear hb); (try clear ho0)) | ((with_reducible refine gate_dst (N := 6) rfl ?_); refine box_event ?hg (N := 6) ?hd (cs := #[.int .i64 0, .slice none 0 0]) (t := 26) ?hr ?_; (case hd => rfl); (case hg => rfl); (case hr => first | (go_simp; done) | (go_simp; rfl)); intro gb233 hg w45 hbox hb; replace HO232 := bS HO232 hb; have BK233 := Aside0.mk (hbox); have GW233 := gw hg HB; have GE233 := gw hg HB; replace HB := bs HB hb; have NB226_233 := nl hg BK226; have NB233_226 := ng hg BK226; replace BK226 := bb BK226 hb; have NB227_233 := nl hg BK227; have NB233_227 := ng hg BK227; replace BK227 := bb BK227 hb; have NB228_233 := nl hg BK228; have NB233_228 := ng hg BK228; replace BK228 := bb BK228 hb; clear hb hbox hg; have hnb46 := NB233_226.out; have hnc46 := NB226_233.out; have hnb47 := NB233_227.out; have hnc47 := NB227_233.out; have hnb48 := NB233_228.out; have hnc48 := NB228_233.out; obtain ⟨hcz49_0, hcz49_1⟩ := c2 BK233; have hfz49_0 := blk_frozen BK233.out 0; have hfz49_1 := blk_frozen BK233.out 1; obtain ⟨Ao50, co50, eo50⟩ := Kd.S_slice HO232.out; subst eo50))
    have n0_ : Aside0 (Kd.S k29 29 ((w45.setCell ⟨gb233, 0, none⟩ (.int .i64 t229)).setCell ⟨gb233, 1, none⟩ (.slice Ao50 t230.length co50)) w.heap.size (fun k_ => k_ ≠ gb227) (.slice Ao50 t230.length co50) t230) := ⟨by (with_reducible repeat (first | apply Kd.S_alloc | apply Kd.S_drewN | apply Kd.S_drew)); exact Kd.S_mono (Kd.S_far (p := ⟨gb233, 1, none⟩) (Kd.S_far (p := ⟨gb233, 0, none⟩) (Kd.S_types HO232.out BK233.out (by decide)) (fun _ hk => hk.2) (.int .i64 t229)) (fun _ hk => hk.2) (.slice Ao50 t230.length co50)) (fun _ hk => hk.1.2)⟩
    have n1_ : Aside0 (((w45.setCell ⟨gb233, 0, none⟩ (.int .i64 t229)).setCell ⟨gb233, 1, none⟩ (.slice Ao50 t230.length co50)).heap[gb226]? = some (.cells #[.int .i64 a0_0, .slice A0_1 l0_1.length c0_1] 26 (0, 0))) := ⟨by (with_reducible repeat (first | refine blk_drewN ?_ _ | refine blk_drew ?_ | refine blk_alloc ?_ _)); refine blk_far ?_ NB226_233.out _; (with_reducible repeat (first | refine blk_drewN ?_ _ | refine blk_drew ?_ | refine blk_alloc ?_ _)); refine blk_far ?_ NB226_233.out _; (with_reducible repeat (first | refine blk_drewN ?_ _ | refine blk_drew ?_ | refine blk_alloc ?_ _)); exact BK226.out⟩
    have n2_ : Aside0 (((w45.setCell ⟨gb233, 0, none⟩ (.int .i64 t229)).setCell ⟨gb233, 1, none⟩ (.slice Ao50 t230.length co50)).heap[gb227]? = some (.cells #[.int .i64 a1_0, .slice A1_1 l1_1.length c1_1] 29 (0, 0))) := ⟨by (with_reducible repeat (first | refine blk_drewN ?_ _ | refine blk_drew ?_ | refine blk_alloc ?_ _)); refine blk_far ?_ NB227_233.out _; (with_reducible repeat (first | refine blk_drewN ?_ _ | refine blk_drew ?_ | refine blk_alloc ?_ _)); refine blk_far ?_ NB227_233.out _; (with_reducible repeat (first | refine blk_drewN ?_ _ | refine blk_drew ?_ | refine blk_alloc ?_ _)); exact BK227.out⟩
    have n3_ : Aside0 (((w45.setCell ⟨gb233, 0, none⟩ (.int .i64 t229)).setCell ⟨gb233, 1, none⟩ (.slice Ao50 t230.length co50)).heap[gb228]? = some (.cells #[.int .i64 0, .slice none 0 0] 26 (0, 0))) := ⟨by (with_reducible repeat (first | refine blk_drewN ?_ _ | refine blk_drew ?_ | refine blk_alloc ?_ _)); refine blk_far ?_ NB228_233.out _; (with_reducible repeat (first | refine blk_drewN ?_ _ | refine blk_drew ?_ | refine blk_alloc ?_ _)); refine blk_far ?_ NB228_233.out _; (with_reducible repeat (first | refine blk_drewN ?_ _ | refine blk_drew ?_ | refine blk_alloc ?_ _)); exact BK228.out⟩
    have n4_ : Aside0 (((w45.setCell ⟨gb233, 0, none⟩ (.int .i64 t229)).setCell ⟨gb233, 1, none⟩ (.slice Ao50 t230.length co50)).heap[gb233]? = some (.cells #[.int .i64 t229, .slice Ao50 t230.length co50] 26 (0, 0))) := ⟨by (with_reducible repeat (first | refine blk_drewN ?_ _ | refine blk_drew ?_ | refine blk_alloc ?_ _)); refine blk_put (cs := #[.int .i64 t229, .slice none 0 0]) ?_ 1 _ rfl; (with_reducible repeat (first | refine blk_drewN ?_ _ | refine blk_drew ?_ | refine blk_alloc ?_ _)); refine blk_put (cs := #[.int .i64 0, .slice none 0 0]) ?_ 0 _ rfl; (with_reducible repeat (first | refine blk_drewN ?_ _ | refine blk_drew ?_ | refine blk_alloc ?_ _)); exact BK233.out⟩
    have n5_ : Aside0 (Below w.heap.size w ((w45.setCell ⟨gb233, 0, none⟩ (.int .i64 t229)).setCell ⟨gb233, 1, none⟩ (.slice Ao50 t230.length co50))) := ⟨ms HB⟩
    (try clear HO232)
    (try clear BK226)
    (try clear BK227)
    (try clear BK228)
    (try clear BK233)
    (try clear HB)
    generalize ((w45.setCell ⟨gb233, 0, none⟩ (.int .i64 t229)).setCell ⟨gb233, 1, none⟩ (.slice Ao50 t230.length co50)) = w51 at n0_ n1_ n2_ n3_ n4_ n5_ ⊢
    have HO232 := n0_
    have BK226 := n1_
    have BK227 := n2_
    have BK228 := n3_
    have BK233 := n4_
    have HB := n5_
    clear n0_ n1_ n2_ n3_ n4_ n5_
    replace HO232 := Aside0.mk (Kd.S_drew HO232.out)
    replace BK226 := Aside0.mk (blk_drew BK226.out)
    replace BK227 := Aside0.mk (blk_drew BK227.out)
    replace BK228 := Aside0.mk (blk_drew BK228.out)
    replace BK233 := Aside0.mk (blk_drew BK233.out)
    replace HB := Aside0.mk (below_drew1 HB.out)
    refine start_ (n := 8) (S := fun w' => w'.cell? ⟨gb233, 0, none⟩ = some (.int .i64 t229) ∧ w'.cell? ⟨gb233, 1, none⟩ = some (.slice Ao50 t230.length co50) ∧ w'.cell? ⟨gb227, 0, none⟩ = some (.int .i64 a1_0) ∧ w'.cell? ⟨gb227, 1, none⟩ = some (.slice A1_1 l1_1.length c1_1)) (ds := [7]) #[false, false, false, false, false, false, false, false] (by kernel_rfl) rfl rfl ⟨(c2 BK233).1, (c2 BK233).2, (c2 BK227).1, (c2 BK227).2⟩ (fun hHeld => ?_); refine with_tabW impl_AddRow.tab2 impl_AddRow.bits2 (fun HT_ HW_ => ?_)
    generalize w51.drew = w52 at HO232 BK226 BK227 BK228 BK233 HB hHeld ⊢
    refine pure_ (i := 0) (N := some 9) (v := ?_) (a' := ?_) #[true, false, false, false, false, false, false, false] rfl rfl (any_of HT_.out (by kernel_rfl)) (fun _ _ _ h => h) (Or.inl ⟨by rfl, ?_⟩) ?_ ?_
    rotate_left
    ·intro w'
     go_simp
     with_reducible rfl
    rotate_left
    ·simp only [Act.put, List.setIfInBounds_toArray, List.set_cons_zero, List.set_cons_succ, i64_w, i32_w]
     rfl
    refine take_ (i := 1) (N := some 10) (v := ?_) (a' := ?_) #[true, true, false, false, false, false, false, false] rfl rfl (take_ofW HT_.out HW_.out (by kernel_rfl)) (fun _ _ _ h => h) (Or.inl ⟨by rfl, ?_⟩) hHeld ?_ ?_
    rotate_left
    ·rintro w' ⟨s0, s1, s2, s3⟩
     go_simp
     with_reducible rfl
    rotate_left
    ·simp only [Act.put, List.setIfInBounds_toArray, List.set_cons_zero, List.set_cons_succ, i64_w, i32_w]
     rfl
    refine take_ (i := 2) (N := some 11) (v := ?_) (a' := ?_) #[true, true, true, false, false, false, false, false] rfl rfl (take_ofW HT_.out HW_.out (by kernel_rfl)) (fun _ _ _ h => h) (Or.inl ⟨by rfl, ?_⟩) hHeld ?_ ?_
    rotate_left
    ·rintro w' ⟨s0, s1, s2, s3⟩
     go_simp
     with_reducible rfl
    rotate_left
    ·simp only [Act.put, List.setIfInBounds_toArray, List.set_cons_zero, List.set_cons_succ, i64_w, i32_w]
     rfl
    refine one_ (i := 3) (N := some 12) #[true, true, true, true, false, false, false, false] rfl rfl (one_of HT_.out (by kernel_rfl)) (by decide) (fun K hK => ?_)
    refine gs Try.func93 (by kernel_rfl) rfl #[.agg #[.int .i64 a1_0, .slice A1_1 l1_1.length c1_1]] (by rfl) rfl rfl ?_
    with_reducible refine (impl_copyLin.calls a1_0 _ _ l1_1 t234 t235 _ ?side1 ?side2 A4.out).mono ?_
    (case side1 => exact mc ((Kd.C_below HR1_1.out HB.out)))
    (case side2 => exact HC1_1.out)
    rintro e w53 ⟨v236, rfl, ho0, hb⟩
    refine ⟨_, rfl, ?_⟩
    replace HO232 := lS HO232 ho0 hb
    have HO237 := Aside0.mk (Kd.R_lower ho0 (below_size (ms HB)))
    replace BK226 := bb BK226 hb
    replace BK227 := bb BK227 hb
    replace BK228 := bb BK228 hb
    replace BK233 := bb BK233 hb
    replace HB := bs HB hb
    (try clear hb)
    (try clear hb2)
    (try clear hk)
    (try clear hi)
    (try clear ho0)
    obtain ⟨Ao55, co55, eo55⟩ := Kd.R_slice HO237.out
    (first | subst eo55 | (injection eo55 with f1_ f2_ f3_; have f4_ := f1_.symm; have f5_ := f3_.symm; clear f1_ f2_ f3_; subst f4_; subst f5_))
    refine hK.out _ _ ⟨(c2 BK233).1, (c2 BK233).2, (c2 BK227).1, (c2 BK227).2⟩ (fun hHeld => ?_)
    clear hK K
    refine norm_ (a' := ?_) ?_ ?_
    rotate_left
    ·show Act.put _ (some 12) _ = _
     simp only [Act.put, List.setIfInBounds_toArray, List.set_cons_zero, List.set_cons_succ, i64_w, i32_w]
     rfl
    refine one_ (i := 4) (N := some 13) #[true, true, true, true, true, false, false, false] rfl rfl (one_of HT_.out (by kernel_rfl)) (by decide) (fun K hK => ?_)
    refine value_ (w1 := ?_) (v := ?_) (by rfl) rfl ?_ ?_
    rotate_left 2
    ·go_simp
     constructor
     ·rfl
     ·rfl
    refine hK.out _ _ ⟨(blk_cell (blk_alloc BK233.out _) 0).trans rfl, (blk_cell (blk_alloc BK233.out _) 1).trans rfl, (blk_cell (blk_alloc BK227.out _) 0).trans rfl, (blk_cell (blk_alloc BK227.out _) 1).trans rfl⟩ (fun hHeld => ?_)
    clear hK K
    refine norm_ (a' := ?_) ?_ ?_
    rotate_left
    ·show Act.put _ (some 13) _ = _
     simp only [Act.put, List.setIfInBounds_toArray, List.set_cons_zero, List.set_cons_succ, i64_w, i32_w]
     rfl
    refine one_ (i := 5) (N := some 14) #[true, true, true, true, true, true, false, false] rfl rfl (one_of HT_.out (by kernel_rfl)) (by decide) (fun K hK => ?_)
    refine Kd.S_append_step k29 (w0 := w) w.heap.size (by rfl) (.tmp 10) (.tmp 13) 24 29 (.agg #[(.int .i64 0), (.slice none 0 0)]) 32 rfl Try.underlying24 info29 rfl (by decide) (by omega) (.slice Ao50 t230.length co50) t230 (⟨t234, t235⟩ : S29) [.int .i64 t234, .slice Ao55 t235.length co55] (fun k_ => k_ ≠ gb227) (fun k_ => some k_ = (.slice Ao55 t235.length co55 : Value).ownBlock) rfl rfl ?aP (fun k_ hk_ => ((Kd.R_mono (ok' := fun k_ => ((fun k_ => k_ ≠ gb227)) k_ ∧ some k_ ≠ (.slice Ao50 t230.length co50 : Value).ownBlock) (Kd.R_types (Kd.R_apart' (HO237.out) (Kd.S_typed HO232.out) (by decide)) BK227.out (by decide)) (fun k_ hk => ⟨hk.2, hk.1.2⟩))).1 k_ hk_.symm) ?aF ?aO ?aB ?aS ?aL ?_
    (case aP => exact k29_mkM _ _ _ (⟨t234, t235⟩ : S29) (Kd.R_mono (Kd.R_tight rfl (Kd.R_mono (ok' := fun k_ => ((fun k_ => k_ ≠ gb227)) k_ ∧ some k_ ≠ (.slice Ao50 t230.length co50 : Value).ownBlock) (Kd.R_types (Kd.R_apart' (HO237.out) (Kd.S_typed HO232.out) (by decide)) BK227.out (by decide)) (fun k_ hk => ⟨hk.2, hk.1.2⟩))) (fun _ h_ => h_)))
    (case aB => exact (ms HB))
    (case aF => exact (fun k_ hk => Kd.freshB (g := gb227) (o := .cells #[.int .i64 a1_0, .slice A1_1 l1_1.length c1_1] 29 (0, 0)) (mb BK227) k_ hk))
    (case aO => exact (by (with_reducible repeat (first | apply Kd.S_alloc | apply Kd.S_drewN | apply Kd.S_drew)); exact Kd.S_mono HO232.out (fun k_ hk => ⟨hk.1, fun e_ => hk.2 e_⟩)))
    (case aS => exact (below_size (ms HB)))
    (case aL => have := LMc5.out; omega)
    intro v239 w54 ho hb hg hat
    rw [← Ny238.out] at ho
    replace BK226 := Aside0.mk (blk_grown (g := gb226) (o := .cells #[.int .i64 a0_0, .slice A0_1 l0_1.length c0_1] 26 (0, 0)) (mb BK226) hg (Kd.S_ne HO232.out BK226.out (by decide)))
    replace BK227 := Aside0.mk (blk_grown (g := gb227) (o := .cells #[.int .i64 a1_0, .slice A1_1 l1_1.length c1_1] 29 (0, 0)) (mb BK227) hg (Kd.S_away HO232.out (fun _ hk => hk.1)))
    replace BK228 := Aside0.mk (blk_grown (g := gb228) (o := .cells #[.int .i64 0, .slice none 0 0] 26 (0, 0)) (mb BK228) hg (Kd.S_ne HO232.out BK228.out (by decide)))
    replace BK233 := Aside0.mk (blk_grown (g := gb233) (o := .cells #[.int .i64 t229, .slice Ao50 t230.length co50] 26 (0, 0)) (mb BK233) hg (Kd.S_ne HO232.out BK233.out (by decide)))
    replace HB := Aside0.mk (hb)
    have HO240 := Aside0.mk (ho)
    clear HO232
    clear HO237
    clear ho hb hg hat
    obtain ⟨Ao56, co56, eo56⟩ := Kd.S_slice HO240.out
    (first | subst eo56 | (injection eo56 with f1_ f2_ f3_; have f4_ := f1_.symm; have f5_ := f3_.symm; clear f1_ f2_ f3_; subst f4_; subst f5_))
    refine hK.out _ _ ⟨(c2 BK233).1, (c2 BK233).2, (c2 BK227).1, (c2 BK227).2⟩ (fun hHeld => ?_)
    clear hK K
    refine norm_ (a' := ?_) ?_ ?_
    rotate_left
    ·show Act.put _ (some 14) _ = _
     simp only [Act.put, List.setIfInBounds_toArray, List.set_cons_zero, List.set_cons_succ, i64_w, i32_w]
     rfl
    refine pure_ (i := 6) (N := some 15) (v := ?_) (a' := ?_) #[true, true, true, true, true, true, true, false] rfl rfl (any_of HT_.out (by kernel_rfl)) (fun _ _ _ h => h) (Or.inl ⟨by rfl, ?_⟩) ?_ ?_
    rotate_left
    ·intro w'
     go_simp
     with_reducible rfl
    rotate_left
    ·simp only [Act.put, List.setIfInBounds_toArray, List.set_cons_zero, List.set_cons_succ, i64_w, i32_w]
     rfl
    refine last_ (i := 7) (N := none) #[true, true, true, true, true, true, true, true] rfl rfl (one_of HT_.out (by kernel_rfl)) (by decide) (fun K hK => ?_)
    have hs57 : w54.cell? ⟨gb233, 1, none⟩ = some (.slice Ao50 t230.length co50) := (blk_cell BK233.out 1).trans rfl
    have hfs57 := blk_frozen BK233.out 1
    have hns57_0 := NB226_233.out
    have hns57_1 := NB227_233.out
    have hns57_2 := NB228_233.out
    have hms57_0 := NB233_226.out
    have hms57_1 := NB233_227.out
    have hms57_2 := NB233_228.out
    refine skip_ (w1 := ?_) (by rfl) rfl ?_ ?_
    rotate_left
    ·go_simp
     rfl
    refine hK.out _ _ ?_
    clear hK K
    refine done_ (done_of HT_.out (by kernel_rfl)) ?_
    obtain ⟨hcz58_0, hcz58_1⟩ := c2 BK226
    have hfz58_0 := blk_frozen BK226.out 0
    have hfz58_1 := blk_frozen BK226.out 1
    try go_wp2_with (first | ((with_reducible refine gate_callee (f := 73) rfl ?_); refine gl (some 17) rfl rfl Try.func73 (by kernel_rfl) rfl #[.agg #[.int .i64 a0_0, .slice A0_1 l0_1.length c0_1]] rfl ?_; (with_reducible refine (impl_IsValidSystem.calls k a0_0 _ _ l0_1 true _ ?side1 ?side2 A6.out).mono ?_); (case side1 => exact Kd.C_below HR0_1.out (ms HB)); (case side2 => exact HC0_1.out); rintro e w59 ⟨rfl, hb⟩; refine ⟨_, rfl, ?_⟩; have n0_ := Aside0.mk (Kd.S_below (by (with_reducible repeat (first | apply Kd.S_alloc | apply Kd.S_drewN | apply Kd.S_drew)); exact (Kd.S_mono (Kd.S_far (p := ⟨gb233, 1, none⟩) (Kd.S_types HO240.out BK233.out (by decide)) (fun _ hk => hk.2) (.slice Ao56 y238.length co56)) (fun _ h_ => h_.1))) hb); have n1_ := bf BK226 hb; have n2_ := bf BK227 hb; have n3_ := bf BK228 hb; have n4_ := Aside0.mk (blk_below (g := gb233) (o := .cells #[.int .i64 t229, .slice Ao56 y238.length co56] 26 (0, 0)) (by (with_reducible repeat (first | refine blk_drewN ?_ _ | refine blk_drew ?_ | refine blk_alloc ?_ _)); refine blk_put (cs := #[.int .i64 t229, .slice Ao50 t230.length co50]) ?_ 1 _ rfl; (with_reducible repeat (first | refine blk_drewN ?_ _ | refine blk_drew ?_ | refine blk_alloc ?_ _)); exact BK233.out) hb); have n5_ := bs HB hb; clear HO240 BK226 BK227 BK228 BK233 HB; have HO240 := n0_; have BK226 := n1_; have BK227 := n2_; have BK228 := n3_; have BK233 := n4_; have HB := n5_; clear n0_ n1_ n2_ n3_ n4_ n5_; (try clear hb); obtain ⟨hcz60_0, hcz60_1⟩ := c2 BK233; have hfz60_0 := blk_frozen BK233.out 0; have hfz60_1 := blk_frozen BK233.out 1) | (go_at_call 73; (with_reducible refine (impl_IsValidSystem.calls k t229 _ _ y238 false _ ?side1 ?side2 A8.out).mono ?_); (case side1 => exact mc ((Kd.S_reads' HO240.out).2.2)); (case side2 => exact (Kd.S_reads' HO240.out).2.1); rintro e w61 ⟨rfl, hb⟩; replace HO240 := bS HO240 hb; replace BK226 := bb BK226 hb; replace BK227 := bb BK227 hb; replace BK228 := bb BK228 hb; replace BK233 := bb BK233 hb; replace HB := bs HB hb; (try clear hb); obtain ⟨hcz62_0, hcz62_1⟩ := c2 BK226; have hfz62_0 := blk_frozen BK226.out 0; have hfz62_1 := blk_frozen BK226.out 1) | ((with_reducible refine gate_callee (f := 92) rfl ?_); refine gl (some 25) rfl rfl Try.func92 (by kernel_rfl) rfl #[.agg #[.int .i64 a0_0, .slice A0_1 l0_1.length c0_1]] rfl ?_; (with_reducible refine (impl_copySystem.calls k a0_0 _ _ l0_1 t243 t244 _ ?side1 ?side2 A37.out).mono ?_); (case side1 => exact mc ((Kd.C_below HR0_1.out HB.out))); (case side2 => exact HC0_1.out); rintro e w63 ⟨v245, rfl, ho0, hb⟩; refine ⟨_, rfl, ?_⟩; have HO246 := Aside0.mk (Kd.S_lower (Kd.S_newB (Kd.S_new' ho0 (Kd.S_lt (mS HO240))) (g := gb227) (o := .cells #[.int .i64 a1_0, .slice A1_1 l1_1.length c1_1] 29 (0, 0)) (mb BK227)) (below_size (ms HB))); replace HO240 := Aside0.mk (Kd.S_elder' (mS HO240) (Kd.S_base ho0) hb); replace BK226 := bb BK226 hb; replace BK227 := bb BK227 hb; replace BK228 := bb BK228 hb; replace BK233 := bb BK233 hb; replace HB := bs HB hb; (try clear hb); (try clear ho0); have hnb64 := NB228_227.out; have hnc64 := NB227_228.out; obtain ⟨hcz65_0, hcz65_1⟩ := c2 BK228; have hfz65_0 := blk_frozen BK228.out 0; have hfz65_1 := blk_frozen BK228.out 1; obtain ⟨Ao66, co66, eo66⟩ := Kd.S_slice HO246.out; subst eo66))
    refine bodyPost_ret (results_ct rfl _ _ gb228 26 #[.int .i64 t243, .slice Ao66 t244.length co66] (0, 0) _ rfl (by (with_reducible repeat (first | refine blk_drewN ?_ _ | refine blk_drew ?_ | refine blk_alloc ?_ _)); refine blk_put (cs := #[.int .i64 t243, .slice none 0 0]) ?_ 1 _ rfl; (with_reducible repeat (first | refine blk_drewN ?_ _ | refine blk_drew ?_ | refine blk_alloc ?_ _)); refine blk_put (cs := #[.int .i64 0, .slice none 0 0]) ?_ 0 _ rfl; (with_reducible repeat (first | refine blk_drewN ?_ _ | refine blk_drew ?_ | refine blk_alloc ?_ _)); exact BK228.out) Try.underlying26 rfl (by kernel_rfl)) rfl ?_
    exact ⟨_, by first | rfl | (simp [errW_none, errW_some] <;> rfl) | (simp [*, errW_none, errW_some] <;> rfl), by (with_reducible repeat (first | apply Kd.S_alloc | apply Kd.S_drewN | apply Kd.S_drew)); exact Kd.S_mono (Kd.S_far (p := ⟨gb228, 1, none⟩) (Kd.S_far (p := ⟨gb228, 0, none⟩) (Kd.S_types HO246.out BK228.out (by decide)) (fun _ hk => hk.2) (.int .i64 t243)) (fun _ hk => hk.2) (.slice Ao66 t244.length co66)) (fun _ hk => trivial), ms HB⟩
  ·replace c7 := Bool.eq_false_iff.mpr c7
   subst c7
   have H1 : ((impl_copySystem.f k a0_0 l0_1).bind fun bt247 => (some (bt247.1, bt247.2, false))) = some (r1, r2, r3) := by rw [if_neg (show ¬ (false = true) by decide)] at H; exact H
   clear H
   have H := H1
   clear H1
   replace H := Option.bind_eq_some_iff.mp H
   obtain ⟨⟨t247, t248⟩, A670, H⟩ := H
   replace H : (some (t247, t248, false)) = some (r1, r2, r3) := H
   have A67 := Aside0.mk A670
   clear A670
   simp only [Option.some.injEq, Prod.mk.injEq] at H
   obtain ⟨rfl, rfl, rfl⟩ := H
   go_enter Try.func27, Try.ntmps27
   try go_wp2_with (first | ((with_reducible refine gate_dst (N := 2) rfl ?_); refine box_event ?hg (N := 2) ?hd (cs := #[.int .i64 a0_0, .slice A0_1 l0_1.length c0_1]) (t := 26) ?hr ?_; (case hd => rfl); (case hg => rfl); (case hr => first | (go_simp; done) | (go_simp; rfl)); intro gb226 hg w68 hbox hb; have BK226 := Aside0.mk (hbox); have GW226 := gw hg HB; have GE226 := gw hg HB; replace HB := bs HB hb; clear hb hbox hg) | ((with_reducible refine gate_dst (N := 3) rfl ?_); refine box_event ?hg (N := 3) ?hd (cs := #[.int .i64 a1_0, .slice A1_1 l1_1.length c1_1]) (t := 29) ?hr ?_; (case hd => rfl); (case hg => rfl); (case hr => first | (go_simp; done) | (go_simp; rfl)); intro gb227 hg w69 hbox hb; have BK227 := Aside0.mk (hbox); have GW227 := gw hg HB; have GE227 := gw hg HB; replace HB := bs HB hb; have NB226_227 := nl hg BK226; have NB227_226 := ng hg BK226; replace BK226 := bb BK226 hb; clear hb hbox hg) | ((with_reducible refine gate_dst (N := 4) rfl ?_); refine box_event ?hg (N := 4) ?hd (cs := #[.int .i64 0, .slice none 0 0]) (t := 26) ?hr ?_; (case hd => rfl); (case hg => rfl); (case hr => first | (go_simp; done) | (go_simp; rfl)); intro gb228 hg w70 hbox hb; have BK228 := Aside0.mk (hbox); have GW228 := gw hg HB; have GE228 := gw hg HB; replace HB := bs HB hb; have NB226_228 := nl hg BK226; have NB228_226 := ng hg BK226; replace BK226 := bb BK226 hb; have NB227_228 := nl hg BK227; have NB228_227 := ng hg BK227; replace BK227 := bb BK227 hb; clear hb hbox hg; have hnb71 := NB226_227.out; have hnc71 := NB227_226.out; have hnb72 := NB226_228.out; have hnc72 := NB228_226.out; obtain ⟨hcz73_0, hcz73_1⟩ := c2 BK226; have hfz73_0 := blk_frozen BK226.out 0; have hfz73_1 := blk_frozen BK226.out 1) | ((with_reducible refine gate_callee (f := 92) rfl ?_); refine gl (some 8) rfl rfl Try.func92 (by kernel_rfl) rfl #[.agg #[.int .i64 a0_0, .slice A0_1 l0_1.length c0_1]] rfl ?_; (with_reducible refine (impl_copySystem.calls k a0_0 _ _ l0_1 t229 t230 _ ?side1 ?side2 A3.out).mono ?_); (case side1 => exact mc ((Kd.C_below HR0_1.out HB.out))); (case side2 => exact HC0_1.out); rintro e w74 ⟨v231, rfl, ho0, hb⟩; refine ⟨_, rfl, ?_⟩; have HO232 := Aside0.mk (Kd.S_lower (Kd.S_newB ho0 (g := gb227) (o := .cells #[.int .i64 a1_0, .slice A1_1 l1_1.length c1_1] 29 (0, 0)) (mb BK227)) (below_size (ms HB))); replace BK226 := bb BK226 hb; replace BK227 := bb BK227 hb; replace BK228 := bb BK228 hb; replace HB := bs HB hb; (try clear hb); (try clear ho0)) | ((with_reducible refine gate_dst (N := 6) rfl ?_); refine box_event ?hg (N := 6) ?hd (cs := #[.int .i64 0, .slice none 0 0]) (t := 26) ?hr ?_; (case hd => rfl); (case hg => rfl); (case hr => first | (go_simp; done) | (go_simp; rfl)); intro gb233 hg w75 hbox hb; replace HO232 := bS HO232 hb; have BK233 := Aside0.mk (hbox); have GW233 := gw hg HB; have GE233 := gw hg HB; replace HB := bs HB hb; have NB226_233 := nl hg BK226; have NB233_226 := ng hg BK226; replace BK226 := bb BK226 hb; have NB227_233 := nl hg BK227; have NB233_227 := ng hg BK227; replace BK227 := bb BK227 hb; have NB228_233 := nl hg BK228; have NB233_228 := ng hg BK228; replace BK228 := bb BK228 hb; clear hb hbox hg; have hnb76 := NB233_226.out; have hnc76 := NB226_233.out; have hnb77 := NB233_227.out; have hnc77 := NB227_233.out; have hnb78 := NB233_228.out; have hnc78 := NB228_233.out; obtain ⟨hcz79_0, hcz79_1⟩ := c2 BK233; have hfz79_0 := blk_frozen BK233.out 0; have hfz79_1 := blk_frozen BK233.out 1; obtain ⟨Ao80, co80, eo80⟩ := Kd.S_slice HO232.out; subst eo80))
   have n0_ : Aside0 (Kd.S k29 29 ((w75.setCell ⟨gb233, 0, none⟩ (.int .i64 t229)).setCell ⟨gb233, 1, none⟩ (.slice Ao80 t230.length co80)) w.heap.size (fun k_ => k_ ≠ gb227) (.slice Ao80 t230.length co80) t230) := ⟨by (with_reducible repeat (first | apply Kd.S_alloc | apply Kd.S_drewN | apply Kd.S_drew)); exact Kd.S_mono (Kd.S_far (p := ⟨gb233, 1, none⟩) (Kd.S_far (p := ⟨gb233, 0, none⟩) (Kd.S_types HO232.out BK233.out (by decide)) (fun _ hk => hk.2) (.int .i64 t229)) (fun _ hk => hk.2) (.slice Ao80 t230.length co80)) (fun _ hk => hk.1.2)⟩
   have n1_ : Aside0 (((w75.setCell ⟨gb233, 0, none⟩ (.int .i64 t229)).setCell ⟨gb233, 1, none⟩ (.slice Ao80 t230.length co80)).heap[gb226]? = some (.cells #[.int .i64 a0_0, .slice A0_1 l0_1.length c0_1] 26 (0, 0))) := ⟨by (with_reducible repeat (first | refine blk_drewN ?_ _ | refine blk_drew ?_ | refine blk_alloc ?_ _)); refine blk_far ?_ NB226_233.out _; (with_reducible repeat (first | refine blk_drewN ?_ _ | refine blk_drew ?_ | refine blk_alloc ?_ _)); refine blk_far ?_ NB226_233.out _; (with_reducible repeat (first | refine blk_drewN ?_ _ | refine blk_drew ?_ | refine blk_alloc ?_ _)); exact BK226.out⟩
   have n2_ : Aside0 (((w75.setCell ⟨gb233, 0, none⟩ (.int .i64 t229)).setCell ⟨gb233, 1, none⟩ (.slice Ao80 t230.length co80)).heap[gb227]? = some (.cells #[.int .i64 a1_0, .slice A1_1 l1_1.length c1_1] 29 (0, 0))) := ⟨by (with_reducible repeat (first | refine blk_drewN ?_ _ | refine blk_drew ?_ | refine blk_alloc ?_ _)); refine blk_far ?_ NB227_233.out _; (with_reducible repeat (first | refine blk_drewN ?_ _ | refine blk_drew ?_ | refine blk_alloc ?_ _)); refine blk_far ?_ NB227_233.out _; (with_reducible repeat (first | refine blk_drewN ?_ _ | refine blk_drew ?_ | refine blk_alloc ?_ _)); exact BK227.out⟩
   have n3_ : Aside0 (((w75.setCell ⟨gb233, 0, none⟩ (.int .i64 t229)).setCell ⟨gb233, 1, none⟩ (.slice Ao80 t230.length co80)).heap[gb228]? = some (.cells #[.int .i64 0, .slice none 0 0] 26 (0, 0))) := ⟨by (with_reducible repeat (first | refine blk_drewN ?_ _ | refine blk_drew ?_ | refine blk_alloc ?_ _)); refine blk_far ?_ NB228_233.out _; (with_reducible repeat (first | refine blk_drewN ?_ _ | refine blk_drew ?_ | refine blk_alloc ?_ _)); refine blk_far ?_ NB228_233.out _; (with_reducible repeat (first | refine blk_drewN ?_ _ | refine blk_drew ?_ | refine blk_alloc ?_ _)); exact BK228.out⟩
   have n4_ : Aside0 (((w75.setCell ⟨gb233, 0, none⟩ (.int .i64 t229)).setCell ⟨gb233, 1, none⟩ (.slice Ao80 t230.length co80)).heap[gb233]? = some (.cells #[.int .i64 t229, .slice Ao80 t230.length co80] 26 (0, 0))) := ⟨by (with_reducible repeat (first | refine blk_drewN ?_ _ | refine blk_drew ?_ | refine blk_alloc ?_ _)); refine blk_put (cs := #[.int .i64 t229, .slice none 0 0]) ?_ 1 _ rfl; (with_reducible repeat (first | refine blk_drewN ?_ _ | refine blk_drew ?_ | refine blk_alloc ?_ _)); refine blk_put (cs := #[.int .i64 0, .slice none 0 0]) ?_ 0 _ rfl; (with_reducible repeat (first | refine blk_drewN ?_ _ | refine blk_drew ?_ | refine blk_alloc ?_ _)); exact BK233.out⟩
   have n5_ : Aside0 (Below w.heap.size w ((w75.setCell ⟨gb233, 0, none⟩ (.int .i64 t229)).setCell ⟨gb233, 1, none⟩ (.slice Ao80 t230.length co80))) := ⟨ms HB⟩
   (try clear HO232)
   (try clear BK226)
   (try clear BK227)
   (try clear BK228)
   (try clear BK233)
   (try clear HB)
   generalize ((w75.setCell ⟨gb233, 0, none⟩ (.int .i64 t229)).setCell ⟨gb233, 1, none⟩ (.slice Ao80 t230.length co80)) = w81 at n0_ n1_ n2_ n3_ n4_ n5_ ⊢
   have HO232 := n0_
   have BK226 := n1_
   have BK227 := n2_
   have BK228 := n3_
   have BK233 := n4_
   have HB := n5_
   clear n0_ n1_ n2_ n3_ n4_ n5_
   replace HO232 := Aside0.mk (Kd.S_drew HO232.out)
   replace BK226 := Aside0.mk (blk_drew BK226.out)
   replace BK227 := Aside0.mk (blk_drew BK227.out)
   replace BK228 := Aside0.mk (blk_drew BK228.out)
   replace BK233 := Aside0.mk (blk_drew BK233.out)
   replace HB := Aside0.mk (below_drew1 HB.out)
   refine start_ (n := 8) (S := fun w' => w'.cell? ⟨gb233, 0, none⟩ = some (.int .i64 t229) ∧ w'.cell? ⟨gb233, 1, none⟩ = some (.slice Ao80 t230.length co80) ∧ w'.cell? ⟨gb227, 0, none⟩ = some (.int .i64 a1_0) ∧ w'.cell? ⟨gb227, 1, none⟩ = some (.slice A1_1 l1_1.length c1_1)) (ds := [7]) #[false, false, false, false, false, false, false, false] (by kernel_rfl) rfl rfl ⟨(c2 BK233).1, (c2 BK233).2, (c2 BK227).1, (c2 BK227).2⟩ (fun hHeld => ?_); refine with_tabW impl_AddRow.tab2 impl_AddRow.bits2 (fun HT_ HW_ => ?_)
   generalize w81.drew = w82 at HO232 BK226 BK227 BK228 BK233 HB hHeld ⊢
   refine pure_ (i := 0) (N := some 9) (v := ?_) (a' := ?_) #[true, false, false, false, false, false, false, false] rfl rfl (any_of HT_.out (by kernel_rfl)) (fun _ _ _ h => h) (Or.inl ⟨by rfl, ?_⟩) ?_ ?_
   rotate_left
   ·intro w'
    go_simp
    with_reducible rfl
   rotate_left
   ·simp only [Act.put, List.setIfInBounds_toArray, List.set_cons_zero, List.set_cons_succ, i64_w, i32_w]
    rfl
   refine take_ (i := 1) (N := some 10) (v := ?_) (a' := ?_) #[true, true, false, false, false, false, false, false] rfl rfl (take_ofW HT_.out HW_.out (by kernel_rfl)) (fun _ _ _ h => h) (Or.inl ⟨by rfl, ?_⟩) hHeld ?_ ?_
   rotate_left
   ·rintro w' ⟨s0, s1, s2, s3⟩
    go_simp
    with_reducible rfl
   rotate_left
   ·simp only [Act.put, List.setIfInBounds_toArray, List.set_cons_zero, List.set_cons_succ, i64_w, i32_w]
    rfl
   refine take_ (i := 2) (N := some 11) (v := ?_) (a' := ?_) #[true, true, true, false, false, false, false, false] rfl rfl (take_ofW HT_.out HW_.out (by kernel_rfl)) (fun _ _ _ h => h) (Or.inl ⟨by rfl, ?_⟩) hHeld ?_ ?_
   rotate_left
   ·rintro w' ⟨s0, s1, s2, s3⟩
    go_simp
    with_reducible rfl
   rotate_left
   ·simp only [Act.put, List.setIfInBounds_toArray, List.set_cons_zero, List.set_cons_succ, i64_w, i32_w]
    rfl
   refine one_ (i := 3) (N := some 12) #[true, true, true, true, false, false, false, false] rfl rfl (one_of HT_.out (by kernel_rfl)) (by decide) (fun K hK => ?_)
   refine gs Try.func93 (by kernel_rfl) rfl #[.agg #[.int .i64 a1_0, .slice A1_1 l1_1.length c1_1]] (by rfl) rfl rfl ?_
   with_reducible refine (impl_copyLin.calls a1_0 _ _ l1_1 t234 t235 _ ?side1 ?side2 A4.out).mono ?_
   (case side1 => exact mc ((Kd.C_below HR1_1.out HB.out)))
   (case side2 => exact HC1_1.out)
   rintro e w83 ⟨v236, rfl, ho0, hb⟩
   refine ⟨_, rfl, ?_⟩
   replace HO232 := lS HO232 ho0 hb
   have HO237 := Aside0.mk (Kd.R_lower ho0 (below_size (ms HB)))
   replace BK226 := bb BK226 hb
   replace BK227 := bb BK227 hb
   replace BK228 := bb BK228 hb
   replace BK233 := bb BK233 hb
   replace HB := bs HB hb
   (try clear hb)
   (try clear hb2)
   (try clear hk)
   (try clear hi)
   (try clear ho0)
   obtain ⟨Ao85, co85, eo85⟩ := Kd.R_slice HO237.out
   (first | subst eo85 | (injection eo85 with f1_ f2_ f3_; have f4_ := f1_.symm; have f5_ := f3_.symm; clear f1_ f2_ f3_; subst f4_; subst f5_))
   refine hK.out _ _ ⟨(c2 BK233).1, (c2 BK233).2, (c2 BK227).1, (c2 BK227).2⟩ (fun hHeld => ?_)
   clear hK K
   refine norm_ (a' := ?_) ?_ ?_
   rotate_left
   ·show Act.put _ (some 12) _ = _
    simp only [Act.put, List.setIfInBounds_toArray, List.set_cons_zero, List.set_cons_succ, i64_w, i32_w]
    rfl
   refine one_ (i := 4) (N := some 13) #[true, true, true, true, true, false, false, false] rfl rfl (one_of HT_.out (by kernel_rfl)) (by decide) (fun K hK => ?_)
   refine value_ (w1 := ?_) (v := ?_) (by rfl) rfl ?_ ?_
   rotate_left 2
   ·go_simp
    constructor
    ·rfl
    ·rfl
   refine hK.out _ _ ⟨(blk_cell (blk_alloc BK233.out _) 0).trans rfl, (blk_cell (blk_alloc BK233.out _) 1).trans rfl, (blk_cell (blk_alloc BK227.out _) 0).trans rfl, (blk_cell (blk_alloc BK227.out _) 1).trans rfl⟩ (fun hHeld => ?_)
   clear hK K
   refine norm_ (a' := ?_) ?_ ?_
   rotate_left
   ·show Act.put _ (some 13) _ = _
    simp only [Act.put, List.setIfInBounds_toArray, List.set_cons_zero, List.set_cons_succ, i64_w, i32_w]
    rfl
   refine one_ (i := 5) (N := some 14) #[true, true, true, true, true, true, false, false] rfl rfl (one_of HT_.out (by kernel_rfl)) (by decide) (fun K hK => ?_)
   refine Kd.S_append_step k29 (w0 := w) w.heap.size (by rfl) (.tmp 10) (.tmp 13) 24 29 (.agg #[(.int .i64 0), (.slice none 0 0)]) 32 rfl Try.underlying24 info29 rfl (by decide) (by omega) (.slice Ao80 t230.length co80) t230 (⟨t234, t235⟩ : S29) [.int .i64 t234, .slice Ao85 t235.length co85] (fun k_ => k_ ≠ gb227) (fun k_ => some k_ = (.slice Ao85 t235.length co85 : Value).ownBlock) rfl rfl ?aP (fun k_ hk_ => ((Kd.R_mono (ok' := fun k_ => ((fun k_ => k_ ≠ gb227)) k_ ∧ some k_ ≠ (.slice Ao80 t230.length co80 : Value).ownBlock) (Kd.R_types (Kd.R_apart' (HO237.out) (Kd.S_typed HO232.out) (by decide)) BK227.out (by decide)) (fun k_ hk => ⟨hk.2, hk.1.2⟩))).1 k_ hk_.symm) ?aF ?aO ?aB ?aS ?aL ?_
   (case aP => exact k29_mkM _ _ _ (⟨t234, t235⟩ : S29) (Kd.R_mono (Kd.R_tight rfl (Kd.R_mono (ok' := fun k_ => ((fun k_ => k_ ≠ gb227)) k_ ∧ some k_ ≠ (.slice Ao80 t230.length co80 : Value).ownBlock) (Kd.R_types (Kd.R_apart' (HO237.out) (Kd.S_typed HO232.out) (by decide)) BK227.out (by decide)) (fun k_ hk => ⟨hk.2, hk.1.2⟩))) (fun _ h_ => h_)))
   (case aB => exact (ms HB))
   (case aF => exact (fun k_ hk => Kd.freshB (g := gb227) (o := .cells #[.int .i64 a1_0, .slice A1_1 l1_1.length c1_1] 29 (0, 0)) (mb BK227) k_ hk))
   (case aO => exact (by (with_reducible repeat (first | apply Kd.S_alloc | apply Kd.S_drewN | apply Kd.S_drew)); exact Kd.S_mono HO232.out (fun k_ hk => ⟨hk.1, fun e_ => hk.2 e_⟩)))
   (case aS => exact (below_size (ms HB)))
   (case aL => have := LMc5.out; omega)
   intro v239 w84 ho hb hg hat
   rw [← Ny238.out] at ho
   replace BK226 := Aside0.mk (blk_grown (g := gb226) (o := .cells #[.int .i64 a0_0, .slice A0_1 l0_1.length c0_1] 26 (0, 0)) (mb BK226) hg (Kd.S_ne HO232.out BK226.out (by decide)))
   replace BK227 := Aside0.mk (blk_grown (g := gb227) (o := .cells #[.int .i64 a1_0, .slice A1_1 l1_1.length c1_1] 29 (0, 0)) (mb BK227) hg (Kd.S_away HO232.out (fun _ hk => hk.1)))
   replace BK228 := Aside0.mk (blk_grown (g := gb228) (o := .cells #[.int .i64 0, .slice none 0 0] 26 (0, 0)) (mb BK228) hg (Kd.S_ne HO232.out BK228.out (by decide)))
   replace BK233 := Aside0.mk (blk_grown (g := gb233) (o := .cells #[.int .i64 t229, .slice Ao80 t230.length co80] 26 (0, 0)) (mb BK233) hg (Kd.S_ne HO232.out BK233.out (by decide)))
   replace HB := Aside0.mk (hb)
   have HO240 := Aside0.mk (ho)
   clear HO232
   clear HO237
   clear ho hb hg hat
   obtain ⟨Ao86, co86, eo86⟩ := Kd.S_slice HO240.out
   (first | subst eo86 | (injection eo86 with f1_ f2_ f3_; have f4_ := f1_.symm; have f5_ := f3_.symm; clear f1_ f2_ f3_; subst f4_; subst f5_))
   refine hK.out _ _ ⟨(c2 BK233).1, (c2 BK233).2, (c2 BK227).1, (c2 BK227).2⟩ (fun hHeld => ?_)
   clear hK K
   refine norm_ (a' := ?_) ?_ ?_
   rotate_left
   ·show Act.put _ (some 14) _ = _
    simp only [Act.put, List.setIfInBounds_toArray, List.set_cons_zero, List.set_cons_succ, i64_w, i32_w]
    rfl
   refine pure_ (i := 6) (N := some 15) (v := ?_) (a' := ?_) #[true, true, true, true, true, true, true, false] rfl rfl (any_of HT_.out (by kernel_rfl)) (fun _ _ _ h => h) (Or.inl ⟨by rfl, ?_⟩) ?_ ?_
   rotate_left
   ·intro w'
    go_simp
    with_reducible rfl
   rotate_left
   ·simp only [Act.put, List.setIfInBounds_toArray, List.set_cons_zero, List.set_cons_succ, i64_w, i32_w]
    rfl
   refine last_ (i := 7) (N := none) #[true, true, true, true, true, true, true, true] rfl rfl (one_of HT_.out (by kernel_rfl)) (by decide) (fun K hK => ?_)
   have hs87 : w84.cell? ⟨gb233, 1, none⟩ = some (.slice Ao80 t230.length co80) := (blk_cell BK233.out 1).trans rfl
   have hfs87 := blk_frozen BK233.out 1
   have hns87_0 := NB226_233.out
   have hns87_1 := NB227_233.out
   have hns87_2 := NB228_233.out
   have hms87_0 := NB233_226.out
   have hms87_1 := NB233_227.out
   have hms87_2 := NB233_228.out
   refine skip_ (w1 := ?_) (by rfl) rfl ?_ ?_
   rotate_left
   ·go_simp
    rfl
   refine hK.out _ _ ?_
   clear hK K
   refine done_ (done_of HT_.out (by kernel_rfl)) ?_
   obtain ⟨hcz88_0, hcz88_1⟩ := c2 BK226
   have hfz88_0 := blk_frozen BK226.out 0
   have hfz88_1 := blk_frozen BK226.out 1
   try go_wp2_with (first | ((with_reducible refine gate_callee (f := 73) rfl ?_); refine gl (some 17) rfl rfl Try.func73 (by kernel_rfl) rfl #[.agg #[.int .i64 a0_0, .slice A0_1 l0_1.length c0_1]] rfl ?_; (with_reducible refine (impl_IsValidSystem.calls k a0_0 _ _ l0_1 false _ ?side1 ?side2 A6.out).mono ?_); (case side1 => exact Kd.C_below HR0_1.out (ms HB)); (case side2 => exact HC0_1.out); rintro e w89 ⟨rfl, hb⟩; refine ⟨_, rfl, ?_⟩; have n0_ := Aside0.mk (Kd.S_below (by (with_reducible repeat (first | apply Kd.S_alloc | apply Kd.S_drewN | apply Kd.S_drew)); exact (Kd.S_mono (Kd.S_far (p := ⟨gb233, 1, none⟩) (Kd.S_types HO240.out BK233.out (by decide)) (fun _ hk => hk.2) (.slice Ao86 y238.length co86)) (fun _ h_ => h_.1))) hb); have n1_ := bf BK226 hb; have n2_ := bf BK227 hb; have n3_ := bf BK228 hb; have n4_ := Aside0.mk (blk_below (g := gb233) (o := .cells #[.int .i64 t229, .slice Ao86 y238.length co86] 26 (0, 0)) (by (with_reducible repeat (first | refine blk_drewN ?_ _ | refine blk_drew ?_ | refine blk_alloc ?_ _)); refine blk_put (cs := #[.int .i64 t229, .slice Ao80 t230.length co80]) ?_ 1 _ rfl; (with_reducible repeat (first | refine blk_drewN ?_ _ | refine blk_drew ?_ | refine blk_alloc ?_ _)); exact BK233.out) hb); have n5_ := bs HB hb; clear HO240 BK226 BK227 BK228 BK233 HB; have HO240 := n0_; have BK226 := n1_; have BK227 := n2_; have BK228 := n3_; have BK233 := n4_; have HB := n5_; clear n0_ n1_ n2_ n3_ n4_ n5_; (try clear hb); obtain ⟨hcz90_0, hcz90_1⟩ := c2 BK226; have hfz90_0 := blk_frozen BK226.out 0; have hfz90_1 := blk_frozen BK226.out 1) | ((with_reducible refine gate_callee (f := 92) rfl ?_); refine gl (some 25) rfl rfl Try.func92 (by kernel_rfl) rfl #[.agg #[.int .i64 a0_0, .slice A0_1 l0_1.length c0_1]] rfl ?_; (with_reducible refine (impl_copySystem.calls k a0_0 _ _ l0_1 t247 t248 _ ?side1 ?side2 A67.out).mono ?_); (case side1 => exact mc ((Kd.C_below HR0_1.out HB.out))); (case side2 => exact HC0_1.out); rintro e w91 ⟨v249, rfl, ho0, hb⟩; refine ⟨_, rfl, ?_⟩; have HO250 := Aside0.mk (Kd.S_lower (Kd.S_newB (Kd.S_new' ho0 (Kd.S_lt (mS HO240))) (g := gb227) (o := .cells #[.int .i64 a1_0, .slice A1_1 l1_1.length c1_1] 29 (0, 0)) (mb BK227)) (below_size (ms HB))); replace HO240 := Aside0.mk (Kd.S_elder' (mS HO240) (Kd.S_base ho0) hb); replace BK226 := bb BK226 hb; replace BK227 := bb BK227 hb; replace BK228 := bb BK228 hb; replace BK233 := bb BK233 hb; replace HB := bs HB hb; (try clear hb); (try clear ho0); have hnb92 := NB228_227.out; have hnc92 := NB227_228.out; obtain ⟨hcz93_0, hcz93_1⟩ := c2 BK228; have hfz93_0 := blk_frozen BK228.out 0; have hfz93_1 := blk_frozen BK228.out 1; obtain ⟨Ao94, co94, eo94⟩ := Kd.S_slice HO250.out; subst eo94))
   refine bodyPost_ret (results_ct rfl _ _ gb228 26 #[.int .i64 t247, .slice Ao94 t248.length co94] (0, 0) _ rfl (by (with_reducible repeat (first | refine blk_drewN ?_ _ | refine blk_drew ?_ | refine blk_alloc ?_ _)); refine blk_put (cs := #[.int .i64 t247, .slice none 0 0]) ?_ 1 _ rfl; (with_reducible repeat (first | refine blk_drewN ?_ _ | refine blk_drew ?_ | refine blk_alloc ?_ _)); refine blk_put (cs := #[.int .i64 0, .slice none 0 0]) ?_ 0 _ rfl; (with_reducible repeat (first | refine blk_drewN ?_ _ | refine blk_drew ?_ | refine blk_alloc ?_ _)); exact BK228.out) Try.underlying26 rfl (by kernel_rfl)) rfl ?_
   exact ⟨_, by first | rfl | (simp [errW_none, errW_some] <;> rfl) | (simp [*, errW_none, errW_some] <;> rfl), by (with_reducible repeat (first | apply Kd.S_alloc | apply Kd.S_drewN | apply Kd.S_drew)); exact Kd.S_mono (Kd.S_far (p := ⟨gb228, 1, none⟩) (Kd.S_far (p := ⟨gb228, 0, none⟩) (Kd.S_types HO250.out BK228.out (by decide)) (fun _ hk => hk.2) (.int .i64 t247)) (fun _ hk => hk.2) (.slice Ao94 t248.length co94)) (fun _ hk => trivial), ms HB⟩
 ·rw [if_neg c5] at H
  exact absurd H (by simp)

/-! ### laws_eqIntS: function 36 -/
def laws_eqIntS.l0 : Nat → List Int → List Int → Int → Option (Bool)
 | 0, _, _, _ => none
 | k + 1, x0, x1, x5 => if x5 < (x0.length : Int) then (if 0 ≤ x5 then (if x5 < (x1.length : Int) then (if (rd x0 x5) = (rd x1 x5) then (laws_eqIntS.l0 k x0 x1 (wrap64 (x5 + 1))) else (some false)) else (none)) else (none)) else (some true)
def laws_eqIntS.f (k : Nat) (l0 : List Int) (l1 : List Int) : Option (Bool) := if (l0.length : Int) = (l1.length : Int) then (laws_eqIntS.l0 k l0 l1 0) else (some false)
theorem laws_eqIntS.mono_l : ∀ k, (∀ y0 y1 y2, LeO (laws_eqIntS.l0 k y0 y1 y2) (laws_eqIntS.l0 (k + 1) y0 y1 y2))
 | 0 => fun _ _ _ r h => by simp [laws_eqIntS.l0] at h
 | k + 1 => by
  have ih0 := laws_eqIntS.mono_l k
  ·intro y0 y1 y2
   unfold laws_eqIntS.l0
   repeat' first
   | (with_reducible exact ih0 _ _ _)
   | (with_reducible exact LeO.refl _)
   | (with_reducible exact LeO.none _)
   | (with_reducible refine LeO.ite ?_ ?_)
   | (with_reducible refine LeO.bind ?_ (fun _ => ?_))
   | exact ih0 _ _ _
   | exact LeO.none _
   | refine LeO.ite ?_ ?_
   | refine LeO.bind ?_ (fun _ => ?_)
theorem laws_eqIntS.mono : ∀ a0 a1 k, LeO (laws_eqIntS.f k a0 a1) (laws_eqIntS.f (k + 1) a0 a1) := by
 intro a0 a1 k
 have ih0 := laws_eqIntS.mono_l k
 unfold laws_eqIntS.f
 repeat' first
   | (with_reducible exact ih0 _ _ _)
   | (with_reducible exact LeO.refl _)
   | (with_reducible exact LeO.none _)
   | (with_reducible refine LeO.ite ?_ ?_)
   | (with_reducible refine LeO.bind ?_ (fun _ => ?_))
   | exact ih0 _ _ _
   | exact LeO.none _
   | refine LeO.ite ?_ ?_
   | refine LeO.bind ?_ (fun _ => ?_)
set_option maxHeartbeats 8000000 in
set_option maxRecDepth 100000 in
theorem laws_eqIntS.calls (k : Nat) (A0 : Option Addr) (c0 : Nat) (l0 : List Int) (A1 : Option Addr) (c1 : Nat) (l1 : List Int) (r : Bool) (w : World) (hr0 : Kd.C (Kd.int .i64) w A0 l0.length l0) (hc0 : l0.length ≤ c0) (hr1 : Kd.C (Kd.int .i64) w A1 l1.length l1) (hc1 : l1.length ≤ c1) (h : laws_eqIntS.f k l0 l1 = some r) :
  Calls Try.prog 36 #[.slice A0 l0.length c0, .slice A1 l1.length c1] w fun e w' => e = .returned (.bool r) ∧ Drawn0 w w' := by
 have HR0 := Aside0.mk hr0
 have HC0 := Aside0.mk hc0
 clear hr0 hc0
 have HR1 := Aside0.mk hr1
 have HC1 := Aside0.mk hc1
 clear hr1 hc1
 have H : (if (l0.length : Int) = (l1.length : Int) then (laws_eqIntS.l0 k l0 l1 0) else (some false)) = some r := h
 clear h
 by_cases c3 : (l0.length : Int) = (l1.length : Int)
 ·rw [if_pos c3] at H
  have c3b0 : ((l0.length : Int) == (l1.length : Int)) = true := beq_iff_eq.mpr c3
  have c3b1 : ((l0.length : Int) != (l1.length : Int)) = false := bne_eq_false_iff_eq.mpr c3
  have c3b2 : (l0.length == l1.length) = true := by first | simpa using c3 | (simp at c3 ⊢; omega)
  clear c3
  have H' := Aside0.mk H
  clear H
  go_enter Try.func36, Try.ntmps36
  go_wp2
  repeat (go_quiet (fail); try go_wp2)
  go_loopg [5] k (fun kq v5 w' => ∃ (x5_1 : Int), v5 = .int .i64 x5_1 ∧ Aside0 (laws_eqIntS.l0 kq l0 l1 x5_1 = some r) ∧ Aside0 (kq ≤ k) ∧ Drawn0 w w')
  case atStart => exact ⟨(0), (by first | rfl | (simp; done) | (simp [*]; done)), H', ⟨Nat.le_refl _⟩, by repeat (first | exact Drawn0.refl _ | apply Drawn0.step)⟩
  case round =>
   clear H'
   try clear c1
   try clear p2
   try clear c3
   try clear c3b0
   try clear c3b1
   try clear c3b2
   obtain ⟨x5_1, rfl, HA, HK1, ⟨m1, rfl⟩⟩ := hrel
   cases gk with
   | zero => exact absurd HA.out (by simp [laws_eqIntS.l0])
   | succ k1 =>
    have H := HA.out
    clear HA
    simp only [laws_eqIntS.l0] at H
    by_cases c4 : x5_1 < (l0.length : Int)
    ·rw [if_pos c4] at H
     have c4b0 : decide (x5_1 < (l0.length : Int)) = true := decide_eq_true c4
     clear c4
     by_cases c5 : 0 ≤ x5_1
     ·rw [if_pos c5] at H
      have c5b0 : decide (0 ≤ x5_1) = true := decide_eq_true c5
      clear c5
      by_cases c6 : x5_1 < (l1.length : Int)
      ·rw [if_pos c6] at H
       have c6b0 : decide (x5_1 < (l1.length : Int)) = true := decide_eq_true c6
       clear c6
       by_cases c7 : (rd l0 x5_1) = (rd l1 x5_1)
       ·rw [if_pos c7] at H
        have c7b0 : ((rd l0 x5_1) == (rd l1 x5_1)) = true := beq_iff_eq.mpr c7
        have c7b1 : ((rd l0 x5_1) != (rd l1 x5_1)) = false := bne_eq_false_iff_eq.mpr c7
        clear c7
        have H' := Aside0.mk H
        clear H
        have p251 : 0 ≤ (x5_1 : Int) := of_decide_eq_true (by first | (with_reducible assumption) | assumption)
        have q251 : x5_1 < (l0.length : Int) := of_decide_eq_true (by first | (with_reducible assumption) | assumption)
        obtain ⟨ad251, e251, hx251_0⟩ := Kd.at_int HR0.out x5_1 p251 q251
        cases e251
        replace p251 := eq_true p251
        replace q251 := eq_true q251
        have p252 : 0 ≤ (x5_1 : Int) := of_decide_eq_true (by first | (with_reducible assumption) | assumption)
        have q252 : x5_1 < (l1.length : Int) := of_decide_eq_true (by first | (with_reducible assumption) | assumption)
        obtain ⟨ad252, e252, hx252_0⟩ := Kd.at_int HR1.out x5_1 p252 q252
        cases e252
        replace p252 := eq_true p252
        replace q252 := eq_true q252
        go_wp2
        repeat (go_quiet (fail); try go_wp2)
        go_roundg k1
        case measure => have := HK1.out; omega
        case rel => exact ⟨(wrap64 (x5_1 + 1)), (by first | rfl | (simp; done) | (simp [*]; done)), H', ⟨by have := HK1.out; omega⟩, by repeat (first | exact Drawn0.refl _ | apply Drawn0.step)⟩
       ·rw [if_neg c7] at H
        have c7b0 : ((rd l0 x5_1) == (rd l1 x5_1)) = false := beq_eq_false_iff_ne.mpr c7
        have c7b1 : ((rd l0 x5_1) != (rd l1 x5_1)) = true := bne_iff_ne.mpr c7
        obtain rfl := Option.some.inj H
        have p251 : 0 ≤ (x5_1 : Int) := of_decide_eq_true (by first | (with_reducible assumption) | assumption)
        have q251 : x5_1 < (l0.length : Int) := of_decide_eq_true (by first | (with_reducible assumption) | assumption)
        obtain ⟨ad251, e251, hx251_0⟩ := Kd.at_int HR0.out x5_1 p251 q251
        cases e251
        replace p251 := eq_true p251
        replace q251 := eq_true q251
        have p252 : 0 ≤ (x5_1 : Int) := of_decide_eq_true (by first | (with_reducible assumption) | assumption)
        have q252 : x5_1 < (l1.length : Int) := of_decide_eq_true (by first | (with_reducible assumption) | assumption)
        obtain ⟨ad252, e252, hx252_0⟩ := Kd.at_int HR1.out x5_1 p252 q252
        cases e252
        replace p252 := eq_true p252
        replace q252 := eq_true q252
        go_wp2
        repeat (go_quiet (fail); try go_wp2)
        go_ret
        exact ⟨by first | rfl | (simp; done) | (simp [*]; done), by repeat (first | exact Drawn0.refl _ | apply Drawn0.step)⟩
      ·rw [if_neg c6] at H
       exact absurd H (by simp)
     ·rw [if_neg c5] at H
      exact absurd H (by simp)
    ·rw [if_neg c4] at H
     have c4b0 : decide (x5_1 < (l0.length : Int)) = false := decide_eq_false c4
     clear c4
     obtain rfl := Option.some.inj H
     go_wp2
     repeat (go_quiet (fail); try go_wp2)
     go_ret
     exact ⟨by first | rfl | (simp; done) | (simp [*]; done), by repeat (first | exact Drawn0.refl _ | apply Drawn0.step)⟩
 ·rw [if_neg c3] at H
  have c3b0 : ((l0.length : Int) == (l1.length : Int)) = false := beq_eq_false_iff_ne.mpr c3
  have c3b1 : ((l0.length : Int) != (l1.length : Int)) = true := bne_iff_ne.mpr c3
  have c3b2 : (l0.length == l1.length) = false := by first | simpa using c3 | (simp at c3 ⊢; omega)
  obtain rfl := Option.some.inj H
  go_enter Try.func36, Try.ntmps36
  go_wp2
  repeat (go_quiet (fail); try go_wp2)
  go_ret
  exact ⟨by first | rfl | (simp; done) | (simp [*]; done), by repeat (first | exact Drawn0.refl _ | apply Drawn0.step)⟩

end Go.Proofs.Ytlencemmlgkflaa.QFnExactAddRow
