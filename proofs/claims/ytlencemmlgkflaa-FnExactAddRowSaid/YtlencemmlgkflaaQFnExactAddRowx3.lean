-- Made by a program of this claim's own (wip/print): not the kit's print as it stands.
import Derived.Test.YtlencemmlgkflaaUFnExactAddRowTri
import Derived.Test.YtlencemmlgkflaaQFnExactAddRowx0
import Derived.Test.YtlencemmlgkflaaQFnExactAddRowx1
import Derived.Test.YtlencemmlgkflaaQFnExactAddRowx2
namespace Go.Proofs.Ytlencemmlgkflaa.QFnExactAddRow
open Go.RowKit Go.Proofs.YtlencemmlgkflaaV.PrintWords Go.Proofs.YtlencemmlgkflaaV.PrintLast Go.Proofs.YtlencemmlgkflaaV.PrintMore
attribute [local go_sem] max2_int min2_int max_two min_two max_three min_three max_four min_four   -- for this text's walks alone
set_option linter.unusedVariables false
set_option linter.unusedSimpArgs false

/-! ### spec_AddRow: function 24 -/
def spec_AddRow.f (k : Nat) (a0_0 : Int) (l0_1 : List (S29)) (a1_0 : Int) (l1_1 : List Int) : Option (Int × (List (S29)) × Bool) := (spec_l6Copy.f k a0_0 l0_1).bind fun bt139 => ((spec_l4Copy.f a1_0 l1_1).bind fun bt144 => (if bt139.2.length < 4398046511104 then ((some (bt139.2 ++ [(⟨bt144.1, bt144.2⟩ : S29)] : List (S29))).bind fun y148 => ((spec_IsValidSystem.f k a0_0 l0_1).bind fun t151 => (if t151 = true then ((spec_IsValidSystem.f k bt139.1 y148).bind fun t152 => (if t152 = true then (some (bt139.1, y148, true)) else ((spec_l6Copy.f k a0_0 l0_1).bind fun bt153 => (some (bt153.1, bt153.2, false))))) else ((spec_l6Copy.f k a0_0 l0_1).bind fun bt157 => (some (bt157.1, bt157.2, false)))))) else (none)))
theorem spec_AddRow.mono : ∀ a0 a1 a2 a3 k, LeO (spec_AddRow.f k a0 a1 a2 a3) (spec_AddRow.f (k + 1) a0 a1 a2 a3) := by
 intro a0 a1 a2 a3 k
 unfold spec_AddRow.f
 repeat' first
   | (with_reducible exact spec_IsValidSystem.mono _ _ _)
   | (with_reducible exact spec_l6Copy.mono _ _ _)
   | (with_reducible exact LeO.refl _)
   | (with_reducible exact LeO.none _)
   | (with_reducible refine LeO.ite ?_ ?_)
   | (with_reducible refine LeO.bind ?_ (fun _ => ?_))
   | exact spec_IsValidSystem.mono _ _ _
   | exact spec_l6Copy.mono _ _ _
   | exact LeO.none _
   | refine LeO.ite ?_ ?_
   | refine LeO.bind ?_ (fun _ => ?_)
def spec_AddRow.T2 : Bool × List (List Nat × List Nat) := (true, [([], []), ([0], [0]), ([], []), ([2], [2]), ([3], [3]), ([1, 4, 3], [1, 4]), ([0, 1, 2, 3, 4, 5], []), ([6, 5, 5, 0, 1, 2, 3, 4, 5], [5, 6])])
def spec_AddRow.B2 : List Nat := [0, 1, 0, 4, 12, 31, 63, 127]
theorem spec_AddRow.tab2 : rtab .any (opsOf Try.f24 2) = spec_AddRow.T2 := by kernel_rfl
theorem spec_AddRow.bits2 : waitsOk spec_AddRow.T2.2 spec_AddRow.B2 = true := by kernel_rfl
set_option maxHeartbeats 8000000 in
set_option maxRecDepth 100000 in
theorem spec_AddRow.calls (k : Nat) (a0_0 : Int) (A0_1 : Option Addr) (c0_1 : Nat) (l0_1 : List (S29)) (a1_0 : Int) (A1_1 : Option Addr) (c1_1 : Nat) (l1_1 : List Int) (r1 : Int) (r2 : List (S29)) (r3 : Bool) (w : World) (hr0_1 : Kd.C k29 w A0_1 l0_1.length l0_1) (hc0_1 : l0_1.length ≤ c0_1) (hr1_1 : Kd.C (Kd.int .i64) w A1_1 l1_1.length l1_1) (hc1_1 : l1_1.length ≤ c1_1) (h : spec_AddRow.f k a0_0 l0_1 a1_0 l1_1 = some (r1, r2, r3)) :
  Calls Try.prog 24 #[.agg #[.int .i64 a0_0, .slice A0_1 l0_1.length c0_1], .agg #[.int .i64 a1_0, .slice A1_1 l1_1.length c1_1]] w fun e w' => ∃ v1_ : Value, e = .returned (.tuple #[.agg #[.int .i64 r1, v1_], .bool r3]) ∧ Kd.S k29 29 w' w.heap.size (fun _ => True) v1_ r2 ∧ Below w.heap.size w w' := by
 have hu26 := Try.underlying26
 have hu29 := Try.underlying29
 have HR0_1 := Aside0.mk hr0_1
 have HC0_1 := Aside0.mk hc0_1
 clear hr0_1 hc0_1
 have HR1_1 := Aside0.mk hr1_1
 have HC1_1 := Aside0.mk hc1_1
 clear hr1_1 hc1_1
 have HB := Aside0.mk (Below.refl w.heap.size w)
 have H : ((spec_l6Copy.f k a0_0 l0_1).bind fun bt139 => ((spec_l4Copy.f a1_0 l1_1).bind fun bt144 => (if bt139.2.length < 4398046511104 then ((some (bt139.2 ++ [(⟨bt144.1, bt144.2⟩ : S29)] : List (S29))).bind fun y148 => ((spec_IsValidSystem.f k a0_0 l0_1).bind fun t151 => (if t151 = true then ((spec_IsValidSystem.f k bt139.1 y148).bind fun t152 => (if t152 = true then (some (bt139.1, y148, true)) else ((spec_l6Copy.f k a0_0 l0_1).bind fun bt153 => (some (bt153.1, bt153.2, false))))) else ((spec_l6Copy.f k a0_0 l0_1).bind fun bt157 => (some (bt157.1, bt157.2, false)))))) else (none)))) = some (r1, r2, r3) := h
 clear h
 replace H := Option.bind_eq_some_iff.mp H
 obtain ⟨⟨t139, t140⟩, A30, H⟩ := H
 replace H : ((spec_l4Copy.f a1_0 l1_1).bind fun bt144 => (if t140.length < 4398046511104 then ((some (t140 ++ [(⟨bt144.1, bt144.2⟩ : S29)] : List (S29))).bind fun y148 => ((spec_IsValidSystem.f k a0_0 l0_1).bind fun t151 => (if t151 = true then ((spec_IsValidSystem.f k t139 y148).bind fun t152 => (if t152 = true then (some (t139, y148, true)) else ((spec_l6Copy.f k a0_0 l0_1).bind fun bt153 => (some (bt153.1, bt153.2, false))))) else ((spec_l6Copy.f k a0_0 l0_1).bind fun bt157 => (some (bt157.1, bt157.2, false)))))) else (none))) = some (r1, r2, r3) := H
 have A3 := Aside0.mk A30
 clear A30
 replace H := Option.bind_eq_some_iff.mp H
 obtain ⟨⟨t144, t145⟩, A40, H⟩ := H
 replace H : (if t140.length < 4398046511104 then ((some (t140 ++ [(⟨t144, t145⟩ : S29)] : List (S29))).bind fun y148 => ((spec_IsValidSystem.f k a0_0 l0_1).bind fun t151 => (if t151 = true then ((spec_IsValidSystem.f k t139 y148).bind fun t152 => (if t152 = true then (some (t139, y148, true)) else ((spec_l6Copy.f k a0_0 l0_1).bind fun bt153 => (some (bt153.1, bt153.2, false))))) else ((spec_l6Copy.f k a0_0 l0_1).bind fun bt157 => (some (bt157.1, bt157.2, false)))))) else (none)) = some (r1, r2, r3) := H
 have A4 := Aside0.mk A40
 clear A40
 by_cases c5 : t140.length < 4398046511104
 ·rw [if_pos c5] at H
  have LMc5 := Aside0.mk c5
  clear c5
  obtain ⟨y148, hy148⟩ : ∃ y_ : List (S29), y_ = (t140 ++ [(⟨t144, t145⟩ : S29)]) := ⟨_, rfl⟩
  replace H : ((spec_IsValidSystem.f k a0_0 l0_1).bind fun t151 => (if t151 = true then ((spec_IsValidSystem.f k t139 y148).bind fun t152 => (if t152 = true then (some (t139, y148, true)) else ((spec_l6Copy.f k a0_0 l0_1).bind fun bt153 => (some (bt153.1, bt153.2, false))))) else ((spec_l6Copy.f k a0_0 l0_1).bind fun bt157 => (some (bt157.1, bt157.2, false))))) = some (r1, r2, r3) := by first | (rw [hy148]; with_reducible exact H) | (have H2_ := (Option.bind_some _ _).symm.trans H; rw [hy148]; with_reducible exact H2_) | (have H2_ := (Option.bind_some _ _).symm.trans H; with_reducible exact H2_) | with_reducible exact H | (rw [hy148]; exact H) | exact H
  have Ny148 := Aside0.mk hy148
  clear hy148
  replace H := Option.bind_eq_some_iff.mp H
  obtain ⟨t151, A60, H⟩ := H
  replace H : (if t151 = true then ((spec_IsValidSystem.f k t139 y148).bind fun t152 => (if t152 = true then (some (t139, y148, true)) else ((spec_l6Copy.f k a0_0 l0_1).bind fun bt153 => (some (bt153.1, bt153.2, false))))) else ((spec_l6Copy.f k a0_0 l0_1).bind fun bt157 => (some (bt157.1, bt157.2, false)))) = some (r1, r2, r3) := H
  have A6 := Aside0.mk A60
  clear A60
  by_cases c7 : t151 = true
  ·subst c7
   have H1 : ((spec_IsValidSystem.f k t139 y148).bind fun t152 => (if t152 = true then (some (t139, y148, true)) else ((spec_l6Copy.f k a0_0 l0_1).bind fun bt153 => (some (bt153.1, bt153.2, false))))) = some (r1, r2, r3) := by rw [if_pos rfl] at H; exact H
   clear H
   have H := H1
   clear H1
   replace H := Option.bind_eq_some_iff.mp H
   obtain ⟨t152, A80, H⟩ := H
   replace H : (if t152 = true then (some (t139, y148, true)) else ((spec_l6Copy.f k a0_0 l0_1).bind fun bt153 => (some (bt153.1, bt153.2, false)))) = some (r1, r2, r3) := H
   have A8 := Aside0.mk A80
   clear A80
   by_cases c9 : t152 = true
   ·subst c9
    have H1 : (some (t139, y148, true)) = some (r1, r2, r3) := by rw [if_pos rfl] at H; exact H
    clear H
    have H := H1
    clear H1
    simp only [Option.some.injEq, Prod.mk.injEq] at H
    obtain ⟨rfl, rfl, rfl⟩ := H
    go_enter Try.func24, Try.ntmps24
    try go_wp2_with (first | ((with_reducible refine gate_dst (N := 2) rfl ?_); refine box_event ?hg (N := 2) ?hd (cs := #[.int .i64 a0_0, .slice A0_1 l0_1.length c0_1]) (t := 26) ?hr ?_; (case hd => rfl); (case hg => rfl); (case hr => first | (go_simp; done) | (go_simp; rfl)); intro gb136 hg w10 hbox hb; have BK136 := Aside0.mk (hbox); have GW136 := gw hg HB; have GE136 := gw hg HB; replace HB := bs HB hb; clear hb hbox hg) | ((with_reducible refine gate_dst (N := 3) rfl ?_); refine box_event ?hg (N := 3) ?hd (cs := #[.int .i64 a1_0, .slice A1_1 l1_1.length c1_1]) (t := 29) ?hr ?_; (case hd => rfl); (case hg => rfl); (case hr => first | (go_simp; done) | (go_simp; rfl)); intro gb137 hg w11 hbox hb; have BK137 := Aside0.mk (hbox); have GW137 := gw hg HB; have GE137 := gw hg HB; replace HB := bs HB hb; have NB136_137 := nl hg BK136; have NB137_136 := ng hg BK136; replace BK136 := bb BK136 hb; clear hb hbox hg) | ((with_reducible refine gate_dst (N := 4) rfl ?_); refine box_event ?hg (N := 4) ?hd (cs := #[.int .i64 0, .slice none 0 0]) (t := 26) ?hr ?_; (case hd => rfl); (case hg => rfl); (case hr => first | (go_simp; done) | (go_simp; rfl)); intro gb138 hg w12 hbox hb; have BK138 := Aside0.mk (hbox); have GW138 := gw hg HB; have GE138 := gw hg HB; replace HB := bs HB hb; have NB136_138 := nl hg BK136; have NB138_136 := ng hg BK136; replace BK136 := bb BK136 hb; have NB137_138 := nl hg BK137; have NB138_137 := ng hg BK137; replace BK137 := bb BK137 hb; clear hb hbox hg; have hnb13 := NB136_137.out; have hnc13 := NB137_136.out; have hnb14 := NB136_138.out; have hnc14 := NB138_136.out; obtain ⟨hcz15_0, hcz15_1⟩ := c2 BK136; have hfz15_0 := blk_frozen BK136.out 0; have hfz15_1 := blk_frozen BK136.out 1) | ((with_reducible refine gate_callee (f := 89) rfl ?_); refine gl (some 8) rfl rfl Try.func89 (by kernel_rfl) rfl #[.agg #[.int .i64 a0_0, .slice A0_1 l0_1.length c0_1]] rfl ?_; (with_reducible refine (spec_l6Copy.calls k a0_0 _ _ l0_1 t139 t140 _ ?side1 ?side2 A3.out).mono ?_); (case side1 => exact mc ((Kd.C_below HR0_1.out HB.out))); (case side2 => exact HC0_1.out); rintro e w16 ⟨v141, rfl, ho0, hb⟩; refine ⟨_, rfl, ?_⟩; have HO142 := Aside0.mk (Kd.S_lower (Kd.S_newB ho0 (g := gb137) (o := .cells #[.int .i64 a1_0, .slice A1_1 l1_1.length c1_1] 29 (0, 0)) (mb BK137)) (below_size (ms HB))); replace BK136 := bb BK136 hb; replace BK137 := bb BK137 hb; replace BK138 := bb BK138 hb; replace HB := bs HB hb; (try clear hb); (try clear ho0)) | ((with_reducible refine gate_dst (N := 6) rfl ?_); refine box_event ?hg (N := 6) ?hd (cs := #[.int .i64 0, .slice none 0 0]) (t := 26) ?hr ?_; (case hd => rfl); (case hg => rfl); (case hr => first | (go_simp; done) | (go_simp; rfl)); intro gb143 hg w17 hbox hb; replace HO142 := bS HO142 hb; have BK143 := Aside0.mk (hbox); have GW143 := gw hg HB; have GE143 := gw hg HB; replace HB := bs HB hb; have NB136_143 := nl hg BK136; have NB143_136 := ng hg BK136; replace BK136 := bb BK136 hb; have NB137_143 := nl hg BK137; have NB143_137 := ng hg BK137; replace BK137 := bb BK137 hb; have NB138_143 := nl hg BK138; have NB143_138 := ng hg BK138; replace BK138 := bb BK138 hb; clear hb hbox hg; have hnb18 := NB143_136.out; have hnc18 := NB136_143.out; have hnb19 := NB143_137.out; have hnc19 := NB137_143.out; have hnb20 := NB143_138.out; have hnc20 := NB138_143.out; obtain ⟨hcz21_0, hcz21_1⟩ := c2 BK143; have hfz21_0 := blk_frozen BK143.out 0; have hfz21_1 := blk_frozen BK143.out 1; obtain ⟨Ao22, co22, eo22⟩ := Kd.S_slice HO142.out; subst eo22))
    have n0_ : Aside0 (Kd.S k29 29 ((w17.setCell ⟨gb143, 0, none⟩ (.int .i64 t139)).setCell ⟨gb143, 1, none⟩ (.slice Ao22 t140.length co22)) w.heap.size (fun k_ => k_ ≠ gb137) (.slice Ao22 t140.length co22) t140) := ⟨by (with_reducible repeat (first | apply Kd.S_alloc | apply Kd.S_drewN | apply Kd.S_drew)); exact Kd.S_mono (Kd.S_far (p := ⟨gb143, 1, none⟩) (Kd.S_far (p := ⟨gb143, 0, none⟩) (Kd.S_types HO142.out BK143.out (by decide)) (fun _ hk => hk.2) (.int .i64 t139)) (fun _ hk => hk.2) (.slice Ao22 t140.length co22)) (fun _ hk => hk.1.2)⟩
    have n1_ : Aside0 (((w17.setCell ⟨gb143, 0, none⟩ (.int .i64 t139)).setCell ⟨gb143, 1, none⟩ (.slice Ao22 t140.length co22)).heap[gb136]? = some (.cells #[.int .i64 a0_0, .slice A0_1 l0_1.length c0_1] 26 (0, 0))) := ⟨by (with_reducible repeat (first | refine blk_drewN ?_ _ | refine blk_drew ?_ | refine blk_alloc ?_ _)); refine blk_far ?_ NB136_143.out _; (with_reducible repeat (first | refine blk_drewN ?_ _ | refine blk_drew ?_ | refine blk_alloc ?_ _)); refine blk_far ?_ NB136_143.out _; (with_reducible repeat (first | refine blk_drewN ?_ _ | refine blk_drew ?_ | refine blk_alloc ?_ _)); exact BK136.out⟩
    have n2_ : Aside0 (((w17.setCell ⟨gb143, 0, none⟩ (.int .i64 t139)).setCell ⟨gb143, 1, none⟩ (.slice Ao22 t140.length co22)).heap[gb137]? = some (.cells #[.int .i64 a1_0, .slice A1_1 l1_1.length c1_1] 29 (0, 0))) := ⟨by (with_reducible repeat (first | refine blk_drewN ?_ _ | refine blk_drew ?_ | refine blk_alloc ?_ _)); refine blk_far ?_ NB137_143.out _; (with_reducible repeat (first | refine blk_drewN ?_ _ | refine blk_drew ?_ | refine blk_alloc ?_ _)); refine blk_far ?_ NB137_143.out _; (with_reducible repeat (first | refine blk_drewN ?_ _ | refine blk_drew ?_ | refine blk_alloc ?_ _)); exact BK137.out⟩
    have n3_ : Aside0 (((w17.setCell ⟨gb143, 0, none⟩ (.int .i64 t139)).setCell ⟨gb143, 1, none⟩ (.slice Ao22 t140.length co22)).heap[gb138]? = some (.cells #[.int .i64 0, .slice none 0 0] 26 (0, 0))) := ⟨by (with_reducible repeat (first | refine blk_drewN ?_ _ | refine blk_drew ?_ | refine blk_alloc ?_ _)); refine blk_far ?_ NB138_143.out _; (with_reducible repeat (first | refine blk_drewN ?_ _ | refine blk_drew ?_ | refine blk_alloc ?_ _)); refine blk_far ?_ NB138_143.out _; (with_reducible repeat (first | refine blk_drewN ?_ _ | refine blk_drew ?_ | refine blk_alloc ?_ _)); exact BK138.out⟩
    have n4_ : Aside0 (((w17.setCell ⟨gb143, 0, none⟩ (.int .i64 t139)).setCell ⟨gb143, 1, none⟩ (.slice Ao22 t140.length co22)).heap[gb143]? = some (.cells #[.int .i64 t139, .slice Ao22 t140.length co22] 26 (0, 0))) := ⟨by (with_reducible repeat (first | refine blk_drewN ?_ _ | refine blk_drew ?_ | refine blk_alloc ?_ _)); refine blk_put (cs := #[.int .i64 t139, .slice none 0 0]) ?_ 1 _ rfl; (with_reducible repeat (first | refine blk_drewN ?_ _ | refine blk_drew ?_ | refine blk_alloc ?_ _)); refine blk_put (cs := #[.int .i64 0, .slice none 0 0]) ?_ 0 _ rfl; (with_reducible repeat (first | refine blk_drewN ?_ _ | refine blk_drew ?_ | refine blk_alloc ?_ _)); exact BK143.out⟩
    have n5_ : Aside0 (Below w.heap.size w ((w17.setCell ⟨gb143, 0, none⟩ (.int .i64 t139)).setCell ⟨gb143, 1, none⟩ (.slice Ao22 t140.length co22))) := ⟨ms HB⟩
    (try clear HO142)
    (try clear BK136)
    (try clear BK137)
    (try clear BK138)
    (try clear BK143)
    (try clear HB)
    generalize ((w17.setCell ⟨gb143, 0, none⟩ (.int .i64 t139)).setCell ⟨gb143, 1, none⟩ (.slice Ao22 t140.length co22)) = w23 at n0_ n1_ n2_ n3_ n4_ n5_ ⊢
    have HO142 := n0_
    have BK136 := n1_
    have BK137 := n2_
    have BK138 := n3_
    have BK143 := n4_
    have HB := n5_
    clear n0_ n1_ n2_ n3_ n4_ n5_
    replace HO142 := Aside0.mk (Kd.S_drew HO142.out)
    replace BK136 := Aside0.mk (blk_drew BK136.out)
    replace BK137 := Aside0.mk (blk_drew BK137.out)
    replace BK138 := Aside0.mk (blk_drew BK138.out)
    replace BK143 := Aside0.mk (blk_drew BK143.out)
    replace HB := Aside0.mk (below_drew1 HB.out)
    refine start_ (n := 8) (S := fun w' => w'.cell? ⟨gb143, 0, none⟩ = some (.int .i64 t139) ∧ w'.cell? ⟨gb143, 1, none⟩ = some (.slice Ao22 t140.length co22) ∧ w'.cell? ⟨gb137, 0, none⟩ = some (.int .i64 a1_0) ∧ w'.cell? ⟨gb137, 1, none⟩ = some (.slice A1_1 l1_1.length c1_1)) (ds := [7]) #[false, false, false, false, false, false, false, false] (by kernel_rfl) rfl rfl ⟨(c2 BK143).1, (c2 BK143).2, (c2 BK137).1, (c2 BK137).2⟩ (fun hHeld => ?_); refine with_tabW spec_AddRow.tab2 spec_AddRow.bits2 (fun HT_ HW_ => ?_)
    generalize w23.drew = w24 at HO142 BK136 BK137 BK138 BK143 HB hHeld ⊢
    refine pure_ (i := 0) (N := some 9) (v := ?_) (a' := ?_) #[true, false, false, false, false, false, false, false] rfl rfl (any_of HT_.out (by kernel_rfl)) (fun _ _ _ h => h) (Or.inl ⟨by rfl, ?_⟩) ?_ ?_
    rotate_left
    ·intro w'
     go_simp
     with_reducible rfl
    rotate_left
    ·simp only [Act.put, List.setIfInBounds_toArray, List.set_cons_zero, List.set_cons_succ, i64_w, i32_w]
     rfl
    refine take_ (i := 1) (N := some 10) (v := ?_) (a' := ?_) #[true, true, false, false, false, false, false, false] rfl rfl (take_ofW HT_.out HW_.out (by kernel_rfl)) (fun _ _ _ h => h) (Or.inl ⟨by rfl, ?_⟩) hHeld ?_ ?_
    rotate_left
    ·rintro w' ⟨s0, s1, s2, s3⟩
     go_simp
     with_reducible rfl
    rotate_left
    ·simp only [Act.put, List.setIfInBounds_toArray, List.set_cons_zero, List.set_cons_succ, i64_w, i32_w]
     rfl
    refine take_ (i := 2) (N := some 11) (v := ?_) (a' := ?_) #[true, true, true, false, false, false, false, false] rfl rfl (take_ofW HT_.out HW_.out (by kernel_rfl)) (fun _ _ _ h => h) (Or.inl ⟨by rfl, ?_⟩) hHeld ?_ ?_
    rotate_left
    ·rintro w' ⟨s0, s1, s2, s3⟩
     go_simp
     with_reducible rfl
    rotate_left
    ·simp only [Act.put, List.setIfInBounds_toArray, List.set_cons_zero, List.set_cons_succ, i64_w, i32_w]
     rfl
    refine one_ (i := 3) (N := some 12) #[true, true, true, true, false, false, false, false] rfl rfl (one_of HT_.out (by kernel_rfl)) (by decide) (fun K hK => ?_)
    refine gs Try.func90 (by kernel_rfl) rfl #[.agg #[.int .i64 a1_0, .slice A1_1 l1_1.length c1_1]] (by rfl) rfl rfl ?_
    with_reducible refine (spec_l4Copy.calls a1_0 _ _ l1_1 t144 t145 _ ?side1 ?side2 A4.out).mono ?_
    (case side1 => exact mc ((Kd.C_below HR1_1.out HB.out)))
    (case side2 => exact HC1_1.out)
    rintro e w25 ⟨v146, rfl, ho0, hb⟩
    refine ⟨_, rfl, ?_⟩
    replace HO142 := lS HO142 ho0 hb
    have HO147 := Aside0.mk (Kd.R_lower ho0 (below_size (ms HB)))
    replace BK136 := bb BK136 hb
    replace BK137 := bb BK137 hb
    replace BK138 := bb BK138 hb
    replace BK143 := bb BK143 hb
    replace HB := bs HB hb
    (try clear hb)
    (try clear hb2)
    (try clear hk)
    (try clear hi)
    (try clear ho0)
    obtain ⟨Ao27, co27, eo27⟩ := Kd.R_slice HO147.out
    (first | subst eo27 | (injection eo27 with f1_ f2_ f3_; have f4_ := f1_.symm; have f5_ := f3_.symm; clear f1_ f2_ f3_; subst f4_; subst f5_))
    refine hK.out _ _ ⟨(c2 BK143).1, (c2 BK143).2, (c2 BK137).1, (c2 BK137).2⟩ (fun hHeld => ?_)
    clear hK K
    refine norm_ (a' := ?_) ?_ ?_
    rotate_left
    ·show Act.put _ (some 12) _ = _
     simp only [Act.put, List.setIfInBounds_toArray, List.set_cons_zero, List.set_cons_succ, i64_w, i32_w]
     rfl
    refine one_ (i := 4) (N := some 13) #[true, true, true, true, true, false, false, false] rfl rfl (one_of HT_.out (by kernel_rfl)) (by decide) (fun K hK => ?_)
    refine value_ (w1 := ?_) (v := ?_) (by rfl) rfl ?_ ?_
    rotate_left 2
    ·go_simp
     constructor
     ·rfl
     ·rfl
    refine hK.out _ _ ⟨(blk_cell (blk_alloc BK143.out _) 0).trans rfl, (blk_cell (blk_alloc BK143.out _) 1).trans rfl, (blk_cell (blk_alloc BK137.out _) 0).trans rfl, (blk_cell (blk_alloc BK137.out _) 1).trans rfl⟩ (fun hHeld => ?_)
    clear hK K
    refine norm_ (a' := ?_) ?_ ?_
    rotate_left
    ·show Act.put _ (some 13) _ = _
     simp only [Act.put, List.setIfInBounds_toArray, List.set_cons_zero, List.set_cons_succ, i64_w, i32_w]
     rfl
    refine one_ (i := 5) (N := some 14) #[true, true, true, true, true, true, false, false] rfl rfl (one_of HT_.out (by kernel_rfl)) (by decide) (fun K hK => ?_)
    refine Kd.S_append_step k29 (w0 := w) w.heap.size (by rfl) (.tmp 10) (.tmp 13) 24 29 (.agg #[(.int .i64 0), (.slice none 0 0)]) 32 rfl Try.underlying24 info29 rfl (by decide) (by omega) (.slice Ao22 t140.length co22) t140 (⟨t144, t145⟩ : S29) [.int .i64 t144, .slice Ao27 t145.length co27] (fun k_ => k_ ≠ gb137) (fun k_ => some k_ = (.slice Ao27 t145.length co27 : Value).ownBlock) rfl rfl ?aP (fun k_ hk_ => ((Kd.R_mono (ok' := fun k_ => ((fun k_ => k_ ≠ gb137)) k_ ∧ some k_ ≠ (.slice Ao22 t140.length co22 : Value).ownBlock) (Kd.R_types (Kd.R_apart' (HO147.out) (Kd.S_typed HO142.out) (by decide)) BK137.out (by decide)) (fun k_ hk => ⟨hk.2, hk.1.2⟩))).1 k_ hk_.symm) ?aF ?aO ?aB ?aS ?aL ?_
    (case aP => exact k29_mkM _ _ _ (⟨t144, t145⟩ : S29) (Kd.R_mono (Kd.R_tight rfl (Kd.R_mono (ok' := fun k_ => ((fun k_ => k_ ≠ gb137)) k_ ∧ some k_ ≠ (.slice Ao22 t140.length co22 : Value).ownBlock) (Kd.R_types (Kd.R_apart' (HO147.out) (Kd.S_typed HO142.out) (by decide)) BK137.out (by decide)) (fun k_ hk => ⟨hk.2, hk.1.2⟩))) (fun _ h_ => h_)))
    (case aB => exact (ms HB))
    (case aF => exact (fun k_ hk => Kd.freshB (g := gb137) (o := .cells #[.int .i64 a1_0, .slice A1_1 l1_1.length c1_1] 29 (0, 0)) (mb BK137) k_ hk))
    (case aO => exact (by (with_reducible repeat (first | apply Kd.S_alloc | apply Kd.S_drewN | apply Kd.S_drew)); exact Kd.S_mono HO142.out (fun k_ hk => ⟨hk.1, fun e_ => hk.2 e_⟩)))
    (case aS => exact (below_size (ms HB)))
    (case aL => have := LMc5.out; omega)
    intro v149 w26 ho hb hg hat
    rw [← Ny148.out] at ho
    replace BK136 := Aside0.mk (blk_grown (g := gb136) (o := .cells #[.int .i64 a0_0, .slice A0_1 l0_1.length c0_1] 26 (0, 0)) (mb BK136) hg (Kd.S_ne HO142.out BK136.out (by decide)))
    replace BK137 := Aside0.mk (blk_grown (g := gb137) (o := .cells #[.int .i64 a1_0, .slice A1_1 l1_1.length c1_1] 29 (0, 0)) (mb BK137) hg (Kd.S_away HO142.out (fun _ hk => hk.1)))
    replace BK138 := Aside0.mk (blk_grown (g := gb138) (o := .cells #[.int .i64 0, .slice none 0 0] 26 (0, 0)) (mb BK138) hg (Kd.S_ne HO142.out BK138.out (by decide)))
    replace BK143 := Aside0.mk (blk_grown (g := gb143) (o := .cells #[.int .i64 t139, .slice Ao22 t140.length co22] 26 (0, 0)) (mb BK143) hg (Kd.S_ne HO142.out BK143.out (by decide)))
    replace HB := Aside0.mk (hb)
    have HO150 := Aside0.mk (ho)
    clear HO142
    clear HO147
    clear ho hb hg hat
    obtain ⟨Ao28, co28, eo28⟩ := Kd.S_slice HO150.out
    (first | subst eo28 | (injection eo28 with f1_ f2_ f3_; have f4_ := f1_.symm; have f5_ := f3_.symm; clear f1_ f2_ f3_; subst f4_; subst f5_))
    refine hK.out _ _ ⟨(c2 BK143).1, (c2 BK143).2, (c2 BK137).1, (c2 BK137).2⟩ (fun hHeld => ?_)
    clear hK K
    refine norm_ (a' := ?_) ?_ ?_
    rotate_left
    ·show Act.put _ (some 14) _ = _
     simp only [Act.put, List.setIfInBounds_toArray, List.set_cons_zero, List.set_cons_succ, i64_w, i32_w]
     rfl
    refine pure_ (i := 6) (N := some 15) (v := ?_) (a' := ?_) #[true, true, true, true, true, true, true, false] rfl rfl (any_of HT_.out (by kernel_rfl)) (fun _ _ _ h => h) (Or.inl ⟨by rfl, ?_⟩) ?_ ?_
    rotate_left
    ·intro w'
     go_simp
     with_reducible rfl
    rotate_left
    ·simp only [Act.put, List.setIfInBounds_toArray, List.set_cons_zero, List.set_cons_succ, i64_w, i32_w]
     rfl
    refine last_ (i := 7) (N := none) #[true, true, true, true, true, true, true, true] rfl rfl (one_of HT_.out (by kernel_rfl)) (by decide) (fun K hK => ?_)
    have hs29 : w26.cell? ⟨gb143, 1, none⟩ = some (.slice Ao22 t140.length co22) := (blk_cell BK143.out 1).trans rfl
    have hfs29 := blk_frozen BK143.out 1
    have hns29_0 := NB136_143.out
    have hns29_1 := NB137_143.out
    have hns29_2 := NB138_143.out
    have hms29_0 := NB143_136.out
    have hms29_1 := NB143_137.out
    have hms29_2 := NB143_138.out
    refine skip_ (w1 := ?_) (by rfl) rfl ?_ ?_
    rotate_left
    ·go_simp
     rfl
    refine hK.out _ _ ?_
    clear hK K
    refine done_ (done_of HT_.out (by kernel_rfl)) ?_
    obtain ⟨hcz30_0, hcz30_1⟩ := c2 BK136
    have hfz30_0 := blk_frozen BK136.out 0
    have hfz30_1 := blk_frozen BK136.out 1
    try go_wp2_with (first | ((with_reducible refine gate_callee (f := 79) rfl ?_); refine gl (some 17) rfl rfl Try.func79 (by kernel_rfl) rfl #[.agg #[.int .i64 a0_0, .slice A0_1 l0_1.length c0_1]] rfl ?_; (with_reducible refine (spec_IsValidSystem.calls k a0_0 _ _ l0_1 true _ ?side1 ?side2 A6.out).mono ?_); (case side1 => exact Kd.C_below HR0_1.out (ms HB)); (case side2 => exact HC0_1.out); rintro e w31 ⟨rfl, hb⟩; refine ⟨_, rfl, ?_⟩; have n0_ := Aside0.mk (Kd.S_below (by (with_reducible repeat (first | apply Kd.S_alloc | apply Kd.S_drewN | apply Kd.S_drew)); exact (Kd.S_mono (Kd.S_far (p := ⟨gb143, 1, none⟩) (Kd.S_types HO150.out BK143.out (by decide)) (fun _ hk => hk.2) (.slice Ao28 y148.length co28)) (fun _ h_ => h_.1))) hb); have n1_ := bf BK136 hb; have n2_ := bf BK137 hb; have n3_ := bf BK138 hb; have n4_ := Aside0.mk (blk_below (g := gb143) (o := .cells #[.int .i64 t139, .slice Ao28 y148.length co28] 26 (0, 0)) (by (with_reducible repeat (first | refine blk_drewN ?_ _ | refine blk_drew ?_ | refine blk_alloc ?_ _)); refine blk_put (cs := #[.int .i64 t139, .slice Ao22 t140.length co22]) ?_ 1 _ rfl; (with_reducible repeat (first | refine blk_drewN ?_ _ | refine blk_drew ?_ | refine blk_alloc ?_ _)); exact BK143.out) hb); have n5_ := bs HB hb; clear HO150 BK136 BK137 BK138 BK143 HB; have HO150 := n0_; have BK136 := n1_; have BK137 := n2_; have BK138 := n3_; have BK143 := n4_; have HB := n5_; clear n0_ n1_ n2_ n3_ n4_ n5_; (try clear hb); obtain ⟨hcz32_0, hcz32_1⟩ := c2 BK143; have hfz32_0 := blk_frozen BK143.out 0; have hfz32_1 := blk_frozen BK143.out 1) | (go_at_call 79; (with_reducible refine (spec_IsValidSystem.calls k t139 _ _ y148 true _ ?side1 ?side2 A8.out).mono ?_); (case side1 => exact mc ((Kd.S_reads' HO150.out).2.2)); (case side2 => exact (Kd.S_reads' HO150.out).2.1); rintro e w33 ⟨rfl, hb⟩; replace HO150 := bS HO150 hb; replace BK136 := bb BK136 hb; replace BK137 := bb BK137 hb; replace BK138 := bb BK138 hb; replace BK143 := bb BK143 hb; replace HB := bs HB hb; (try clear hb); obtain ⟨hcz34_0, hcz34_1⟩ := c2 BK143; have hfz34_0 := blk_frozen BK143.out 0; have hfz34_1 := blk_frozen BK143.out 1; have hnb35 := NB138_137.out; have hnc35 := NB137_138.out; obtain ⟨hcz36_0, hcz36_1⟩ := c2 BK138; have hfz36_0 := blk_frozen BK138.out 0; have hfz36_1 := blk_frozen BK138.out 1))
    refine bodyPost_ret (results_ct rfl _ _ gb138 26 #[.int .i64 t139, .slice Ao28 y148.length co28] (0, 0) _ rfl (by (with_reducible repeat (first | refine blk_drewN ?_ _ | refine blk_drew ?_ | refine blk_alloc ?_ _)); refine blk_put (cs := #[.int .i64 t139, .slice none 0 0]) ?_ 1 _ rfl; (with_reducible repeat (first | refine blk_drewN ?_ _ | refine blk_drew ?_ | refine blk_alloc ?_ _)); refine blk_put (cs := #[.int .i64 0, .slice none 0 0]) ?_ 0 _ rfl; (with_reducible repeat (first | refine blk_drewN ?_ _ | refine blk_drew ?_ | refine blk_alloc ?_ _)); exact BK138.out) Try.underlying26 rfl (by kernel_rfl)) rfl ?_
    exact ⟨_, by first | rfl | (simp [errW_none, errW_some] <;> rfl) | (simp [*, errW_none, errW_some] <;> rfl), by (with_reducible repeat (first | apply Kd.S_alloc | apply Kd.S_drewN | apply Kd.S_drew)); exact Kd.S_mono (Kd.S_far (p := ⟨gb138, 1, none⟩) (Kd.S_far (p := ⟨gb138, 0, none⟩) (Kd.S_types HO150.out BK138.out (by decide)) (fun _ hk => hk.2) (.int .i64 t139)) (fun _ hk => hk.2) (.slice Ao28 y148.length co28)) (fun _ hk => trivial), ms HB⟩
   ·replace c9 := Bool.eq_false_iff.mpr c9
    subst c9
    have H1 : ((spec_l6Copy.f k a0_0 l0_1).bind fun bt153 => (some (bt153.1, bt153.2, false))) = some (r1, r2, r3) := by rw [if_neg (show ¬ (false = true) by decide)] at H; exact H
    clear H
    have H := H1
    clear H1
    replace H := Option.bind_eq_some_iff.mp H
    obtain ⟨⟨t153, t154⟩, A370, H⟩ := H
    replace H : (some (t153, t154, false)) = some (r1, r2, r3) := H
    have A37 := Aside0.mk A370
    clear A370
    simp only [Option.some.injEq, Prod.mk.injEq] at H
    obtain ⟨rfl, rfl, rfl⟩ := H
    go_enter Try.func24, Try.ntmps24
    try go_wp2_with (first | ((with_reducible refine gate_dst (N := 2) rfl ?_); refine box_event ?hg (N := 2) ?hd (cs := #[.int .i64 a0_0, .slice A0_1 l0_1.length c0_1]) (t := 26) ?hr ?_; (case hd => rfl); (case hg => rfl); (case hr => first | (go_simp; done) | (go_simp; rfl)); intro gb136 hg w38 hbox hb; have BK136 := Aside0.mk (hbox); have GW136 := gw hg HB; have GE136 := gw hg HB; replace HB := bs HB hb; clear hb hbox hg) | ((with_reducible refine gate_dst (N := 3) rfl ?_); refine box_event ?hg (N := 3) ?hd (cs := #[.int .i64 a1_0, .slice A1_1 l1_1.length c1_1]) (t := 29) ?hr ?_; (case hd => rfl); (case hg => rfl); (case hr => first | (go_simp; done) | (go_simp; rfl)); intro gb137 hg w39 hbox hb; have BK137 := Aside0.mk (hbox); have GW137 := gw hg HB; have GE137 := gw hg HB; replace HB := bs HB hb; have NB136_137 := nl hg BK136; have NB137_136 := ng hg BK136; replace BK136 := bb BK136 hb; clear hb hbox hg) | ((with_reducible refine gate_dst (N := 4) rfl ?_); refine box_event ?hg (N := 4) ?hd (cs := #[.int .i64 0, .slice none 0 0]) (t := 26) ?hr ?_; (case hd => rfl); (case hg => rfl); (case hr => first | (go_simp; done) | (go_simp; rfl)); intro gb138 hg w40 hbox hb; have BK138 := Aside0.mk (hbox); have GW138 := gw hg HB; have GE138 := gw hg HB; replace HB := bs HB hb; have NB136_138 := nl hg BK136; have NB138_136 := ng hg BK136; replace BK136 := bb BK136 hb; have NB137_138 := nl hg BK137; have NB138_137 := ng hg BK137; replace BK137 := bb BK137 hb; clear hb hbox hg; have hnb41 := NB136_137.out; have hnc41 := NB137_136.out; have hnb42 := NB136_138.out; have hnc42 := NB138_136.out; obtain ⟨hcz43_0, hcz43_1⟩ := c2 BK136; have hfz43_0 := blk_frozen BK136.out 0; have hfz43_1 := blk_frozen BK136.out 1) | ((with_reducible refine gate_callee (f := 89) rfl ?_); refine gl (some 8) rfl rfl Try.func89 (by kernel_rfl) rfl #[.agg #[.int .i64 a0_0, .slice A0_1 l0_1.length c0_1]] rfl ?_; (with_reducible refine (spec_l6Copy.calls k a0_0 _ _ l0_1 t139 t140 _ ?side1 ?side2 A3.out).mono ?_); (case side1 => exact mc ((Kd.C_below HR0_1.out HB.out))); (case side2 => exact HC0_1.out); rintro e w44 ⟨v141, rfl, ho0, hb⟩; refine ⟨_, rfl, ?_⟩; have HO142 := Aside0.mk (Kd.S_lower (Kd.S_newB ho0 (g := gb137) (o := .cells #[.int .i64 a1_0, .slice A1_1 l1_1.length c1_1] 29 (0, 0)) (mb BK137)) (below_size (ms HB))); replace BK136 := bb BK136 hb; replace BK137 := bb BK137 hb; replace BK138 := bb BK138 hb; replace HB := bs HB hb; (try clear hb); (try clear ho0)) | ((with_reducible refine gate_dst (N := 6) rfl ?_); refine box_event ?hg (N := 6) ?hd (cs := #[.int .i64 0, .slice none 0 0]) (t := 26) ?hr ?_; (case hd => rfl); (case hg => rfl); (case hr => first | (go_simp; done) | (go_simp; rfl)); intro gb143 hg w45 hbox hb; replace HO142 := bS HO142 hb; have BK143 := Aside0.mk (hbox); have GW143 := gw hg HB; have GE143 := gw hg HB; replace HB := bs HB hb; have NB136_143 := nl hg BK136; have NB143_136 := ng hg BK136; replace BK136 := bb BK136 hb; have NB137_143 := nl hg BK137; have NB143_137 := ng hg BK137; replace BK137 := bb BK137 hb; have NB138_143 := nl hg BK138; have NB143_138 := ng hg BK138; replace BK138 := bb BK138 hb; clear hb hbox hg; have hnb46 := NB143_136.out; have hnc46 := NB136_143.out; have hnb47 := NB143_137.out; have hnc47 := NB137_143.out; have hnb48 := NB143_138.out; have hnc48 := NB138_143.out; obtain ⟨hcz49_0, hcz49_1⟩ := c2 BK143; have hfz49_0 := blk_frozen BK143.out 0; have hfz49_1 := blk_frozen BK143.out 1; obtain ⟨Ao50, co50, eo50⟩ := Kd.S_slice HO142.out; subst eo50))
    have n0_ : Aside0 (Kd.S k29 29 ((w45.setCell ⟨gb143, 0, none⟩ (.int .i64 t139)).setCell ⟨gb143, 1, none⟩ (.slice Ao50 t140.length co50)) w.heap.size (fun k_ => k_ ≠ gb137) (.slice Ao50 t140.length co50) t140) := ⟨by (with_reducible repeat (first | apply Kd.S_alloc | apply Kd.S_drewN | apply Kd.S_drew)); exact Kd.S_mono (Kd.S_far (p := ⟨gb143, 1, none⟩) (Kd.S_far (p := ⟨gb143, 0, none⟩) (Kd.S_types HO142.out BK143.out (by decide)) (fun _ hk => hk.2) (.int .i64 t139)) (fun _ hk => hk.2) (.slice Ao50 t140.length co50)) (fun _ hk => hk.1.2)⟩
    have n1_ : Aside0 (((w45.setCell ⟨gb143, 0, none⟩ (.int .i64 t139)).setCell ⟨gb143, 1, none⟩ (.slice Ao50 t140.length co50)).heap[gb136]? = some (.cells #[.int .i64 a0_0, .slice A0_1 l0_1.length c0_1] 26 (0, 0))) := ⟨by (with_reducible repeat (first | refine blk_drewN ?_ _ | refine blk_drew ?_ | refine blk_alloc ?_ _)); refine blk_far ?_ NB136_143.out _; (with_reducible repeat (first | refine blk_drewN ?_ _ | refine blk_drew ?_ | refine blk_alloc ?_ _)); refine blk_far ?_ NB136_143.out _; (with_reducible repeat (first | refine blk_drewN ?_ _ | refine blk_drew ?_ | refine blk_alloc ?_ _)); exact BK136.out⟩
    have n2_ : Aside0 (((w45.setCell ⟨gb143, 0, none⟩ (.int .i64 t139)).setCell ⟨gb143, 1, none⟩ (.slice Ao50 t140.length co50)).heap[gb137]? = some (.cells #[.int .i64 a1_0, .slice A1_1 l1_1.length c1_1] 29 (0, 0))) := ⟨by (with_reducible repeat (first | refine blk_drewN ?_ _ | refine blk_drew ?_ | refine blk_alloc ?_ _)); refine blk_far ?_ NB137_143.out _; (with_reducible repeat (first | refine blk_drewN ?_ _ | refine blk_drew ?_ | refine blk_alloc ?_ _)); refine blk_far ?_ NB137_143.out _; (with_reducible repeat (first | refine blk_drewN ?_ _ | refine blk_drew ?_ | refine blk_alloc ?_ _)); exact BK137.out⟩
    have n3_ : Aside0 (((w45.setCell ⟨gb143, 0, none⟩ (.int .i64 t139)).setCell ⟨gb143, 1, none⟩ (.slice Ao50 t140.length co50)).heap[gb138]? = some (.cells #[.int .i64 0, .slice none 0 0] 26 (0, 0))) := ⟨by (with_reducible repeat (first | refine blk_drewN ?_ _ | refine blk_drew ?_ | refine blk_alloc ?_ _)); refine blk_far ?_ NB138_143.out _; (with_reducible repeat (first | refine blk_drewN ?_ _ | refine blk_drew ?_ | refine blk_alloc ?_ _)); refine blk_far ?_ NB138_143.out _; (with_reducible repeat (first | refine blk_drewN ?_ _ | refine blk_drew ?_ | refine blk_alloc ?_ _)); exact BK138.out⟩
    have n4_ : Aside0 (((w45.setCell ⟨gb143, 0, none⟩ (.int .i64 t139)).setCell ⟨gb143, 1, none⟩ (.slice Ao50 t140.length co50)).heap[gb143]? = some (.cells #[.int .i64 t139, .slice Ao50 t140.length co50] 26 (0, 0))) := ⟨by (with_reducible repeat (first | refine blk_drewN ?_ _ | refine blk_drew ?_ | refine blk_alloc ?_ _)); refine blk_put (cs := #[.int .i64 t139, .slice none 0 0]) ?_ 1 _ rfl; (with_reducible repeat (first | refine blk_drewN ?_ _ | refine blk_drew ?_ | refine blk_alloc ?_ _)); refine blk_put (cs := #[.int .i64 0, .slice none 0 0]) ?_ 0 _ rfl; (with_reducible repeat (first | refine blk_drewN ?_ _ | refine blk_drew ?_ | refine blk_alloc ?_ _)); exact BK143.out⟩
    have n5_ : Aside0 (Below w.heap.size w ((w45.setCell ⟨gb143, 0, none⟩ (.int .i64 t139)).setCell ⟨gb143, 1, none⟩ (.slice Ao50 t140.length co50))) := ⟨ms HB⟩
    (try clear HO142)
    (try clear BK136)
    (try clear BK137)
    (try clear BK138)
    (try clear BK143)
    (try clear HB)
    generalize ((w45.setCell ⟨gb143, 0, none⟩ (.int .i64 t139)).setCell ⟨gb143, 1, none⟩ (.slice Ao50 t140.length co50)) = w51 at n0_ n1_ n2_ n3_ n4_ n5_ ⊢
    have HO142 := n0_
    have BK136 := n1_
    have BK137 := n2_
    have BK138 := n3_
    have BK143 := n4_
    have HB := n5_
    clear n0_ n1_ n2_ n3_ n4_ n5_
    replace HO142 := Aside0.mk (Kd.S_drew HO142.out)
    replace BK136 := Aside0.mk (blk_drew BK136.out)
    replace BK137 := Aside0.mk (blk_drew BK137.out)
    replace BK138 := Aside0.mk (blk_drew BK138.out)
    replace BK143 := Aside0.mk (blk_drew BK143.out)
    replace HB := Aside0.mk (below_drew1 HB.out)
    refine start_ (n := 8) (S := fun w' => w'.cell? ⟨gb143, 0, none⟩ = some (.int .i64 t139) ∧ w'.cell? ⟨gb143, 1, none⟩ = some (.slice Ao50 t140.length co50) ∧ w'.cell? ⟨gb137, 0, none⟩ = some (.int .i64 a1_0) ∧ w'.cell? ⟨gb137, 1, none⟩ = some (.slice A1_1 l1_1.length c1_1)) (ds := [7]) #[false, false, false, false, false, false, false, false] (by kernel_rfl) rfl rfl ⟨(c2 BK143).1, (c2 BK143).2, (c2 BK137).1, (c2 BK137).2⟩ (fun hHeld => ?_); refine with_tabW spec_AddRow.tab2 spec_AddRow.bits2 (fun HT_ HW_ => ?_)
    generalize w51.drew = w52 at HO142 BK136 BK137 BK138 BK143 HB hHeld ⊢
    refine pure_ (i := 0) (N := some 9) (v := ?_) (a' := ?_) #[true, false, false, false, false, false, false, false] rfl rfl (any_of HT_.out (by kernel_rfl)) (fun _ _ _ h => h) (Or.inl ⟨by rfl, ?_⟩) ?_ ?_
    rotate_left
    ·intro w'
     go_simp
     with_reducible rfl
    rotate_left
    ·simp only [Act.put, List.setIfInBounds_toArray, List.set_cons_zero, List.set_cons_succ, i64_w, i32_w]
     rfl
    refine take_ (i := 1) (N := some 10) (v := ?_) (a' := ?_) #[true, true, false, false, false, false, false, false] rfl rfl (take_ofW HT_.out HW_.out (by kernel_rfl)) (fun _ _ _ h => h) (Or.inl ⟨by rfl, ?_⟩) hHeld ?_ ?_
    rotate_left
    ·rintro w' ⟨s0, s1, s2, s3⟩
     go_simp
     with_reducible rfl
    rotate_left
    ·simp only [Act.put, List.setIfInBounds_toArray, List.set_cons_zero, List.set_cons_succ, i64_w, i32_w]
     rfl
    refine take_ (i := 2) (N := some 11) (v := ?_) (a' := ?_) #[true, true, true, false, false, false, false, false] rfl rfl (take_ofW HT_.out HW_.out (by kernel_rfl)) (fun _ _ _ h => h) (Or.inl ⟨by rfl, ?_⟩) hHeld ?_ ?_
    rotate_left
    ·rintro w' ⟨s0, s1, s2, s3⟩
     go_simp
     with_reducible rfl
    rotate_left
    ·simp only [Act.put, List.setIfInBounds_toArray, List.set_cons_zero, List.set_cons_succ, i64_w, i32_w]
     rfl
    refine one_ (i := 3) (N := some 12) #[true, true, true, true, false, false, false, false] rfl rfl (one_of HT_.out (by kernel_rfl)) (by decide) (fun K hK => ?_)
    refine gs Try.func90 (by kernel_rfl) rfl #[.agg #[.int .i64 a1_0, .slice A1_1 l1_1.length c1_1]] (by rfl) rfl rfl ?_
    with_reducible refine (spec_l4Copy.calls a1_0 _ _ l1_1 t144 t145 _ ?side1 ?side2 A4.out).mono ?_
    (case side1 => exact mc ((Kd.C_below HR1_1.out HB.out)))
    (case side2 => exact HC1_1.out)
    rintro e w53 ⟨v146, rfl, ho0, hb⟩
    refine ⟨_, rfl, ?_⟩
    replace HO142 := lS HO142 ho0 hb
    have HO147 := Aside0.mk (Kd.R_lower ho0 (below_size (ms HB)))
    replace BK136 := bb BK136 hb
    replace BK137 := bb BK137 hb
    replace BK138 := bb BK138 hb
    replace BK143 := bb BK143 hb
    replace HB := bs HB hb
    (try clear hb)
    (try clear hb2)
    (try clear hk)
    (try clear hi)
    (try clear ho0)
    obtain ⟨Ao55, co55, eo55⟩ := Kd.R_slice HO147.out
    (first | subst eo55 | (injection eo55 with f1_ f2_ f3_; have f4_ := f1_.symm; have f5_ := f3_.symm; clear f1_ f2_ f3_; subst f4_; subst f5_))
    refine hK.out _ _ ⟨(c2 BK143).1, (c2 BK143).2, (c2 BK137).1, (c2 BK137).2⟩ (fun hHeld => ?_)
    clear hK K
    refine norm_ (a' := ?_) ?_ ?_
    rotate_left
    ·show Act.put _ (some 12) _ = _
     simp only [Act.put, List.setIfInBounds_toArray, List.set_cons_zero, List.set_cons_succ, i64_w, i32_w]
     rfl
    refine one_ (i := 4) (N := some 13) #[true, true, true, true, true, false, false, false] rfl rfl (one_of HT_.out (by kernel_rfl)) (by decide) (fun K hK => ?_)
    refine value_ (w1 := ?_) (v := ?_) (by rfl) rfl ?_ ?_
    rotate_left 2
    ·go_simp
     constructor
     ·rfl
     ·rfl
    refine hK.out _ _ ⟨(blk_cell (blk_alloc BK143.out _) 0).trans rfl, (blk_cell (blk_alloc BK143.out _) 1).trans rfl, (blk_cell (blk_alloc BK137.out _) 0).trans rfl, (blk_cell (blk_alloc BK137.out _) 1).trans rfl⟩ (fun hHeld => ?_)
    clear hK K
    refine norm_ (a' := ?_) ?_ ?_
    rotate_left
    ·show Act.put _ (some 13) _ = _
     simp only [Act.put, List.setIfInBounds_toArray, List.set_cons_zero, List.set_cons_succ, i64_w, i32_w]
     rfl
    refine one_ (i := 5) (N := some 14) #[true, true, true, true, true, true, false, false] rfl rfl (one_of HT_.out (by kernel_rfl)) (by decide) (fun K hK => ?_)
    refine Kd.S_append_step k29 (w0 := w) w.heap.size (by rfl) (.tmp 10) (.tmp 13) 24 29 (.agg #[(.int .i64 0), (.slice none 0 0)]) 32 rfl Try.underlying24 info29 rfl (by decide) (by omega) (.slice Ao50 t140.length co50) t140 (⟨t144, t145⟩ : S29) [.int .i64 t144, .slice Ao55 t145.length co55] (fun k_ => k_ ≠ gb137) (fun k_ => some k_ = (.slice Ao55 t145.length co55 : Value).ownBlock) rfl rfl ?aP (fun k_ hk_ => ((Kd.R_mono (ok' := fun k_ => ((fun k_ => k_ ≠ gb137)) k_ ∧ some k_ ≠ (.slice Ao50 t140.length co50 : Value).ownBlock) (Kd.R_types (Kd.R_apart' (HO147.out) (Kd.S_typed HO142.out) (by decide)) BK137.out (by decide)) (fun k_ hk => ⟨hk.2, hk.1.2⟩))).1 k_ hk_.symm) ?aF ?aO ?aB ?aS ?aL ?_
    (case aP => exact k29_mkM _ _ _ (⟨t144, t145⟩ : S29) (Kd.R_mono (Kd.R_tight rfl (Kd.R_mono (ok' := fun k_ => ((fun k_ => k_ ≠ gb137)) k_ ∧ some k_ ≠ (.slice Ao50 t140.length co50 : Value).ownBlock) (Kd.R_types (Kd.R_apart' (HO147.out) (Kd.S_typed HO142.out) (by decide)) BK137.out (by decide)) (fun k_ hk => ⟨hk.2, hk.1.2⟩))) (fun _ h_ => h_)))
    (case aB => exact (ms HB))
    (case aF => exact (fun k_ hk => Kd.freshB (g := gb137) (o := .cells #[.int .i64 a1_0, .slice A1_1 l1_1.length c1_1] 29 (0, 0)) (mb BK137) k_ hk))
    (case aO => exact (by (with_reducible repeat (first | apply Kd.S_alloc | apply Kd.S_drewN | apply Kd.S_drew)); exact Kd.S_mono HO142.out (fun k_ hk => ⟨hk.1, fun e_ => hk.2 e_⟩)))
    (case aS => exact (below_size (ms HB)))
    (case aL => have := LMc5.out; omega)
    intro v149 w54 ho hb hg hat
    rw [← Ny148.out] at ho
    replace BK136 := Aside0.mk (blk_grown (g := gb136) (o := .cells #[.int .i64 a0_0, .slice A0_1 l0_1.length c0_1] 26 (0, 0)) (mb BK136) hg (Kd.S_ne HO142.out BK136.out (by decide)))
    replace BK137 := Aside0.mk (blk_grown (g := gb137) (o := .cells #[.int .i64 a1_0, .slice A1_1 l1_1.length c1_1] 29 (0, 0)) (mb BK137) hg (Kd.S_away HO142.out (fun _ hk => hk.1)))
    replace BK138 := Aside0.mk (blk_grown (g := gb138) (o := .cells #[.int .i64 0, .slice none 0 0] 26 (0, 0)) (mb BK138) hg (Kd.S_ne HO142.out BK138.out (by decide)))
    replace BK143 := Aside0.mk (blk_grown (g := gb143) (o := .cells #[.int .i64 t139, .slice Ao50 t140.length co50] 26 (0, 0)) (mb BK143) hg (Kd.S_ne HO142.out BK143.out (by decide)))
    replace HB := Aside0.mk (hb)
    have HO150 := Aside0.mk (ho)
    clear HO142
    clear HO147
    clear ho hb hg hat
    obtain ⟨Ao56, co56, eo56⟩ := Kd.S_slice HO150.out
    (first | subst eo56 | (injection eo56 with f1_ f2_ f3_; have f4_ := f1_.symm; have f5_ := f3_.symm; clear f1_ f2_ f3_; subst f4_; subst f5_))
    refine hK.out _ _ ⟨(c2 BK143).1, (c2 BK143).2, (c2 BK137).1, (c2 BK137).2⟩ (fun hHeld => ?_)
    clear hK K
    refine norm_ (a' := ?_) ?_ ?_
    rotate_left
    ·show Act.put _ (some 14) _ = _
     simp only [Act.put, List.setIfInBounds_toArray, List.set_cons_zero, List.set_cons_succ, i64_w, i32_w]
     rfl
    refine pure_ (i := 6) (N := some 15) (v := ?_) (a' := ?_) #[true, true, true, true, true, true, true, false] rfl rfl (any_of HT_.out (by kernel_rfl)) (fun _ _ _ h => h) (Or.inl ⟨by rfl, ?_⟩) ?_ ?_
    rotate_left
    ·intro w'
     go_simp
     with_reducible rfl
    rotate_left
    ·simp only [Act.put, List.setIfInBounds_toArray, List.set_cons_zero, List.set_cons_succ, i64_w, i32_w]
     rfl
    refine last_ (i := 7) (N := none) #[true, true, true, true, true, true, true, true] rfl rfl (one_of HT_.out (by kernel_rfl)) (by decide) (fun K hK => ?_)
    have hs57 : w54.cell? ⟨gb143, 1, none⟩ = some (.slice Ao50 t140.length co50) := (blk_cell BK143.out 1).trans rfl
    have hfs57 := blk_frozen BK143.out 1
    have hns57_0 := NB136_143.out
    have hns57_1 := NB137_143.out
    have hns57_2 := NB138_143.out
    have hms57_0 := NB143_136.out
    have hms57_1 := NB143_137.out
    have hms57_2 := NB143_138.out
    refine skip_ (w1 := ?_) (by rfl) rfl ?_ ?_
    rotate_left
    ·go_simp
     rfl
    refine hK.out _ _ ?_
    clear hK K
    refine done_ (done_of HT_.out (by kernel_rfl)) ?_
    obtain ⟨hcz58_0, hcz58_1⟩ := c2 BK136
    have hfz58_0 := blk_frozen BK136.out 0
    have hfz58_1 := blk_frozen BK136.out 1
    try go_wp2_with (first | ((with_reducible refine gate_callee (f := 79) rfl ?_); refine gl (some 17) rfl rfl Try.func79 (by kernel_rfl) rfl #[.agg #[.int .i64 a0_0, .slice A0_1 l0_1.length c0_1]] rfl ?_; (with_reducible refine (spec_IsValidSystem.calls k a0_0 _ _ l0_1 true _ ?side1 ?side2 A6.out).mono ?_); (case side1 => exact Kd.C_below HR0_1.out (ms HB)); (case side2 => exact HC0_1.out); rintro e w59 ⟨rfl, hb⟩; refine ⟨_, rfl, ?_⟩; have n0_ := Aside0.mk (Kd.S_below (by (with_reducible repeat (first | apply Kd.S_alloc | apply Kd.S_drewN | apply Kd.S_drew)); exact (Kd.S_mono (Kd.S_far (p := ⟨gb143, 1, none⟩) (Kd.S_types HO150.out BK143.out (by decide)) (fun _ hk => hk.2) (.slice Ao56 y148.length co56)) (fun _ h_ => h_.1))) hb); have n1_ := bf BK136 hb; have n2_ := bf BK137 hb; have n3_ := bf BK138 hb; have n4_ := Aside0.mk (blk_below (g := gb143) (o := .cells #[.int .i64 t139, .slice Ao56 y148.length co56] 26 (0, 0)) (by (with_reducible repeat (first | refine blk_drewN ?_ _ | refine blk_drew ?_ | refine blk_alloc ?_ _)); refine blk_put (cs := #[.int .i64 t139, .slice Ao50 t140.length co50]) ?_ 1 _ rfl; (with_reducible repeat (first | refine blk_drewN ?_ _ | refine blk_drew ?_ | refine blk_alloc ?_ _)); exact BK143.out) hb); have n5_ := bs HB hb; clear HO150 BK136 BK137 BK138 BK143 HB; have HO150 := n0_; have BK136 := n1_; have BK137 := n2_; have BK138 := n3_; have BK143 := n4_; have HB := n5_; clear n0_ n1_ n2_ n3_ n4_ n5_; (try clear hb); obtain ⟨hcz60_0, hcz60_1⟩ := c2 BK143; have hfz60_0 := blk_frozen BK143.out 0; have hfz60_1 := blk_frozen BK143.out 1) | (go_at_call 79; (with_reducible refine (spec_IsValidSystem.calls k t139 _ _ y148 false _ ?side1 ?side2 A8.out).mono ?_); (case side1 => exact mc ((Kd.S_reads' HO150.out).2.2)); (case side2 => exact (Kd.S_reads' HO150.out).2.1); rintro e w61 ⟨rfl, hb⟩; replace HO150 := bS HO150 hb; replace BK136 := bb BK136 hb; replace BK137 := bb BK137 hb; replace BK138 := bb BK138 hb; replace BK143 := bb BK143 hb; replace HB := bs HB hb; (try clear hb); obtain ⟨hcz62_0, hcz62_1⟩ := c2 BK136; have hfz62_0 := blk_frozen BK136.out 0; have hfz62_1 := blk_frozen BK136.out 1) | ((with_reducible refine gate_callee (f := 89) rfl ?_); refine gl (some 25) rfl rfl Try.func89 (by kernel_rfl) rfl #[.agg #[.int .i64 a0_0, .slice A0_1 l0_1.length c0_1]] rfl ?_; (with_reducible refine (spec_l6Copy.calls k a0_0 _ _ l0_1 t153 t154 _ ?side1 ?side2 A37.out).mono ?_); (case side1 => exact mc ((Kd.C_below HR0_1.out HB.out))); (case side2 => exact HC0_1.out); rintro e w63 ⟨v155, rfl, ho0, hb⟩; refine ⟨_, rfl, ?_⟩; have HO156 := Aside0.mk (Kd.S_lower (Kd.S_newB (Kd.S_new' ho0 (Kd.S_lt (mS HO150))) (g := gb137) (o := .cells #[.int .i64 a1_0, .slice A1_1 l1_1.length c1_1] 29 (0, 0)) (mb BK137)) (below_size (ms HB))); replace HO150 := Aside0.mk (Kd.S_elder' (mS HO150) (Kd.S_base ho0) hb); replace BK136 := bb BK136 hb; replace BK137 := bb BK137 hb; replace BK138 := bb BK138 hb; replace BK143 := bb BK143 hb; replace HB := bs HB hb; (try clear hb); (try clear ho0); have hnb64 := NB138_137.out; have hnc64 := NB137_138.out; obtain ⟨hcz65_0, hcz65_1⟩ := c2 BK138; have hfz65_0 := blk_frozen BK138.out 0; have hfz65_1 := blk_frozen BK138.out 1; obtain ⟨Ao66, co66, eo66⟩ := Kd.S_slice HO156.out; subst eo66))
    refine bodyPost_ret (results_ct rfl _ _ gb138 26 #[.int .i64 t153, .slice Ao66 t154.length co66] (0, 0) _ rfl (by (with_reducible repeat (first | refine blk_drewN ?_ _ | refine blk_drew ?_ | refine blk_alloc ?_ _)); refine blk_put (cs := #[.int .i64 t153, .slice none 0 0]) ?_ 1 _ rfl; (with_reducible repeat (first | refine blk_drewN ?_ _ | refine blk_drew ?_ | refine blk_alloc ?_ _)); refine blk_put (cs := #[.int .i64 0, .slice none 0 0]) ?_ 0 _ rfl; (with_reducible repeat (first | refine blk_drewN ?_ _ | refine blk_drew ?_ | refine blk_alloc ?_ _)); exact BK138.out) Try.underlying26 rfl (by kernel_rfl)) rfl ?_
    exact ⟨_, by first | rfl | (simp [errW_none, errW_some] <;> rfl) | (simp [*, errW_none, errW_some] <;> rfl), by (with_reducible repeat (first | apply Kd.S_alloc | apply Kd.S_drewN | apply Kd.S_drew)); exact Kd.S_mono (Kd.S_far (p := ⟨gb138, 1, none⟩) (Kd.S_far (p := ⟨gb138, 0, none⟩) (Kd.S_types HO156.out BK138.out (by decide)) (fun _ hk => hk.2) (.int .i64 t153)) (fun _ hk => hk.2) (.slice Ao66 t154.length co66)) (fun _ hk => trivial), ms HB⟩
  ·replace c7 := Bool.eq_false_iff.mpr c7
   subst c7
   have H1 : ((spec_l6Copy.f k a0_0 l0_1).bind fun bt157 => (some (bt157.1, bt157.2, false))) = some (r1, r2, r3) := by rw [if_neg (show ¬ (false = true) by decide)] at H; exact H
   clear H
   have H := H1
   clear H1
   replace H := Option.bind_eq_some_iff.mp H
   obtain ⟨⟨t157, t158⟩, A670, H⟩ := H
   replace H : (some (t157, t158, false)) = some (r1, r2, r3) := H
   have A67 := Aside0.mk A670
   clear A670
   simp only [Option.some.injEq, Prod.mk.injEq] at H
   obtain ⟨rfl, rfl, rfl⟩ := H
   go_enter Try.func24, Try.ntmps24
   try go_wp2_with (first | ((with_reducible refine gate_dst (N := 2) rfl ?_); refine box_event ?hg (N := 2) ?hd (cs := #[.int .i64 a0_0, .slice A0_1 l0_1.length c0_1]) (t := 26) ?hr ?_; (case hd => rfl); (case hg => rfl); (case hr => first | (go_simp; done) | (go_simp; rfl)); intro gb136 hg w68 hbox hb; have BK136 := Aside0.mk (hbox); have GW136 := gw hg HB; have GE136 := gw hg HB; replace HB := bs HB hb; clear hb hbox hg) | ((with_reducible refine gate_dst (N := 3) rfl ?_); refine box_event ?hg (N := 3) ?hd (cs := #[.int .i64 a1_0, .slice A1_1 l1_1.length c1_1]) (t := 29) ?hr ?_; (case hd => rfl); (case hg => rfl); (case hr => first | (go_simp; done) | (go_simp; rfl)); intro gb137 hg w69 hbox hb; have BK137 := Aside0.mk (hbox); have GW137 := gw hg HB; have GE137 := gw hg HB; replace HB := bs HB hb; have NB136_137 := nl hg BK136; have NB137_136 := ng hg BK136; replace BK136 := bb BK136 hb; clear hb hbox hg) | ((with_reducible refine gate_dst (N := 4) rfl ?_); refine box_event ?hg (N := 4) ?hd (cs := #[.int .i64 0, .slice none 0 0]) (t := 26) ?hr ?_; (case hd => rfl); (case hg => rfl); (case hr => first | (go_simp; done) | (go_simp; rfl)); intro gb138 hg w70 hbox hb; have BK138 := Aside0.mk (hbox); have GW138 := gw hg HB; have GE138 := gw hg HB; replace HB := bs HB hb; have NB136_138 := nl hg BK136; have NB138_136 := ng hg BK136; replace BK136 := bb BK136 hb; have NB137_138 := nl hg BK137; have NB138_137 := ng hg BK137; replace BK137 := bb BK137 hb; clear hb hbox hg; have hnb71 := NB136_137.out; have hnc71 := NB137_136.out; have hnb72 := NB136_138.out; have hnc72 := NB138_136.out; obtain ⟨hcz73_0, hcz73_1⟩ := c2 BK136; have hfz73_0 := blk_frozen BK136.out 0; have hfz73_1 := blk_frozen BK136.out 1) | ((with_reducible refine gate_callee (f := 89) rfl ?_); refine gl (some 8) rfl rfl Try.func89 (by kernel_rfl) rfl #[.agg #[.int .i64 a0_0, .slice A0_1 l0_1.length c0_1]] rfl ?_; (with_reducible refine (spec_l6Copy.calls k a0_0 _ _ l0_1 t139 t140 _ ?side1 ?side2 A3.out).mono ?_); (case side1 => exact mc ((Kd.C_below HR0_1.out HB.out))); (case side2 => exact HC0_1.out); rintro e w74 ⟨v141, rfl, ho0, hb⟩; refine ⟨_, rfl, ?_⟩; have HO142 := Aside0.mk (Kd.S_lower (Kd.S_newB ho0 (g := gb137) (o := .cells #[.int .i64 a1_0, .slice A1_1 l1_1.length c1_1] 29 (0, 0)) (mb BK137)) (below_size (ms HB))); replace BK136 := bb BK136 hb; replace BK137 := bb BK137 hb; replace BK138 := bb BK138 hb; replace HB := bs HB hb; (try clear hb); (try clear ho0)) | ((with_reducible refine gate_dst (N := 6) rfl ?_); refine box_event ?hg (N := 6) ?hd (cs := #[.int .i64 0, .slice none 0 0]) (t := 26) ?hr ?_; (case hd => rfl); (case hg => rfl); (case hr => first | (go_simp; done) | (go_simp; rfl)); intro gb143 hg w75 hbox hb; replace HO142 := bS HO142 hb; have BK143 := Aside0.mk (hbox); have GW143 := gw hg HB; have GE143 := gw hg HB; replace HB := bs HB hb; have NB136_143 := nl hg BK136; have NB143_136 := ng hg BK136; replace BK136 := bb BK136 hb; have NB137_143 := nl hg BK137; have NB143_137 := ng hg BK137; replace BK137 := bb BK137 hb; have NB138_143 := nl hg BK138; have NB143_138 := ng hg BK138; replace BK138 := bb BK138 hb; clear hb hbox hg; have hnb76 := NB143_136.out; have hnc76 := NB136_143.out; have hnb77 := NB143_137.out; have hnc77 := NB137_143.out; have hnb78 := NB143_138.out; have hnc78 := NB138_143.out; obtain ⟨hcz79_0, hcz79_1⟩ := c2 BK143; have hfz79_0 := blk_frozen BK143.out 0; have hfz79_1 := blk_frozen BK143.out 1; obtain ⟨Ao80, co80, eo80⟩ := Kd.S_slice HO142.out; subst eo80))
   have n0_ : Aside0 (Kd.S k29 29 ((w75.setCell ⟨gb143, 0, none⟩ (.int .i64 t139)).setCell ⟨gb143, 1, none⟩ (.slice Ao80 t140.length co80)) w.heap.size (fun k_ => k_ ≠ gb137) (.slice Ao80 t140.length co80) t140) := ⟨by (with_reducible repeat (first | apply Kd.S_alloc | apply Kd.S_drewN | apply Kd.S_drew)); exact Kd.S_mono (Kd.S_far (p := ⟨gb143, 1, none⟩) (Kd.S_far (p := ⟨gb143, 0, none⟩) (Kd.S_types HO142.out BK143.out (by decide)) (fun _ hk => hk.2) (.int .i64 t139)) (fun _ hk => hk.2) (.slice Ao80 t140.length co80)) (fun _ hk => hk.1.2)⟩
   have n1_ : Aside0 (((w75.setCell ⟨gb143, 0, none⟩ (.int .i64 t139)).setCell ⟨gb143, 1, none⟩ (.slice Ao80 t140.length co80)).heap[gb136]? = some (.cells #[.int .i64 a0_0, .slice A0_1 l0_1.length c0_1] 26 (0, 0))) := ⟨by (with_reducible repeat (first | refine blk_drewN ?_ _ | refine blk_drew ?_ | refine blk_alloc ?_ _)); refine blk_far ?_ NB136_143.out _; (with_reducible repeat (first | refine blk_drewN ?_ _ | refine blk_drew ?_ | refine blk_alloc ?_ _)); refine blk_far ?_ NB136_143.out _; (with_reducible repeat (first | refine blk_drewN ?_ _ | refine blk_drew ?_ | refine blk_alloc ?_ _)); exact BK136.out⟩
   have n2_ : Aside0 (((w75.setCell ⟨gb143, 0, none⟩ (.int .i64 t139)).setCell ⟨gb143, 1, none⟩ (.slice Ao80 t140.length co80)).heap[gb137]? = some (.cells #[.int .i64 a1_0, .slice A1_1 l1_1.length c1_1] 29 (0, 0))) := ⟨by (with_reducible repeat (first | refine blk_drewN ?_ _ | refine blk_drew ?_ | refine blk_alloc ?_ _)); refine blk_far ?_ NB137_143.out _; (with_reducible repeat (first | refine blk_drewN ?_ _ | refine blk_drew ?_ | refine blk_alloc ?_ _)); refine blk_far ?_ NB137_143.out _; (with_reducible repeat (first | refine blk_drewN ?_ _ | refine blk_drew ?_ | refine blk_alloc ?_ _)); exact BK137.out⟩
   have n3_ : Aside0 (((w75.setCell ⟨gb143, 0, none⟩ (.int .i64 t139)).setCell ⟨gb143, 1, none⟩ (.slice Ao80 t140.length co80)).heap[gb138]? = some (.cells #[.int .i64 0, .slice none 0 0] 26 (0, 0))) := ⟨by (with_reducible repeat (first | refine blk_drewN ?_ _ | refine blk_drew ?_ | refine blk_alloc ?_ _)); refine blk_far ?_ NB138_143.out _; (with_reducible repeat (first | refine blk_drewN ?_ _ | refine blk_drew ?_ | refine blk_alloc ?_ _)); refine blk_far ?_ NB138_143.out _; (with_reducible repeat (first | refine blk_drewN ?_ _ | refine blk_drew ?_ | refine blk_alloc ?_ _)); exact BK138.out⟩
   have n4_ : Aside0 (((w75.setCell ⟨gb143, 0, none⟩ (.int .i64 t139)).setCell ⟨gb143, 1, none⟩ (.slice Ao80 t140.length co80)).heap[gb143]? = some (.cells #[.int .i64 t139, .slice Ao80 t140.length co80] 26 (0, 0))) := ⟨by (with_reducible repeat (first | refine blk_drewN ?_ _ | refine blk_drew ?_ | refine blk_alloc ?_ _)); refine blk_put (cs := #[.int .i64 t139, .slice none 0 0]) ?_ 1 _ rfl; (with_reducible repeat (first | refine blk_drewN ?_ _ | refine blk_drew ?_ | refine blk_alloc ?_ _)); refine blk_put (cs := #[.int .i64 0, .slice none 0 0]) ?_ 0 _ rfl; (with_reducible repeat (first | refine blk_drewN ?_ _ | refine blk_drew ?_ | refine blk_alloc ?_ _)); exact BK143.out⟩
   have n5_ : Aside0 (Below w.heap.size w ((w75.setCell ⟨gb143, 0, none⟩ (.int .i64 t139)).setCell ⟨gb143, 1, none⟩ (.slice Ao80 t140.length co80))) := ⟨ms HB⟩
   (try clear HO142)
   (try clear BK136)
   (try clear BK137)
   (try clear BK138)
   (try clear BK143)
   (try clear HB)
   generalize ((w75.setCell ⟨gb143, 0, none⟩ (.int .i64 t139)).setCell ⟨gb143, 1, none⟩ (.slice Ao80 t140.length co80)) = w81 at n0_ n1_ n2_ n3_ n4_ n5_ ⊢
   have HO142 := n0_
   have BK136 := n1_
   have BK137 := n2_
   have BK138 := n3_
   have BK143 := n4_
   have HB := n5_
   clear n0_ n1_ n2_ n3_ n4_ n5_
   replace HO142 := Aside0.mk (Kd.S_drew HO142.out)
   replace BK136 := Aside0.mk (blk_drew BK136.out)
   replace BK137 := Aside0.mk (blk_drew BK137.out)
   replace BK138 := Aside0.mk (blk_drew BK138.out)
   replace BK143 := Aside0.mk (blk_drew BK143.out)
   replace HB := Aside0.mk (below_drew1 HB.out)
   refine start_ (n := 8) (S := fun w' => w'.cell? ⟨gb143, 0, none⟩ = some (.int .i64 t139) ∧ w'.cell? ⟨gb143, 1, none⟩ = some (.slice Ao80 t140.length co80) ∧ w'.cell? ⟨gb137, 0, none⟩ = some (.int .i64 a1_0) ∧ w'.cell? ⟨gb137, 1, none⟩ = some (.slice A1_1 l1_1.length c1_1)) (ds := [7]) #[false, false, false, false, false, false, false, false] (by kernel_rfl) rfl rfl ⟨(c2 BK143).1, (c2 BK143).2, (c2 BK137).1, (c2 BK137).2⟩ (fun hHeld => ?_); refine with_tabW spec_AddRow.tab2 spec_AddRow.bits2 (fun HT_ HW_ => ?_)
   generalize w81.drew = w82 at HO142 BK136 BK137 BK138 BK143 HB hHeld ⊢
   refine pure_ (i := 0) (N := some 9) (v := ?_) (a' := ?_) #[true, false, false, false, false, false, false, false] rfl rfl (any_of HT_.out (by kernel_rfl)) (fun _ _ _ h => h) (Or.inl ⟨by rfl, ?_⟩) ?_ ?_
   rotate_left
   ·intro w'
    go_simp
    with_reducible rfl
   rotate_left
   ·simp only [Act.put, List.setIfInBounds_toArray, List.set_cons_zero, List.set_cons_succ, i64_w, i32_w]
    rfl
   refine take_ (i := 1) (N := some 10) (v := ?_) (a' := ?_) #[true, true, false, false, false, false, false, false] rfl rfl (take_ofW HT_.out HW_.out (by kernel_rfl)) (fun _ _ _ h => h) (Or.inl ⟨by rfl, ?_⟩) hHeld ?_ ?_
   rotate_left
   ·rintro w' ⟨s0, s1, s2, s3⟩
    go_simp
    with_reducible rfl
   rotate_left
   ·simp only [Act.put, List.setIfInBounds_toArray, List.set_cons_zero, List.set_cons_succ, i64_w, i32_w]
    rfl
   refine take_ (i := 2) (N := some 11) (v := ?_) (a' := ?_) #[true, true, true, false, false, false, false, false] rfl rfl (take_ofW HT_.out HW_.out (by kernel_rfl)) (fun _ _ _ h => h) (Or.inl ⟨by rfl, ?_⟩) hHeld ?_ ?_
   rotate_left
   ·rintro w' ⟨s0, s1, s2, s3⟩
    go_simp
    with_reducible rfl
   rotate_left
   ·simp only [Act.put, List.setIfInBounds_toArray, List.set_cons_zero, List.set_cons_succ, i64_w, i32_w]
    rfl
   refine one_ (i := 3) (N := some 12) #[true, true, true, true, false, false, false, false] rfl rfl (one_of HT_.out (by kernel_rfl)) (by decide) (fun K hK => ?_)
   refine gs Try.func90 (by kernel_rfl) rfl #[.agg #[.int .i64 a1_0, .slice A1_1 l1_1.length c1_1]] (by rfl) rfl rfl ?_
   with_reducible refine (spec_l4Copy.calls a1_0 _ _ l1_1 t144 t145 _ ?side1 ?side2 A4.out).mono ?_
   (case side1 => exact mc ((Kd.C_below HR1_1.out HB.out)))
   (case side2 => exact HC1_1.out)
   rintro e w83 ⟨v146, rfl, ho0, hb⟩
   refine ⟨_, rfl, ?_⟩
   replace HO142 := lS HO142 ho0 hb
   have HO147 := Aside0.mk (Kd.R_lower ho0 (below_size (ms HB)))
   replace BK136 := bb BK136 hb
   replace BK137 := bb BK137 hb
   replace BK138 := bb BK138 hb
   replace BK143 := bb BK143 hb
   replace HB := bs HB hb
   (try clear hb)
   (try clear hb2)
   (try clear hk)
   (try clear hi)
   (try clear ho0)
   obtain ⟨Ao85, co85, eo85⟩ := Kd.R_slice HO147.out
   (first | subst eo85 | (injection eo85 with f1_ f2_ f3_; have f4_ := f1_.symm; have f5_ := f3_.symm; clear f1_ f2_ f3_; subst f4_; subst f5_))
   refine hK.out _ _ ⟨(c2 BK143).1, (c2 BK143).2, (c2 BK137).1, (c2 BK137).2⟩ (fun hHeld => ?_)
   clear hK K
   refine norm_ (a' := ?_) ?_ ?_
   rotate_left
   ·show Act.put _ (some 12) _ = _
    simp only [Act.put, List.setIfInBounds_toArray, List.set_cons_zero, List.set_cons_succ, i64_w, i32_w]
    rfl
   refine one_ (i := 4) (N := some 13) #[true, true, true, true, true, false, false, false] rfl rfl (one_of HT_.out (by kernel_rfl)) (by decide) (fun K hK => ?_)
   refine value_ (w1 := ?_) (v := ?_) (by rfl) rfl ?_ ?_
   rotate_left 2
   ·go_simp
    constructor
    ·rfl
    ·rfl
   refine hK.out _ _ ⟨(blk_cell (blk_alloc BK143.out _) 0).trans rfl, (blk_cell (blk_alloc BK143.out _) 1).trans rfl, (blk_cell (blk_alloc BK137.out _) 0).trans rfl, (blk_cell (blk_alloc BK137.out _) 1).trans rfl⟩ (fun hHeld => ?_)
   clear hK K
   refine norm_ (a' := ?_) ?_ ?_
   rotate_left
   ·show Act.put _ (some 13) _ = _
    simp only [Act.put, List.setIfInBounds_toArray, List.set_cons_zero, List.set_cons_succ, i64_w, i32_w]
    rfl
   refine one_ (i := 5) (N := some 14) #[true, true, true, true, true, true, false, false] rfl rfl (one_of HT_.out (by kernel_rfl)) (by decide) (fun K hK => ?_)
   refine Kd.S_append_step k29 (w0 := w) w.heap.size (by rfl) (.tmp 10) (.tmp 13) 24 29 (.agg #[(.int .i64 0), (.slice none 0 0)]) 32 rfl Try.underlying24 info29 rfl (by decide) (by omega) (.slice Ao80 t140.length co80) t140 (⟨t144, t145⟩ : S29) [.int .i64 t144, .slice Ao85 t145.length co85] (fun k_ => k_ ≠ gb137) (fun k_ => some k_ = (.slice Ao85 t145.length co85 : Value).ownBlock) rfl rfl ?aP (fun k_ hk_ => ((Kd.R_mono (ok' := fun k_ => ((fun k_ => k_ ≠ gb137)) k_ ∧ some k_ ≠ (.slice Ao80 t140.length co80 : Value).ownBlock) (Kd.R_types (Kd.R_apart' (HO147.out) (Kd.S_typed HO142.out) (by decide)) BK137.out (by decide)) (fun k_ hk => ⟨hk.2, hk.1.2⟩))).1 k_ hk_.symm) ?aF ?aO ?aB ?aS ?aL ?_
   (case aP => exact k29_mkM _ _ _ (⟨t144, t145⟩ : S29) (Kd.R_mono (Kd.R_tight rfl (Kd.R_mono (ok' := fun k_ => ((fun k_ => k_ ≠ gb137)) k_ ∧ some k_ ≠ (.slice Ao80 t140.length co80 : Value).ownBlock) (Kd.R_types (Kd.R_apart' (HO147.out) (Kd.S_typed HO142.out) (by decide)) BK137.out (by decide)) (fun k_ hk => ⟨hk.2, hk.1.2⟩))) (fun _ h_ => h_)))
   (case aB => exact (ms HB))
   (case aF => exact (fun k_ hk => Kd.freshB (g := gb137) (o := .cells #[.int .i64 a1_0, .slice A1_1 l1_1.length c1_1] 29 (0, 0)) (mb BK137) k_ hk))
   (case aO => exact (by (with_reducible repeat (first | apply Kd.S_alloc | apply Kd.S_drewN | apply Kd.S_drew)); exact Kd.S_mono HO142.out (fun k_ hk => ⟨hk.1, fun e_ => hk.2 e_⟩)))
   (case aS => exact (below_size (ms HB)))
   (case aL => have := LMc5.out; omega)
   intro v149 w84 ho hb hg hat
   rw [← Ny148.out] at ho
   replace BK136 := Aside0.mk (blk_grown (g := gb136) (o := .cells #[.int .i64 a0_0, .slice A0_1 l0_1.length c0_1] 26 (0, 0)) (mb BK136) hg (Kd.S_ne HO142.out BK136.out (by decide)))
   replace BK137 := Aside0.mk (blk_grown (g := gb137) (o := .cells #[.int .i64 a1_0, .slice A1_1 l1_1.length c1_1] 29 (0, 0)) (mb BK137) hg (Kd.S_away HO142.out (fun _ hk => hk.1)))
   replace BK138 := Aside0.mk (blk_grown (g := gb138) (o := .cells #[.int .i64 0, .slice none 0 0] 26 (0, 0)) (mb BK138) hg (Kd.S_ne HO142.out BK138.out (by decide)))
   replace BK143 := Aside0.mk (blk_grown (g := gb143) (o := .cells #[.int .i64 t139, .slice Ao80 t140.length co80] 26 (0, 0)) (mb BK143) hg (Kd.S_ne HO142.out BK143.out (by decide)))
   replace HB := Aside0.mk (hb)
   have HO150 := Aside0.mk (ho)
   clear HO142
   clear HO147
   clear ho hb hg hat
   obtain ⟨Ao86, co86, eo86⟩ := Kd.S_slice HO150.out
   (first | subst eo86 | (injection eo86 with f1_ f2_ f3_; have f4_ := f1_.symm; have f5_ := f3_.symm; clear f1_ f2_ f3_; subst f4_; subst f5_))
   refine hK.out _ _ ⟨(c2 BK143).1, (c2 BK143).2, (c2 BK137).1, (c2 BK137).2⟩ (fun hHeld => ?_)
   clear hK K
   refine norm_ (a' := ?_) ?_ ?_
   rotate_left
   ·show Act.put _ (some 14) _ = _
    simp only [Act.put, List.setIfInBounds_toArray, List.set_cons_zero, List.set_cons_succ, i64_w, i32_w]
    rfl
   refine pure_ (i := 6) (N := some 15) (v := ?_) (a' := ?_) #[true, true, true, true, true, true, true, false] rfl rfl (any_of HT_.out (by kernel_rfl)) (fun _ _ _ h => h) (Or.inl ⟨by rfl, ?_⟩) ?_ ?_
   rotate_left
   ·intro w'
    go_simp
    with_reducible rfl
   rotate_left
   ·simp only [Act.put, List.setIfInBounds_toArray, List.set_cons_zero, List.set_cons_succ, i64_w, i32_w]
    rfl
   refine last_ (i := 7) (N := none) #[true, true, true, true, true, true, true, true] rfl rfl (one_of HT_.out (by kernel_rfl)) (by decide) (fun K hK => ?_)
   have hs87 : w84.cell? ⟨gb143, 1, none⟩ = some (.slice Ao80 t140.length co80) := (blk_cell BK143.out 1).trans rfl
   have hfs87 := blk_frozen BK143.out 1
   have hns87_0 := NB136_143.out
   have hns87_1 := NB137_143.out
   have hns87_2 := NB138_143.out
   have hms87_0 := NB143_136.out
   have hms87_1 := NB143_137.out
   have hms87_2 := NB143_138.out
   refine skip_ (w1 := ?_) (by rfl) rfl ?_ ?_
   rotate_left
   ·go_simp
    rfl
   refine hK.out _ _ ?_
   clear hK K
   refine done_ (done_of HT_.out (by kernel_rfl)) ?_
   obtain ⟨hcz88_0, hcz88_1⟩ := c2 BK136
   have hfz88_0 := blk_frozen BK136.out 0
   have hfz88_1 := blk_frozen BK136.out 1
   try go_wp2_with (first | ((with_reducible refine gate_callee (f := 79) rfl ?_); refine gl (some 17) rfl rfl Try.func79 (by kernel_rfl) rfl #[.agg #[.int .i64 a0_0, .slice A0_1 l0_1.length c0_1]] rfl ?_; (with_reducible refine (spec_IsValidSystem.calls k a0_0 _ _ l0_1 false _ ?side1 ?side2 A6.out).mono ?_); (case side1 => exact Kd.C_below HR0_1.out (ms HB)); (case side2 => exact HC0_1.out); rintro e w89 ⟨rfl, hb⟩; refine ⟨_, rfl, ?_⟩; have n0_ := Aside0.mk (Kd.S_below (by (with_reducible repeat (first | apply Kd.S_alloc | apply Kd.S_drewN | apply Kd.S_drew)); exact (Kd.S_mono (Kd.S_far (p := ⟨gb143, 1, none⟩) (Kd.S_types HO150.out BK143.out (by decide)) (fun _ hk => hk.2) (.slice Ao86 y148.length co86)) (fun _ h_ => h_.1))) hb); have n1_ := bf BK136 hb; have n2_ := bf BK137 hb; have n3_ := bf BK138 hb; have n4_ := Aside0.mk (blk_below (g := gb143) (o := .cells #[.int .i64 t139, .slice Ao86 y148.length co86] 26 (0, 0)) (by (with_reducible repeat (first | refine blk_drewN ?_ _ | refine blk_drew ?_ | refine blk_alloc ?_ _)); refine blk_put (cs := #[.int .i64 t139, .slice Ao80 t140.length co80]) ?_ 1 _ rfl; (with_reducible repeat (first | refine blk_drewN ?_ _ | refine blk_drew ?_ | refine blk_alloc ?_ _)); exact BK143.out) hb); have n5_ := bs HB hb; clear HO150 BK136 BK137 BK138 BK143 HB; have HO150 := n0_; have BK136 := n1_; have BK137 := n2_; have BK138 := n3_; have BK143 := n4_; have HB := n5_; clear n0_ n1_ n2_ n3_ n4_ n5_; (try clear hb); obtain ⟨hcz90_0, hcz90_1⟩ := c2 BK136; have hfz90_0 := blk_frozen BK136.out 0; have hfz90_1 := blk_frozen BK136.out 1) | ((with_reducible refine gate_callee (f := 89) rfl ?_); refine gl (some 25) rfl rfl Try.func89 (by kernel_rfl) rfl #[.agg #[.int .i64 a0_0, .slice A0_1 l0_1.length c0_1]] rfl ?_; (with_reducible refine (spec_l6Copy.calls k a0_0 _ _ l0_1 t157 t158 _ ?side1 ?side2 A67.out).mono ?_); (case side1 => exact mc ((Kd.C_below HR0_1.out HB.out))); (case side2 => exact HC0_1.out); rintro e w91 ⟨v159, rfl, ho0, hb⟩; refine ⟨_, rfl, ?_⟩; have HO160 := Aside0.mk (Kd.S_lower (Kd.S_newB (Kd.S_new' ho0 (Kd.S_lt (mS HO150))) (g := gb137) (o := .cells #[.int .i64 a1_0, .slice A1_1 l1_1.length c1_1] 29 (0, 0)) (mb BK137)) (below_size (ms HB))); replace HO150 := Aside0.mk (Kd.S_elder' (mS HO150) (Kd.S_base ho0) hb); replace BK136 := bb BK136 hb; replace BK137 := bb BK137 hb; replace BK138 := bb BK138 hb; replace BK143 := bb BK143 hb; replace HB := bs HB hb; (try clear hb); (try clear ho0); have hnb92 := NB138_137.out; have hnc92 := NB137_138.out; obtain ⟨hcz93_0, hcz93_1⟩ := c2 BK138; have hfz93_0 := blk_frozen BK138.out 0; have hfz93_1 := blk_frozen BK138.out 1; obtain ⟨Ao94, co94, eo94⟩ := Kd.S_slice HO160.out; subst eo94))
   refine bodyPost_ret (results_ct rfl _ _ gb138 26 #[.int .i64 t157, .slice Ao94 t158.length co94] (0, 0) _ rfl (by (with_reducible repeat (first | refine blk_drewN ?_ _ | refine blk_drew ?_ | refine blk_alloc ?_ _)); refine blk_put (cs := #[.int .i64 t157, .slice none 0 0]) ?_ 1 _ rfl; (with_reducible repeat (first | refine blk_drewN ?_ _ | refine blk_drew ?_ | refine blk_alloc ?_ _)); refine blk_put (cs := #[.int .i64 0, .slice none 0 0]) ?_ 0 _ rfl; (with_reducible repeat (first | refine blk_drewN ?_ _ | refine blk_drew ?_ | refine blk_alloc ?_ _)); exact BK138.out) Try.underlying26 rfl (by kernel_rfl)) rfl ?_
   exact ⟨_, by first | rfl | (simp [errW_none, errW_some] <;> rfl) | (simp [*, errW_none, errW_some] <;> rfl), by (with_reducible repeat (first | apply Kd.S_alloc | apply Kd.S_drewN | apply Kd.S_drew)); exact Kd.S_mono (Kd.S_far (p := ⟨gb138, 1, none⟩) (Kd.S_far (p := ⟨gb138, 0, none⟩) (Kd.S_types HO160.out BK138.out (by decide)) (fun _ hk => hk.2) (.int .i64 t157)) (fun _ hk => hk.2) (.slice Ao94 t158.length co94)) (fun _ hk => trivial), ms HB⟩
 ·rw [if_neg c5] at H
  exact absurd H (by simp)

/-! ### laws_toIntS: function 34 -/
def laws_toIntS.l0 : Nat → List Int → List Int → Int → Option (List Int)
 | 0, _, _, _ => none
 | k + 1, x0, x3, x4 => if x4 < (x0.length : Int) then (if 0 ≤ x4 then (if x4 < (x3.length : Int) then (laws_toIntS.l0 k x0 (x3.set (x4 : Int).toNat (rd x0 x4)) (wrap64 (x4 + 1))) else (none)) else (none)) else (some x3)
def laws_toIntS.f (k : Nat) (l0 : List Int) : Option (List Int) := if 0 ≤ (l0.length : Int) then (if ((l0.length : Int) : Int).toNat ≤ 35184372088832 then (laws_toIntS.l0 k l0 (List.replicate ((l0.length : Int) : Int).toNat 0) 0) else (none)) else (none)
theorem laws_toIntS.mono_l : ∀ k, (∀ y0 y1 y2, LeO (laws_toIntS.l0 k y0 y1 y2) (laws_toIntS.l0 (k + 1) y0 y1 y2))
 | 0 => fun _ _ _ r h => by simp [laws_toIntS.l0] at h
 | k + 1 => by
  have ih0 := laws_toIntS.mono_l k
  ·intro y0 y1 y2
   unfold laws_toIntS.l0
   repeat' first
   | (with_reducible exact ih0 _ _ _)
   | (with_reducible exact LeO.refl _)
   | (with_reducible exact LeO.none _)
   | (with_reducible refine LeO.ite ?_ ?_)
   | (with_reducible refine LeO.bind ?_ (fun _ => ?_))
   | exact ih0 _ _ _
   | exact LeO.none _
   | refine LeO.ite ?_ ?_
   | refine LeO.bind ?_ (fun _ => ?_)
theorem laws_toIntS.mono : ∀ a0 k, LeO (laws_toIntS.f k a0) (laws_toIntS.f (k + 1) a0) := by
 intro a0 k
 have ih0 := laws_toIntS.mono_l k
 unfold laws_toIntS.f
 repeat' first
   | (with_reducible exact ih0 _ _ _)
   | (with_reducible exact LeO.refl _)
   | (with_reducible exact LeO.none _)
   | (with_reducible refine LeO.ite ?_ ?_)
   | (with_reducible refine LeO.bind ?_ (fun _ => ?_))
   | exact ih0 _ _ _
   | exact LeO.none _
   | refine LeO.ite ?_ ?_
   | refine LeO.bind ?_ (fun _ => ?_)
set_option maxHeartbeats 8000000 in
set_option maxRecDepth 100000 in
theorem laws_toIntS.calls (k : Nat) (A0 : Option Addr) (c0 : Nat) (l0 : List Int) (r : List Int) (w : World) (hr0 : Kd.C (Kd.int .i64) w A0 l0.length l0) (hc0 : l0.length ≤ c0) (h : laws_toIntS.f k l0 = some r) :
  Calls Try.prog 34 #[.slice A0 l0.length c0] w fun e w' => ∃ v0_ : Value, e = .returned (v0_) ∧ Kd.R (Kd.int .i64) 3 w' w.heap.size (fun _ => True) v0_ r ∧ Below w.heap.size w w' := by
 have HR0 := Aside0.mk hr0
 have HC0 := Aside0.mk hc0
 clear hr0 hc0
 have HB := Aside0.mk (Below.refl w.heap.size w)
 have H : (if 0 ≤ (l0.length : Int) then (if ((l0.length : Int) : Int).toNat ≤ 35184372088832 then (laws_toIntS.l0 k l0 (List.replicate ((l0.length : Int) : Int).toNat 0) 0) else (none)) else (none)) = some r := h
 clear h
 by_cases c2 : 0 ≤ (l0.length : Int)
 ·rw [if_pos c2] at H
  have c2b0 := eq_true c2
  have c2b1 : decide (0 ≤ (l0.length : Int)) = true := decide_eq_true c2
  clear c2
  by_cases c3 : ((l0.length : Int) : Int).toNat ≤ 35184372088832
  ·rw [if_pos c3] at H
   have c3b0 := eq_true c3
   have c3b1 : decide (((l0.length : Int) : Int).toNat ≤ 35184372088832) = true := decide_eq_true c3
   clear c3
   obtain ⟨y161, hy161⟩ : ∃ y_ : List Int, y_ = (List.replicate ((l0.length : Int) : Int).toNat 0) := ⟨_, rfl⟩
   replace H : (laws_toIntS.l0 k l0 y161 0) = some r := by first | (rw [hy161]; with_reducible exact H) | (have H2_ := (Option.bind_some _ _).symm.trans H; rw [hy161]; with_reducible exact H2_) | (have H2_ := (Option.bind_some _ _).symm.trans H; with_reducible exact H2_) | with_reducible exact H | (rw [hy161]; exact H) | exact H
   have Ny161 := Aside0.mk hy161
   clear hy161
   have H' := Aside0.mk H
   clear H
   go_enter Try.func34, Try.ntmps34
   go_wp2_with (first | ((with_reducible refine gate_dst (N := 7) rfl ?_); refine Kd.R_make (Kd.int .i64) _ 3 rfl (N := 7) rfl 27 _ _ rfl (l0.length : Int) rfl rfl Try.underlying27 (.int .i64 0) 8 info3 rfl (by decide) (by omega) 0 (ok := fun _ => True) (okp := fun _ => True) rfl (fun _ hk => hk) trivial (of_decide_eq_true (by first | (with_reducible assumption) | assumption)) (Nat.le_trans (Nat.mul_le_mul_right _ (of_decide_eq_true (by first | (with_reducible assumption) | assumption) : (l0.length : Int).toNat ≤ 35184372088832)) (by omega)) (Below.refl _ _) (Nat.le_refl _) ?_; intro v162 w4 ho5 hb hg_ hnew_; clear hg_ hnew_; (first | rw [← Ny161.out] at ho5 | (simp only [Int.reduceToNat] at ho5; rw [← Ny161.out] at ho5)); have HO163 := Aside0.mk (Kd.R_lower ho5 (below_size (ms HB))); replace HB := bs HB hb; clear hb ho5))
   go_loopg [4] k (fun kq v4 w' => ∃ (x3_1 : List Int) (x4_1 : Int), v4 = .int .i64 x4_1 ∧ Aside0 (laws_toIntS.l0 kq l0 x3_1 x4_1 = some r) ∧ Aside0 (kq ≤ k) ∧ Aside0 (Kd.R (Kd.int .i64) 3 w' w.heap.size (fun _ => True) v162 x3_1) ∧ Aside0 (Below w.heap.size w w'))
   case atStart => exact ⟨(y161), (0), (by first | rfl | (simp; done) | (simp [*]; done)), H', ⟨Nat.le_refl _⟩, ⟨by (with_reducible repeat (first | apply Kd.R_alloc | apply Kd.R_drewN | apply Kd.R_drew)); exact HO163.out⟩, ⟨ms HB⟩⟩
   case round =>
    clear H'
    try clear c2
    try clear c2b0
    try clear c2b1
    try clear p2
    try clear c3
    try clear c3b0
    try clear c3b1
    obtain ⟨x3_1, x4_1, rfl, HA, HK1, HO_3, HB⟩ := hrel
    cases gk with
    | zero => exact absurd HA.out (by simp [laws_toIntS.l0])
    | succ k1 =>
     have H := HA.out
     clear HA
     simp only [laws_toIntS.l0] at H
     by_cases c6 : x4_1 < (l0.length : Int)
     ·rw [if_pos c6] at H
      have c6b0 : decide (x4_1 < (l0.length : Int)) = true := decide_eq_true c6
      clear c6
      by_cases c7 : 0 ≤ x4_1
      ·rw [if_pos c7] at H
       have c7b0 : decide (0 ≤ x4_1) = true := decide_eq_true c7
       clear c7
       by_cases c8 : x4_1 < (x3_1.length : Int)
       ·rw [if_pos c8] at H
        have c8b0 : decide (x4_1 < (x3_1.length : Int)) = true := decide_eq_true c8
        clear c8
        obtain ⟨y165, hy165⟩ : ∃ y_ : List Int, y_ = (x3_1.set (x4_1 : Int).toNat (rd l0 x4_1)) := ⟨_, rfl⟩
        replace H : (laws_toIntS.l0 k1 l0 y165 (wrap64 (x4_1 + 1))) = some r := by first | (rw [hy165]; with_reducible exact H) | (have H2_ := (Option.bind_some _ _).symm.trans H; rw [hy165]; with_reducible exact H2_) | (have H2_ := (Option.bind_some _ _).symm.trans H; with_reducible exact H2_) | with_reducible exact H | (rw [hy165]; exact H) | exact H
        have Ny165 := Aside0.mk hy165
        clear hy165
        have H' := Aside0.mk H
        clear H
        have p164 : 0 ≤ (x4_1 : Int) := of_decide_eq_true (by first | (with_reducible assumption) | assumption)
        have q164 : x4_1 < (l0.length : Int) := of_decide_eq_true (by first | (with_reducible assumption) | assumption)
        obtain ⟨ad164, e164, hx164_0⟩ := Kd.at_int HR0.out x4_1 p164 q164
        cases e164
        replace hx164_0 := (HB.out.cell (World.block_lt_of_cell? w _ hx164_0)).trans hx164_0
        replace p164 := eq_true p164
        replace q164 := eq_true q164
        have p9 : 0 ≤ (x4_1 : Int) := of_decide_eq_true (by first | (with_reducible assumption) | assumption)
        have q9 : (x4_1 : Int) < ((x3_1.length : Int) : Int) := of_decide_eq_true (by first | (with_reducible assumption) | assumption)
        obtain ⟨go9, co9, eo9, gb9, gl9, cl9, HG9⟩ := Kd.R_form HO_3.out (by omega)
        (first | cases eo9 | (injection eo9 with ea_ en_ ec_; (first | subst ea_ | (injection ea_ with ea_; subst ea_)); subst ec_; clear en_))
        have GB9 := Aside0.mk gb9
        have GG9 := Aside0.mk HG9
        clear gb9 gl9 HG9
        obtain ⟨hx9_0, hf9_0⟩ := Kd.R_celln 0 HO_3.out (x4_1 : Int) p9 q9
        replace p9 := eq_true p9
        replace q9 := eq_true q9
        have HP10 := Kd.R_putg HO_3.out (x4_1 : Int) (rd l0 x4_1)
        go_wp2_with (first | ((with_reducible refine gate_store (t := 3) (p := 20) rfl ?_); refine store_event (t := 3) (p := 20) (v := ?vo_w11) (w1 := (wr.setCell ⟨go9, (x4_1 : Int).toNat, none⟩ (.int .i64 (rd l0 x4_1)))) ?hg ?ho ?hn ?hr ?_; (case ho => rfl); (case hg => rfl); (case hn => rfl); (case hr => first | (go_simp; done) | (go_simp; rfl)); intro w11 hw; have hg : wr.grownBy w11 (some go9) := (by rw [hw]; exact HP10.2); have hp_ : Kd.R (Kd.int .i64) 3 w11 w.heap.size (fun _ => True) (.slice (some ⟨go9, 0, none⟩) x3_1.length co9) y165 := (by rw [hw, Ny165.out]; exact HP10.1); clear HP10; have n0_ := Aside0.mk (hp_); have n1_ := Aside0.mk ((by rw [hw]; exact below_set (HB.out) GB9.out : Below w.heap.size w w11)); clear HO_3 HB; have HO_3 := n0_; have HB := n1_; clear n0_ n1_; clear hg hw hp_))
        go_roundg k1
        case measure => have := HK1.out; omega
        case rel => exact ⟨(y165), (wrap64 (x4_1 + 1)), (by first | rfl | (simp; done) | (simp [*]; done)), H', ⟨by have := HK1.out; omega⟩, ⟨by (with_reducible repeat (first | apply Kd.R_alloc | apply Kd.R_drewN | apply Kd.R_drew)); exact HO_3.out⟩, ⟨ms HB⟩⟩
       ·rw [if_neg c8] at H
        exact absurd H (by simp)
      ·rw [if_neg c7] at H
       exact absurd H (by simp)
     ·rw [if_neg c6] at H
      have c6b0 : decide (x4_1 < (l0.length : Int)) = false := decide_eq_false c6
      clear c6
      obtain rfl := Option.some.inj H
      go_wp2
      go_ret
      exact ⟨_, by first | rfl | (simp [errW_none, errW_some] <;> rfl) | (simp [*, errW_none, errW_some] <;> rfl), by (with_reducible repeat (first | apply Kd.R_alloc | apply Kd.R_drewN | apply Kd.R_drew)); exact HO_3.out, ms HB⟩
  ·rw [if_neg c3] at H
   exact absurd H (by simp)
 ·rw [if_neg c2] at H
  exact absurd H (by simp)

/-! ### laws_toLin: function 26 -/
def laws_toLin.f (k : Nat) (a0_0 : Int) (l0_1 : List Int) : Option (Int × List Int) := (laws_toIntS.f k l0_1).bind fun t169 => (some (a0_0, t169))
theorem laws_toLin.mono : ∀ a0 a1 k, LeO (laws_toLin.f k a0 a1) (laws_toLin.f (k + 1) a0 a1) := by
 intro a0 a1 k
 unfold laws_toLin.f
 repeat' first
   | (with_reducible exact laws_toIntS.mono _ _)
   | (with_reducible exact LeO.refl _)
   | (with_reducible exact LeO.none _)
   | (with_reducible refine LeO.ite ?_ ?_)
   | (with_reducible refine LeO.bind ?_ (fun _ => ?_))
   | exact laws_toIntS.mono _ _
   | exact LeO.none _
   | refine LeO.ite ?_ ?_
   | refine LeO.bind ?_ (fun _ => ?_)
set_option maxHeartbeats 8000000 in
set_option maxRecDepth 100000 in
theorem laws_toLin.calls (k : Nat) (a0_0 : Int) (A0_1 : Option Addr) (c0_1 : Nat) (l0_1 : List Int) (r1 : Int) (r2 : List Int) (w : World) (hr0_1 : Kd.C (Kd.int .i64) w A0_1 l0_1.length l0_1) (hc0_1 : l0_1.length ≤ c0_1) (h : laws_toLin.f k a0_0 l0_1 = some (r1, r2)) :
  Calls Try.prog 26 #[.agg #[.int .i64 a0_0, .slice A0_1 l0_1.length c0_1]] w fun e w' => ∃ v1_ : Value, e = .returned (.agg #[.int .i64 r1, v1_]) ∧ Kd.R (Kd.int .i64) 3 w' w.heap.size (fun _ => True) v1_ r2 ∧ Below w.heap.size w w' := by
 have hu43 := Try.underlying43
 have hu29 := Try.underlying29
 have HR0_1 := Aside0.mk hr0_1
 have HC0_1 := Aside0.mk hc0_1
 clear hr0_1 hc0_1
 have HB := Aside0.mk (Below.refl w.heap.size w)
 have H : ((laws_toIntS.f k l0_1).bind fun t169 => (some (a0_0, t169))) = some (r1, r2) := h
 clear h
 replace H := Option.bind_eq_some_iff.mp H
 obtain ⟨t169, A20, H⟩ := H
 replace H : (some (a0_0, t169)) = some (r1, r2) := H
 have A2 := Aside0.mk A20
 clear A20
 simp only [Option.some.injEq, Prod.mk.injEq] at H
 obtain ⟨rfl, rfl⟩ := H
 go_enter Try.func26, Try.ntmps26
 go_wp2_with (first | ((with_reducible refine gate_dst (N := 1) rfl ?_); refine box_event ?hg (N := 1) ?hd (cs := #[.int .i64 a0_0, .slice A0_1 l0_1.length c0_1]) (t := 43) ?hr ?_; (case hd => rfl); (case hg => rfl); (case hr => first | (go_simp; done) | (go_simp; rfl)); intro gb166 hg w3 hbox hb; have BK166 := Aside0.mk (hbox); have GW166 := gw hg HB; have GE166 := gw hg HB; replace HB := bs HB hb; clear hb hbox hg) | ((with_reducible refine gate_dst (N := 2) rfl ?_); refine box_event ?hg (N := 2) ?hd (cs := #[.int .i64 0, .slice none 0 0]) (t := 29) ?hr ?_; (case hd => rfl); (case hg => rfl); (case hr => first | (go_simp; done) | (go_simp; rfl)); intro gb167 hg w4 hbox hb; have BK167 := Aside0.mk (hbox); have GW167 := gw hg HB; have GE167 := gw hg HB; replace HB := bs HB hb; have NB166_167 := nl hg BK166; have NB167_166 := ng hg BK166; replace BK166 := bb BK166 hb; clear hb hbox hg) | ((with_reducible refine gate_dst (N := 3) rfl ?_); refine box_event ?hg (N := 3) ?hd (cs := #[.int .i64 0, .slice none 0 0]) (t := 29) ?hr ?_; (case hd => rfl); (case hg => rfl); (case hr => first | (go_simp; done) | (go_simp; rfl)); intro gb168 hg w5 hbox hb; have BK168 := Aside0.mk (hbox); have GW168 := gw hg HB; have GE168 := gw hg HB; replace HB := bs HB hb; have NB166_168 := nl hg BK166; have NB168_166 := ng hg BK166; replace BK166 := bb BK166 hb; have NB167_168 := nl hg BK167; have NB168_167 := ng hg BK167; replace BK167 := bb BK167 hb; clear hb hbox hg; have hnb6 := NB166_167.out; have hnc6 := NB167_166.out; have hnb7 := NB166_168.out; have hnc7 := NB168_166.out; obtain ⟨hcz8_0, hcz8_1⟩ := c2 BK166; have hfz8_0 := blk_frozen BK166.out 0; have hfz8_1 := blk_frozen BK166.out 1; have hnb9 := NB168_167.out; have hnc9 := NB167_168.out; obtain ⟨hcz10_0, hcz10_1⟩ := c2 BK168; have hfz10_0 := blk_frozen BK168.out 0; have hfz10_1 := blk_frozen BK168.out 1) | ((with_reducible refine gate_callee (f := 34) rfl ?_); refine gl (some 9) rfl rfl Try.func34 (by kernel_rfl) rfl #[.slice A0_1 l0_1.length c0_1] rfl ?_; (with_reducible refine (laws_toIntS.calls k _ _ l0_1 t169 _ ?side1 ?side2 A2.out).mono ?_); (case side1 => exact Kd.C_below HR0_1.out (ms HB)); (case side2 => exact HC0_1.out); rintro e w11 ⟨v170, rfl, ho0, hb⟩; refine ⟨_, rfl, ?_⟩; have n0_ := Aside0.mk (Kd.R_lower ho0 (below_size (ms HB))); have n1_ := bf BK166 hb; have n2_ := bf BK167 hb; have n3_ := Aside0.mk (blk_below (g := gb168) (o := .cells #[.int .i64 a0_0, .slice none 0 0] 29 (0, 0)) (by (with_reducible repeat (first | refine blk_drewN ?_ _ | refine blk_drew ?_ | refine blk_alloc ?_ _)); refine blk_put (cs := #[.int .i64 0, .slice none 0 0]) ?_ 0 _ rfl; (with_reducible repeat (first | refine blk_drewN ?_ _ | refine blk_drew ?_ | refine blk_alloc ?_ _)); exact BK168.out) hb); have n4_ := bs HB hb; clear BK166 BK167 BK168 HB; have HO171 := n0_; have BK166 := n1_; have BK167 := n2_; have BK168 := n3_; have HB := n4_; clear n0_ n1_ n2_ n3_ n4_; (try clear hb); (try clear ho0); obtain ⟨Ao12, co12, eo12⟩ := Kd.R_slice HO171.out; subst eo12; obtain ⟨hcz13_0, hcz13_1⟩ := c2 BK168; have hfz13_0 := blk_frozen BK168.out 0; have hfz13_1 := blk_frozen BK168.out 1; obtain ⟨hcz14_0, hcz14_1⟩ := c2 BK167; have hfz14_0 := blk_frozen BK167.out 0; have hfz14_1 := blk_frozen BK167.out 1))
 refine bodyPost_ret (results_cell_row rfl _ _ gb167 29 #[.int .i64 a0_0, .slice Ao12 t169.length co12] (0, 0) _ rfl (by (with_reducible repeat (first | refine blk_drewN ?_ _ | refine blk_drew ?_ | refine blk_alloc ?_ _)); refine blk_put (cs := #[.int .i64 a0_0, .slice none 0 0]) ?_ 1 _ rfl; (with_reducible repeat (first | refine blk_drewN ?_ _ | refine blk_drew ?_ | refine blk_alloc ?_ _)); refine blk_put (cs := #[.int .i64 0, .slice none 0 0]) ?_ 0 _ rfl; (with_reducible repeat (first | refine blk_drewN ?_ _ | refine blk_drew ?_ | refine blk_alloc ?_ _)); refine blk_far ?_ NB167_168.out _; (with_reducible repeat (first | refine blk_drewN ?_ _ | refine blk_drew ?_ | refine blk_alloc ?_ _)); exact BK167.out) Try.underlying29 rfl (by kernel_rfl)) rfl ?_
 exact ⟨_, by first | rfl | (simp [errW_none, errW_some] <;> rfl) | (simp [*, errW_none, errW_some] <;> rfl), by (with_reducible repeat (first | apply Kd.R_alloc | apply Kd.R_drewN | apply Kd.R_drew)); exact Kd.R_mono (Kd.R_far (p := ⟨gb167, 1, none⟩) (Kd.R_far (p := ⟨gb167, 0, none⟩) (Kd.R_far (p := ⟨gb168, 1, none⟩) (Kd.R_types (Kd.R_types HO171.out BK168.out (by decide)) BK167.out (by decide)) (fun _ hk => hk.1.2) (.slice Ao12 t169.length co12)) (fun _ hk => hk.2) (.int .i64 a0_0)) (fun _ hk => hk.2) (.slice Ao12 t169.length co12)) (fun _ hk => trivial), ms HB⟩

end Go.Proofs.Ytlencemmlgkflaa.QFnExactAddRow
