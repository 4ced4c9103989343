-- Made by a program of this claim's own (wip/print): not the kit's print as it stands.
import Derived.Test.YtghiljjkaiggfaaUFnExactCheckFarkasTri
import Derived.Test.YtghiljjkaiggfaaQFnExactCheckFarkasx0
import Derived.Test.YtghiljjkaiggfaaQFnExactCheckFarkasx2
import Derived.Test.YtghiljjkaiggfaaQFnExactCheckFarkasx3
import Derived.Test.YtghiljjkaiggfaaQFnExactCheckFarkasx4
import Derived.Test.YtghiljjkaiggfaaQFnExactCheckFarkasx5
import Derived.Test.YtghiljjkaiggfaaQFnExactCheckFarkasx6
namespace Go.Proofs.Ytghiljjkaiggfaa.QFnExactCheckFarkas
open Go.RowKit Go.Proofs.YtghiljjkaiggfaaV.PrintWords Go.Proofs.YtghiljjkaiggfaaV.PrintLast Go.Proofs.YtghiljjkaiggfaaV.PrintMore
attribute [local go_sem] max2_int min2_int max_two min_two max_three min_three max_four min_four   -- for this text's walks alone
set_option linter.unusedVariables false
set_option linter.unusedSimpArgs false

/-! ### spec_CheckFarkas: function 46 -/
def spec_CheckFarkas.j0 : Nat → Bool → Int → List (S36) → Int → List Int → Int → List Int → Int → List Int → Option (Bool)
 | 0, _, _, _, _, _, _, _, _, _ => none
 | k + 1, x34, x209000, x209001, x210000, x210001, x211000, x211001, x217000, x217001 => if x34 = true then (some false) else ((spec_ConstLin.f 1 x209000).bind fun bt219 => ((spec_AddScaled.f k x210000 x210001 1 bt219.1 bt219.2).bind fun bt223 => ((spec_AddScaled.f k x217000 x217001 (wrap64 (-x211000)) bt223.1 bt223.2.1).bind fun bt229 => (if bt223.2.2 = true then (if bt229.2.2 = true then ((spec_IsConstant.f k bt229.1 bt229.2.1).bind fun t235 => (if t235 = true then (some (decide (bt229.1 < 0))) else (some false))) else (some false)) else (some false)))))
def spec_CheckFarkas.f (k : Nat) (a0_0 : Int) (l0_1 : List (S36)) (a1_0 : Int) (l1_1 : List Int) (a2_0 : Int) (l2_1 : List Int) : Option (Bool) := (spec_CombineRows.f k a0_0 l0_1 l2_1).bind fun bt211 => (if bt211.2.2 = true then ((spec_IsValidLin.f k a1_0 l1_1 a0_0).bind fun t217 => (if t217 = true then ((spec_l1In.f a2_0 0 1000000000).bind fun t218 => (spec_CheckFarkas.j0 k (!t218) a0_0 l0_1 a1_0 l1_1 a2_0 l2_1 bt211.1 bt211.2.1)) else (spec_CheckFarkas.j0 k true a0_0 l0_1 a1_0 l1_1 a2_0 l2_1 bt211.1 bt211.2.1))) else (spec_CheckFarkas.j0 k true a0_0 l0_1 a1_0 l1_1 a2_0 l2_1 bt211.1 bt211.2.1))
theorem spec_CheckFarkas.mono_l : ∀ k, (∀ y0 y1 y2 y3 y4 y5 y6 y7 y8, LeO (spec_CheckFarkas.j0 k y0 y1 y2 y3 y4 y5 y6 y7 y8) (spec_CheckFarkas.j0 (k + 1) y0 y1 y2 y3 y4 y5 y6 y7 y8))
 | 0 => fun _ _ _ _ _ _ _ _ _ r h => by simp [spec_CheckFarkas.j0] at h
 | k + 1 => by
  have ih0 := spec_CheckFarkas.mono_l k
  ·intro y0 y1 y2 y3 y4 y5 y6 y7 y8
   unfold spec_CheckFarkas.j0
   repeat' first
   | (with_reducible exact ih0 _ _ _ _ _ _ _ _ _)
   | (with_reducible exact spec_AddScaled.mono _ _ _ _ _ _)
   | (with_reducible exact spec_CombineRows.mono _ _ _ _)
   | (with_reducible exact spec_IsConstant.mono _ _ _)
   | (with_reducible exact spec_IsValidLin.mono _ _ _ _)
   | (with_reducible exact LeO.refl _)
   | (with_reducible exact LeO.none _)
   | (with_reducible refine LeO.ite ?_ ?_)
   | (with_reducible refine LeO.bind ?_ (fun _ => ?_))
   | exact ih0 _ _ _ _ _ _ _ _ _
   | exact spec_AddScaled.mono _ _ _ _ _ _
   | exact spec_CombineRows.mono _ _ _ _
   | exact spec_IsConstant.mono _ _ _
   | exact spec_IsValidLin.mono _ _ _ _
   | exact LeO.none _
   | refine LeO.ite ?_ ?_
   | refine LeO.bind ?_ (fun _ => ?_)
theorem spec_CheckFarkas.mono : ∀ a0 a1 a2 a3 a4 a5 k, LeO (spec_CheckFarkas.f k a0 a1 a2 a3 a4 a5) (spec_CheckFarkas.f (k + 1) a0 a1 a2 a3 a4 a5) := by
 intro a0 a1 a2 a3 a4 a5 k
 have ih0 := spec_CheckFarkas.mono_l k
 unfold spec_CheckFarkas.f
 repeat' first
   | (with_reducible exact ih0 _ _ _ _ _ _ _ _ _)
   | (with_reducible exact spec_AddScaled.mono _ _ _ _ _ _)
   | (with_reducible exact spec_CombineRows.mono _ _ _ _)
   | (with_reducible exact spec_IsConstant.mono _ _ _)
   | (with_reducible exact spec_IsValidLin.mono _ _ _ _)
   | (with_reducible exact LeO.refl _)
   | (with_reducible exact LeO.none _)
   | (with_reducible refine LeO.ite ?_ ?_)
   | (with_reducible refine LeO.bind ?_ (fun _ => ?_))
   | exact ih0 _ _ _ _ _ _ _ _ _
   | exact spec_AddScaled.mono _ _ _ _ _ _
   | exact spec_CombineRows.mono _ _ _ _
   | exact spec_IsConstant.mono _ _ _
   | exact spec_IsValidLin.mono _ _ _ _
   | exact LeO.none _
   | refine LeO.ite ?_ ?_
   | refine LeO.bind ?_ (fun _ => ?_)
def spec_CheckFarkas.T4 : Bool × List (List Nat × List Nat) := (true, [([], []), ([], []), ([1], [1]), ([2], [2]), ([0, 3, 3], [0, 3]), ([4], [4]), ([5], [5]), ([5], [5]), ([], []), ([8, 6, 4, 0, 1, 2, 3, 4, 5, 6, 8], [6, 8]), ([7, 9, 0, 1, 2, 3, 4, 5, 6, 7, 8, 9], [7])])
def spec_CheckFarkas.B4 : List Nat := [0, 0, 2, 6, 15, 31, 63, 63, 0, 383, 1023]
theorem spec_CheckFarkas.tab4 : rtab .any (opsOf Try.f46 4) = spec_CheckFarkas.T4 := by kernel_rfl
theorem spec_CheckFarkas.bits4 : waitsOk spec_CheckFarkas.T4.2 spec_CheckFarkas.B4 = true := by kernel_rfl
set_option maxHeartbeats 8000000 in
set_option maxRecDepth 100000 in
theorem spec_CheckFarkas.calls (k : Nat) (a0_0 : Int) (A0_1 : Option Addr) (c0_1 : Nat) (l0_1 : List (S36)) (a1_0 : Int) (A1_1 : Option Addr) (c1_1 : Nat) (l1_1 : List Int) (a2_0 : Int) (A2_1 : Option Addr) (c2_1 : Nat) (l2_1 : List Int) (r : Bool) (w : World) (hr0_1 : Kd.C k36 w A0_1 l0_1.length l0_1) (hc0_1 : l0_1.length ≤ c0_1) (hr1_1 : Kd.C (Kd.int .i64) w A1_1 l1_1.length l1_1) (hc1_1 : l1_1.length ≤ c1_1) (hr2_1 : Kd.C (Kd.int .i64) w A2_1 l2_1.length l2_1) (hc2_1 : l2_1.length ≤ c2_1) (h : spec_CheckFarkas.f k a0_0 l0_1 a1_0 l1_1 a2_0 l2_1 = some r) :
  Calls Try.prog 46 #[.agg #[.int .i64 a0_0, .slice A0_1 l0_1.length c0_1], .agg #[.int .i64 a1_0, .slice A1_1 l1_1.length c1_1], .agg #[.int .i64 a2_0, .slice A2_1 l2_1.length c2_1]] w fun e w' => e = .returned (.bool r) ∧ Below w.heap.size w w' := by
 have hu32 := Try.underlying32
 have hu36 := Try.underlying36
 have hu65 := Try.underlying65
 have HR0_1 := Aside0.mk hr0_1
 have HC0_1 := Aside0.mk hc0_1
 clear hr0_1 hc0_1
 have HR1_1 := Aside0.mk hr1_1
 have HC1_1 := Aside0.mk hc1_1
 clear hr1_1 hc1_1
 have HR2_1 := Aside0.mk hr2_1
 have HC2_1 := Aside0.mk hc2_1
 clear hr2_1 hc2_1
 have HB := Aside0.mk (Below.refl w.heap.size w)
 have H : ((spec_CombineRows.f k a0_0 l0_1 l2_1).bind fun bt211 => (if bt211.2.2 = true then ((spec_IsValidLin.f k a1_0 l1_1 a0_0).bind fun t217 => (if t217 = true then ((spec_l1In.f a2_0 0 1000000000).bind fun t218 => (spec_CheckFarkas.j0 k (!t218) a0_0 l0_1 a1_0 l1_1 a2_0 l2_1 bt211.1 bt211.2.1)) else (spec_CheckFarkas.j0 k true a0_0 l0_1 a1_0 l1_1 a2_0 l2_1 bt211.1 bt211.2.1))) else (spec_CheckFarkas.j0 k true a0_0 l0_1 a1_0 l1_1 a2_0 l2_1 bt211.1 bt211.2.1))) = some r := h
 clear h
 replace H := Option.bind_eq_some_iff.mp H
 obtain ⟨⟨t211, t212, t215⟩, A40, H⟩ := H
 replace H : (if t215 = true then ((spec_IsValidLin.f k a1_0 l1_1 a0_0).bind fun t217 => (if t217 = true then ((spec_l1In.f a2_0 0 1000000000).bind fun t218 => (spec_CheckFarkas.j0 k (!t218) a0_0 l0_1 a1_0 l1_1 a2_0 l2_1 t211 t212)) else (spec_CheckFarkas.j0 k true a0_0 l0_1 a1_0 l1_1 a2_0 l2_1 t211 t212))) else (spec_CheckFarkas.j0 k true a0_0 l0_1 a1_0 l1_1 a2_0 l2_1 t211 t212)) = some r := H
 have A4 := Aside0.mk A40
 clear A40
 have HC5 := Aside0.mk H
 clear H
 go_enter Try.func46, Try.ntmps46
 go_upto_region 2 with (first | ((with_reducible refine gate_dst (N := 3) rfl ?_); refine box_event ?hg (N := 3) ?hd (cs := #[.int .i64 a0_0, .slice A0_1 l0_1.length c0_1]) (t := 32) ?hr ?_; (case hd => rfl); (case hg => rfl); (case hr => first | (go_simp; done) | (go_simp; rfl)); intro gb208 hg w6 hbox hb; have BK208 := Aside0.mk (hbox); have GW208 := gw hg HB; have GE208 := gw hg HB; replace HB := bs HB hb; clear hb hbox hg) | ((with_reducible refine gate_dst (N := 4) rfl ?_); refine box_event ?hg (N := 4) ?hd (cs := #[.int .i64 a1_0, .slice A1_1 l1_1.length c1_1]) (t := 36) ?hr ?_; (case hd => rfl); (case hg => rfl); (case hr => first | (go_simp; done) | (go_simp; rfl)); intro gb209 hg w7 hbox hb; have BK209 := Aside0.mk (hbox); have GW209 := gw hg HB; have GE209 := gw hg HB; replace HB := bs HB hb; have NB208_209 := nl hg BK208; have NB209_208 := ng hg BK208; replace BK208 := bb BK208 hb; clear hb hbox hg) | ((with_reducible refine gate_dst (N := 5) rfl ?_); refine box_event ?hg (N := 5) ?hd (cs := #[.int .i64 a2_0, .slice A2_1 l2_1.length c2_1]) (t := 65) ?hr ?_; (case hd => rfl); (case hg => rfl); (case hr => first | (go_simp; done) | (go_simp; rfl)); intro gb210 hg w8 hbox hb; have BK210 := Aside0.mk (hbox); have GW210 := gw hg HB; have GE210 := gw hg HB; replace HB := bs HB hb; have NB208_210 := nl hg BK208; have NB210_208 := ng hg BK208; replace BK208 := bb BK208 hb; have NB209_210 := nl hg BK209; have NB210_209 := ng hg BK209; replace BK209 := bb BK209 hb; clear hb hbox hg; have hnb9 := NB208_209.out; have hnc9 := NB209_208.out; have hnb10 := NB208_210.out; have hnc10 := NB210_208.out; obtain ⟨hcz11_0, hcz11_1⟩ := c2 BK208; have hfz11_0 := blk_frozen BK208.out 0; have hfz11_1 := blk_frozen BK208.out 1; have hnb12 := NB210_209.out; have hnc12 := NB209_210.out; obtain ⟨hcz13_0, hcz13_1⟩ := c2 BK210; have hfz13_0 := blk_frozen BK210.out 0; have hfz13_1 := blk_frozen BK210.out 1) | ((with_reducible refine gate_callee (f := 26) rfl ?_); refine goesL_ (some 17) rfl rfl Try.func26 (by kernel_rfl) rfl #[.agg #[.int .i64 a0_0, .slice A0_1 l0_1.length c0_1], .slice A2_1 l2_1.length c2_1] rfl (by (try simp only [List.map_toArray, List.map_cons, List.map_nil]); first | done | rfl | (simp only [List.length_drop, List.length_take]; rfl)) ?_; (with_reducible refine (spec_CombineRows.calls k a0_0 _ _ l0_1 _ _ l2_1 t211 t212 t215 _ ?side1 ?side2 ?side3 ?side4 A4.out).mono ?_); (case side1 => exact mc ((Kd.C_below HR0_1.out HB.out))); (case side2 => exact HC0_1.out); (case side3 => exact mc ((Kd.C_below HR2_1.out HB.out))); (case side4 => exact HC2_1.out); rintro e w14 ⟨v213, rfl, ho0, hb⟩; refine ⟨_, rfl, ?_⟩; have HO214 := Aside0.mk (Kd.R_lower ho0 (below_size (ms HB))); replace BK208 := bb BK208 hb; replace BK209 := bb BK209 hb; replace BK210 := bb BK210 hb; replace HB := bs HB hb; (try clear hb); (try clear ho0)) | ((with_reducible refine gate_dst (N := 7) rfl ?_); refine box_event ?hg (N := 7) ?hd (cs := #[.int .i64 0, .slice none 0 0]) (t := 36) ?hr ?_; (case hd => rfl); (case hg => rfl); (case hr => first | (go_simp; done) | (go_simp; rfl)); intro gb216 hg w15 hbox hb; replace HO214 := rb HO214 hb; have BK216 := Aside0.mk (hbox); have GW216 := gw hg HB; have GE216 := gw hg HB; replace HB := bs HB hb; have NB208_216 := nl hg BK208; have NB216_208 := ng hg BK208; replace BK208 := bb BK208 hb; have NB209_216 := nl hg BK209; have NB216_209 := ng hg BK209; replace BK209 := bb BK209 hb; have NB210_216 := nl hg BK210; have NB216_210 := ng hg BK210; replace BK210 := bb BK210 hb; clear hb hbox hg; have hnb16 := NB216_208.out; have hnc16 := NB208_216.out; have hnb17 := NB216_209.out; have hnc17 := NB209_216.out; have hnb18 := NB216_210.out; have hnc18 := NB210_216.out; obtain ⟨hcz19_0, hcz19_1⟩ := c2 BK216; have hfz19_0 := blk_frozen BK216.out 0; have hfz19_1 := blk_frozen BK216.out 1; obtain ⟨Ao20, co20, eo20⟩ := Kd.R_slice HO214.out; subst eo20))
 (try simp only [Act.put, List.setIfInBounds_toArray, List.set_cons_zero, List.set_cons_succ])
 go_cut [34] (fun v34 wc => ∃ (kq : Nat) (x34_4 : Bool), v34 = .bool x34_4 ∧ Aside0 (spec_CheckFarkas.j0 kq x34_4 a0_0 l0_1 a1_0 l1_1 a2_0 l2_1 t211 t212 = some r) ∧ Aside0 (kq ≤ k) ∧ Aside0 (Kd.R (Kd.int .i64) 3 wc w.heap.size (fun _ => True) (.slice Ao20 t212.length co20) t212) ∧ Aside0 (wc.heap[gb208]? = some (.cells #[.int .i64 a0_0, (.slice A0_1 l0_1.length c0_1)] 32 (0, 0))) ∧ Aside0 (wc.heap[gb209]? = some (.cells #[.int .i64 a1_0, (.slice A1_1 l1_1.length c1_1)] 36 (0, 0))) ∧ Aside0 (wc.heap[gb210]? = some (.cells #[.int .i64 a2_0, (.slice A2_1 l2_1.length c2_1)] 65 (0, 0))) ∧ Aside0 (wc.heap[gb216]? = some (.cells #[.int .i64 t211, (.slice Ao20 t212.length co20)] 36 (0, 0))) ∧ Aside0 (Below w.heap.size w wc))
 case first =>
  have H := HC5.out
  clear HC5
  by_cases c21 : t215 = true
  ·subst c21
   have H1 : ((spec_IsValidLin.f k a1_0 l1_1 a0_0).bind fun t217 => (if t217 = true then ((spec_l1In.f a2_0 0 1000000000).bind fun t218 => (spec_CheckFarkas.j0 k (!t218) a0_0 l0_1 a1_0 l1_1 a2_0 l2_1 t211 t212)) else (spec_CheckFarkas.j0 k true a0_0 l0_1 a1_0 l1_1 a2_0 l2_1 t211 t212))) = some r := by rw [if_pos rfl] at H; exact H
   clear H
   have H := H1
   clear H1
   replace H := Option.bind_eq_some_iff.mp H
   obtain ⟨t217, A220, H⟩ := H
   replace H : (if t217 = true then ((spec_l1In.f a2_0 0 1000000000).bind fun t218 => (spec_CheckFarkas.j0 k (!t218) a0_0 l0_1 a1_0 l1_1 a2_0 l2_1 t211 t212)) else (spec_CheckFarkas.j0 k true a0_0 l0_1 a1_0 l1_1 a2_0 l2_1 t211 t212)) = some r := H
   have A22 := Aside0.mk A220
   clear A220
   by_cases c23 : t217 = true
   ·subst c23
    have H1 : ((spec_l1In.f a2_0 0 1000000000).bind fun t218 => (spec_CheckFarkas.j0 k (!t218) a0_0 l0_1 a1_0 l1_1 a2_0 l2_1 t211 t212)) = some r := by rw [if_pos rfl] at H; exact H
    clear H
    have H := H1
    clear H1
    replace H := Option.bind_eq_some_iff.mp H
    obtain ⟨t218, A240, H⟩ := H
    replace H : (spec_CheckFarkas.j0 k (!t218) a0_0 l0_1 a1_0 l1_1 a2_0 l2_1 t211 t212) = some r := H
    have A24 := Aside0.mk A240
    clear A240
    have H' := Aside0.mk H
    clear H
    have hnb25 := NB209_208.out
    have hnc25 := NB208_209.out
    have hnb26 := NB209_210.out
    have hnc26 := NB210_209.out
    have hnb27 := NB209_216.out
    have hnc27 := NB216_209.out
    obtain ⟨hcz28_0, hcz28_1⟩ := c2 BK209
    have hfz28_0 := blk_frozen BK209.out 0
    have hfz28_1 := blk_frozen BK209.out 1
    have hnb29 := NB208_210.out
    have hnc29 := NB210_208.out
    have hnb30 := NB208_216.out
    have hnc30 := NB216_208.out
    obtain ⟨hcz31_0, hcz31_1⟩ := c2 BK208
    have hfz31_0 := blk_frozen BK208.out 0
    have hfz31_1 := blk_frozen BK208.out 1
    go_wp2_with (first | (go_at_call 86; (with_reducible refine (spec_IsValidLin.calls k a1_0 _ _ l1_1 a0_0 true _ ?side1 ?side2 A22.out).mono ?_); (case side1 => exact Kd.C_below HR1_1.out (ms HB)); (case side2 => exact HC1_1.out); rintro e w32 ⟨rfl, hb⟩; have n0_ := Aside0.mk (Kd.R_below (by (with_reducible repeat (first | apply Kd.R_alloc | apply Kd.R_drewN | apply Kd.R_drew)); exact (Kd.R_mono (Kd.R_far (p := ⟨gb216, 1, none⟩) (Kd.R_far (p := ⟨gb216, 0, none⟩) (Kd.R_types HO214.out BK216.out (by decide)) (fun _ hk => hk.2) (.int .i64 t211)) (fun _ hk => hk.2) (.slice Ao20 t212.length co20)) (fun _ h_ => h_.1))) hb); have n1_ := bf BK208 hb; have n2_ := bf BK209 hb; have n3_ := bf BK210 hb; have n4_ := Aside0.mk (blk_below (g := gb216) (o := .cells #[.int .i64 t211, .slice Ao20 t212.length co20] 36 (0, 0)) (by (with_reducible repeat (first | refine blk_drewN ?_ _ | refine blk_drew ?_ | refine blk_alloc ?_ _)); refine blk_put (cs := #[.int .i64 t211, .slice none 0 0]) ?_ 1 _ rfl; (with_reducible repeat (first | refine blk_drewN ?_ _ | refine blk_drew ?_ | refine blk_alloc ?_ _)); refine blk_put (cs := #[.int .i64 0, .slice none 0 0]) ?_ 0 _ rfl; (with_reducible repeat (first | refine blk_drewN ?_ _ | refine blk_drew ?_ | refine blk_alloc ?_ _)); exact BK216.out) hb); have n5_ := bs HB hb; clear HO214 BK208 BK209 BK210 BK216 HB; have HO214 := n0_; have BK208 := n1_; have BK209 := n2_; have BK210 := n3_; have BK216 := n4_; have HB := n5_; clear n0_ n1_ n2_ n3_ n4_ n5_; (try clear hb); have hnb33 := NB210_216.out; have hnc33 := NB216_210.out; obtain ⟨hcz34_0, hcz34_1⟩ := c2 BK210; have hfz34_0 := blk_frozen BK210.out 0; have hfz34_1 := blk_frozen BK210.out 1) | (go_at_call 87; (with_reducible refine (spec_l1In.calls a2_0 0 1000000000 t218 _ A24.out).mono ?_); rintro e w' ⟨rfl, ⟨nd, rfl⟩⟩))
    go_meet
    case rel => exact ⟨_, (!t218), (by first | rfl | (simp; done) | (simp [*]; done)), H', ⟨by first | omega | exact Nat.le_refl _⟩, ⟨by (with_reducible repeat (first | apply Kd.R_alloc | apply Kd.R_drewN | apply Kd.R_drew)); exact HO214.out⟩, ⟨by (with_reducible repeat (first | refine blk_drewN ?_ _ | refine blk_drew ?_ | refine blk_alloc ?_ _)); exact BK208.out⟩, ⟨by (with_reducible repeat (first | refine blk_drewN ?_ _ | refine blk_drew ?_ | refine blk_alloc ?_ _)); exact BK209.out⟩, ⟨by (with_reducible repeat (first | refine blk_drewN ?_ _ | refine blk_drew ?_ | refine blk_alloc ?_ _)); exact BK210.out⟩, ⟨by (with_reducible repeat (first | refine blk_drewN ?_ _ | refine blk_drew ?_ | refine blk_alloc ?_ _)); exact BK216.out⟩, ⟨ms HB⟩⟩
   ·replace c23 := Bool.eq_false_iff.mpr c23
    subst c23
    have H1 : (spec_CheckFarkas.j0 k true a0_0 l0_1 a1_0 l1_1 a2_0 l2_1 t211 t212) = some r := by rw [if_neg (show ¬ (false = true) by decide)] at H; exact H
    clear H
    have H := H1
    clear H1
    have H' := Aside0.mk H
    clear H
    have hnb35 := NB209_208.out
    have hnc35 := NB208_209.out
    have hnb36 := NB209_210.out
    have hnc36 := NB210_209.out
    have hnb37 := NB209_216.out
    have hnc37 := NB216_209.out
    obtain ⟨hcz38_0, hcz38_1⟩ := c2 BK209
    have hfz38_0 := blk_frozen BK209.out 0
    have hfz38_1 := blk_frozen BK209.out 1
    have hnb39 := NB208_210.out
    have hnc39 := NB210_208.out
    have hnb40 := NB208_216.out
    have hnc40 := NB216_208.out
    obtain ⟨hcz41_0, hcz41_1⟩ := c2 BK208
    have hfz41_0 := blk_frozen BK208.out 0
    have hfz41_1 := blk_frozen BK208.out 1
    go_wp2_with (first | (go_at_call 86; (with_reducible refine (spec_IsValidLin.calls k a1_0 _ _ l1_1 a0_0 false _ ?side1 ?side2 A22.out).mono ?_); (case side1 => exact Kd.C_below HR1_1.out (ms HB)); (case side2 => exact HC1_1.out); rintro e w42 ⟨rfl, hb⟩; have n0_ := Aside0.mk (Kd.R_below (by (with_reducible repeat (first | apply Kd.R_alloc | apply Kd.R_drewN | apply Kd.R_drew)); exact (Kd.R_mono (Kd.R_far (p := ⟨gb216, 1, none⟩) (Kd.R_far (p := ⟨gb216, 0, none⟩) (Kd.R_types HO214.out BK216.out (by decide)) (fun _ hk => hk.2) (.int .i64 t211)) (fun _ hk => hk.2) (.slice Ao20 t212.length co20)) (fun _ h_ => h_.1))) hb); have n1_ := bf BK208 hb; have n2_ := bf BK209 hb; have n3_ := bf BK210 hb; have n4_ := Aside0.mk (blk_below (g := gb216) (o := .cells #[.int .i64 t211, .slice Ao20 t212.length co20] 36 (0, 0)) (by (with_reducible repeat (first | refine blk_drewN ?_ _ | refine blk_drew ?_ | refine blk_alloc ?_ _)); refine blk_put (cs := #[.int .i64 t211, .slice none 0 0]) ?_ 1 _ rfl; (with_reducible repeat (first | refine blk_drewN ?_ _ | refine blk_drew ?_ | refine blk_alloc ?_ _)); refine blk_put (cs := #[.int .i64 0, .slice none 0 0]) ?_ 0 _ rfl; (with_reducible repeat (first | refine blk_drewN ?_ _ | refine blk_drew ?_ | refine blk_alloc ?_ _)); exact BK216.out) hb); have n5_ := bs HB hb; clear HO214 BK208 BK209 BK210 BK216 HB; have HO214 := n0_; have BK208 := n1_; have BK209 := n2_; have BK210 := n3_; have BK216 := n4_; have HB := n5_; clear n0_ n1_ n2_ n3_ n4_ n5_; (try clear hb)))
    go_meet
    case rel => exact ⟨_, (true), (by first | rfl | (simp; done) | (simp [*]; done)), H', ⟨by first | omega | exact Nat.le_refl _⟩, ⟨by (with_reducible repeat (first | apply Kd.R_alloc | apply Kd.R_drewN | apply Kd.R_drew)); exact HO214.out⟩, ⟨by (with_reducible repeat (first | refine blk_drewN ?_ _ | refine blk_drew ?_ | refine blk_alloc ?_ _)); exact BK208.out⟩, ⟨by (with_reducible repeat (first | refine blk_drewN ?_ _ | refine blk_drew ?_ | refine blk_alloc ?_ _)); exact BK209.out⟩, ⟨by (with_reducible repeat (first | refine blk_drewN ?_ _ | refine blk_drew ?_ | refine blk_alloc ?_ _)); exact BK210.out⟩, ⟨by (with_reducible repeat (first | refine blk_drewN ?_ _ | refine blk_drew ?_ | refine blk_alloc ?_ _)); exact BK216.out⟩, ⟨ms HB⟩⟩
  ·replace c21 := Bool.eq_false_iff.mpr c21
   subst c21
   have H1 : (spec_CheckFarkas.j0 k true a0_0 l0_1 a1_0 l1_1 a2_0 l2_1 t211 t212) = some r := by rw [if_neg (show ¬ (false = true) by decide)] at H; exact H
   clear H
   have H := H1
   clear H1
   have H' := Aside0.mk H
   clear H
   go_wp2
   go_meet
   case rel => exact ⟨_, (true), (by first | rfl | (simp; done) | (simp [*]; done)), H', ⟨by first | omega | exact Nat.le_refl _⟩, ⟨by (with_reducible repeat (first | apply Kd.R_alloc | apply Kd.R_drewN | apply Kd.R_drew)); exact Kd.R_mono (Kd.R_far (p := ⟨gb216, 1, none⟩) (Kd.R_far (p := ⟨gb216, 0, none⟩) (Kd.R_types HO214.out BK216.out (by decide)) (fun _ hk => hk.2) (.int .i64 t211)) (fun _ hk => hk.2) (.slice Ao20 t212.length co20)) (fun _ hk => trivial)⟩, ⟨by (with_reducible repeat (first | refine blk_drewN ?_ _ | refine blk_drew ?_ | refine blk_alloc ?_ _)); refine blk_far ?_ NB208_216.out _; (with_reducible repeat (first | refine blk_drewN ?_ _ | refine blk_drew ?_ | refine blk_alloc ?_ _)); refine blk_far ?_ NB208_216.out _; (with_reducible repeat (first | refine blk_drewN ?_ _ | refine blk_drew ?_ | refine blk_alloc ?_ _)); exact BK208.out⟩, ⟨by (with_reducible repeat (first | refine blk_drewN ?_ _ | refine blk_drew ?_ | refine blk_alloc ?_ _)); refine blk_far ?_ NB209_216.out _; (with_reducible repeat (first | refine blk_drewN ?_ _ | refine blk_drew ?_ | refine blk_alloc ?_ _)); refine blk_far ?_ NB209_216.out _; (with_reducible repeat (first | refine blk_drewN ?_ _ | refine blk_drew ?_ | refine blk_alloc ?_ _)); exact BK209.out⟩, ⟨by (with_reducible repeat (first | refine blk_drewN ?_ _ | refine blk_drew ?_ | refine blk_alloc ?_ _)); refine blk_far ?_ NB210_216.out _; (with_reducible repeat (first | refine blk_drewN ?_ _ | refine blk_drew ?_ | refine blk_alloc ?_ _)); refine blk_far ?_ NB210_216.out _; (with_reducible repeat (first | refine blk_drewN ?_ _ | refine blk_drew ?_ | refine blk_alloc ?_ _)); exact BK210.out⟩, ⟨by (with_reducible repeat (first | refine blk_drewN ?_ _ | refine blk_drew ?_ | refine blk_alloc ?_ _)); refine blk_put (cs := #[.int .i64 t211, .slice none 0 0]) ?_ 1 _ rfl; (with_reducible repeat (first | refine blk_drewN ?_ _ | refine blk_drew ?_ | refine blk_alloc ?_ _)); refine blk_put (cs := #[.int .i64 0, .slice none 0 0]) ?_ 0 _ rfl; (with_reducible repeat (first | refine blk_drewN ?_ _ | refine blk_drew ?_ | refine blk_alloc ?_ _)); exact BK216.out⟩, ⟨ms HB⟩⟩
 case rest =>
  clear HC5
  try clear c1
  try clear c2
  try clear p2
  try clear c3
  try clear c4
  try clear c9
  try clear c10
  try clear c12
  try clear c16
  try clear c17
  try clear c18
  try clear c21
  try clear c23
  try clear c25
  try clear c26
  try clear c27
  try clear c29
  try clear c30
  try clear c33
  try clear c35
  try clear c36
  try clear c37
  try clear c39
  try clear c40
  try clear hcz11_0
  try clear hcz11_1
  try clear hcz13_0
  try clear hcz13_1
  try clear hcz19_0
  try clear hcz19_1
  try clear hcz28_0
  try clear hcz28_1
  try clear hcz31_0
  try clear hcz31_1
  try clear hcz34_0
  try clear hcz34_1
  try clear hcz38_0
  try clear hcz38_1
  try clear hcz41_0
  try clear hcz41_1
  try clear hfz11_0
  try clear hfz11_1
  try clear hfz13_0
  try clear hfz13_1
  try clear hfz19_0
  try clear hfz19_1
  try clear hfz28_0
  try clear hfz28_1
  try clear hfz31_0
  try clear hfz31_1
  try clear hfz34_0
  try clear hfz34_1
  try clear hfz38_0
  try clear hfz38_1
  try clear hfz41_0
  try clear hfz41_1
  obtain ⟨kq, x34_4, rfl, HA, HJ4, HO_217001, BK208, BK209, BK210, BK216, HB⟩ := hcut
  cases kq with
  | zero => exact absurd HA.out (by simp [spec_CheckFarkas.j0])
  | succ kj4 =>
   have H := HA.out
   clear HA
   simp only [spec_CheckFarkas.j0] at H
   by_cases c43 : x34_4 = true
   ·subst c43
    have H1 : (some false) = some r := by rw [if_pos rfl] at H; exact H
    clear H
    have H := H1
    clear H1
    obtain rfl := Option.some.inj H
    go_wp2
    go_ret
    exact ⟨by first | rfl | (simp [errW_none, errW_some] <;> rfl) | (simp [*, errW_none, errW_some] <;> rfl), ms HB⟩
   ·replace c43 := Bool.eq_false_iff.mpr c43
    subst c43
    have H1 : ((spec_ConstLin.f 1 a0_0).bind fun bt219 => ((spec_AddScaled.f kj4 a1_0 l1_1 1 bt219.1 bt219.2).bind fun bt223 => ((spec_AddScaled.f kj4 t211 t212 (wrap64 (-a2_0)) bt223.1 bt223.2.1).bind fun bt229 => (if bt223.2.2 = true then (if bt229.2.2 = true then ((spec_IsConstant.f kj4 bt229.1 bt229.2.1).bind fun t235 => (if t235 = true then (some (decide (bt229.1 < 0))) else (some false))) else (some false)) else (some false))))) = some r := by rw [if_neg (show ¬ (false = true) by decide)] at H; exact H
    clear H
    have H := H1
    clear H1
    replace H := Option.bind_eq_some_iff.mp H
    obtain ⟨⟨t219, t220⟩, A440, H⟩ := H
    replace H : ((spec_AddScaled.f kj4 a1_0 l1_1 1 t219 t220).bind fun bt223 => ((spec_AddScaled.f kj4 t211 t212 (wrap64 (-a2_0)) bt223.1 bt223.2.1).bind fun bt229 => (if bt223.2.2 = true then (if bt229.2.2 = true then ((spec_IsConstant.f kj4 bt229.1 bt229.2.1).bind fun t235 => (if t235 = true then (some (decide (bt229.1 < 0))) else (some false))) else (some false)) else (some false)))) = some r := H
    have A44 := Aside0.mk A440
    clear A440
    replace H := Option.bind_eq_some_iff.mp H
    obtain ⟨⟨t223, t224, t227⟩, A450, H⟩ := H
    replace H : ((spec_AddScaled.f kj4 t211 t212 (wrap64 (-a2_0)) t223 t224).bind fun bt229 => (if t227 = true then (if bt229.2.2 = true then ((spec_IsConstant.f kj4 bt229.1 bt229.2.1).bind fun t235 => (if t235 = true then (some (decide (bt229.1 < 0))) else (some false))) else (some false)) else (some false))) = some r := H
    have A45 := Aside0.mk A450
    clear A450
    replace H := Option.bind_eq_some_iff.mp H
    obtain ⟨⟨t229, t230, t233⟩, A460, H⟩ := H
    replace H : (if t227 = true then (if t233 = true then ((spec_IsConstant.f kj4 t229 t230).bind fun t235 => (if t235 = true then (some (decide (t229 < 0))) else (some false))) else (some false)) else (some false)) = some r := H
    have A46 := Aside0.mk A460
    clear A460
    by_cases c47 : t227 = true
    ·subst c47
     have H1 : (if t233 = true then ((spec_IsConstant.f kj4 t229 t230).bind fun t235 => (if t235 = true then (some (decide (t229 < 0))) else (some false))) else (some false)) = some r := by rw [if_pos rfl] at H; exact H
     clear H
     have H := H1
     clear H1
     by_cases c48 : t233 = true
     ·subst c48
      have H1 : ((spec_IsConstant.f kj4 t229 t230).bind fun t235 => (if t235 = true then (some (decide (t229 < 0))) else (some false))) = some r := by rw [if_pos rfl] at H; exact H
      clear H
      have H := H1
      clear H1
      replace H := Option.bind_eq_some_iff.mp H
      obtain ⟨t235, A490, H⟩ := H
      replace H : (if t235 = true then (some (decide (t229 < 0))) else (some false)) = some r := H
      have A49 := Aside0.mk A490
      clear A490
      by_cases c50 : t235 = true
      ·subst c50
       have H1 : (some (decide (t229 < 0))) = some r := by rw [if_pos rfl] at H; exact H
       clear H
       have H := H1
       clear H1
       obtain rfl := Option.some.inj H
       try go_wp2
       replace HO_217001 := Aside0.mk (Kd.R_drew HO_217001.out)
       replace BK208 := Aside0.mk (blk_drew BK208.out)
       replace BK209 := Aside0.mk (blk_drew BK209.out)
       replace BK210 := Aside0.mk (blk_drew BK210.out)
       replace BK216 := Aside0.mk (blk_drew BK216.out)
       replace HB := Aside0.mk (below_drew1 HB.out)
       refine start_ (n := 11) (S := fun w' => w'.cell? ⟨gb209, 0, none⟩ = some (.int .i64 a1_0) ∧ w'.cell? ⟨gb209, 1, none⟩ = some (.slice A1_1 l1_1.length c1_1) ∧ w'.cell? ⟨gb208, 0, none⟩ = some (.int .i64 a0_0) ∧ w'.cell? ⟨gb208, 1, none⟩ = some (.slice A0_1 l0_1.length c0_1)) (ds := []) #[false, false, false, false, false, false, false, false, false, false, false] (by kernel_rfl) rfl rfl ⟨(c2 BK209).1, (c2 BK209).2, (c2 BK208).1, (c2 BK208).2⟩ (fun hHeld => ?_); refine with_tabW spec_CheckFarkas.tab4 spec_CheckFarkas.bits4 (fun HT_ HW_ => ?_)
       generalize wc.drew = w51 at HO_217001 BK208 BK209 BK210 BK216 HB hHeld ⊢
       refine pure_ (i := 1) (N := some 37) (v := ?_) (a' := ?_) #[false, true, false, false, false, false, false, false, false, false, false] rfl rfl (any_of HT_.out (by kernel_rfl)) (fun _ _ _ h => h) (Or.inl ⟨by rfl, ?_⟩) ?_ ?_
       rotate_left
       ·intro w'
        go_simp
        with_reducible rfl
       rotate_left
       ·simp only [Act.put, List.setIfInBounds_toArray, List.set_cons_zero, List.set_cons_succ, i64_w, i32_w]
        rfl
       refine take_ (i := 0) (N := some 36) (v := ?_) (a' := ?_) #[true, true, false, false, false, false, false, false, false, false, false] rfl rfl (take_ofW HT_.out HW_.out (by kernel_rfl)) (fun _ _ _ h => h) (Or.inl ⟨by rfl, ?_⟩) hHeld ?_ ?_
       rotate_left
       ·rintro w' ⟨s0, s1, s2, s3⟩
        go_simp
        with_reducible rfl
       rotate_left
       ·simp only [Act.put, List.setIfInBounds_toArray, List.set_cons_zero, List.set_cons_succ, i64_w, i32_w]
        rfl
       refine take_ (i := 2) (N := some 38) (v := ?_) (a' := ?_) #[true, true, true, false, false, false, false, false, false, false, false] rfl rfl (take_ofW HT_.out HW_.out (by kernel_rfl)) (fun _ _ _ h => h) (Or.inl ⟨by rfl, ?_⟩) hHeld ?_ ?_
       rotate_left
       ·rintro w' ⟨s0, s1, s2, s3⟩
        go_simp
        with_reducible rfl
       rotate_left
       ·simp only [Act.put, List.setIfInBounds_toArray, List.set_cons_zero, List.set_cons_succ, i64_w, i32_w]
        rfl
       refine join_ (σ := Value × Value × Nat) 2 #[true, true, true, true, true, true, true, true, true, false, false] (fun s_ => [(39, .agg #[.int .i64 t219, s_.1]), (40, .tuple #[.agg #[.int .i64 t223, s_.2.1], .bool true]), (9, .pointer (some ⟨s_.2.2, 0, none⟩)), (35, .tuple #[.agg #[.int .i64 t223, s_.2.1], .bool true]), (41, .agg #[.int .i64 t223, s_.2.1]), (42, .bool true)]) (fun s_ w' => (w'.cell? ⟨gb209, 0, none⟩ = some (.int .i64 a1_0) ∧ w'.cell? ⟨gb209, 1, none⟩ = some (.slice A1_1 l1_1.length c1_1) ∧ w'.cell? ⟨gb208, 0, none⟩ = some (.int .i64 a0_0) ∧ w'.cell? ⟨gb208, 1, none⟩ = some (.slice A0_1 l0_1.length c0_1)) ∧ (Kd.R (Kd.int .i64) 3 w' w.heap.size (fun k_ => some k_ ≠ (s_.2.1 : Value).ownBlock ∧ some k_ ≠ (.slice Ao20 t212.length co20 : Value).ownBlock) s_.1 t220) ∧ (Kd.R (Kd.int .i64) 3 w' w.heap.size (fun k_ => some k_ ≠ (s_.1 : Value).ownBlock ∧ some k_ ≠ (.slice Ao20 t212.length co20 : Value).ownBlock) s_.2.1 t224) ∧ (Kd.R (Kd.int .i64) 3 w' w.heap.size (fun k_ => some k_ ≠ (s_.1 : Value).ownBlock ∧ some k_ ≠ (s_.2.1 : Value).ownBlock) (.slice Ao20 t212.length co20) t212) ∧ (w'.heap[gb208]? = some (.cells #[.int .i64 a0_0, .slice A0_1 l0_1.length c0_1] 32 (0, 0))) ∧ (w'.heap[gb209]? = some (.cells #[.int .i64 a1_0, .slice A1_1 l1_1.length c1_1] 36 (0, 0))) ∧ (w'.heap[gb210]? = some (.cells #[.int .i64 a2_0, .slice A2_1 l2_1.length c2_1] 65 (0, 0))) ∧ (w'.heap[gb216]? = some (.cells #[.int .i64 t211, .slice Ao20 t212.length co20] 36 (0, 0))) ∧ (w'.heap[s_.2.2]? = some (.cells #[.int .i64 0, .slice none 0 0] 36 (0, 0))) ∧ (w.heap.size ≤ s_.2.2) ∧ (w.heap.size ≤ s_.2.2) ∧ (gb208 ≠ s_.2.2) ∧ (s_.2.2 ≠ gb208) ∧ (gb209 ≠ s_.2.2) ∧ (s_.2.2 ≠ gb209) ∧ (gb210 ≠ s_.2.2) ∧ (s_.2.2 ≠ gb210) ∧ (gb216 ≠ s_.2.2) ∧ (s_.2.2 ≠ gb216) ∧ (Below w.heap.size w w')) ?_ ?_
       rotate_left
       ·intro hCont
        refine two_ (i := 3) (j := 8) (Ni := some 39) (Nj := some 9) #[true, true, true, true, false, false, false, false, false, false, false] #[true, true, true, false, false, false, false, false, true, false, false] rfl rfl rfl rfl (two_of HT_.out (by kernel_rfl)) (by decide) (by decide) (fun K hK => ?_) (fun K hK => ?_)
        ·skip
         refine goes_ Try.func69 (by kernel_rfl) rfl #[.int .i64 1, .int .i64 a0_0] (by rfl) rfl rfl (by (try simp only [List.map_toArray, List.map_cons, List.map_nil]); first | done | rfl | (simp only [List.length_drop, List.length_take]; rfl)) ?_
         with_reducible refine (spec_ConstLin.calls 1 a0_0 t219 t220 _ A44.out).mono ?_
         rintro e w52 ⟨v221, rfl, ho0, hb⟩
         refine ⟨_, rfl, ?_⟩
         have HO222 := Aside0.mk (Kd.R_lower (Kd.R_new' ho0 (Kd.R_lt (mr HO_217001))) (below_size (ms HB)))
         replace HO_217001 := rl HO_217001 ho0 hb
         replace BK208 := bb BK208 hb
         replace BK209 := bb BK209 hb
         replace BK210 := bb BK210 hb
         replace BK216 := bb BK216 hb
         replace HB := bs HB hb
         (try clear hb)
         (try clear hb2)
         (try clear hk)
         (try clear hi)
         (try clear ho0)
         obtain ⟨Ao53, co53, eo53⟩ := Kd.R_slice HO222.out
         (first | subst eo53 | (injection eo53 with f1_ f2_ f3_; have f4_ := f1_.symm; have f5_ := f3_.symm; clear f1_ f2_ f3_; subst f4_; subst f5_))
         refine hK.out _ _ ⟨(c2 BK209).1, (c2 BK209).2, (c2 BK208).1, (c2 BK208).2⟩ (fun hHeld => ?_)
         clear hK K
         refine norm_ (a' := ?_) ?_ ?_
         rotate_left
         ·show Act.put _ (some 39) _ = _
          simp only [Act.put, List.setIfInBounds_toArray, List.set_cons_zero, List.set_cons_succ, i64_w, i32_w]
          rfl
         refine two_ (i := 4) (j := 8) (Ni := some 40) (Nj := some 9) #[true, true, true, true, true, false, false, false, false, false, false] #[true, true, true, true, false, false, false, false, true, false, false] rfl rfl rfl rfl (two_of HT_.out (by kernel_rfl)) (by decide) (by decide) (fun K hK => ?_) (fun K hK => ?_)
         ·skip
          refine goes_ Try.func70 (by kernel_rfl) rfl #[.agg #[.int .i64 a1_0, .slice A1_1 l1_1.length c1_1], .int .i64 1, .agg #[.int .i64 t219, .slice Ao53 t220.length co53]] (by rfl) rfl rfl (by (try simp only [List.map_toArray, List.map_cons, List.map_nil]); first | done | rfl | (simp only [List.length_drop, List.length_take]; rfl)) ?_
          with_reducible refine (spec_AddScaled.calls kj4 a1_0 _ _ l1_1 1 t219 _ _ t220 t223 t224 true _ ?side1 ?side2 ?side3 ?side4 A45.out).mono ?_
          (case side1 => exact mc ((Kd.C_below HR1_1.out HB.out)))
          (case side2 => exact HC1_1.out)
          (case side3 => exact mc ((Kd.R_reads' HO222.out).2.2))
          (case side4 => exact (Kd.R_reads' HO222.out).2.1)
          rintro e w54 ⟨v225, rfl, ho0, hb⟩
          refine ⟨_, rfl, ?_⟩
          have HO226 := Aside0.mk (Kd.R_lower (Kd.R_new' (Kd.R_new' ho0 (Kd.R_lt (mr HO_217001))) (Kd.R_lt (mr HO222))) (below_size (ms HB)))
          replace HO_217001 := rl HO_217001 ho0 hb
          replace HO222 := rl HO222 ho0 hb
          replace BK208 := bb BK208 hb
          replace BK209 := bb BK209 hb
          replace BK210 := bb BK210 hb
          replace BK216 := bb BK216 hb
          replace HB := bs HB hb
          (try clear hb)
          (try clear hb2)
          (try clear hk)
          (try clear hi)
          (try clear ho0)
          refine hK.out _ _ ⟨(c2 BK209).1, (c2 BK209).2, (c2 BK208).1, (c2 BK208).2⟩ (fun hHeld => ?_)
          clear hK K
          refine norm_ (a' := ?_) ?_ ?_
          rotate_left
          ·show Act.put _ (some 40) _ = _
           simp only [Act.put, List.setIfInBounds_toArray, List.set_cons_zero, List.set_cons_succ, i64_w, i32_w]
           rfl
          refine pure_ (i := 5) (N := some 35) (v := ?_) (a' := ?_) #[true, true, true, true, true, true, false, false, false, false, false] rfl rfl (any_of HT_.out (by kernel_rfl)) (fun _ _ _ h => h) (Or.inl ⟨by rfl, ?_⟩) ?_ ?_
          rotate_left
          ·intro w'
           go_simp
           with_reducible rfl
          rotate_left
          ·simp only [Act.put, List.setIfInBounds_toArray, List.set_cons_zero, List.set_cons_succ, i64_w, i32_w]
           rfl
          refine pure_ (i := 6) (N := some 41) (v := ?_) (a' := ?_) #[true, true, true, true, true, true, true, false, false, false, false] rfl rfl (any_of HT_.out (by kernel_rfl)) (fun _ _ _ h => h) (Or.inl ⟨by rfl, ?_⟩) ?_ ?_
          rotate_left
          ·intro w'
           go_simp
           with_reducible rfl
          rotate_left
          ·simp only [Act.put, List.setIfInBounds_toArray, List.set_cons_zero, List.set_cons_succ, i64_w, i32_w]
           rfl
          refine pure_ (i := 7) (N := some 42) (v := ?_) (a' := ?_) #[true, true, true, true, true, true, true, true, false, false, false] rfl rfl (any_of HT_.out (by kernel_rfl)) (fun _ _ _ h => h) (Or.inl ⟨by rfl, ?_⟩) ?_ ?_
          rotate_left
          ·intro w'
           go_simp
           with_reducible rfl
          rotate_left
          ·simp only [Act.put, List.setIfInBounds_toArray, List.set_cons_zero, List.set_cons_succ, i64_w, i32_w]
           rfl
          refine one_ (i := 8) (N := some 9) #[true, true, true, true, true, true, true, true, true, false, false] rfl rfl (one_of HT_.out (by kernel_rfl)) (by decide) (fun K hK => ?_)
          refine box_step ?hg (N := 9) ?hd (cs := #[.int .i64 0, .slice none 0 0]) (t := 36) ?hr ?_; (case hd => rfl); (case hg => rfl); (case hr => first | (go_simp; done) | (go_simp; rfl))
          intro gb228 hg w55 hbox hb
          replace HO_217001 := rb HO_217001 hb
          replace HO222 := rb HO222 hb
          replace HO226 := rb HO226 hb
          have BK228 := Aside0.mk (hbox)
          have GW228 := gw hg HB
          have GE228 := gw hg HB
          replace HB := bs HB hb
          have NB208_228 := nl hg BK208
          have NB228_208 := ng hg BK208
          replace BK208 := bb BK208 hb
          have NB209_228 := nl hg BK209
          have NB228_209 := ng hg BK209
          replace BK209 := bb BK209 hb
          have NB210_228 := nl hg BK210
          have NB228_210 := ng hg BK210
          replace BK210 := bb BK210 hb
          have NB216_228 := nl hg BK216
          have NB228_216 := ng hg BK216
          replace BK216 := bb BK216 hb
          clear hb hbox hg
          refine hK.out _ _ ⟨(c2 BK209).1, (c2 BK209).2, (c2 BK208).1, (c2 BK208).2⟩ (fun hHeld => ?_)
          clear hK K
          refine norm_ (a' := ?_) ?_ ?_
          rotate_left
          ·show Act.put _ (some 9) _ = _
           simp only [Act.put, List.setIfInBounds_toArray, List.set_cons_zero, List.set_cons_succ, i64_w, i32_w]
           rfl
          exact norm_ (by simp only [putAll, Act.put, List.setIfInBounds_toArray, List.set_cons_zero, List.set_cons_succ]) (hCont (.slice Ao53 t220.length co53, v225, gb228) _ ⟨hHeld, (by (with_reducible repeat (first | apply Kd.R_alloc | apply Kd.R_drewN | apply Kd.R_drew)); exact Kd.R_mono HO222.out (fun _ hk => ⟨hk.2, hk.1.2⟩)), (by (with_reducible repeat (first | apply Kd.R_alloc | apply Kd.R_drewN | apply Kd.R_drew)); exact Kd.R_mono HO226.out (fun _ hk => ⟨hk.2, hk.1.2⟩)), (by (with_reducible repeat (first | apply Kd.R_alloc | apply Kd.R_drewN | apply Kd.R_drew)); exact Kd.R_mono HO_217001.out (fun _ hk => ⟨hk.1.2, hk.2⟩)), (mb BK208), (mb BK209), (mb BK210), (mb BK216), (mb BK228), GW228.out, GE228.out, NB208_228.out, NB228_208.out, NB209_228.out, NB228_209.out, NB210_228.out, NB228_210.out, NB216_228.out, NB228_216.out, (ms HB)⟩)
         ·skip
          refine box_step ?hg (N := 9) ?hd (cs := #[.int .i64 0, .slice none 0 0]) (t := 36) ?hr ?_; (case hd => rfl); (case hg => rfl); (case hr => first | (go_simp; done) | (go_simp; rfl))
          intro gb228 hg w53 hbox hb
          replace HO_217001 := rb HO_217001 hb
          replace HO222 := rb HO222 hb
          have BK228 := Aside0.mk (hbox)
          have GW228 := gw hg HB
          have GE228 := gw hg HB
          replace HB := bs HB hb
          have NB208_228 := nl hg BK208
          have NB228_208 := ng hg BK208
          replace BK208 := bb BK208 hb
          have NB209_228 := nl hg BK209
          have NB228_209 := ng hg BK209
          replace BK209 := bb BK209 hb
          have NB210_228 := nl hg BK210
          have NB228_210 := ng hg BK210
          replace BK210 := bb BK210 hb
          have NB216_228 := nl hg BK216
          have NB228_216 := ng hg BK216
          replace BK216 := bb BK216 hb
          clear hb hbox hg
          obtain ⟨Ao54, co54, eo54⟩ := Kd.R_slice HO222.out
          (first | subst eo54 | (injection eo54 with f1_ f2_ f3_; have f4_ := f1_.symm; have f5_ := f3_.symm; clear f1_ f2_ f3_; subst f4_; subst f5_))
          refine hK.out _ _ ⟨(c2 BK209).1, (c2 BK209).2, (c2 BK208).1, (c2 BK208).2⟩ (fun hHeld => ?_)
          clear hK K
          refine norm_ (a' := ?_) ?_ ?_
          rotate_left
          ·show Act.put _ (some 9) _ = _
           simp only [Act.put, List.setIfInBounds_toArray, List.set_cons_zero, List.set_cons_succ, i64_w, i32_w]
           rfl
          refine one_ (i := 4) (N := some 40) #[true, true, true, true, true, false, false, false, true, false, false] rfl rfl (one_of HT_.out (by kernel_rfl)) (by decide) (fun K hK => ?_)
          refine goes_ Try.func70 (by kernel_rfl) rfl #[.agg #[.int .i64 a1_0, .slice A1_1 l1_1.length c1_1], .int .i64 1, .agg #[.int .i64 t219, .slice Ao54 t220.length co54]] (by rfl) rfl rfl (by (try simp only [List.map_toArray, List.map_cons, List.map_nil]); first | done | rfl | (simp only [List.length_drop, List.length_take]; rfl)) ?_
          with_reducible refine (spec_AddScaled.calls kj4 a1_0 _ _ l1_1 1 t219 _ _ t220 t223 t224 true _ ?side1 ?side2 ?side3 ?side4 A45.out).mono ?_
          (case side1 => exact mc ((Kd.C_below HR1_1.out HB.out)))
          (case side2 => exact HC1_1.out)
          (case side3 => exact mc ((Kd.R_reads' HO222.out).2.2))
          (case side4 => exact (Kd.R_reads' HO222.out).2.1)
          rintro e w55 ⟨v225, rfl, ho0, hb⟩
          refine ⟨_, rfl, ?_⟩
          have HO226 := Aside0.mk (Kd.R_lower (Kd.R_new' (Kd.R_new' ho0 (Kd.R_lt (mr HO_217001))) (Kd.R_lt (mr HO222))) (below_size (ms HB)))
          replace HO_217001 := rl HO_217001 ho0 hb
          replace HO222 := rl HO222 ho0 hb
          replace BK208 := bb BK208 hb
          replace BK209 := bb BK209 hb
          replace BK210 := bb BK210 hb
          replace BK216 := bb BK216 hb
          replace BK228 := bb BK228 hb
          replace HB := bs HB hb
          (try clear hb)
          (try clear hb2)
          (try clear hk)
          (try clear hi)
          (try clear ho0)
          refine hK.out _ _ ⟨(c2 BK209).1, (c2 BK209).2, (c2 BK208).1, (c2 BK208).2⟩ (fun hHeld => ?_)
          clear hK K
          refine norm_ (a' := ?_) ?_ ?_
          rotate_left
          ·show Act.put _ (some 40) _ = _
           simp only [Act.put, List.setIfInBounds_toArray, List.set_cons_zero, List.set_cons_succ, i64_w, i32_w]
           rfl
          refine pure_ (i := 5) (N := some 35) (v := ?_) (a' := ?_) #[true, true, true, true, true, true, false, false, true, false, false] rfl rfl (any_of HT_.out (by kernel_rfl)) (fun _ _ _ h => h) (Or.inl ⟨by rfl, ?_⟩) ?_ ?_
          rotate_left
          ·intro w'
           go_simp
           with_reducible rfl
          rotate_left
          ·simp only [Act.put, List.setIfInBounds_toArray, List.set_cons_zero, List.set_cons_succ, i64_w, i32_w]
           rfl
          refine pure_ (i := 6) (N := some 41) (v := ?_) (a' := ?_) #[true, true, true, true, true, true, true, false, true, false, false] rfl rfl (any_of HT_.out (by kernel_rfl)) (fun _ _ _ h => h) (Or.inl ⟨by rfl, ?_⟩) ?_ ?_
          rotate_left
          ·intro w'
           go_simp
           with_reducible rfl
          rotate_left
          ·simp only [Act.put, List.setIfInBounds_toArray, List.set_cons_zero, List.set_cons_succ, i64_w, i32_w]
           rfl
          refine pure_ (i := 7) (N := some 42) (v := ?_) (a' := ?_) #[true, true, true, true, true, true, true, true, true, false, false] rfl rfl (any_of HT_.out (by kernel_rfl)) (fun _ _ _ h => h) (Or.inl ⟨by rfl, ?_⟩) ?_ ?_
          rotate_left
          ·intro w'
           go_simp
           with_reducible rfl
          rotate_left
          ·simp only [Act.put, List.setIfInBounds_toArray, List.set_cons_zero, List.set_cons_succ, i64_w, i32_w]
           rfl
          exact norm_ (by simp only [putAll, Act.put, List.setIfInBounds_toArray, List.set_cons_zero, List.set_cons_succ]) (hCont (.slice Ao54 t220.length co54, v225, gb228) _ ⟨hHeld, (by (with_reducible repeat (first | apply Kd.R_alloc | apply Kd.R_drewN | apply Kd.R_drew)); exact Kd.R_mono HO222.out (fun _ hk => ⟨hk.2, hk.1.2⟩)), (by (with_reducible repeat (first | apply Kd.R_alloc | apply Kd.R_drewN | apply Kd.R_drew)); exact Kd.R_mono HO226.out (fun _ hk => ⟨hk.2, hk.1.2⟩)), (by (with_reducible repeat (first | apply Kd.R_alloc | apply Kd.R_drewN | apply Kd.R_drew)); exact Kd.R_mono HO_217001.out (fun _ hk => ⟨hk.1.2, hk.2⟩)), (mb BK208), (mb BK209), (mb BK210), (mb BK216), (mb BK228), GW228.out, GE228.out, NB208_228.out, NB228_208.out, NB209_228.out, NB228_209.out, NB210_228.out, NB228_210.out, NB216_228.out, NB228_216.out, (ms HB)⟩)
        ·skip
         refine box_step ?hg (N := 9) ?hd (cs := #[.int .i64 0, .slice none 0 0]) (t := 36) ?hr ?_; (case hd => rfl); (case hg => rfl); (case hr => first | (go_simp; done) | (go_simp; rfl))
         intro gb228 hg w52 hbox hb
         replace HO_217001 := rb HO_217001 hb
         have BK228 := Aside0.mk (hbox)
         have GW228 := gw hg HB
         have GE228 := gw hg HB
         replace HB := bs HB hb
         have NB208_228 := nl hg BK208
         have NB228_208 := ng hg BK208
         replace BK208 := bb BK208 hb
         have NB209_228 := nl hg BK209
         have NB228_209 := ng hg BK209
         replace BK209 := bb BK209 hb
         have NB210_228 := nl hg BK210
         have NB228_210 := ng hg BK210
         replace BK210 := bb BK210 hb
         have NB216_228 := nl hg BK216
         have NB228_216 := ng hg BK216
         replace BK216 := bb BK216 hb
         clear hb hbox hg
         refine hK.out _ _ ⟨(c2 BK209).1, (c2 BK209).2, (c2 BK208).1, (c2 BK208).2⟩ (fun hHeld => ?_)
         clear hK K
         refine norm_ (a' := ?_) ?_ ?_
         rotate_left
         ·show Act.put _ (some 9) _ = _
          simp only [Act.put, List.setIfInBounds_toArray, List.set_cons_zero, List.set_cons_succ, i64_w, i32_w]
          rfl
         refine one_ (i := 3) (N := some 39) #[true, true, true, true, false, false, false, false, true, false, false] rfl rfl (one_of HT_.out (by kernel_rfl)) (by decide) (fun K hK => ?_)
         refine goes_ Try.func69 (by kernel_rfl) rfl #[.int .i64 1, .int .i64 a0_0] (by rfl) rfl rfl (by (try simp only [List.map_toArray, List.map_cons, List.map_nil]); first | done | rfl | (simp only [List.length_drop, List.length_take]; rfl)) ?_
         with_reducible refine (spec_ConstLin.calls 1 a0_0 t219 t220 _ A44.out).mono ?_
         rintro e w53 ⟨v221, rfl, ho0, hb⟩
         refine ⟨_, rfl, ?_⟩
         have HO222 := Aside0.mk (Kd.R_lower (Kd.R_new' ho0 (Kd.R_lt (mr HO_217001))) (below_size (ms HB)))
         replace HO_217001 := rl HO_217001 ho0 hb
         replace BK208 := bb BK208 hb
         replace BK209 := bb BK209 hb
         replace BK210 := bb BK210 hb
         replace BK216 := bb BK216 hb
         replace BK228 := bb BK228 hb
         replace HB := bs HB hb
         (try clear hb)
         (try clear hb2)
         (try clear hk)
         (try clear hi)
         (try clear ho0)
         obtain ⟨Ao54, co54, eo54⟩ := Kd.R_slice HO222.out
         (first | subst eo54 | (injection eo54 with f1_ f2_ f3_; have f4_ := f1_.symm; have f5_ := f3_.symm; clear f1_ f2_ f3_; subst f4_; subst f5_))
         refine hK.out _ _ ⟨(c2 BK209).1, (c2 BK209).2, (c2 BK208).1, (c2 BK208).2⟩ (fun hHeld => ?_)
         clear hK K
         refine norm_ (a' := ?_) ?_ ?_
         rotate_left
         ·show Act.put _ (some 39) _ = _
          simp only [Act.put, List.setIfInBounds_toArray, List.set_cons_zero, List.set_cons_succ, i64_w, i32_w]
          rfl
         refine one_ (i := 4) (N := some 40) #[true, true, true, true, true, false, false, false, true, false, false] rfl rfl (one_of HT_.out (by kernel_rfl)) (by decide) (fun K hK => ?_)
         refine goes_ Try.func70 (by kernel_rfl) rfl #[.agg #[.int .i64 a1_0, .slice A1_1 l1_1.length c1_1], .int .i64 1, .agg #[.int .i64 t219, .slice Ao54 t220.length co54]] (by rfl) rfl rfl (by (try simp only [List.map_toArray, List.map_cons, List.map_nil]); first | done | rfl | (simp only [List.length_drop, List.length_take]; rfl)) ?_
         with_reducible refine (spec_AddScaled.calls kj4 a1_0 _ _ l1_1 1 t219 _ _ t220 t223 t224 true _ ?side1 ?side2 ?side3 ?side4 A45.out).mono ?_
         (case side1 => exact mc ((Kd.C_below HR1_1.out HB.out)))
         (case side2 => exact HC1_1.out)
         (case side3 => exact mc ((Kd.R_reads' HO222.out).2.2))
         (case side4 => exact (Kd.R_reads' HO222.out).2.1)
         rintro e w55 ⟨v225, rfl, ho0, hb⟩
         refine ⟨_, rfl, ?_⟩
         have HO226 := Aside0.mk (Kd.R_lower (Kd.R_new' (Kd.R_new' ho0 (Kd.R_lt (mr HO_217001))) (Kd.R_lt (mr HO222))) (below_size (ms HB)))
         replace HO_217001 := rl HO_217001 ho0 hb
         replace HO222 := rl HO222 ho0 hb
         replace BK208 := bb BK208 hb
         replace BK209 := bb BK209 hb
         replace BK210 := bb BK210 hb
         replace BK216 := bb BK216 hb
         replace BK228 := bb BK228 hb
         replace HB := bs HB hb
         (try clear hb)
         (try clear hb2)
         (try clear hk)
         (try clear hi)
         (try clear ho0)
         refine hK.out _ _ ⟨(c2 BK209).1, (c2 BK209).2, (c2 BK208).1, (c2 BK208).2⟩ (fun hHeld => ?_)
         clear hK K
         refine norm_ (a' := ?_) ?_ ?_
         rotate_left
         ·show Act.put _ (some 40) _ = _
          simp only [Act.put, List.setIfInBounds_toArray, List.set_cons_zero, List.set_cons_succ, i64_w, i32_w]
          rfl
         refine pure_ (i := 5) (N := some 35) (v := ?_) (a' := ?_) #[true, true, true, true, true, true, false, false, true, false, false] rfl rfl (any_of HT_.out (by kernel_rfl)) (fun _ _ _ h => h) (Or.inl ⟨by rfl, ?_⟩) ?_ ?_
         rotate_left
         ·intro w'
          go_simp
          with_reducible rfl
         rotate_left
         ·simp only [Act.put, List.setIfInBounds_toArray, List.set_cons_zero, List.set_cons_succ, i64_w, i32_w]
          rfl
         refine pure_ (i := 6) (N := some 41) (v := ?_) (a' := ?_) #[true, true, true, true, true, true, true, false, true, false, false] rfl rfl (any_of HT_.out (by kernel_rfl)) (fun _ _ _ h => h) (Or.inl ⟨by rfl, ?_⟩) ?_ ?_
         rotate_left
         ·intro w'
          go_simp
          with_reducible rfl
         rotate_left
         ·simp only [Act.put, List.setIfInBounds_toArray, List.set_cons_zero, List.set_cons_succ, i64_w, i32_w]
          rfl
         refine pure_ (i := 7) (N := some 42) (v := ?_) (a' := ?_) #[true, true, true, true, true, true, true, true, true, false, false] rfl rfl (any_of HT_.out (by kernel_rfl)) (fun _ _ _ h => h) (Or.inl ⟨by rfl, ?_⟩) ?_ ?_
         rotate_left
         ·intro w'
          go_simp
          with_reducible rfl
         rotate_left
         ·simp only [Act.put, List.setIfInBounds_toArray, List.set_cons_zero, List.set_cons_succ, i64_w, i32_w]
          rfl
         exact norm_ (by simp only [putAll, Act.put, List.setIfInBounds_toArray, List.set_cons_zero, List.set_cons_succ]) (hCont (.slice Ao54 t220.length co54, v225, gb228) _ ⟨hHeld, (by (with_reducible repeat (first | apply Kd.R_alloc | apply Kd.R_drewN | apply Kd.R_drew)); exact Kd.R_mono HO222.out (fun _ hk => ⟨hk.2, hk.1.2⟩)), (by (with_reducible repeat (first | apply Kd.R_alloc | apply Kd.R_drewN | apply Kd.R_drew)); exact Kd.R_mono HO226.out (fun _ hk => ⟨hk.2, hk.1.2⟩)), (by (with_reducible repeat (first | apply Kd.R_alloc | apply Kd.R_drewN | apply Kd.R_drew)); exact Kd.R_mono HO_217001.out (fun _ hk => ⟨hk.1.2, hk.2⟩)), (mb BK208), (mb BK209), (mb BK210), (mb BK216), (mb BK228), GW228.out, GE228.out, NB208_228.out, NB228_208.out, NB209_228.out, NB228_209.out, NB210_228.out, NB228_210.out, NB216_228.out, NB228_216.out, (ms HB)⟩)
       rintro ⟨v221, v225, gb228⟩ w56 ⟨hS_, h0_, h1_, h2_, h3_, h4_, h5_, h6_, h7_, h8_, h9_, h10_, h11_, h12_, h13_, h14_, h15_, h16_, h17_, h18_⟩
       have n0_ : Aside0 (Kd.R (Kd.int .i64) 3 w56 w.heap.size (fun k_ => some k_ ≠ (v225 : Value).ownBlock ∧ some k_ ≠ (.slice Ao20 t212.length co20 : Value).ownBlock) v221 t220) := ⟨h0_⟩
       have n1_ : Aside0 (Kd.R (Kd.int .i64) 3 w56 w.heap.size (fun k_ => some k_ ≠ (v221 : Value).ownBlock ∧ some k_ ≠ (.slice Ao20 t212.length co20 : Value).ownBlock) v225 t224) := ⟨h1_⟩
       have n2_ : Aside0 (Kd.R (Kd.int .i64) 3 w56 w.heap.size (fun k_ => some k_ ≠ (v221 : Value).ownBlock ∧ some k_ ≠ (v225 : Value).ownBlock) (.slice Ao20 t212.length co20) t212) := ⟨h2_⟩
       have n3_ : Aside0 (w56.heap[gb208]? = some (.cells #[.int .i64 a0_0, .slice A0_1 l0_1.length c0_1] 32 (0, 0))) := ⟨h3_⟩
       have n4_ : Aside0 (w56.heap[gb209]? = some (.cells #[.int .i64 a1_0, .slice A1_1 l1_1.length c1_1] 36 (0, 0))) := ⟨h4_⟩
       have n5_ : Aside0 (w56.heap[gb210]? = some (.cells #[.int .i64 a2_0, .slice A2_1 l2_1.length c2_1] 65 (0, 0))) := ⟨h5_⟩
       have n6_ : Aside0 (w56.heap[gb216]? = some (.cells #[.int .i64 t211, .slice Ao20 t212.length co20] 36 (0, 0))) := ⟨h6_⟩
       have n7_ : Aside0 (w56.heap[gb228]? = some (.cells #[.int .i64 0, .slice none 0 0] 36 (0, 0))) := ⟨h7_⟩
       have n8_ : Aside0 (w.heap.size ≤ gb228) := ⟨h8_⟩
       have n9_ : Aside0 (w.heap.size ≤ gb228) := ⟨h9_⟩
       have n10_ : Aside0 (gb208 ≠ gb228) := ⟨h10_⟩
       have n11_ : Aside0 (gb228 ≠ gb208) := ⟨h11_⟩
       have n12_ : Aside0 (gb209 ≠ gb228) := ⟨h12_⟩
       have n13_ : Aside0 (gb228 ≠ gb209) := ⟨h13_⟩
       have n14_ : Aside0 (gb210 ≠ gb228) := ⟨h14_⟩
       have n15_ : Aside0 (gb228 ≠ gb210) := ⟨h15_⟩
       have n16_ : Aside0 (gb216 ≠ gb228) := ⟨h16_⟩
       have n17_ : Aside0 (gb228 ≠ gb216) := ⟨h17_⟩
       have n18_ : Aside0 (Below w.heap.size w w56) := ⟨h18_⟩
       clear HO_217001
       clear BK208
       clear BK209
       clear BK210
       clear BK216
       clear HB
       clear h0_ h1_ h2_ h3_ h4_ h5_ h6_ h7_ h8_ h9_ h10_ h11_ h12_ h13_ h14_ h15_ h16_ h17_ h18_
       have HO222 := n0_
       have HO226 := n1_
       have HO_217001 := n2_
       have BK208 := n3_
       have BK209 := n4_
       have BK210 := n5_
       have BK216 := n6_
       have BK228 := n7_
       have GW228 := n8_
       have GE228 := n9_
       have NB208_228 := n10_
       have NB228_208 := n11_
       have NB209_228 := n12_
       have NB228_209 := n13_
       have NB210_228 := n14_
       have NB228_210 := n15_
       have NB216_228 := n16_
       have NB228_216 := n17_
       have HB := n18_
       clear n0_ n1_ n2_ n3_ n4_ n5_ n6_ n7_ n8_ n9_ n10_ n11_ n12_ n13_ n14_ n15_ n16_ n17_ n18_
       have hHeld : w56.cell? ⟨gb209, 0, none⟩ = some (.int .i64 a1_0) ∧ w56.cell? ⟨gb209, 1, none⟩ = some (.slice A1_1 l1_1.length c1_1) ∧ w56.cell? ⟨gb208, 0, none⟩ = some (.int .i64 a0_0) ∧ w56.cell? ⟨gb208, 1, none⟩ = some (.slice A0_1 l0_1.length c0_1) := hS_
       obtain ⟨Ao58, co58, eo58⟩ := Kd.R_slice HO226.out
       (first | subst eo58 | (injection eo58 with f1_ f2_ f3_; have f4_ := f1_.symm; have f5_ := f3_.symm; clear f1_ f2_ f3_; subst f4_; subst f5_))
       refine norm_ (a' := ?_) ?_ ?_
       rotate_left
       ·simp only [putAll, Act.put, List.setIfInBounds_toArray, List.set_cons_zero, List.set_cons_succ]
        rfl
       refine one_ (i := 9) (N := none) #[true, true, true, true, true, true, true, true, true, true, false] rfl rfl (one_of HT_.out (by kernel_rfl)) (by decide) (fun K hK => ?_)
       have hs57 : w56.cell? ⟨gb228, 0, none⟩ = some (.int .i64 0) := (blk_cell BK228.out 0).trans rfl
       have hfs57 := blk_frozen BK228.out 0
       have hns57_0 := NB208_228.out
       have hns57_1 := NB209_228.out
       have hns57_2 := NB210_228.out
       have hns57_3 := NB216_228.out
       have hms57_0 := NB228_208.out
       have hms57_1 := NB228_209.out
       have hms57_2 := NB228_210.out
       have hms57_3 := NB228_216.out
       have hs59 : w56.cell? ⟨gb228, 1, none⟩ = some (.slice none 0 0) := (blk_cell BK228.out 1).trans rfl
       have hfs59 := blk_frozen BK228.out 1
       have hns59_0 := NB208_228.out
       have hns59_1 := NB209_228.out
       have hns59_2 := NB210_228.out
       have hns59_3 := NB216_228.out
       have hms59_0 := NB228_208.out
       have hms59_1 := NB228_209.out
       have hms59_2 := NB228_210.out
       have hms59_3 := NB228_216.out
       refine skip_ (w1 := ?_) (by rfl) rfl ?_ ?_
       rotate_left
       ·go_simp
        rfl
       refine hK.out _ _ ⟨((cell_far (p := ⟨gb228, _, none⟩) NB209_228.out _).trans (((cell_far (p := ⟨gb228, _, none⟩) NB209_228.out _).trans (hHeld.1)))), ((cell_far (p := ⟨gb228, _, none⟩) NB209_228.out _).trans (((cell_far (p := ⟨gb228, _, none⟩) NB209_228.out _).trans (hHeld.2.1)))), ((cell_far (p := ⟨gb228, _, none⟩) NB208_228.out _).trans (((cell_far (p := ⟨gb228, _, none⟩) NB208_228.out _).trans (hHeld.2.2.1)))), ((cell_far (p := ⟨gb228, _, none⟩) NB208_228.out _).trans (((cell_far (p := ⟨gb228, _, none⟩) NB208_228.out _).trans (hHeld.2.2.2))))⟩ (fun hHeld => ?_)
       clear hK K
       refine pure_ (i := 10) (N := some 10) (v := ?_) (a' := ?_) #[true, true, true, true, true, true, true, true, true, true, true] rfl rfl (any_of HT_.out (by kernel_rfl)) (fun _ _ _ h => h) (Or.inl ⟨by rfl, ?_⟩) ?_ ?_
       rotate_left
       ·intro w'
        go_simp
        with_reducible rfl
       rotate_left
       ·simp only [Act.put, List.setIfInBounds_toArray, List.set_cons_zero, List.set_cons_succ, i64_w, i32_w]
        rfl
       refine done_ (done_of HT_.out (by kernel_rfl)) ?_
       have hnb60 := NB216_208.out
       have hnc60 := NB208_216.out
       have hnb61 := NB216_209.out
       have hnc61 := NB209_216.out
       have hnb62 := NB216_210.out
       have hnc62 := NB210_216.out
       have hnb63 := NB216_228.out
       have hnc63 := NB228_216.out
       obtain ⟨hcz64_0, hcz64_1⟩ := c2 BK216
       have hfz64_0 := blk_frozen BK216.out 0
       have hfz64_1 := blk_frozen BK216.out 1
       have hnb65 := NB210_208.out
       have hnc65 := NB208_210.out
       have hnb66 := NB210_209.out
       have hnc66 := NB209_210.out
       have hnb67 := NB210_228.out
       have hnc67 := NB228_210.out
       obtain ⟨hcz68_0, hcz68_1⟩ := c2 BK210
       have hfz68_0 := blk_frozen BK210.out 0
       have hfz68_1 := blk_frozen BK210.out 1
       have hnb69 := NB228_208.out
       have hnc69 := NB208_228.out
       have hnb70 := NB228_209.out
       have hnc70 := NB209_228.out
       obtain ⟨hcz71_0, hcz71_1⟩ := c2 BK228
       have hfz71_0 := blk_frozen BK228.out 0
       have hfz71_1 := blk_frozen BK228.out 1
       try go_wp2_with (first | ((with_reducible refine gate_callee (f := 70) rfl ?_); refine goesL_ (some 49) rfl rfl Try.func70 (by kernel_rfl) rfl #[.agg #[.int .i64 t211, .slice Ao20 t212.length co20], .int .i64 (wrap64 (-a2_0)), .agg #[.int .i64 t223, .slice Ao58 t224.length co58]] rfl (by (try simp only [List.map_toArray, List.map_cons, List.map_nil]); first | done | rfl | (simp only [List.length_drop, List.length_take]; rfl)) ?_; (with_reducible refine (spec_AddScaled.calls kj4 t211 _ _ t212 (wrap64 (-a2_0)) t223 _ _ t224 t229 t230 true _ ?side1 ?side2 ?side3 ?side4 A46.out).mono ?_); (case side1 => refine (Kd.R_reads' (e := 3) (base := w.heap.size) (ok := fun k_ => (some k_ ≠ (v221 : Value).ownBlock ∧ some k_ ≠ (.slice Ao58 t224.length co58 : Value).ownBlock)) (n := t212.length) (c := co20) ?_).2.2; exact (by (with_reducible repeat (first | apply Kd.R_alloc | apply Kd.R_drewN | apply Kd.R_drew)); exact (Kd.R_mono (Kd.R_far (p := ⟨gb228, 1, none⟩) (Kd.R_far (p := ⟨gb228, 0, none⟩) (Kd.R_types HO_217001.out BK228.out (by decide)) (fun _ hk => hk.2) (.int .i64 t223)) (fun _ hk => hk.2) (.slice Ao58 t224.length co58)) (fun _ h_ => h_.1)))); (case side2 => exact (Kd.R_reads' HO_217001.out).2.1); (case side3 => refine (Kd.R_reads' (e := 3) (base := w.heap.size) (ok := fun k_ => (some k_ ≠ (v221 : Value).ownBlock ∧ some k_ ≠ (.slice Ao20 t212.length co20 : Value).ownBlock)) (n := t224.length) (c := co58) ?_).2.2; exact (by (with_reducible repeat (first | apply Kd.R_alloc | apply Kd.R_drewN | apply Kd.R_drew)); exact (Kd.R_mono (Kd.R_far (p := ⟨gb228, 1, none⟩) (Kd.R_far (p := ⟨gb228, 0, none⟩) (Kd.R_types HO226.out BK228.out (by decide)) (fun _ hk => hk.2) (.int .i64 t223)) (fun _ hk => hk.2) (.slice Ao58 t224.length co58)) (fun _ h_ => h_.1)))); (case side4 => exact (Kd.R_reads' HO226.out).2.1); rintro e w72 ⟨v231, rfl, ho0, hb⟩; refine ⟨_, rfl, ?_⟩; have n0_ := Aside0.mk (Kd.R_elder' (by (with_reducible repeat (first | apply Kd.R_alloc | apply Kd.R_drewN | apply Kd.R_drew)); exact (Kd.R_mono (Kd.R_far (p := ⟨gb228, 1, none⟩) (Kd.R_far (p := ⟨gb228, 0, none⟩) (Kd.R_types HO_217001.out BK228.out (by decide)) (fun _ hk => hk.2) (.int .i64 t223)) (fun _ hk => hk.2) (.slice Ao58 t224.length co58)) (fun _ h_ => h_.1))) (Kd.R_base ho0) hb); have n1_ := Aside0.mk (Kd.R_elder' (by (with_reducible repeat (first | apply Kd.R_alloc | apply Kd.R_drewN | apply Kd.R_drew)); exact (Kd.R_mono (Kd.R_far (p := ⟨gb228, 1, none⟩) (Kd.R_far (p := ⟨gb228, 0, none⟩) (Kd.R_types HO222.out BK228.out (by decide)) (fun _ hk => hk.2) (.int .i64 t223)) (fun _ hk => hk.2) (.slice Ao58 t224.length co58)) (fun _ h_ => h_.1))) (Kd.R_base ho0) hb); have n2_ := Aside0.mk (Kd.R_elder' (by (with_reducible repeat (first | apply Kd.R_alloc | apply Kd.R_drewN | apply Kd.R_drew)); exact (Kd.R_mono (Kd.R_far (p := ⟨gb228, 1, none⟩) (Kd.R_far (p := ⟨gb228, 0, none⟩) (Kd.R_types HO226.out BK228.out (by decide)) (fun _ hk => hk.2) (.int .i64 t223)) (fun _ hk => hk.2) (.slice Ao58 t224.length co58)) (fun _ h_ => h_.1))) (Kd.R_base ho0) hb); have n3_ := Aside0.mk (Kd.R_lower (Kd.R_new' (Kd.R_new' (Kd.R_new' ho0 (Kd.R_lt (by (with_reducible repeat (first | apply Kd.R_alloc | apply Kd.R_drewN | apply Kd.R_drew)); exact (Kd.R_mono (Kd.R_far (p := ⟨gb228, 1, none⟩) (Kd.R_far (p := ⟨gb228, 0, none⟩) (Kd.R_types HO_217001.out BK228.out (by decide)) (fun _ hk => hk.2) (.int .i64 t223)) (fun _ hk => hk.2) (.slice Ao58 t224.length co58)) (fun _ h_ => h_.1))))) (Kd.R_lt (by (with_reducible repeat (first | apply Kd.R_alloc | apply Kd.R_drewN | apply Kd.R_drew)); exact (Kd.R_mono (Kd.R_far (p := ⟨gb228, 1, none⟩) (Kd.R_far (p := ⟨gb228, 0, none⟩) (Kd.R_types HO222.out BK228.out (by decide)) (fun _ hk => hk.2) (.int .i64 t223)) (fun _ hk => hk.2) (.slice Ao58 t224.length co58)) (fun _ h_ => h_.1))))) (Kd.R_lt (by (with_reducible repeat (first | apply Kd.R_alloc | apply Kd.R_drewN | apply Kd.R_drew)); exact (Kd.R_mono (Kd.R_far (p := ⟨gb228, 1, none⟩) (Kd.R_far (p := ⟨gb228, 0, none⟩) (Kd.R_types HO226.out BK228.out (by decide)) (fun _ hk => hk.2) (.int .i64 t223)) (fun _ hk => hk.2) (.slice Ao58 t224.length co58)) (fun _ h_ => h_.1))))) (below_size (ms HB))); have n4_ := bf BK208 hb; have n5_ := bf BK209 hb; have n6_ := bf BK210 hb; have n7_ := bf BK216 hb; have n8_ := Aside0.mk (blk_below (g := gb228) (o := .cells #[.int .i64 t223, .slice Ao58 t224.length co58] 36 (0, 0)) (by (with_reducible repeat (first | refine blk_drewN ?_ _ | refine blk_drew ?_ | refine blk_alloc ?_ _)); refine blk_put (cs := #[.int .i64 t223, .slice none 0 0]) ?_ 1 _ rfl; (with_reducible repeat (first | refine blk_drewN ?_ _ | refine blk_drew ?_ | refine blk_alloc ?_ _)); refine blk_put (cs := #[.int .i64 0, .slice none 0 0]) ?_ 0 _ rfl; (with_reducible repeat (first | refine blk_drewN ?_ _ | refine blk_drew ?_ | refine blk_alloc ?_ _)); exact BK228.out) hb); have n9_ := bs HB hb; clear HO_217001 HO222 HO226 BK208 BK209 BK210 BK216 BK228 HB; have HO_217001 := n0_; have HO222 := n1_; have HO226 := n2_; have HO232 := n3_; have BK208 := n4_; have BK209 := n5_; have BK210 := n6_; have BK216 := n7_; have BK228 := n8_; have HB := n9_; clear n0_ n1_ n2_ n3_ n4_ n5_ n6_ n7_ n8_ n9_; (try clear hb); (try clear ho0)) | ((with_reducible refine gate_dst (N := 11) rfl ?_); refine box_event ?hg (N := 11) ?hd (cs := #[.int .i64 0, .slice none 0 0]) (t := 36) ?hr ?_; (case hd => rfl); (case hg => rfl); (case hr => first | (go_simp; done) | (go_simp; rfl)); intro gb234 hg w73 hbox hb; replace HO_217001 := rb HO_217001 hb; replace HO222 := rb HO222 hb; replace HO226 := rb HO226 hb; replace HO232 := rb HO232 hb; have BK234 := Aside0.mk (hbox); have GW234 := gw hg HB; have GE234 := gw hg HB; replace HB := bs HB hb; have NB208_234 := nl hg BK208; have NB234_208 := ng hg BK208; replace BK208 := bb BK208 hb; have NB209_234 := nl hg BK209; have NB234_209 := ng hg BK209; replace BK209 := bb BK209 hb; have NB210_234 := nl hg BK210; have NB234_210 := ng hg BK210; replace BK210 := bb BK210 hb; have NB216_234 := nl hg BK216; have NB234_216 := ng hg BK216; replace BK216 := bb BK216 hb; have NB228_234 := nl hg BK228; have NB234_228 := ng hg BK228; replace BK228 := bb BK228 hb; clear hb hbox hg; have hnb74 := NB234_208.out; have hnc74 := NB208_234.out; have hnb75 := NB234_209.out; have hnc75 := NB209_234.out; have hnb76 := NB234_210.out; have hnc76 := NB210_234.out; have hnb77 := NB234_216.out; have hnc77 := NB216_234.out; have hnb78 := NB234_228.out; have hnc78 := NB228_234.out; obtain ⟨hcz79_0, hcz79_1⟩ := c2 BK234; have hfz79_0 := blk_frozen BK234.out 0; have hfz79_1 := blk_frozen BK234.out 1; obtain ⟨Ao80, co80, eo80⟩ := Kd.R_slice HO232.out; subst eo80) | (go_at_call 43; (with_reducible refine (spec_IsConstant.calls kj4 t229 _ _ t230 true _ ?side1 ?side2 A49.out).mono ?_); (case side1 => refine (Kd.R_reads' (e := 3) (base := w.heap.size) (ok := fun k_ => (((True ∧ some k_ ≠ (.slice Ao20 t212.length co20 : Value).ownBlock) ∧ some k_ ≠ (v221 : Value).ownBlock) ∧ some k_ ≠ (.slice Ao58 t224.length co58 : Value).ownBlock)) (n := t230.length) (c := co80) ?_).2.2; exact (by (with_reducible repeat (first | apply Kd.R_alloc | apply Kd.R_drewN | apply Kd.R_drew)); exact (Kd.R_mono (Kd.R_far (p := ⟨gb234, 1, none⟩) (Kd.R_far (p := ⟨gb234, 0, none⟩) (Kd.R_types HO232.out BK234.out (by decide)) (fun _ hk => hk.2) (.int .i64 t229)) (fun _ hk => hk.2) (.slice Ao80 t230.length co80)) (fun _ h_ => h_.1)))); (case side2 => exact (Kd.R_reads' HO232.out).2.1); rintro e w81 ⟨rfl, hb⟩; have n0_ := Aside0.mk (Kd.R_below (by (with_reducible repeat (first | apply Kd.R_alloc | apply Kd.R_drewN | apply Kd.R_drew)); exact (Kd.R_mono (Kd.R_far (p := ⟨gb234, 1, none⟩) (Kd.R_far (p := ⟨gb234, 0, none⟩) (Kd.R_types HO_217001.out BK234.out (by decide)) (fun _ hk => hk.2) (.int .i64 t229)) (fun _ hk => hk.2) (.slice Ao80 t230.length co80)) (fun _ h_ => h_.1))) hb); have n1_ := Aside0.mk (Kd.R_below (by (with_reducible repeat (first | apply Kd.R_alloc | apply Kd.R_drewN | apply Kd.R_drew)); exact (Kd.R_mono (Kd.R_far (p := ⟨gb234, 1, none⟩) (Kd.R_far (p := ⟨gb234, 0, none⟩) (Kd.R_types HO222.out BK234.out (by decide)) (fun _ hk => hk.2) (.int .i64 t229)) (fun _ hk => hk.2) (.slice Ao80 t230.length co80)) (fun _ h_ => h_.1))) hb); have n2_ := Aside0.mk (Kd.R_below (by (with_reducible repeat (first | apply Kd.R_alloc | apply Kd.R_drewN | apply Kd.R_drew)); exact (Kd.R_mono (Kd.R_far (p := ⟨gb234, 1, none⟩) (Kd.R_far (p := ⟨gb234, 0, none⟩) (Kd.R_types HO226.out BK234.out (by decide)) (fun _ hk => hk.2) (.int .i64 t229)) (fun _ hk => hk.2) (.slice Ao80 t230.length co80)) (fun _ h_ => h_.1))) hb); have n3_ := Aside0.mk (Kd.R_below (by (with_reducible repeat (first | apply Kd.R_alloc | apply Kd.R_drewN | apply Kd.R_drew)); exact (Kd.R_mono (Kd.R_far (p := ⟨gb234, 1, none⟩) (Kd.R_far (p := ⟨gb234, 0, none⟩) (Kd.R_types HO232.out BK234.out (by decide)) (fun _ hk => hk.2) (.int .i64 t229)) (fun _ hk => hk.2) (.slice Ao80 t230.length co80)) (fun _ h_ => h_.1))) hb); have n4_ := bf BK208 hb; have n5_ := bf BK209 hb; have n6_ := bf BK210 hb; have n7_ := bf BK216 hb; have n8_ := bf BK228 hb; have n9_ := Aside0.mk (blk_below (g := gb234) (o := .cells #[.int .i64 t229, .slice Ao80 t230.length co80] 36 (0, 0)) (by (with_reducible repeat (first | refine blk_drewN ?_ _ | refine blk_drew ?_ | refine blk_alloc ?_ _)); refine blk_put (cs := #[.int .i64 t229, .slice none 0 0]) ?_ 1 _ rfl; (with_reducible repeat (first | refine blk_drewN ?_ _ | refine blk_drew ?_ | refine blk_alloc ?_ _)); refine blk_put (cs := #[.int .i64 0, .slice none 0 0]) ?_ 0 _ rfl; (with_reducible repeat (first | refine blk_drewN ?_ _ | refine blk_drew ?_ | refine blk_alloc ?_ _)); exact BK234.out) hb); have n10_ := bs HB hb; clear HO_217001 HO222 HO226 HO232 BK208 BK209 BK210 BK216 BK228 BK234 HB; have HO_217001 := n0_; have HO222 := n1_; have HO226 := n2_; have HO232 := n3_; have BK208 := n4_; have BK209 := n5_; have BK210 := n6_; have BK216 := n7_; have BK228 := n8_; have BK234 := n9_; have HB := n10_; clear n0_ n1_ n2_ n3_ n4_ n5_ n6_ n7_ n8_ n9_ n10_; (try clear hb); obtain ⟨hcz82_0, hcz82_1⟩ := c2 BK234; have hfz82_0 := blk_frozen BK234.out 0; have hfz82_1 := blk_frozen BK234.out 1))
       go_ret
       exact ⟨by first | rfl | (simp [errW_none, errW_some] <;> rfl) | (simp [*, errW_none, errW_some] <;> rfl), ms HB⟩
      ·replace c50 := Bool.eq_false_iff.mpr c50
       subst c50
       have H1 : (some false) = some r := by rw [if_neg (show ¬ (false = true) by decide)] at H; exact H
       clear H
       have H := H1
       clear H1
       obtain rfl := Option.some.inj H
       try go_wp2
       replace HO_217001 := Aside0.mk (Kd.R_drew HO_217001.out)
       replace BK208 := Aside0.mk (blk_drew BK208.out)
       replace BK209 := Aside0.mk (blk_drew BK209.out)
       replace BK210 := Aside0.mk (blk_drew BK210.out)
       replace BK216 := Aside0.mk (blk_drew BK216.out)
       replace HB := Aside0.mk (below_drew1 HB.out)
       refine start_ (n := 11) (S := fun w' => w'.cell? ⟨gb209, 0, none⟩ = some (.int .i64 a1_0) ∧ w'.cell? ⟨gb209, 1, none⟩ = some (.slice A1_1 l1_1.length c1_1) ∧ w'.cell? ⟨gb208, 0, none⟩ = some (.int .i64 a0_0) ∧ w'.cell? ⟨gb208, 1, none⟩ = some (.slice A0_1 l0_1.length c0_1)) (ds := []) #[false, false, false, false, false, false, false, false, false, false, false] (by kernel_rfl) rfl rfl ⟨(c2 BK209).1, (c2 BK209).2, (c2 BK208).1, (c2 BK208).2⟩ (fun hHeld => ?_); refine with_tabW spec_CheckFarkas.tab4 spec_CheckFarkas.bits4 (fun HT_ HW_ => ?_)
       generalize wc.drew = w83 at HO_217001 BK208 BK209 BK210 BK216 HB hHeld ⊢
       refine pure_ (i := 1) (N := some 37) (v := ?_) (a' := ?_) #[false, true, false, false, false, false, false, false, false, false, false] rfl rfl (any_of HT_.out (by kernel_rfl)) (fun _ _ _ h => h) (Or.inl ⟨by rfl, ?_⟩) ?_ ?_
       rotate_left
       ·intro w'
        go_simp
        with_reducible rfl
       rotate_left
       ·simp only [Act.put, List.setIfInBounds_toArray, List.set_cons_zero, List.set_cons_succ, i64_w, i32_w]
        rfl
       refine take_ (i := 0) (N := some 36) (v := ?_) (a' := ?_) #[true, true, false, false, false, false, false, false, false, false, false] rfl rfl (take_ofW HT_.out HW_.out (by kernel_rfl)) (fun _ _ _ h => h) (Or.inl ⟨by rfl, ?_⟩) hHeld ?_ ?_
       rotate_left
       ·rintro w' ⟨s0, s1, s2, s3⟩
        go_simp
        with_reducible rfl
       rotate_left
       ·simp only [Act.put, List.setIfInBounds_toArray, List.set_cons_zero, List.set_cons_succ, i64_w, i32_w]
        rfl
       refine take_ (i := 2) (N := some 38) (v := ?_) (a' := ?_) #[true, true, true, false, false, false, false, false, false, false, false] rfl rfl (take_ofW HT_.out HW_.out (by kernel_rfl)) (fun _ _ _ h => h) (Or.inl ⟨by rfl, ?_⟩) hHeld ?_ ?_
       rotate_left
       ·rintro w' ⟨s0, s1, s2, s3⟩
        go_simp
        with_reducible rfl
       rotate_left
       ·simp only [Act.put, List.setIfInBounds_toArray, List.set_cons_zero, List.set_cons_succ, i64_w, i32_w]
        rfl
       refine join_ (σ := Value × Value × Nat) 2 #[true, true, true, true, true, true, true, true, true, false, false] (fun s_ => [(39, .agg #[.int .i64 t219, s_.1]), (40, .tuple #[.agg #[.int .i64 t223, s_.2.1], .bool true]), (9, .pointer (some ⟨s_.2.2, 0, none⟩)), (35, .tuple #[.agg #[.int .i64 t223, s_.2.1], .bool true]), (41, .agg #[.int .i64 t223, s_.2.1]), (42, .bool true)]) (fun s_ w' => (w'.cell? ⟨gb209, 0, none⟩ = some (.int .i64 a1_0) ∧ w'.cell? ⟨gb209, 1, none⟩ = some (.slice A1_1 l1_1.length c1_1) ∧ w'.cell? ⟨gb208, 0, none⟩ = some (.int .i64 a0_0) ∧ w'.cell? ⟨gb208, 1, none⟩ = some (.slice A0_1 l0_1.length c0_1)) ∧ (Kd.R (Kd.int .i64) 3 w' w.heap.size (fun k_ => some k_ ≠ (s_.2.1 : Value).ownBlock ∧ some k_ ≠ (.slice Ao20 t212.length co20 : Value).ownBlock) s_.1 t220) ∧ (Kd.R (Kd.int .i64) 3 w' w.heap.size (fun k_ => some k_ ≠ (s_.1 : Value).ownBlock ∧ some k_ ≠ (.slice Ao20 t212.length co20 : Value).ownBlock) s_.2.1 t224) ∧ (Kd.R (Kd.int .i64) 3 w' w.heap.size (fun k_ => some k_ ≠ (s_.1 : Value).ownBlock ∧ some k_ ≠ (s_.2.1 : Value).ownBlock) (.slice Ao20 t212.length co20) t212) ∧ (w'.heap[gb208]? = some (.cells #[.int .i64 a0_0, .slice A0_1 l0_1.length c0_1] 32 (0, 0))) ∧ (w'.heap[gb209]? = some (.cells #[.int .i64 a1_0, .slice A1_1 l1_1.length c1_1] 36 (0, 0))) ∧ (w'.heap[gb210]? = some (.cells #[.int .i64 a2_0, .slice A2_1 l2_1.length c2_1] 65 (0, 0))) ∧ (w'.heap[gb216]? = some (.cells #[.int .i64 t211, .slice Ao20 t212.length co20] 36 (0, 0))) ∧ (w'.heap[s_.2.2]? = some (.cells #[.int .i64 0, .slice none 0 0] 36 (0, 0))) ∧ (w.heap.size ≤ s_.2.2) ∧ (w.heap.size ≤ s_.2.2) ∧ (gb208 ≠ s_.2.2) ∧ (s_.2.2 ≠ gb208) ∧ (gb209 ≠ s_.2.2) ∧ (s_.2.2 ≠ gb209) ∧ (gb210 ≠ s_.2.2) ∧ (s_.2.2 ≠ gb210) ∧ (gb216 ≠ s_.2.2) ∧ (s_.2.2 ≠ gb216) ∧ (Below w.heap.size w w')) ?_ ?_
       rotate_left
       ·intro hCont
        refine two_ (i := 3) (j := 8) (Ni := some 39) (Nj := some 9) #[true, true, true, true, false, false, false, false, false, false, false] #[true, true, true, false, false, false, false, false, true, false, false] rfl rfl rfl rfl (two_of HT_.out (by kernel_rfl)) (by decide) (by decide) (fun K hK => ?_) (fun K hK => ?_)
        ·skip
         refine goes_ Try.func69 (by kernel_rfl) rfl #[.int .i64 1, .int .i64 a0_0] (by rfl) rfl rfl (by (try simp only [List.map_toArray, List.map_cons, List.map_nil]); first | done | rfl | (simp only [List.length_drop, List.length_take]; rfl)) ?_
         with_reducible refine (spec_ConstLin.calls 1 a0_0 t219 t220 _ A44.out).mono ?_
         rintro e w84 ⟨v221, rfl, ho0, hb⟩
         refine ⟨_, rfl, ?_⟩
         have HO222 := Aside0.mk (Kd.R_lower (Kd.R_new' ho0 (Kd.R_lt (mr HO_217001))) (below_size (ms HB)))
         replace HO_217001 := rl HO_217001 ho0 hb
         replace BK208 := bb BK208 hb
         replace BK209 := bb BK209 hb
         replace BK210 := bb BK210 hb
         replace BK216 := bb BK216 hb
         replace HB := bs HB hb
         (try clear hb)
         (try clear hb2)
         (try clear hk)
         (try clear hi)
         (try clear ho0)
         obtain ⟨Ao85, co85, eo85⟩ := Kd.R_slice HO222.out
         (first | subst eo85 | (injection eo85 with f1_ f2_ f3_; have f4_ := f1_.symm; have f5_ := f3_.symm; clear f1_ f2_ f3_; subst f4_; subst f5_))
         refine hK.out _ _ ⟨(c2 BK209).1, (c2 BK209).2, (c2 BK208).1, (c2 BK208).2⟩ (fun hHeld => ?_)
         clear hK K
         refine norm_ (a' := ?_) ?_ ?_
         rotate_left
         ·show Act.put _ (some 39) _ = _
          simp only [Act.put, List.setIfInBounds_toArray, List.set_cons_zero, List.set_cons_succ, i64_w, i32_w]
          rfl
         refine two_ (i := 4) (j := 8) (Ni := some 40) (Nj := some 9) #[true, true, true, true, true, false, false, false, false, false, false] #[true, true, true, true, false, false, false, false, true, false, false] rfl rfl rfl rfl (two_of HT_.out (by kernel_rfl)) (by decide) (by decide) (fun K hK => ?_) (fun K hK => ?_)
         ·skip
          refine goes_ Try.func70 (by kernel_rfl) rfl #[.agg #[.int .i64 a1_0, .slice A1_1 l1_1.length c1_1], .int .i64 1, .agg #[.int .i64 t219, .slice Ao85 t220.length co85]] (by rfl) rfl rfl (by (try simp only [List.map_toArray, List.map_cons, List.map_nil]); first | done | rfl | (simp only [List.length_drop, List.length_take]; rfl)) ?_
          with_reducible refine (spec_AddScaled.calls kj4 a1_0 _ _ l1_1 1 t219 _ _ t220 t223 t224 true _ ?side1 ?side2 ?side3 ?side4 A45.out).mono ?_
          (case side1 => exact mc ((Kd.C_below HR1_1.out HB.out)))
          (case side2 => exact HC1_1.out)
          (case side3 => exact mc ((Kd.R_reads' HO222.out).2.2))
          (case side4 => exact (Kd.R_reads' HO222.out).2.1)
          rintro e w86 ⟨v225, rfl, ho0, hb⟩
          refine ⟨_, rfl, ?_⟩
          have HO226 := Aside0.mk (Kd.R_lower (Kd.R_new' (Kd.R_new' ho0 (Kd.R_lt (mr HO_217001))) (Kd.R_lt (mr HO222))) (below_size (ms HB)))
          replace HO_217001 := rl HO_217001 ho0 hb
          replace HO222 := rl HO222 ho0 hb
          replace BK208 := bb BK208 hb
          replace BK209 := bb BK209 hb
          replace BK210 := bb BK210 hb
          replace BK216 := bb BK216 hb
          replace HB := bs HB hb
          (try clear hb)
          (try clear hb2)
          (try clear hk)
          (try clear hi)
          (try clear ho0)
          refine hK.out _ _ ⟨(c2 BK209).1, (c2 BK209).2, (c2 BK208).1, (c2 BK208).2⟩ (fun hHeld => ?_)
          clear hK K
          refine norm_ (a' := ?_) ?_ ?_
          rotate_left
          ·show Act.put _ (some 40) _ = _
           simp only [Act.put, List.setIfInBounds_toArray, List.set_cons_zero, List.set_cons_succ, i64_w, i32_w]
           rfl
          refine pure_ (i := 5) (N := some 35) (v := ?_) (a' := ?_) #[true, true, true, true, true, true, false, false, false, false, false] rfl rfl (any_of HT_.out (by kernel_rfl)) (fun _ _ _ h => h) (Or.inl ⟨by rfl, ?_⟩) ?_ ?_
          rotate_left
          ·intro w'
           go_simp
           with_reducible rfl
          rotate_left
          ·simp only [Act.put, List.setIfInBounds_toArray, List.set_cons_zero, List.set_cons_succ, i64_w, i32_w]
           rfl
          refine pure_ (i := 6) (N := some 41) (v := ?_) (a' := ?_) #[true, true, true, true, true, true, true, false, false, false, false] rfl rfl (any_of HT_.out (by kernel_rfl)) (fun _ _ _ h => h) (Or.inl ⟨by rfl, ?_⟩) ?_ ?_
          rotate_left
          ·intro w'
           go_simp
           with_reducible rfl
          rotate_left
          ·simp only [Act.put, List.setIfInBounds_toArray, List.set_cons_zero, List.set_cons_succ, i64_w, i32_w]
           rfl
          refine pure_ (i := 7) (N := some 42) (v := ?_) (a' := ?_) #[true, true, true, true, true, true, true, true, false, false, false] rfl rfl (any_of HT_.out (by kernel_rfl)) (fun _ _ _ h => h) (Or.inl ⟨by rfl, ?_⟩) ?_ ?_
          rotate_left
          ·intro w'
           go_simp
           with_reducible rfl
          rotate_left
          ·simp only [Act.put, List.setIfInBounds_toArray, List.set_cons_zero, List.set_cons_succ, i64_w, i32_w]
           rfl
          refine one_ (i := 8) (N := some 9) #[true, true, true, true, true, true, true, true, true, false, false] rfl rfl (one_of HT_.out (by kernel_rfl)) (by decide) (fun K hK => ?_)
          refine box_step ?hg (N := 9) ?hd (cs := #[.int .i64 0, .slice none 0 0]) (t := 36) ?hr ?_; (case hd => rfl); (case hg => rfl); (case hr => first | (go_simp; done) | (go_simp; rfl))
          intro gb228 hg w87 hbox hb
          replace HO_217001 := rb HO_217001 hb
          replace HO222 := rb HO222 hb
          replace HO226 := rb HO226 hb
          have BK228 := Aside0.mk (hbox)
          have GW228 := gw hg HB
          have GE228 := gw hg HB
          replace HB := bs HB hb
          have NB208_228 := nl hg BK208
          have NB228_208 := ng hg BK208
          replace BK208 := bb BK208 hb
          have NB209_228 := nl hg BK209
          have NB228_209 := ng hg BK209
          replace BK209 := bb BK209 hb
          have NB210_228 := nl hg BK210
          have NB228_210 := ng hg BK210
          replace BK210 := bb BK210 hb
          have NB216_228 := nl hg BK216
          have NB228_216 := ng hg BK216
          replace BK216 := bb BK216 hb
          clear hb hbox hg
          refine hK.out _ _ ⟨(c2 BK209).1, (c2 BK209).2, (c2 BK208).1, (c2 BK208).2⟩ (fun hHeld => ?_)
          clear hK K
          refine norm_ (a' := ?_) ?_ ?_
          rotate_left
          ·show Act.put _ (some 9) _ = _
           simp only [Act.put, List.setIfInBounds_toArray, List.set_cons_zero, List.set_cons_succ, i64_w, i32_w]
           rfl
          exact norm_ (by simp only [putAll, Act.put, List.setIfInBounds_toArray, List.set_cons_zero, List.set_cons_succ]) (hCont (.slice Ao85 t220.length co85, v225, gb228) _ ⟨hHeld, (by (with_reducible repeat (first | apply Kd.R_alloc | apply Kd.R_drewN | apply Kd.R_drew)); exact Kd.R_mono HO222.out (fun _ hk => ⟨hk.2, hk.1.2⟩)), (by (with_reducible repeat (first | apply Kd.R_alloc | apply Kd.R_drewN | apply Kd.R_drew)); exact Kd.R_mono HO226.out (fun _ hk => ⟨hk.2, hk.1.2⟩)), (by (with_reducible repeat (first | apply Kd.R_alloc | apply Kd.R_drewN | apply Kd.R_drew)); exact Kd.R_mono HO_217001.out (fun _ hk => ⟨hk.1.2, hk.2⟩)), (mb BK208), (mb BK209), (mb BK210), (mb BK216), (mb BK228), GW228.out, GE228.out, NB208_228.out, NB228_208.out, NB209_228.out, NB228_209.out, NB210_228.out, NB228_210.out, NB216_228.out, NB228_216.out, (ms HB)⟩)
         ·skip
          refine box_step ?hg (N := 9) ?hd (cs := #[.int .i64 0, .slice none 0 0]) (t := 36) ?hr ?_; (case hd => rfl); (case hg => rfl); (case hr => first | (go_simp; done) | (go_simp; rfl))
          intro gb228 hg w85 hbox hb
          replace HO_217001 := rb HO_217001 hb
          replace HO222 := rb HO222 hb
          have BK228 := Aside0.mk (hbox)
          have GW228 := gw hg HB
          have GE228 := gw hg HB
          replace HB := bs HB hb
          have NB208_228 := nl hg BK208
          have NB228_208 := ng hg BK208
          replace BK208 := bb BK208 hb
          have NB209_228 := nl hg BK209
          have NB228_209 := ng hg BK209
          replace BK209 := bb BK209 hb
          have NB210_228 := nl hg BK210
          have NB228_210 := ng hg BK210
          replace BK210 := bb BK210 hb
          have NB216_228 := nl hg BK216
          have NB228_216 := ng hg BK216
          replace BK216 := bb BK216 hb
          clear hb hbox hg
          obtain ⟨Ao86, co86, eo86⟩ := Kd.R_slice HO222.out
          (first | subst eo86 | (injection eo86 with f1_ f2_ f3_; have f4_ := f1_.symm; have f5_ := f3_.symm; clear f1_ f2_ f3_; subst f4_; subst f5_))
          refine hK.out _ _ ⟨(c2 BK209).1, (c2 BK209).2, (c2 BK208).1, (c2 BK208).2⟩ (fun hHeld => ?_)
          clear hK K
          refine norm_ (a' := ?_) ?_ ?_
          rotate_left
          ·show Act.put _ (some 9) _ = _
           simp only [Act.put, List.setIfInBounds_toArray, List.set_cons_zero, List.set_cons_succ, i64_w, i32_w]
           rfl
          refine one_ (i := 4) (N := some 40) #[true, true, true, true, true, false, false, false, true, false, false] rfl rfl (one_of HT_.out (by kernel_rfl)) (by decide) (fun K hK => ?_)
          refine goes_ Try.func70 (by kernel_rfl) rfl #[.agg #[.int .i64 a1_0, .slice A1_1 l1_1.length c1_1], .int .i64 1, .agg #[.int .i64 t219, .slice Ao86 t220.length co86]] (by rfl) rfl rfl (by (try simp only [List.map_toArray, List.map_cons, List.map_nil]); first | done | rfl | (simp only [List.length_drop, List.length_take]; rfl)) ?_
          with_reducible refine (spec_AddScaled.calls kj4 a1_0 _ _ l1_1 1 t219 _ _ t220 t223 t224 true _ ?side1 ?side2 ?side3 ?side4 A45.out).mono ?_
          (case side1 => exact mc ((Kd.C_below HR1_1.out HB.out)))
          (case side2 => exact HC1_1.out)
          (case side3 => exact mc ((Kd.R_reads' HO222.out).2.2))
          (case side4 => exact (Kd.R_reads' HO222.out).2.1)
          rintro e w87 ⟨v225, rfl, ho0, hb⟩
          refine ⟨_, rfl, ?_⟩
          have HO226 := Aside0.mk (Kd.R_lower (Kd.R_new' (Kd.R_new' ho0 (Kd.R_lt (mr HO_217001))) (Kd.R_lt (mr HO222))) (below_size (ms HB)))
          replace HO_217001 := rl HO_217001 ho0 hb
          replace HO222 := rl HO222 ho0 hb
          replace BK208 := bb BK208 hb
          replace BK209 := bb BK209 hb
          replace BK210 := bb BK210 hb
          replace BK216 := bb BK216 hb
          replace BK228 := bb BK228 hb
          replace HB := bs HB hb
          (try clear hb)
          (try clear hb2)
          (try clear hk)
          (try clear hi)
          (try clear ho0)
          refine hK.out _ _ ⟨(c2 BK209).1, (c2 BK209).2, (c2 BK208).1, (c2 BK208).2⟩ (fun hHeld => ?_)
          clear hK K
          refine norm_ (a' := ?_) ?_ ?_
          rotate_left
          ·show Act.put _ (some 40) _ = _
           simp only [Act.put, List.setIfInBounds_toArray, List.set_cons_zero, List.set_cons_succ, i64_w, i32_w]
           rfl
          refine pure_ (i := 5) (N := some 35) (v := ?_) (a' := ?_) #[true, true, true, true, true, true, false, false, true, false, false] rfl rfl (any_of HT_.out (by kernel_rfl)) (fun _ _ _ h => h) (Or.inl ⟨by rfl, ?_⟩) ?_ ?_
          rotate_left
          ·intro w'
           go_simp
           with_reducible rfl
          rotate_left
          ·simp only [Act.put, List.setIfInBounds_toArray, List.set_cons_zero, List.set_cons_succ, i64_w, i32_w]
           rfl
          refine pure_ (i := 6) (N := some 41) (v := ?_) (a' := ?_) #[true, true, true, true, true, true, true, false, true, false, false] rfl rfl (any_of HT_.out (by kernel_rfl)) (fun _ _ _ h => h) (Or.inl ⟨by rfl, ?_⟩) ?_ ?_
          rotate_left
          ·intro w'
           go_simp
           with_reducible rfl
          rotate_left
          ·simp only [Act.put, List.setIfInBounds_toArray, List.set_cons_zero, List.set_cons_succ, i64_w, i32_w]
           rfl
          refine pure_ (i := 7) (N := some 42) (v := ?_) (a' := ?_) #[true, true, true, true, true, true, true, true, true, false, false] rfl rfl (any_of HT_.out (by kernel_rfl)) (fun _ _ _ h => h) (Or.inl ⟨by rfl, ?_⟩) ?_ ?_
          rotate_left
          ·intro w'
           go_simp
           with_reducible rfl
          rotate_left
          ·simp only [Act.put, List.setIfInBounds_toArray, List.set_cons_zero, List.set_cons_succ, i64_w, i32_w]
           rfl
          exact norm_ (by simp only [putAll, Act.put, List.setIfInBounds_toArray, List.set_cons_zero, List.set_cons_succ]) (hCont (.slice Ao86 t220.length co86, v225, gb228) _ ⟨hHeld, (by (with_reducible repeat (first | apply Kd.R_alloc | apply Kd.R_drewN | apply Kd.R_drew)); exact Kd.R_mono HO222.out (fun _ hk => ⟨hk.2, hk.1.2⟩)), (by (with_reducible repeat (first | apply Kd.R_alloc | apply Kd.R_drewN | apply Kd.R_drew)); exact Kd.R_mono HO226.out (fun _ hk => ⟨hk.2, hk.1.2⟩)), (by (with_reducible repeat (first | apply Kd.R_alloc | apply Kd.R_drewN | apply Kd.R_drew)); exact Kd.R_mono HO_217001.out (fun _ hk => ⟨hk.1.2, hk.2⟩)), (mb BK208), (mb BK209), (mb BK210), (mb BK216), (mb BK228), GW228.out, GE228.out, NB208_228.out, NB228_208.out, NB209_228.out, NB228_209.out, NB210_228.out, NB228_210.out, NB216_228.out, NB228_216.out, (ms HB)⟩)
        ·skip
         refine box_step ?hg (N := 9) ?hd (cs := #[.int .i64 0, .slice none 0 0]) (t := 36) ?hr ?_; (case hd => rfl); (case hg => rfl); (case hr => first | (go_simp; done) | (go_simp; rfl))
         intro gb228 hg w84 hbox hb
         replace HO_217001 := rb HO_217001 hb
         have BK228 := Aside0.mk (hbox)
         have GW228 := gw hg HB
         have GE228 := gw hg HB
         replace HB := bs HB hb
         have NB208_228 := nl hg BK208
         have NB228_208 := ng hg BK208
         replace BK208 := bb BK208 hb
         have NB209_228 := nl hg BK209
         have NB228_209 := ng hg BK209
         replace BK209 := bb BK209 hb
         have NB210_228 := nl hg BK210
         have NB228_210 := ng hg BK210
         replace BK210 := bb BK210 hb
         have NB216_228 := nl hg BK216
         have NB228_216 := ng hg BK216
         replace BK216 := bb BK216 hb
         clear hb hbox hg
         refine hK.out _ _ ⟨(c2 BK209).1, (c2 BK209).2, (c2 BK208).1, (c2 BK208).2⟩ (fun hHeld => ?_)
         clear hK K
         refine norm_ (a' := ?_) ?_ ?_
         rotate_left
         ·show Act.put _ (some 9) _ = _
          simp only [Act.put, List.setIfInBounds_toArray, List.set_cons_zero, List.set_cons_succ, i64_w, i32_w]
          rfl
         refine one_ (i := 3) (N := some 39) #[true, true, true, true, false, false, false, false, true, false, false] rfl rfl (one_of HT_.out (by kernel_rfl)) (by decide) (fun K hK => ?_)
         refine goes_ Try.func69 (by kernel_rfl) rfl #[.int .i64 1, .int .i64 a0_0] (by rfl) rfl rfl (by (try simp only [List.map_toArray, List.map_cons, List.map_nil]); first | done | rfl | (simp only [List.length_drop, List.length_take]; rfl)) ?_
         with_reducible refine (spec_ConstLin.calls 1 a0_0 t219 t220 _ A44.out).mono ?_
         rintro e w85 ⟨v221, rfl, ho0, hb⟩
         refine ⟨_, rfl, ?_⟩
         have HO222 := Aside0.mk (Kd.R_lower (Kd.R_new' ho0 (Kd.R_lt (mr HO_217001))) (below_size (ms HB)))
         replace HO_217001 := rl HO_217001 ho0 hb
         replace BK208 := bb BK208 hb
         replace BK209 := bb BK209 hb
         replace BK210 := bb BK210 hb
         replace BK216 := bb BK216 hb
         replace BK228 := bb BK228 hb
         replace HB := bs HB hb
         (try clear hb)
         (try clear hb2)
         (try clear hk)
         (try clear hi)
         (try clear ho0)
         obtain ⟨Ao86, co86, eo86⟩ := Kd.R_slice HO222.out
         (first | subst eo86 | (injection eo86 with f1_ f2_ f3_; have f4_ := f1_.symm; have f5_ := f3_.symm; clear f1_ f2_ f3_; subst f4_; subst f5_))
         refine hK.out _ _ ⟨(c2 BK209).1, (c2 BK209).2, (c2 BK208).1, (c2 BK208).2⟩ (fun hHeld => ?_)
         clear hK K
         refine norm_ (a' := ?_) ?_ ?_
         rotate_left
         ·show Act.put _ (some 39) _ = _
          simp only [Act.put, List.setIfInBounds_toArray, List.set_cons_zero, List.set_cons_succ, i64_w, i32_w]
          rfl
         refine one_ (i := 4) (N := some 40) #[true, true, true, true, true, false, false, false, true, false, false] rfl rfl (one_of HT_.out (by kernel_rfl)) (by decide) (fun K hK => ?_)
         refine goes_ Try.func70 (by kernel_rfl) rfl #[.agg #[.int .i64 a1_0, .slice A1_1 l1_1.length c1_1], .int .i64 1, .agg #[.int .i64 t219, .slice Ao86 t220.length co86]] (by rfl) rfl rfl (by (try simp only [List.map_toArray, List.map_cons, List.map_nil]); first | done | rfl | (simp only [List.length_drop, List.length_take]; rfl)) ?_
         with_reducible refine (spec_AddScaled.calls kj4 a1_0 _ _ l1_1 1 t219 _ _ t220 t223 t224 true _ ?side1 ?side2 ?side3 ?side4 A45.out).mono ?_
         (case side1 => exact mc ((Kd.C_below HR1_1.out HB.out)))
         (case side2 => exact HC1_1.out)
         (case side3 => exact mc ((Kd.R_reads' HO222.out).2.2))
         (case side4 => exact (Kd.R_reads' HO222.out).2.1)
         rintro e w87 ⟨v225, rfl, ho0, hb⟩
         refine ⟨_, rfl, ?_⟩
         have HO226 := Aside0.mk (Kd.R_lower (Kd.R_new' (Kd.R_new' ho0 (Kd.R_lt (mr HO_217001))) (Kd.R_lt (mr HO222))) (below_size (ms HB)))
         replace HO_217001 := rl HO_217001 ho0 hb
         replace HO222 := rl HO222 ho0 hb
         replace BK208 := bb BK208 hb
         replace BK209 := bb BK209 hb
         replace BK210 := bb BK210 hb
         replace BK216 := bb BK216 hb
         replace BK228 := bb BK228 hb
         replace HB := bs HB hb
         (try clear hb)
         (try clear hb2)
         (try clear hk)
         (try clear hi)
         (try clear ho0)
         refine hK.out _ _ ⟨(c2 BK209).1, (c2 BK209).2, (c2 BK208).1, (c2 BK208).2⟩ (fun hHeld => ?_)
         clear hK K
         refine norm_ (a' := ?_) ?_ ?_
         rotate_left
         ·show Act.put _ (some 40) _ = _
          simp only [Act.put, List.setIfInBounds_toArray, List.set_cons_zero, List.set_cons_succ, i64_w, i32_w]
          rfl
         refine pure_ (i := 5) (N := some 35) (v := ?_) (a' := ?_) #[true, true, true, true, true, true, false, false, true, false, false] rfl rfl (any_of HT_.out (by kernel_rfl)) (fun _ _ _ h => h) (Or.inl ⟨by rfl, ?_⟩) ?_ ?_
         rotate_left
         ·intro w'
          go_simp
          with_reducible rfl
         rotate_left
         ·simp only [Act.put, List.setIfInBounds_toArray, List.set_cons_zero, List.set_cons_succ, i64_w, i32_w]
          rfl
         refine pure_ (i := 6) (N := some 41) (v := ?_) (a' := ?_) #[true, true, true, true, true, true, true, false, true, false, false] rfl rfl (any_of HT_.out (by kernel_rfl)) (fun _ _ _ h => h) (Or.inl ⟨by rfl, ?_⟩) ?_ ?_
         rotate_left
         ·intro w'
          go_simp
          with_reducible rfl
         rotate_left
         ·simp only [Act.put, List.setIfInBounds_toArray, List.set_cons_zero, List.set_cons_succ, i64_w, i32_w]
          rfl
         refine pure_ (i := 7) (N := some 42) (v := ?_) (a' := ?_) #[true, true, true, true, true, true, true, true, true, false, false] rfl rfl (any_of HT_.out (by kernel_rfl)) (fun _ _ _ h => h) (Or.inl ⟨by rfl, ?_⟩) ?_ ?_
         rotate_left
         ·intro w'
          go_simp
          with_reducible rfl
         rotate_left
         ·simp only [Act.put, List.setIfInBounds_toArray, List.set_cons_zero, List.set_cons_succ, i64_w, i32_w]
          rfl
         exact norm_ (by simp only [putAll, Act.put, List.setIfInBounds_toArray, List.set_cons_zero, List.set_cons_succ]) (hCont (.slice Ao86 t220.length co86, v225, gb228) _ ⟨hHeld, (by (with_reducible repeat (first | apply Kd.R_alloc | apply Kd.R_drewN | apply Kd.R_drew)); exact Kd.R_mono HO222.out (fun _ hk => ⟨hk.2, hk.1.2⟩)), (by (with_reducible repeat (first | apply Kd.R_alloc | apply Kd.R_drewN | apply Kd.R_drew)); exact Kd.R_mono HO226.out (fun _ hk => ⟨hk.2, hk.1.2⟩)), (by (with_reducible repeat (first | apply Kd.R_alloc | apply Kd.R_drewN | apply Kd.R_drew)); exact Kd.R_mono HO_217001.out (fun _ hk => ⟨hk.1.2, hk.2⟩)), (mb BK208), (mb BK209), (mb BK210), (mb BK216), (mb BK228), GW228.out, GE228.out, NB208_228.out, NB228_208.out, NB209_228.out, NB228_209.out, NB210_228.out, NB228_210.out, NB216_228.out, NB228_216.out, (ms HB)⟩)
       rintro ⟨v221, v225, gb228⟩ w88 ⟨hS_, h0_, h1_, h2_, h3_, h4_, h5_, h6_, h7_, h8_, h9_, h10_, h11_, h12_, h13_, h14_, h15_, h16_, h17_, h18_⟩
       have n0_ : Aside0 (Kd.R (Kd.int .i64) 3 w88 w.heap.size (fun k_ => some k_ ≠ (v225 : Value).ownBlock ∧ some k_ ≠ (.slice Ao20 t212.length co20 : Value).ownBlock) v221 t220) := ⟨h0_⟩
       have n1_ : Aside0 (Kd.R (Kd.int .i64) 3 w88 w.heap.size (fun k_ => some k_ ≠ (v221 : Value).ownBlock ∧ some k_ ≠ (.slice Ao20 t212.length co20 : Value).ownBlock) v225 t224) := ⟨h1_⟩
       have n2_ : Aside0 (Kd.R (Kd.int .i64) 3 w88 w.heap.size (fun k_ => some k_ ≠ (v221 : Value).ownBlock ∧ some k_ ≠ (v225 : Value).ownBlock) (.slice Ao20 t212.length co20) t212) := ⟨h2_⟩
       have n3_ : Aside0 (w88.heap[gb208]? = some (.cells #[.int .i64 a0_0, .slice A0_1 l0_1.length c0_1] 32 (0, 0))) := ⟨h3_⟩
       have n4_ : Aside0 (w88.heap[gb209]? = some (.cells #[.int .i64 a1_0, .slice A1_1 l1_1.length c1_1] 36 (0, 0))) := ⟨h4_⟩
       have n5_ : Aside0 (w88.heap[gb210]? = some (.cells #[.int .i64 a2_0, .slice A2_1 l2_1.length c2_1] 65 (0, 0))) := ⟨h5_⟩
       have n6_ : Aside0 (w88.heap[gb216]? = some (.cells #[.int .i64 t211, .slice Ao20 t212.length co20] 36 (0, 0))) := ⟨h6_⟩
       have n7_ : Aside0 (w88.heap[gb228]? = some (.cells #[.int .i64 0, .slice none 0 0] 36 (0, 0))) := ⟨h7_⟩
       have n8_ : Aside0 (w.heap.size ≤ gb228) := ⟨h8_⟩
       have n9_ : Aside0 (w.heap.size ≤ gb228) := ⟨h9_⟩
       have n10_ : Aside0 (gb208 ≠ gb228) := ⟨h10_⟩
       have n11_ : Aside0 (gb228 ≠ gb208) := ⟨h11_⟩
       have n12_ : Aside0 (gb209 ≠ gb228) := ⟨h12_⟩
       have n13_ : Aside0 (gb228 ≠ gb209) := ⟨h13_⟩
       have n14_ : Aside0 (gb210 ≠ gb228) := ⟨h14_⟩
       have n15_ : Aside0 (gb228 ≠ gb210) := ⟨h15_⟩
       have n16_ : Aside0 (gb216 ≠ gb228) := ⟨h16_⟩
       have n17_ : Aside0 (gb228 ≠ gb216) := ⟨h17_⟩
       have n18_ : Aside0 (Below w.heap.size w w88) := ⟨h18_⟩
       clear HO_217001
       clear BK208
       clear BK209
       clear BK210
       clear BK216
       clear HB
       clear h0_ h1_ h2_ h3_ h4_ h5_ h6_ h7_ h8_ h9_ h10_ h11_ h12_ h13_ h14_ h15_ h16_ h17_ h18_
       have HO222 := n0_
       have HO226 := n1_
       have HO_217001 := n2_
       have BK208 := n3_
       have BK209 := n4_
       have BK210 := n5_
       have BK216 := n6_
       have BK228 := n7_
       have GW228 := n8_
       have GE228 := n9_
       have NB208_228 := n10_
       have NB228_208 := n11_
       have NB209_228 := n12_
       have NB228_209 := n13_
       have NB210_228 := n14_
       have NB228_210 := n15_
       have NB216_228 := n16_
       have NB228_216 := n17_
       have HB := n18_
       clear n0_ n1_ n2_ n3_ n4_ n5_ n6_ n7_ n8_ n9_ n10_ n11_ n12_ n13_ n14_ n15_ n16_ n17_ n18_
       have hHeld : w88.cell? ⟨gb209, 0, none⟩ = some (.int .i64 a1_0) ∧ w88.cell? ⟨gb209, 1, none⟩ = some (.slice A1_1 l1_1.length c1_1) ∧ w88.cell? ⟨gb208, 0, none⟩ = some (.int .i64 a0_0) ∧ w88.cell? ⟨gb208, 1, none⟩ = some (.slice A0_1 l0_1.length c0_1) := hS_
       obtain ⟨Ao90, co90, eo90⟩ := Kd.R_slice HO226.out
       (first | subst eo90 | (injection eo90 with f1_ f2_ f3_; have f4_ := f1_.symm; have f5_ := f3_.symm; clear f1_ f2_ f3_; subst f4_; subst f5_))
       refine norm_ (a' := ?_) ?_ ?_
       rotate_left
       ·simp only [putAll, Act.put, List.setIfInBounds_toArray, List.set_cons_zero, List.set_cons_succ]
        rfl
       refine one_ (i := 9) (N := none) #[true, true, true, true, true, true, true, true, true, true, false] rfl rfl (one_of HT_.out (by kernel_rfl)) (by decide) (fun K hK => ?_)
       have hs89 : w88.cell? ⟨gb228, 0, none⟩ = some (.int .i64 0) := (blk_cell BK228.out 0).trans rfl
       have hfs89 := blk_frozen BK228.out 0
       have hns89_0 := NB208_228.out
       have hns89_1 := NB209_228.out
       have hns89_2 := NB210_228.out
       have hns89_3 := NB216_228.out
       have hms89_0 := NB228_208.out
       have hms89_1 := NB228_209.out
       have hms89_2 := NB228_210.out
       have hms89_3 := NB228_216.out
       have hs91 : w88.cell? ⟨gb228, 1, none⟩ = some (.slice none 0 0) := (blk_cell BK228.out 1).trans rfl
       have hfs91 := blk_frozen BK228.out 1
       have hns91_0 := NB208_228.out
       have hns91_1 := NB209_228.out
       have hns91_2 := NB210_228.out
       have hns91_3 := NB216_228.out
       have hms91_0 := NB228_208.out
       have hms91_1 := NB228_209.out
       have hms91_2 := NB228_210.out
       have hms91_3 := NB228_216.out
       refine skip_ (w1 := ?_) (by rfl) rfl ?_ ?_
       rotate_left
       ·go_simp
        rfl
       refine hK.out _ _ ⟨((cell_far (p := ⟨gb228, _, none⟩) NB209_228.out _).trans (((cell_far (p := ⟨gb228, _, none⟩) NB209_228.out _).trans (hHeld.1)))), ((cell_far (p := ⟨gb228, _, none⟩) NB209_228.out _).trans (((cell_far (p := ⟨gb228, _, none⟩) NB209_228.out _).trans (hHeld.2.1)))), ((cell_far (p := ⟨gb228, _, none⟩) NB208_228.out _).trans (((cell_far (p := ⟨gb228, _, none⟩) NB208_228.out _).trans (hHeld.2.2.1)))), ((cell_far (p := ⟨gb228, _, none⟩) NB208_228.out _).trans (((cell_far (p := ⟨gb228, _, none⟩) NB208_228.out _).trans (hHeld.2.2.2))))⟩ (fun hHeld => ?_)
       clear hK K
       refine pure_ (i := 10) (N := some 10) (v := ?_) (a' := ?_) #[true, true, true, true, true, true, true, true, true, true, true] rfl rfl (any_of HT_.out (by kernel_rfl)) (fun _ _ _ h => h) (Or.inl ⟨by rfl, ?_⟩) ?_ ?_
       rotate_left
       ·intro w'
        go_simp
        with_reducible rfl
       rotate_left
       ·simp only [Act.put, List.setIfInBounds_toArray, List.set_cons_zero, List.set_cons_succ, i64_w, i32_w]
        rfl
       refine done_ (done_of HT_.out (by kernel_rfl)) ?_
       have hnb92 := NB216_208.out
       have hnc92 := NB208_216.out
       have hnb93 := NB216_209.out
       have hnc93 := NB209_216.out
       have hnb94 := NB216_210.out
       have hnc94 := NB210_216.out
       have hnb95 := NB216_228.out
       have hnc95 := NB228_216.out
       obtain ⟨hcz96_0, hcz96_1⟩ := c2 BK216
       have hfz96_0 := blk_frozen BK216.out 0
       have hfz96_1 := blk_frozen BK216.out 1
       have hnb97 := NB210_208.out
       have hnc97 := NB208_210.out
       have hnb98 := NB210_209.out
       have hnc98 := NB209_210.out
       have hnb99 := NB210_228.out
       have hnc99 := NB228_210.out
       obtain ⟨hcz100_0, hcz100_1⟩ := c2 BK210
       have hfz100_0 := blk_frozen BK210.out 0
       have hfz100_1 := blk_frozen BK210.out 1
       have hnb101 := NB228_208.out
       have hnc101 := NB208_228.out
       have hnb102 := NB228_209.out
       have hnc102 := NB209_228.out
       obtain ⟨hcz103_0, hcz103_1⟩ := c2 BK228
       have hfz103_0 := blk_frozen BK228.out 0
       have hfz103_1 := blk_frozen BK228.out 1
       try go_wp2_with (first | ((with_reducible refine gate_callee (f := 70) rfl ?_); refine goesL_ (some 49) rfl rfl Try.func70 (by kernel_rfl) rfl #[.agg #[.int .i64 t211, .slice Ao20 t212.length co20], .int .i64 (wrap64 (-a2_0)), .agg #[.int .i64 t223, .slice Ao90 t224.length co90]] rfl (by (try simp only [List.map_toArray, List.map_cons, List.map_nil]); first | done | rfl | (simp only [List.length_drop, List.length_take]; rfl)) ?_; (with_reducible refine (spec_AddScaled.calls kj4 t211 _ _ t212 (wrap64 (-a2_0)) t223 _ _ t224 t229 t230 true _ ?side1 ?side2 ?side3 ?side4 A46.out).mono ?_); (case side1 => refine (Kd.R_reads' (e := 3) (base := w.heap.size) (ok := fun k_ => (some k_ ≠ (v221 : Value).ownBlock ∧ some k_ ≠ (.slice Ao90 t224.length co90 : Value).ownBlock)) (n := t212.length) (c := co20) ?_).2.2; exact (by (with_reducible repeat (first | apply Kd.R_alloc | apply Kd.R_drewN | apply Kd.R_drew)); exact (Kd.R_mono (Kd.R_far (p := ⟨gb228, 1, none⟩) (Kd.R_far (p := ⟨gb228, 0, none⟩) (Kd.R_types HO_217001.out BK228.out (by decide)) (fun _ hk => hk.2) (.int .i64 t223)) (fun _ hk => hk.2) (.slice Ao90 t224.length co90)) (fun _ h_ => h_.1)))); (case side2 => exact (Kd.R_reads' HO_217001.out).2.1); (case side3 => refine (Kd.R_reads' (e := 3) (base := w.heap.size) (ok := fun k_ => (some k_ ≠ (v221 : Value).ownBlock ∧ some k_ ≠ (.slice Ao20 t212.length co20 : Value).ownBlock)) (n := t224.length) (c := co90) ?_).2.2; exact (by (with_reducible repeat (first | apply Kd.R_alloc | apply Kd.R_drewN | apply Kd.R_drew)); exact (Kd.R_mono (Kd.R_far (p := ⟨gb228, 1, none⟩) (Kd.R_far (p := ⟨gb228, 0, none⟩) (Kd.R_types HO226.out BK228.out (by decide)) (fun _ hk => hk.2) (.int .i64 t223)) (fun _ hk => hk.2) (.slice Ao90 t224.length co90)) (fun _ h_ => h_.1)))); (case side4 => exact (Kd.R_reads' HO226.out).2.1); rintro e w104 ⟨v231, rfl, ho0, hb⟩; refine ⟨_, rfl, ?_⟩; have n0_ := Aside0.mk (Kd.R_elder' (by (with_reducible repeat (first | apply Kd.R_alloc | apply Kd.R_drewN | apply Kd.R_drew)); exact (Kd.R_mono (Kd.R_far (p := ⟨gb228, 1, none⟩) (Kd.R_far (p := ⟨gb228, 0, none⟩) (Kd.R_types HO_217001.out BK228.out (by decide)) (fun _ hk => hk.2) (.int .i64 t223)) (fun _ hk => hk.2) (.slice Ao90 t224.length co90)) (fun _ h_ => h_.1))) (Kd.R_base ho0) hb); have n1_ := Aside0.mk (Kd.R_elder' (by (with_reducible repeat (first | apply Kd.R_alloc | apply Kd.R_drewN | apply Kd.R_drew)); exact (Kd.R_mono (Kd.R_far (p := ⟨gb228, 1, none⟩) (Kd.R_far (p := ⟨gb228, 0, none⟩) (Kd.R_types HO222.out BK228.out (by decide)) (fun _ hk => hk.2) (.int .i64 t223)) (fun _ hk => hk.2) (.slice Ao90 t224.length co90)) (fun _ h_ => h_.1))) (Kd.R_base ho0) hb); have n2_ := Aside0.mk (Kd.R_elder' (by (with_reducible repeat (first | apply Kd.R_alloc | apply Kd.R_drewN | apply Kd.R_drew)); exact (Kd.R_mono (Kd.R_far (p := ⟨gb228, 1, none⟩) (Kd.R_far (p := ⟨gb228, 0, none⟩) (Kd.R_types HO226.out BK228.out (by decide)) (fun _ hk => hk.2) (.int .i64 t223)) (fun _ hk => hk.2) (.slice Ao90 t224.length co90)) (fun _ h_ => h_.1))) (Kd.R_base ho0) hb); have n3_ := Aside0.mk (Kd.R_lower (Kd.R_new' (Kd.R_new' (Kd.R_new' ho0 (Kd.R_lt (by (with_reducible repeat (first | apply Kd.R_alloc | apply Kd.R_drewN | apply Kd.R_drew)); exact (Kd.R_mono (Kd.R_far (p := ⟨gb228, 1, none⟩) (Kd.R_far (p := ⟨gb228, 0, none⟩) (Kd.R_types HO_217001.out BK228.out (by decide)) (fun _ hk => hk.2) (.int .i64 t223)) (fun _ hk => hk.2) (.slice Ao90 t224.length co90)) (fun _ h_ => h_.1))))) (Kd.R_lt (by (with_reducible repeat (first | apply Kd.R_alloc | apply Kd.R_drewN | apply Kd.R_drew)); exact (Kd.R_mono (Kd.R_far (p := ⟨gb228, 1, none⟩) (Kd.R_far (p := ⟨gb228, 0, none⟩) (Kd.R_types HO222.out BK228.out (by decide)) (fun _ hk => hk.2) (.int .i64 t223)) (fun _ hk => hk.2) (.slice Ao90 t224.length co90)) (fun _ h_ => h_.1))))) (Kd.R_lt (by (with_reducible repeat (first | apply Kd.R_alloc | apply Kd.R_drewN | apply Kd.R_drew)); exact (Kd.R_mono (Kd.R_far (p := ⟨gb228, 1, none⟩) (Kd.R_far (p := ⟨gb228, 0, none⟩) (Kd.R_types HO226.out BK228.out (by decide)) (fun _ hk => hk.2) (.int .i64 t223)) (fun _ hk => hk.2) (.slice Ao90 t224.length co90)) (fun _ h_ => h_.1))))) (below_size (ms HB))); have n4_ := bf BK208 hb; have n5_ := bf BK209 hb; have n6_ := bf BK210 hb; have n7_ := bf BK216 hb; have n8_ := Aside0.mk (blk_below (g := gb228) (o := .cells #[.int .i64 t223, .slice Ao90 t224.length co90] 36 (0, 0)) (by (with_reducible repeat (first | refine blk_drewN ?_ _ | refine blk_drew ?_ | refine blk_alloc ?_ _)); refine blk_put (cs := #[.int .i64 t223, .slice none 0 0]) ?_ 1 _ rfl; (with_reducible repeat (first | refine blk_drewN ?_ _ | refine blk_drew ?_ | refine blk_alloc ?_ _)); refine blk_put (cs := #[.int .i64 0, .slice none 0 0]) ?_ 0 _ rfl; (with_reducible repeat (first | refine blk_drewN ?_ _ | refine blk_drew ?_ | refine blk_alloc ?_ _)); exact BK228.out) hb); have n9_ := bs HB hb; clear HO_217001 HO222 HO226 BK208 BK209 BK210 BK216 BK228 HB; have HO_217001 := n0_; have HO222 := n1_; have HO226 := n2_; have HO232 := n3_; have BK208 := n4_; have BK209 := n5_; have BK210 := n6_; have BK216 := n7_; have BK228 := n8_; have HB := n9_; clear n0_ n1_ n2_ n3_ n4_ n5_ n6_ n7_ n8_ n9_; (try clear hb); (try clear ho0)) | ((with_reducible refine gate_dst (N := 11) rfl ?_); refine box_event ?hg (N := 11) ?hd (cs := #[.int .i64 0, .slice none 0 0]) (t := 36) ?hr ?_; (case hd => rfl); (case hg => rfl); (case hr => first | (go_simp; done) | (go_simp; rfl)); intro gb234 hg w105 hbox hb; replace HO_217001 := rb HO_217001 hb; replace HO222 := rb HO222 hb; replace HO226 := rb HO226 hb; replace HO232 := rb HO232 hb; have BK234 := Aside0.mk (hbox); have GW234 := gw hg HB; have GE234 := gw hg HB; replace HB := bs HB hb; have NB208_234 := nl hg BK208; have NB234_208 := ng hg BK208; replace BK208 := bb BK208 hb; have NB209_234 := nl hg BK209; have NB234_209 := ng hg BK209; replace BK209 := bb BK209 hb; have NB210_234 := nl hg BK210; have NB234_210 := ng hg BK210; replace BK210 := bb BK210 hb; have NB216_234 := nl hg BK216; have NB234_216 := ng hg BK216; replace BK216 := bb BK216 hb; have NB228_234 := nl hg BK228; have NB234_228 := ng hg BK228; replace BK228 := bb BK228 hb; clear hb hbox hg; have hnb106 := NB234_208.out; have hnc106 := NB208_234.out; have hnb107 := NB234_209.out; have hnc107 := NB209_234.out; have hnb108 := NB234_210.out; have hnc108 := NB210_234.out; have hnb109 := NB234_216.out; have hnc109 := NB216_234.out; have hnb110 := NB234_228.out; have hnc110 := NB228_234.out; obtain ⟨hcz111_0, hcz111_1⟩ := c2 BK234; have hfz111_0 := blk_frozen BK234.out 0; have hfz111_1 := blk_frozen BK234.out 1; obtain ⟨Ao112, co112, eo112⟩ := Kd.R_slice HO232.out; subst eo112) | (go_at_call 43; (with_reducible refine (spec_IsConstant.calls kj4 t229 _ _ t230 false _ ?side1 ?side2 A49.out).mono ?_); (case side1 => refine (Kd.R_reads' (e := 3) (base := w.heap.size) (ok := fun k_ => (((True ∧ some k_ ≠ (.slice Ao20 t212.length co20 : Value).ownBlock) ∧ some k_ ≠ (v221 : Value).ownBlock) ∧ some k_ ≠ (.slice Ao90 t224.length co90 : Value).ownBlock)) (n := t230.length) (c := co112) ?_).2.2; exact (by (with_reducible repeat (first | apply Kd.R_alloc | apply Kd.R_drewN | apply Kd.R_drew)); exact (Kd.R_mono (Kd.R_far (p := ⟨gb234, 1, none⟩) (Kd.R_far (p := ⟨gb234, 0, none⟩) (Kd.R_types HO232.out BK234.out (by decide)) (fun _ hk => hk.2) (.int .i64 t229)) (fun _ hk => hk.2) (.slice Ao112 t230.length co112)) (fun _ h_ => h_.1)))); (case side2 => exact (Kd.R_reads' HO232.out).2.1); rintro e w113 ⟨rfl, hb⟩; have n0_ := Aside0.mk (Kd.R_below (by (with_reducible repeat (first | apply Kd.R_alloc | apply Kd.R_drewN | apply Kd.R_drew)); exact (Kd.R_mono (Kd.R_far (p := ⟨gb234, 1, none⟩) (Kd.R_far (p := ⟨gb234, 0, none⟩) (Kd.R_types HO_217001.out BK234.out (by decide)) (fun _ hk => hk.2) (.int .i64 t229)) (fun _ hk => hk.2) (.slice Ao112 t230.length co112)) (fun _ h_ => h_.1))) hb); have n1_ := Aside0.mk (Kd.R_below (by (with_reducible repeat (first | apply Kd.R_alloc | apply Kd.R_drewN | apply Kd.R_drew)); exact (Kd.R_mono (Kd.R_far (p := ⟨gb234, 1, none⟩) (Kd.R_far (p := ⟨gb234, 0, none⟩) (Kd.R_types HO222.out BK234.out (by decide)) (fun _ hk => hk.2) (.int .i64 t229)) (fun _ hk => hk.2) (.slice Ao112 t230.length co112)) (fun _ h_ => h_.1))) hb); have n2_ := Aside0.mk (Kd.R_below (by (with_reducible repeat (first | apply Kd.R_alloc | apply Kd.R_drewN | apply Kd.R_drew)); exact (Kd.R_mono (Kd.R_far (p := ⟨gb234, 1, none⟩) (Kd.R_far (p := ⟨gb234, 0, none⟩) (Kd.R_types HO226.out BK234.out (by decide)) (fun _ hk => hk.2) (.int .i64 t229)) (fun _ hk => hk.2) (.slice Ao112 t230.length co112)) (fun _ h_ => h_.1))) hb); have n3_ := Aside0.mk (Kd.R_below (by (with_reducible repeat (first | apply Kd.R_alloc | apply Kd.R_drewN | apply Kd.R_drew)); exact (Kd.R_mono (Kd.R_far (p := ⟨gb234, 1, none⟩) (Kd.R_far (p := ⟨gb234, 0, none⟩) (Kd.R_types HO232.out BK234.out (by decide)) (fun _ hk => hk.2) (.int .i64 t229)) (fun _ hk => hk.2) (.slice Ao112 t230.length co112)) (fun _ h_ => h_.1))) hb); have n4_ := bf BK208 hb; have n5_ := bf BK209 hb; have n6_ := bf BK210 hb; have n7_ := bf BK216 hb; have n8_ := bf BK228 hb; have n9_ := Aside0.mk (blk_below (g := gb234) (o := .cells #[.int .i64 t229, .slice Ao112 t230.length co112] 36 (0, 0)) (by (with_reducible repeat (first | refine blk_drewN ?_ _ | refine blk_drew ?_ | refine blk_alloc ?_ _)); refine blk_put (cs := #[.int .i64 t229, .slice none 0 0]) ?_ 1 _ rfl; (with_reducible repeat (first | refine blk_drewN ?_ _ | refine blk_drew ?_ | refine blk_alloc ?_ _)); refine blk_put (cs := #[.int .i64 0, .slice none 0 0]) ?_ 0 _ rfl; (with_reducible repeat (first | refine blk_drewN ?_ _ | refine blk_drew ?_ | refine blk_alloc ?_ _)); exact BK234.out) hb); have n10_ := bs HB hb; clear HO_217001 HO222 HO226 HO232 BK208 BK209 BK210 BK216 BK228 BK234 HB; have HO_217001 := n0_; have HO222 := n1_; have HO226 := n2_; have HO232 := n3_; have BK208 := n4_; have BK209 := n5_; have BK210 := n6_; have BK216 := n7_; have BK228 := n8_; have BK234 := n9_; have HB := n10_; clear n0_ n1_ n2_ n3_ n4_ n5_ n6_ n7_ n8_ n9_ n10_; (try clear hb)))
       go_ret
       exact ⟨by first | rfl | (simp [errW_none, errW_some] <;> rfl) | (simp [*, errW_none, errW_some] <;> rfl), ms HB⟩
     ·replace c48 := Bool.eq_false_iff.mpr c48
      subst c48
      have H1 : (some false) = some r := by rw [if_neg (show ¬ (false = true) by decide)] at H; exact H
      clear H
      have H := H1
      clear H1
      obtain rfl := Option.some.inj H
      try go_wp2
      replace HO_217001 := Aside0.mk (Kd.R_drew HO_217001.out)
      replace BK208 := Aside0.mk (blk_drew BK208.out)
      replace BK209 := Aside0.mk (blk_drew BK209.out)
      replace BK210 := Aside0.mk (blk_drew BK210.out)
      replace BK216 := Aside0.mk (blk_drew BK216.out)
      replace HB := Aside0.mk (below_drew1 HB.out)
      refine start_ (n := 11) (S := fun w' => w'.cell? ⟨gb209, 0, none⟩ = some (.int .i64 a1_0) ∧ w'.cell? ⟨gb209, 1, none⟩ = some (.slice A1_1 l1_1.length c1_1) ∧ w'.cell? ⟨gb208, 0, none⟩ = some (.int .i64 a0_0) ∧ w'.cell? ⟨gb208, 1, none⟩ = some (.slice A0_1 l0_1.length c0_1)) (ds := []) #[false, false, false, false, false, false, false, false, false, false, false] (by kernel_rfl) rfl rfl ⟨(c2 BK209).1, (c2 BK209).2, (c2 BK208).1, (c2 BK208).2⟩ (fun hHeld => ?_); refine with_tabW spec_CheckFarkas.tab4 spec_CheckFarkas.bits4 (fun HT_ HW_ => ?_)
      generalize wc.drew = w114 at HO_217001 BK208 BK209 BK210 BK216 HB hHeld ⊢
      refine pure_ (i := 1) (N := some 37) (v := ?_) (a' := ?_) #[false, true, false, false, false, false, false, false, false, false, false] rfl rfl (any_of HT_.out (by kernel_rfl)) (fun _ _ _ h => h) (Or.inl ⟨by rfl, ?_⟩) ?_ ?_
      rotate_left
      ·intro w'
       go_simp
       with_reducible rfl
      rotate_left
      ·simp only [Act.put, List.setIfInBounds_toArray, List.set_cons_zero, List.set_cons_succ, i64_w, i32_w]
       rfl
      refine take_ (i := 0) (N := some 36) (v := ?_) (a' := ?_) #[true, true, false, false, false, false, false, false, false, false, false] rfl rfl (take_ofW HT_.out HW_.out (by kernel_rfl)) (fun _ _ _ h => h) (Or.inl ⟨by rfl, ?_⟩) hHeld ?_ ?_
      rotate_left
      ·rintro w' ⟨s0, s1, s2, s3⟩
       go_simp
       with_reducible rfl
      rotate_left
      ·simp only [Act.put, List.setIfInBounds_toArray, List.set_cons_zero, List.set_cons_succ, i64_w, i32_w]
       rfl
      refine take_ (i := 2) (N := some 38) (v := ?_) (a' := ?_) #[true, true, true, false, false, false, false, false, false, false, false] rfl rfl (take_ofW HT_.out HW_.out (by kernel_rfl)) (fun _ _ _ h => h) (Or.inl ⟨by rfl, ?_⟩) hHeld ?_ ?_
      rotate_left
      ·rintro w' ⟨s0, s1, s2, s3⟩
       go_simp
       with_reducible rfl
      rotate_left
      ·simp only [Act.put, List.setIfInBounds_toArray, List.set_cons_zero, List.set_cons_succ, i64_w, i32_w]
       rfl
      refine join_ (σ := Value × Value × Nat) 2 #[true, true, true, true, true, true, true, true, true, false, false] (fun s_ => [(39, .agg #[.int .i64 t219, s_.1]), (40, .tuple #[.agg #[.int .i64 t223, s_.2.1], .bool true]), (9, .pointer (some ⟨s_.2.2, 0, none⟩)), (35, .tuple #[.agg #[.int .i64 t223, s_.2.1], .bool true]), (41, .agg #[.int .i64 t223, s_.2.1]), (42, .bool true)]) (fun s_ w' => (w'.cell? ⟨gb209, 0, none⟩ = some (.int .i64 a1_0) ∧ w'.cell? ⟨gb209, 1, none⟩ = some (.slice A1_1 l1_1.length c1_1) ∧ w'.cell? ⟨gb208, 0, none⟩ = some (.int .i64 a0_0) ∧ w'.cell? ⟨gb208, 1, none⟩ = some (.slice A0_1 l0_1.length c0_1)) ∧ (Kd.R (Kd.int .i64) 3 w' w.heap.size (fun k_ => some k_ ≠ (s_.2.1 : Value).ownBlock ∧ some k_ ≠ (.slice Ao20 t212.length co20 : Value).ownBlock) s_.1 t220) ∧ (Kd.R (Kd.int .i64) 3 w' w.heap.size (fun k_ => some k_ ≠ (s_.1 : Value).ownBlock ∧ some k_ ≠ (.slice Ao20 t212.length co20 : Value).ownBlock) s_.2.1 t224) ∧ (Kd.R (Kd.int .i64) 3 w' w.heap.size (fun k_ => some k_ ≠ (s_.1 : Value).ownBlock ∧ some k_ ≠ (s_.2.1 : Value).ownBlock) (.slice Ao20 t212.length co20) t212) ∧ (w'.heap[gb208]? = some (.cells #[.int .i64 a0_0, .slice A0_1 l0_1.length c0_1] 32 (0, 0))) ∧ (w'.heap[gb209]? = some (.cells #[.int .i64 a1_0, .slice A1_1 l1_1.length c1_1] 36 (0, 0))) ∧ (w'.heap[gb210]? = some (.cells #[.int .i64 a2_0, .slice A2_1 l2_1.length c2_1] 65 (0, 0))) ∧ (w'.heap[gb216]? = some (.cells #[.int .i64 t211, .slice Ao20 t212.length co20] 36 (0, 0))) ∧ (w'.heap[s_.2.2]? = some (.cells #[.int .i64 0, .slice none 0 0] 36 (0, 0))) ∧ (w.heap.size ≤ s_.2.2) ∧ (w.heap.size ≤ s_.2.2) ∧ (gb208 ≠ s_.2.2) ∧ (s_.2.2 ≠ gb208) ∧ (gb209 ≠ s_.2.2) ∧ (s_.2.2 ≠ gb209) ∧ (gb210 ≠ s_.2.2) ∧ (s_.2.2 ≠ gb210) ∧ (gb216 ≠ s_.2.2) ∧ (s_.2.2 ≠ gb216) ∧ (Below w.heap.size w w')) ?_ ?_
      rotate_left
      ·intro hCont
       refine two_ (i := 3) (j := 8) (Ni := some 39) (Nj := some 9) #[true, true, true, true, false, false, false, false, false, false, false] #[true, true, true, false, false, false, false, false, true, false, false] rfl rfl rfl rfl (two_of HT_.out (by kernel_rfl)) (by decide) (by decide) (fun K hK => ?_) (fun K hK => ?_)
       ·skip
        refine goes_ Try.func69 (by kernel_rfl) rfl #[.int .i64 1, .int .i64 a0_0] (by rfl) rfl rfl (by (try simp only [List.map_toArray, List.map_cons, List.map_nil]); first | done | rfl | (simp only [List.length_drop, List.length_take]; rfl)) ?_
        with_reducible refine (spec_ConstLin.calls 1 a0_0 t219 t220 _ A44.out).mono ?_
        rintro e w115 ⟨v221, rfl, ho0, hb⟩
        refine ⟨_, rfl, ?_⟩
        have HO222 := Aside0.mk (Kd.R_lower (Kd.R_new' ho0 (Kd.R_lt (mr HO_217001))) (below_size (ms HB)))
        replace HO_217001 := rl HO_217001 ho0 hb
        replace BK208 := bb BK208 hb
        replace BK209 := bb BK209 hb
        replace BK210 := bb BK210 hb
        replace BK216 := bb BK216 hb
        replace HB := bs HB hb
        (try clear hb)
        (try clear hb2)
        (try clear hk)
        (try clear hi)
        (try clear ho0)
        obtain ⟨Ao116, co116, eo116⟩ := Kd.R_slice HO222.out
        (first | subst eo116 | (injection eo116 with f1_ f2_ f3_; have f4_ := f1_.symm; have f5_ := f3_.symm; clear f1_ f2_ f3_; subst f4_; subst f5_))
        refine hK.out _ _ ⟨(c2 BK209).1, (c2 BK209).2, (c2 BK208).1, (c2 BK208).2⟩ (fun hHeld => ?_)
        clear hK K
        refine norm_ (a' := ?_) ?_ ?_
        rotate_left
        ·show Act.put _ (some 39) _ = _
         simp only [Act.put, List.setIfInBounds_toArray, List.set_cons_zero, List.set_cons_succ, i64_w, i32_w]
         rfl
        refine two_ (i := 4) (j := 8) (Ni := some 40) (Nj := some 9) #[true, true, true, true, true, false, false, false, false, false, false] #[true, true, true, true, false, false, false, false, true, false, false] rfl rfl rfl rfl (two_of HT_.out (by kernel_rfl)) (by decide) (by decide) (fun K hK => ?_) (fun K hK => ?_)
        ·skip
         refine goes_ Try.func70 (by kernel_rfl) rfl #[.agg #[.int .i64 a1_0, .slice A1_1 l1_1.length c1_1], .int .i64 1, .agg #[.int .i64 t219, .slice Ao116 t220.length co116]] (by rfl) rfl rfl (by (try simp only [List.map_toArray, List.map_cons, List.map_nil]); first | done | rfl | (simp only [List.length_drop, List.length_take]; rfl)) ?_
         with_reducible refine (spec_AddScaled.calls kj4 a1_0 _ _ l1_1 1 t219 _ _ t220 t223 t224 true _ ?side1 ?side2 ?side3 ?side4 A45.out).mono ?_
         (case side1 => exact mc ((Kd.C_below HR1_1.out HB.out)))
         (case side2 => exact HC1_1.out)
         (case side3 => exact mc ((Kd.R_reads' HO222.out).2.2))
         (case side4 => exact (Kd.R_reads' HO222.out).2.1)
         rintro e w117 ⟨v225, rfl, ho0, hb⟩
         refine ⟨_, rfl, ?_⟩
         have HO226 := Aside0.mk (Kd.R_lower (Kd.R_new' (Kd.R_new' ho0 (Kd.R_lt (mr HO_217001))) (Kd.R_lt (mr HO222))) (below_size (ms HB)))
         replace HO_217001 := rl HO_217001 ho0 hb
         replace HO222 := rl HO222 ho0 hb
         replace BK208 := bb BK208 hb
         replace BK209 := bb BK209 hb
         replace BK210 := bb BK210 hb
         replace BK216 := bb BK216 hb
         replace HB := bs HB hb
         (try clear hb)
         (try clear hb2)
         (try clear hk)
         (try clear hi)
         (try clear ho0)
         refine hK.out _ _ ⟨(c2 BK209).1, (c2 BK209).2, (c2 BK208).1, (c2 BK208).2⟩ (fun hHeld => ?_)
         clear hK K
         refine norm_ (a' := ?_) ?_ ?_
         rotate_left
         ·show Act.put _ (some 40) _ = _
          simp only [Act.put, List.setIfInBounds_toArray, List.set_cons_zero, List.set_cons_succ, i64_w, i32_w]
          rfl
         refine pure_ (i := 5) (N := some 35) (v := ?_) (a' := ?_) #[true, true, true, true, true, true, false, false, false, false, false] rfl rfl (any_of HT_.out (by kernel_rfl)) (fun _ _ _ h => h) (Or.inl ⟨by rfl, ?_⟩) ?_ ?_
         rotate_left
         ·intro w'
          go_simp
          with_reducible rfl
         rotate_left
         ·simp only [Act.put, List.setIfInBounds_toArray, List.set_cons_zero, List.set_cons_succ, i64_w, i32_w]
          rfl
         refine pure_ (i := 6) (N := some 41) (v := ?_) (a' := ?_) #[true, true, true, true, true, true, true, false, false, false, false] rfl rfl (any_of HT_.out (by kernel_rfl)) (fun _ _ _ h => h) (Or.inl ⟨by rfl, ?_⟩) ?_ ?_
         rotate_left
         ·intro w'
          go_simp
          with_reducible rfl
         rotate_left
         ·simp only [Act.put, List.setIfInBounds_toArray, List.set_cons_zero, List.set_cons_succ, i64_w, i32_w]
          rfl
         refine pure_ (i := 7) (N := some 42) (v := ?_) (a' := ?_) #[true, true, true, true, true, true, true, true, false, false, false] rfl rfl (any_of HT_.out (by kernel_rfl)) (fun _ _ _ h => h) (Or.inl ⟨by rfl, ?_⟩) ?_ ?_
         rotate_left
         ·intro w'
          go_simp
          with_reducible rfl
         rotate_left
         ·simp only [Act.put, List.setIfInBounds_toArray, List.set_cons_zero, List.set_cons_succ, i64_w, i32_w]
          rfl
         refine one_ (i := 8) (N := some 9) #[true, true, true, true, true, true, true, true, true, false, false] rfl rfl (one_of HT_.out (by kernel_rfl)) (by decide) (fun K hK => ?_)
         refine box_step ?hg (N := 9) ?hd (cs := #[.int .i64 0, .slice none 0 0]) (t := 36) ?hr ?_; (case hd => rfl); (case hg => rfl); (case hr => first | (go_simp; done) | (go_simp; rfl))
         intro gb228 hg w118 hbox hb
         replace HO_217001 := rb HO_217001 hb
         replace HO222 := rb HO222 hb
         replace HO226 := rb HO226 hb
         have BK228 := Aside0.mk (hbox)
         have GW228 := gw hg HB
         have GE228 := gw hg HB
         replace HB := bs HB hb
         have NB208_228 := nl hg BK208
         have NB228_208 := ng hg BK208
         replace BK208 := bb BK208 hb
         have NB209_228 := nl hg BK209
         have NB228_209 := ng hg BK209
         replace BK209 := bb BK209 hb
         have NB210_228 := nl hg BK210
         have NB228_210 := ng hg BK210
         replace BK210 := bb BK210 hb
         have NB216_228 := nl hg BK216
         have NB228_216 := ng hg BK216
         replace BK216 := bb BK216 hb
         clear hb hbox hg
         refine hK.out _ _ ⟨(c2 BK209).1, (c2 BK209).2, (c2 BK208).1, (c2 BK208).2⟩ (fun hHeld => ?_)
         clear hK K
         refine norm_ (a' := ?_) ?_ ?_
         rotate_left
         ·show Act.put _ (some 9) _ = _
          simp only [Act.put, List.setIfInBounds_toArray, List.set_cons_zero, List.set_cons_succ, i64_w, i32_w]
          rfl
         exact norm_ (by simp only [putAll, Act.put, List.setIfInBounds_toArray, List.set_cons_zero, List.set_cons_succ]) (hCont (.slice Ao116 t220.length co116, v225, gb228) _ ⟨hHeld, (by (with_reducible repeat (first | apply Kd.R_alloc | apply Kd.R_drewN | apply Kd.R_drew)); exact Kd.R_mono HO222.out (fun _ hk => ⟨hk.2, hk.1.2⟩)), (by (with_reducible repeat (first | apply Kd.R_alloc | apply Kd.R_drewN | apply Kd.R_drew)); exact Kd.R_mono HO226.out (fun _ hk => ⟨hk.2, hk.1.2⟩)), (by (with_reducible repeat (first | apply Kd.R_alloc | apply Kd.R_drewN | apply Kd.R_drew)); exact Kd.R_mono HO_217001.out (fun _ hk => ⟨hk.1.2, hk.2⟩)), (mb BK208), (mb BK209), (mb BK210), (mb BK216), (mb BK228), GW228.out, GE228.out, NB208_228.out, NB228_208.out, NB209_228.out, NB228_209.out, NB210_228.out, NB228_210.out, NB216_228.out, NB228_216.out, (ms HB)⟩)
        ·skip
         refine box_step ?hg (N := 9) ?hd (cs := #[.int .i64 0, .slice none 0 0]) (t := 36) ?hr ?_; (case hd => rfl); (case hg => rfl); (case hr => first | (go_simp; done) | (go_simp; rfl))
         intro gb228 hg w116 hbox hb
         replace HO_217001 := rb HO_217001 hb
         replace HO222 := rb HO222 hb
         have BK228 := Aside0.mk (hbox)
         have GW228 := gw hg HB
         have GE228 := gw hg HB
         replace HB := bs HB hb
         have NB208_228 := nl hg BK208
         have NB228_208 := ng hg BK208
         replace BK208 := bb BK208 hb
         have NB209_228 := nl hg BK209
         have NB228_209 := ng hg BK209
         replace BK209 := bb BK209 hb
         have NB210_228 := nl hg BK210
         have NB228_210 := ng hg BK210
         replace BK210 := bb BK210 hb
         have NB216_228 := nl hg BK216
         have NB228_216 := ng hg BK216
         replace BK216 := bb BK216 hb
         clear hb hbox hg
         obtain ⟨Ao117, co117, eo117⟩ := Kd.R_slice HO222.out
         (first | subst eo117 | (injection eo117 with f1_ f2_ f3_; have f4_ := f1_.symm; have f5_ := f3_.symm; clear f1_ f2_ f3_; subst f4_; subst f5_))
         refine hK.out _ _ ⟨(c2 BK209).1, (c2 BK209).2, (c2 BK208).1, (c2 BK208).2⟩ (fun hHeld => ?_)
         clear hK K
         refine norm_ (a' := ?_) ?_ ?_
         rotate_left
         ·show Act.put _ (some 9) _ = _
          simp only [Act.put, List.setIfInBounds_toArray, List.set_cons_zero, List.set_cons_succ, i64_w, i32_w]
          rfl
         refine one_ (i := 4) (N := some 40) #[true, true, true, true, true, false, false, false, true, false, false] rfl rfl (one_of HT_.out (by kernel_rfl)) (by decide) (fun K hK => ?_)
         refine goes_ Try.func70 (by kernel_rfl) rfl #[.agg #[.int .i64 a1_0, .slice A1_1 l1_1.length c1_1], .int .i64 1, .agg #[.int .i64 t219, .slice Ao117 t220.length co117]] (by rfl) rfl rfl (by (try simp only [List.map_toArray, List.map_cons, List.map_nil]); first | done | rfl | (simp only [List.length_drop, List.length_take]; rfl)) ?_
         with_reducible refine (spec_AddScaled.calls kj4 a1_0 _ _ l1_1 1 t219 _ _ t220 t223 t224 true _ ?side1 ?side2 ?side3 ?side4 A45.out).mono ?_
         (case side1 => exact mc ((Kd.C_below HR1_1.out HB.out)))
         (case side2 => exact HC1_1.out)
         (case side3 => exact mc ((Kd.R_reads' HO222.out).2.2))
         (case side4 => exact (Kd.R_reads' HO222.out).2.1)
         rintro e w118 ⟨v225, rfl, ho0, hb⟩
         refine ⟨_, rfl, ?_⟩
         have HO226 := Aside0.mk (Kd.R_lower (Kd.R_new' (Kd.R_new' ho0 (Kd.R_lt (mr HO_217001))) (Kd.R_lt (mr HO222))) (below_size (ms HB)))
         replace HO_217001 := rl HO_217001 ho0 hb
         replace HO222 := rl HO222 ho0 hb
         replace BK208 := bb BK208 hb
         replace BK209 := bb BK209 hb
         replace BK210 := bb BK210 hb
         replace BK216 := bb BK216 hb
         replace BK228 := bb BK228 hb
         replace HB := bs HB hb
         (try clear hb)
         (try clear hb2)
         (try clear hk)
         (try clear hi)
         (try clear ho0)
         refine hK.out _ _ ⟨(c2 BK209).1, (c2 BK209).2, (c2 BK208).1, (c2 BK208).2⟩ (fun hHeld => ?_)
         clear hK K
         refine norm_ (a' := ?_) ?_ ?_
         rotate_left
         ·show Act.put _ (some 40) _ = _
          simp only [Act.put, List.setIfInBounds_toArray, List.set_cons_zero, List.set_cons_succ, i64_w, i32_w]
          rfl
         refine pure_ (i := 5) (N := some 35) (v := ?_) (a' := ?_) #[true, true, true, true, true, true, false, false, true, false, false] rfl rfl (any_of HT_.out (by kernel_rfl)) (fun _ _ _ h => h) (Or.inl ⟨by rfl, ?_⟩) ?_ ?_
         rotate_left
         ·intro w'
          go_simp
          with_reducible rfl
         rotate_left
         ·simp only [Act.put, List.setIfInBounds_toArray, List.set_cons_zero, List.set_cons_succ, i64_w, i32_w]
          rfl
         refine pure_ (i := 6) (N := some 41) (v := ?_) (a' := ?_) #[true, true, true, true, true, true, true, false, true, false, false] rfl rfl (any_of HT_.out (by kernel_rfl)) (fun _ _ _ h => h) (Or.inl ⟨by rfl, ?_⟩) ?_ ?_
         rotate_left
         ·intro w'
          go_simp
          with_reducible rfl
         rotate_left
         ·simp only [Act.put, List.setIfInBounds_toArray, List.set_cons_zero, List.set_cons_succ, i64_w, i32_w]
          rfl
         refine pure_ (i := 7) (N := some 42) (v := ?_) (a' := ?_) #[true, true, true, true, true, true, true, true, true, false, false] rfl rfl (any_of HT_.out (by kernel_rfl)) (fun _ _ _ h => h) (Or.inl ⟨by rfl, ?_⟩) ?_ ?_
         rotate_left
         ·intro w'
          go_simp
          with_reducible rfl
         rotate_left
         ·simp only [Act.put, List.setIfInBounds_toArray, List.set_cons_zero, List.set_cons_succ, i64_w, i32_w]
          rfl
         exact norm_ (by simp only [putAll, Act.put, List.setIfInBounds_toArray, List.set_cons_zero, List.set_cons_succ]) (hCont (.slice Ao117 t220.length co117, v225, gb228) _ ⟨hHeld, (by (with_reducible repeat (first | apply Kd.R_alloc | apply Kd.R_drewN | apply Kd.R_drew)); exact Kd.R_mono HO222.out (fun _ hk => ⟨hk.2, hk.1.2⟩)), (by (with_reducible repeat (first | apply Kd.R_alloc | apply Kd.R_drewN | apply Kd.R_drew)); exact Kd.R_mono HO226.out (fun _ hk => ⟨hk.2, hk.1.2⟩)), (by (with_reducible repeat (first | apply Kd.R_alloc | apply Kd.R_drewN | apply Kd.R_drew)); exact Kd.R_mono HO_217001.out (fun _ hk => ⟨hk.1.2, hk.2⟩)), (mb BK208), (mb BK209), (mb BK210), (mb BK216), (mb BK228), GW228.out, GE228.out, NB208_228.out, NB228_208.out, NB209_228.out, NB228_209.out, NB210_228.out, NB228_210.out, NB216_228.out, NB228_216.out, (ms HB)⟩)
       ·skip
        refine box_step ?hg (N := 9) ?hd (cs := #[.int .i64 0, .slice none 0 0]) (t := 36) ?hr ?_; (case hd => rfl); (case hg => rfl); (case hr => first | (go_simp; done) | (go_simp; rfl))
        intro gb228 hg w115 hbox hb
        replace HO_217001 := rb HO_217001 hb
        have BK228 := Aside0.mk (hbox)
        have GW228 := gw hg HB
        have GE228 := gw hg HB
        replace HB := bs HB hb
        have NB208_228 := nl hg BK208
        have NB228_208 := ng hg BK208
        replace BK208 := bb BK208 hb
        have NB209_228 := nl hg BK209
        have NB228_209 := ng hg BK209
        replace BK209 := bb BK209 hb
        have NB210_228 := nl hg BK210
        have NB228_210 := ng hg BK210
        replace BK210 := bb BK210 hb
        have NB216_228 := nl hg BK216
        have NB228_216 := ng hg BK216
        replace BK216 := bb BK216 hb
        clear hb hbox hg
        refine hK.out _ _ ⟨(c2 BK209).1, (c2 BK209).2, (c2 BK208).1, (c2 BK208).2⟩ (fun hHeld => ?_)
        clear hK K
        refine norm_ (a' := ?_) ?_ ?_
        rotate_left
        ·show Act.put _ (some 9) _ = _
         simp only [Act.put, List.setIfInBounds_toArray, List.set_cons_zero, List.set_cons_succ, i64_w, i32_w]
         rfl
        refine one_ (i := 3) (N := some 39) #[true, true, true, true, false, false, false, false, true, false, false] rfl rfl (one_of HT_.out (by kernel_rfl)) (by decide) (fun K hK => ?_)
        refine goes_ Try.func69 (by kernel_rfl) rfl #[.int .i64 1, .int .i64 a0_0] (by rfl) rfl rfl (by (try simp only [List.map_toArray, List.map_cons, List.map_nil]); first | done | rfl | (simp only [List.length_drop, List.length_take]; rfl)) ?_
        with_reducible refine (spec_ConstLin.calls 1 a0_0 t219 t220 _ A44.out).mono ?_
        rintro e w116 ⟨v221, rfl, ho0, hb⟩
        refine ⟨_, rfl, ?_⟩
        have HO222 := Aside0.mk (Kd.R_lower (Kd.R_new' ho0 (Kd.R_lt (mr HO_217001))) (below_size (ms HB)))
        replace HO_217001 := rl HO_217001 ho0 hb
        replace BK208 := bb BK208 hb
        replace BK209 := bb BK209 hb
        replace BK210 := bb BK210 hb
        replace BK216 := bb BK216 hb
        replace BK228 := bb BK228 hb
        replace HB := bs HB hb
        (try clear hb)
        (try clear hb2)
        (try clear hk)
        (try clear hi)
        (try clear ho0)
        obtain ⟨Ao117, co117, eo117⟩ := Kd.R_slice HO222.out
        (first | subst eo117 | (injection eo117 with f1_ f2_ f3_; have f4_ := f1_.symm; have f5_ := f3_.symm; clear f1_ f2_ f3_; subst f4_; subst f5_))
        refine hK.out _ _ ⟨(c2 BK209).1, (c2 BK209).2, (c2 BK208).1, (c2 BK208).2⟩ (fun hHeld => ?_)
        clear hK K
        refine norm_ (a' := ?_) ?_ ?_
        rotate_left
        ·show Act.put _ (some 39) _ = _
         simp only [Act.put, List.setIfInBounds_toArray, List.set_cons_zero, List.set_cons_succ, i64_w, i32_w]
         rfl
        refine one_ (i := 4) (N := some 40) #[true, true, true, true, true, false, false, false, true, false, false] rfl rfl (one_of HT_.out (by kernel_rfl)) (by decide) (fun K hK => ?_)
        refine goes_ Try.func70 (by kernel_rfl) rfl #[.agg #[.int .i64 a1_0, .slice A1_1 l1_1.length c1_1], .int .i64 1, .agg #[.int .i64 t219, .slice Ao117 t220.length co117]] (by rfl) rfl rfl (by (try simp only [List.map_toArray, List.map_cons, List.map_nil]); first | done | rfl | (simp only [List.length_drop, List.length_take]; rfl)) ?_
        with_reducible refine (spec_AddScaled.calls kj4 a1_0 _ _ l1_1 1 t219 _ _ t220 t223 t224 true _ ?side1 ?side2 ?side3 ?side4 A45.out).mono ?_
        (case side1 => exact mc ((Kd.C_below HR1_1.out HB.out)))
        (case side2 => exact HC1_1.out)
        (case side3 => exact mc ((Kd.R_reads' HO222.out).2.2))
        (case side4 => exact (Kd.R_reads' HO222.out).2.1)
        rintro e w118 ⟨v225, rfl, ho0, hb⟩
        refine ⟨_, rfl, ?_⟩
        have HO226 := Aside0.mk (Kd.R_lower (Kd.R_new' (Kd.R_new' ho0 (Kd.R_lt (mr HO_217001))) (Kd.R_lt (mr HO222))) (below_size (ms HB)))
        replace HO_217001 := rl HO_217001 ho0 hb
        replace HO222 := rl HO222 ho0 hb
        replace BK208 := bb BK208 hb
        replace BK209 := bb BK209 hb
        replace BK210 := bb BK210 hb
        replace BK216 := bb BK216 hb
        replace BK228 := bb BK228 hb
        replace HB := bs HB hb
        (try clear hb)
        (try clear hb2)
        (try clear hk)
        (try clear hi)
        (try clear ho0)
        refine hK.out _ _ ⟨(c2 BK209).1, (c2 BK209).2, (c2 BK208).1, (c2 BK208).2⟩ (fun hHeld => ?_)
        clear hK K
        refine norm_ (a' := ?_) ?_ ?_
        rotate_left
        ·show Act.put _ (some 40) _ = _
         simp only [Act.put, List.setIfInBounds_toArray, List.set_cons_zero, List.set_cons_succ, i64_w, i32_w]
         rfl
        refine pure_ (i := 5) (N := some 35) (v := ?_) (a' := ?_) #[true, true, true, true, true, true, false, false, true, false, false] rfl rfl (any_of HT_.out (by kernel_rfl)) (fun _ _ _ h => h) (Or.inl ⟨by rfl, ?_⟩) ?_ ?_
        rotate_left
        ·intro w'
         go_simp
         with_reducible rfl
        rotate_left
        ·simp only [Act.put, List.setIfInBounds_toArray, List.set_cons_zero, List.set_cons_succ, i64_w, i32_w]
         rfl
        refine pure_ (i := 6) (N := some 41) (v := ?_) (a' := ?_) #[true, true, true, true, true, true, true, false, true, false, false] rfl rfl (any_of HT_.out (by kernel_rfl)) (fun _ _ _ h => h) (Or.inl ⟨by rfl, ?_⟩) ?_ ?_
        rotate_left
        ·intro w'
         go_simp
         with_reducible rfl
        rotate_left
        ·simp only [Act.put, List.setIfInBounds_toArray, List.set_cons_zero, List.set_cons_succ, i64_w, i32_w]
         rfl
        refine pure_ (i := 7) (N := some 42) (v := ?_) (a' := ?_) #[true, true, true, true, true, true, true, true, true, false, false] rfl rfl (any_of HT_.out (by kernel_rfl)) (fun _ _ _ h => h) (Or.inl ⟨by rfl, ?_⟩) ?_ ?_
        rotate_left
        ·intro w'
         go_simp
         with_reducible rfl
        rotate_left
        ·simp only [Act.put, List.setIfInBounds_toArray, List.set_cons_zero, List.set_cons_succ, i64_w, i32_w]
         rfl
        exact norm_ (by simp only [putAll, Act.put, List.setIfInBounds_toArray, List.set_cons_zero, List.set_cons_succ]) (hCont (.slice Ao117 t220.length co117, v225, gb228) _ ⟨hHeld, (by (with_reducible repeat (first | apply Kd.R_alloc | apply Kd.R_drewN | apply Kd.R_drew)); exact Kd.R_mono HO222.out (fun _ hk => ⟨hk.2, hk.1.2⟩)), (by (with_reducible repeat (first | apply Kd.R_alloc | apply Kd.R_drewN | apply Kd.R_drew)); exact Kd.R_mono HO226.out (fun _ hk => ⟨hk.2, hk.1.2⟩)), (by (with_reducible repeat (first | apply Kd.R_alloc | apply Kd.R_drewN | apply Kd.R_drew)); exact Kd.R_mono HO_217001.out (fun _ hk => ⟨hk.1.2, hk.2⟩)), (mb BK208), (mb BK209), (mb BK210), (mb BK216), (mb BK228), GW228.out, GE228.out, NB208_228.out, NB228_208.out, NB209_228.out, NB228_209.out, NB210_228.out, NB228_210.out, NB216_228.out, NB228_216.out, (ms HB)⟩)
      rintro ⟨v221, v225, gb228⟩ w119 ⟨hS_, h0_, h1_, h2_, h3_, h4_, h5_, h6_, h7_, h8_, h9_, h10_, h11_, h12_, h13_, h14_, h15_, h16_, h17_, h18_⟩
      have n0_ : Aside0 (Kd.R (Kd.int .i64) 3 w119 w.heap.size (fun k_ => some k_ ≠ (v225 : Value).ownBlock ∧ some k_ ≠ (.slice Ao20 t212.length co20 : Value).ownBlock) v221 t220) := ⟨h0_⟩
      have n1_ : Aside0 (Kd.R (Kd.int .i64) 3 w119 w.heap.size (fun k_ => some k_ ≠ (v221 : Value).ownBlock ∧ some k_ ≠ (.slice Ao20 t212.length co20 : Value).ownBlock) v225 t224) := ⟨h1_⟩
      have n2_ : Aside0 (Kd.R (Kd.int .i64) 3 w119 w.heap.size (fun k_ => some k_ ≠ (v221 : Value).ownBlock ∧ some k_ ≠ (v225 : Value).ownBlock) (.slice Ao20 t212.length co20) t212) := ⟨h2_⟩
      have n3_ : Aside0 (w119.heap[gb208]? = some (.cells #[.int .i64 a0_0, .slice A0_1 l0_1.length c0_1] 32 (0, 0))) := ⟨h3_⟩
      have n4_ : Aside0 (w119.heap[gb209]? = some (.cells #[.int .i64 a1_0, .slice A1_1 l1_1.length c1_1] 36 (0, 0))) := ⟨h4_⟩
      have n5_ : Aside0 (w119.heap[gb210]? = some (.cells #[.int .i64 a2_0, .slice A2_1 l2_1.length c2_1] 65 (0, 0))) := ⟨h5_⟩
      have n6_ : Aside0 (w119.heap[gb216]? = some (.cells #[.int .i64 t211, .slice Ao20 t212.length co20] 36 (0, 0))) := ⟨h6_⟩
      have n7_ : Aside0 (w119.heap[gb228]? = some (.cells #[.int .i64 0, .slice none 0 0] 36 (0, 0))) := ⟨h7_⟩
      have n8_ : Aside0 (w.heap.size ≤ gb228) := ⟨h8_⟩
      have n9_ : Aside0 (w.heap.size ≤ gb228) := ⟨h9_⟩
      have n10_ : Aside0 (gb208 ≠ gb228) := ⟨h10_⟩
      have n11_ : Aside0 (gb228 ≠ gb208) := ⟨h11_⟩
      have n12_ : Aside0 (gb209 ≠ gb228) := ⟨h12_⟩
      have n13_ : Aside0 (gb228 ≠ gb209) := ⟨h13_⟩
      have n14_ : Aside0 (gb210 ≠ gb228) := ⟨h14_⟩
      have n15_ : Aside0 (gb228 ≠ gb210) := ⟨h15_⟩
      have n16_ : Aside0 (gb216 ≠ gb228) := ⟨h16_⟩
      have n17_ : Aside0 (gb228 ≠ gb216) := ⟨h17_⟩
      have n18_ : Aside0 (Below w.heap.size w w119) := ⟨h18_⟩
      clear HO_217001
      clear BK208
      clear BK209
      clear BK210
      clear BK216
      clear HB
      clear h0_ h1_ h2_ h3_ h4_ h5_ h6_ h7_ h8_ h9_ h10_ h11_ h12_ h13_ h14_ h15_ h16_ h17_ h18_
      have HO222 := n0_
      have HO226 := n1_
      have HO_217001 := n2_
      have BK208 := n3_
      have BK209 := n4_
      have BK210 := n5_
      have BK216 := n6_
      have BK228 := n7_
      have GW228 := n8_
      have GE228 := n9_
      have NB208_228 := n10_
      have NB228_208 := n11_
      have NB209_228 := n12_
      have NB228_209 := n13_
      have NB210_228 := n14_
      have NB228_210 := n15_
      have NB216_228 := n16_
      have NB228_216 := n17_
      have HB := n18_
      clear n0_ n1_ n2_ n3_ n4_ n5_ n6_ n7_ n8_ n9_ n10_ n11_ n12_ n13_ n14_ n15_ n16_ n17_ n18_
      have hHeld : w119.cell? ⟨gb209, 0, none⟩ = some (.int .i64 a1_0) ∧ w119.cell? ⟨gb209, 1, none⟩ = some (.slice A1_1 l1_1.length c1_1) ∧ w119.cell? ⟨gb208, 0, none⟩ = some (.int .i64 a0_0) ∧ w119.cell? ⟨gb208, 1, none⟩ = some (.slice A0_1 l0_1.length c0_1) := hS_
      obtain ⟨Ao121, co121, eo121⟩ := Kd.R_slice HO226.out
      (first | subst eo121 | (injection eo121 with f1_ f2_ f3_; have f4_ := f1_.symm; have f5_ := f3_.symm; clear f1_ f2_ f3_; subst f4_; subst f5_))
      refine norm_ (a' := ?_) ?_ ?_
      rotate_left
      ·simp only [putAll, Act.put, List.setIfInBounds_toArray, List.set_cons_zero, List.set_cons_succ]
       rfl
      refine one_ (i := 9) (N := none) #[true, true, true, true, true, true, true, true, true, true, false] rfl rfl (one_of HT_.out (by kernel_rfl)) (by decide) (fun K hK => ?_)
      have hs120 : w119.cell? ⟨gb228, 0, none⟩ = some (.int .i64 0) := (blk_cell BK228.out 0).trans rfl
      have hfs120 := blk_frozen BK228.out 0
      have hns120_0 := NB208_228.out
      have hns120_1 := NB209_228.out
      have hns120_2 := NB210_228.out
      have hns120_3 := NB216_228.out
      have hms120_0 := NB228_208.out
      have hms120_1 := NB228_209.out
      have hms120_2 := NB228_210.out
      have hms120_3 := NB228_216.out
      have hs122 : w119.cell? ⟨gb228, 1, none⟩ = some (.slice none 0 0) := (blk_cell BK228.out 1).trans rfl
      have hfs122 := blk_frozen BK228.out 1
      have hns122_0 := NB208_228.out
      have hns122_1 := NB209_228.out
      have hns122_2 := NB210_228.out
      have hns122_3 := NB216_228.out
      have hms122_0 := NB228_208.out
      have hms122_1 := NB228_209.out
      have hms122_2 := NB228_210.out
      have hms122_3 := NB228_216.out
      refine skip_ (w1 := ?_) (by rfl) rfl ?_ ?_
      rotate_left
      ·go_simp
       rfl
      refine hK.out _ _ ⟨((cell_far (p := ⟨gb228, _, none⟩) NB209_228.out _).trans (((cell_far (p := ⟨gb228, _, none⟩) NB209_228.out _).trans (hHeld.1)))), ((cell_far (p := ⟨gb228, _, none⟩) NB209_228.out _).trans (((cell_far (p := ⟨gb228, _, none⟩) NB209_228.out _).trans (hHeld.2.1)))), ((cell_far (p := ⟨gb228, _, none⟩) NB208_228.out _).trans (((cell_far (p := ⟨gb228, _, none⟩) NB208_228.out _).trans (hHeld.2.2.1)))), ((cell_far (p := ⟨gb228, _, none⟩) NB208_228.out _).trans (((cell_far (p := ⟨gb228, _, none⟩) NB208_228.out _).trans (hHeld.2.2.2))))⟩ (fun hHeld => ?_)
      clear hK K
      refine pure_ (i := 10) (N := some 10) (v := ?_) (a' := ?_) #[true, true, true, true, true, true, true, true, true, true, true] rfl rfl (any_of HT_.out (by kernel_rfl)) (fun _ _ _ h => h) (Or.inl ⟨by rfl, ?_⟩) ?_ ?_
      rotate_left
      ·intro w'
       go_simp
       with_reducible rfl
      rotate_left
      ·simp only [Act.put, List.setIfInBounds_toArray, List.set_cons_zero, List.set_cons_succ, i64_w, i32_w]
       rfl
      refine done_ (done_of HT_.out (by kernel_rfl)) ?_
      have hnb123 := NB216_208.out
      have hnc123 := NB208_216.out
      have hnb124 := NB216_209.out
      have hnc124 := NB209_216.out
      have hnb125 := NB216_210.out
      have hnc125 := NB210_216.out
      have hnb126 := NB216_228.out
      have hnc126 := NB228_216.out
      obtain ⟨hcz127_0, hcz127_1⟩ := c2 BK216
      have hfz127_0 := blk_frozen BK216.out 0
      have hfz127_1 := blk_frozen BK216.out 1
      have hnb128 := NB210_208.out
      have hnc128 := NB208_210.out
      have hnb129 := NB210_209.out
      have hnc129 := NB209_210.out
      have hnb130 := NB210_228.out
      have hnc130 := NB228_210.out
      obtain ⟨hcz131_0, hcz131_1⟩ := c2 BK210
      have hfz131_0 := blk_frozen BK210.out 0
      have hfz131_1 := blk_frozen BK210.out 1
      have hnb132 := NB228_208.out
      have hnc132 := NB208_228.out
      have hnb133 := NB228_209.out
      have hnc133 := NB209_228.out
      obtain ⟨hcz134_0, hcz134_1⟩ := c2 BK228
      have hfz134_0 := blk_frozen BK228.out 0
      have hfz134_1 := blk_frozen BK228.out 1
      try go_wp2_with (first | ((with_reducible refine gate_callee (f := 70) rfl ?_); refine goesL_ (some 49) rfl rfl Try.func70 (by kernel_rfl) rfl #[.agg #[.int .i64 t211, .slice Ao20 t212.length co20], .int .i64 (wrap64 (-a2_0)), .agg #[.int .i64 t223, .slice Ao121 t224.length co121]] rfl (by (try simp only [List.map_toArray, List.map_cons, List.map_nil]); first | done | rfl | (simp only [List.length_drop, List.length_take]; rfl)) ?_; (with_reducible refine (spec_AddScaled.calls kj4 t211 _ _ t212 (wrap64 (-a2_0)) t223 _ _ t224 t229 t230 false _ ?side1 ?side2 ?side3 ?side4 A46.out).mono ?_); (case side1 => refine (Kd.R_reads' (e := 3) (base := w.heap.size) (ok := fun k_ => (some k_ ≠ (v221 : Value).ownBlock ∧ some k_ ≠ (.slice Ao121 t224.length co121 : Value).ownBlock)) (n := t212.length) (c := co20) ?_).2.2; exact (by (with_reducible repeat (first | apply Kd.R_alloc | apply Kd.R_drewN | apply Kd.R_drew)); exact (Kd.R_mono (Kd.R_far (p := ⟨gb228, 1, none⟩) (Kd.R_far (p := ⟨gb228, 0, none⟩) (Kd.R_types HO_217001.out BK228.out (by decide)) (fun _ hk => hk.2) (.int .i64 t223)) (fun _ hk => hk.2) (.slice Ao121 t224.length co121)) (fun _ h_ => h_.1)))); (case side2 => exact (Kd.R_reads' HO_217001.out).2.1); (case side3 => refine (Kd.R_reads' (e := 3) (base := w.heap.size) (ok := fun k_ => (some k_ ≠ (v221 : Value).ownBlock ∧ some k_ ≠ (.slice Ao20 t212.length co20 : Value).ownBlock)) (n := t224.length) (c := co121) ?_).2.2; exact (by (with_reducible repeat (first | apply Kd.R_alloc | apply Kd.R_drewN | apply Kd.R_drew)); exact (Kd.R_mono (Kd.R_far (p := ⟨gb228, 1, none⟩) (Kd.R_far (p := ⟨gb228, 0, none⟩) (Kd.R_types HO226.out BK228.out (by decide)) (fun _ hk => hk.2) (.int .i64 t223)) (fun _ hk => hk.2) (.slice Ao121 t224.length co121)) (fun _ h_ => h_.1)))); (case side4 => exact (Kd.R_reads' HO226.out).2.1); rintro e w135 ⟨v231, rfl, ho0, hb⟩; refine ⟨_, rfl, ?_⟩; have n0_ := Aside0.mk (Kd.R_elder' (by (with_reducible repeat (first | apply Kd.R_alloc | apply Kd.R_drewN | apply Kd.R_drew)); exact (Kd.R_mono (Kd.R_far (p := ⟨gb228, 1, none⟩) (Kd.R_far (p := ⟨gb228, 0, none⟩) (Kd.R_types HO_217001.out BK228.out (by decide)) (fun _ hk => hk.2) (.int .i64 t223)) (fun _ hk => hk.2) (.slice Ao121 t224.length co121)) (fun _ h_ => h_.1))) (Kd.R_base ho0) hb); have n1_ := Aside0.mk (Kd.R_elder' (by (with_reducible repeat (first | apply Kd.R_alloc | apply Kd.R_drewN | apply Kd.R_drew)); exact (Kd.R_mono (Kd.R_far (p := ⟨gb228, 1, none⟩) (Kd.R_far (p := ⟨gb228, 0, none⟩) (Kd.R_types HO222.out BK228.out (by decide)) (fun _ hk => hk.2) (.int .i64 t223)) (fun _ hk => hk.2) (.slice Ao121 t224.length co121)) (fun _ h_ => h_.1))) (Kd.R_base ho0) hb); have n2_ := Aside0.mk (Kd.R_elder' (by (with_reducible repeat (first | apply Kd.R_alloc | apply Kd.R_drewN | apply Kd.R_drew)); exact (Kd.R_mono (Kd.R_far (p := ⟨gb228, 1, none⟩) (Kd.R_far (p := ⟨gb228, 0, none⟩) (Kd.R_types HO226.out BK228.out (by decide)) (fun _ hk => hk.2) (.int .i64 t223)) (fun _ hk => hk.2) (.slice Ao121 t224.length co121)) (fun _ h_ => h_.1))) (Kd.R_base ho0) hb); have n3_ := Aside0.mk (Kd.R_lower (Kd.R_new' (Kd.R_new' (Kd.R_new' ho0 (Kd.R_lt (by (with_reducible repeat (first | apply Kd.R_alloc | apply Kd.R_drewN | apply Kd.R_drew)); exact (Kd.R_mono (Kd.R_far (p := ⟨gb228, 1, none⟩) (Kd.R_far (p := ⟨gb228, 0, none⟩) (Kd.R_types HO_217001.out BK228.out (by decide)) (fun _ hk => hk.2) (.int .i64 t223)) (fun _ hk => hk.2) (.slice Ao121 t224.length co121)) (fun _ h_ => h_.1))))) (Kd.R_lt (by (with_reducible repeat (first | apply Kd.R_alloc | apply Kd.R_drewN | apply Kd.R_drew)); exact (Kd.R_mono (Kd.R_far (p := ⟨gb228, 1, none⟩) (Kd.R_far (p := ⟨gb228, 0, none⟩) (Kd.R_types HO222.out BK228.out (by decide)) (fun _ hk => hk.2) (.int .i64 t223)) (fun _ hk => hk.2) (.slice Ao121 t224.length co121)) (fun _ h_ => h_.1))))) (Kd.R_lt (by (with_reducible repeat (first | apply Kd.R_alloc | apply Kd.R_drewN | apply Kd.R_drew)); exact (Kd.R_mono (Kd.R_far (p := ⟨gb228, 1, none⟩) (Kd.R_far (p := ⟨gb228, 0, none⟩) (Kd.R_types HO226.out BK228.out (by decide)) (fun _ hk => hk.2) (.int .i64 t223)) (fun _ hk => hk.2) (.slice Ao121 t224.length co121)) (fun _ h_ => h_.1))))) (below_size (ms HB))); have n4_ := bf BK208 hb; have n5_ := bf BK209 hb; have n6_ := bf BK210 hb; have n7_ := bf BK216 hb; have n8_ := Aside0.mk (blk_below (g := gb228) (o := .cells #[.int .i64 t223, .slice Ao121 t224.length co121] 36 (0, 0)) (by (with_reducible repeat (first | refine blk_drewN ?_ _ | refine blk_drew ?_ | refine blk_alloc ?_ _)); refine blk_put (cs := #[.int .i64 t223, .slice none 0 0]) ?_ 1 _ rfl; (with_reducible repeat (first | refine blk_drewN ?_ _ | refine blk_drew ?_ | refine blk_alloc ?_ _)); refine blk_put (cs := #[.int .i64 0, .slice none 0 0]) ?_ 0 _ rfl; (with_reducible repeat (first | refine blk_drewN ?_ _ | refine blk_drew ?_ | refine blk_alloc ?_ _)); exact BK228.out) hb); have n9_ := bs HB hb; clear HO_217001 HO222 HO226 BK208 BK209 BK210 BK216 BK228 HB; have HO_217001 := n0_; have HO222 := n1_; have HO226 := n2_; have HO232 := n3_; have BK208 := n4_; have BK209 := n5_; have BK210 := n6_; have BK216 := n7_; have BK228 := n8_; have HB := n9_; clear n0_ n1_ n2_ n3_ n4_ n5_ n6_ n7_ n8_ n9_; (try clear hb); (try clear ho0)) | ((with_reducible refine gate_dst (N := 11) rfl ?_); refine box_event ?hg (N := 11) ?hd (cs := #[.int .i64 0, .slice none 0 0]) (t := 36) ?hr ?_; (case hd => rfl); (case hg => rfl); (case hr => first | (go_simp; done) | (go_simp; rfl)); intro gb234 hg w136 hbox hb; replace HO_217001 := rb HO_217001 hb; replace HO222 := rb HO222 hb; replace HO226 := rb HO226 hb; replace HO232 := rb HO232 hb; have BK234 := Aside0.mk (hbox); have GW234 := gw hg HB; have GE234 := gw hg HB; replace HB := bs HB hb; have NB208_234 := nl hg BK208; have NB234_208 := ng hg BK208; replace BK208 := bb BK208 hb; have NB209_234 := nl hg BK209; have NB234_209 := ng hg BK209; replace BK209 := bb BK209 hb; have NB210_234 := nl hg BK210; have NB234_210 := ng hg BK210; replace BK210 := bb BK210 hb; have NB216_234 := nl hg BK216; have NB234_216 := ng hg BK216; replace BK216 := bb BK216 hb; have NB228_234 := nl hg BK228; have NB234_228 := ng hg BK228; replace BK228 := bb BK228 hb; clear hb hbox hg; have hnb137 := NB234_208.out; have hnc137 := NB208_234.out; have hnb138 := NB234_209.out; have hnc138 := NB209_234.out; have hnb139 := NB234_210.out; have hnc139 := NB210_234.out; have hnb140 := NB234_216.out; have hnc140 := NB216_234.out; have hnb141 := NB234_228.out; have hnc141 := NB228_234.out; obtain ⟨hcz142_0, hcz142_1⟩ := c2 BK234; have hfz142_0 := blk_frozen BK234.out 0; have hfz142_1 := blk_frozen BK234.out 1; obtain ⟨Ao143, co143, eo143⟩ := Kd.R_slice HO232.out; subst eo143))
      go_ret
      exact ⟨by first | rfl | (simp [errW_none, errW_some] <;> rfl) | (simp [*, errW_none, errW_some] <;> rfl), ms HB⟩
    ·replace c47 := Bool.eq_false_iff.mpr c47
     subst c47
     have H1 : (some false) = some r := by rw [if_neg (show ¬ (false = true) by decide)] at H; exact H
     clear H
     have H := H1
     clear H1
     obtain rfl := Option.some.inj H
     try go_wp2
     replace HO_217001 := Aside0.mk (Kd.R_drew HO_217001.out)
     replace BK208 := Aside0.mk (blk_drew BK208.out)
     replace BK209 := Aside0.mk (blk_drew BK209.out)
     replace BK210 := Aside0.mk (blk_drew BK210.out)
     replace BK216 := Aside0.mk (blk_drew BK216.out)
     replace HB := Aside0.mk (below_drew1 HB.out)
     refine start_ (n := 11) (S := fun w' => w'.cell? ⟨gb209, 0, none⟩ = some (.int .i64 a1_0) ∧ w'.cell? ⟨gb209, 1, none⟩ = some (.slice A1_1 l1_1.length c1_1) ∧ w'.cell? ⟨gb208, 0, none⟩ = some (.int .i64 a0_0) ∧ w'.cell? ⟨gb208, 1, none⟩ = some (.slice A0_1 l0_1.length c0_1)) (ds := []) #[false, false, false, false, false, false, false, false, false, false, false] (by kernel_rfl) rfl rfl ⟨(c2 BK209).1, (c2 BK209).2, (c2 BK208).1, (c2 BK208).2⟩ (fun hHeld => ?_); refine with_tabW spec_CheckFarkas.tab4 spec_CheckFarkas.bits4 (fun HT_ HW_ => ?_)
     generalize wc.drew = w144 at HO_217001 BK208 BK209 BK210 BK216 HB hHeld ⊢
     refine pure_ (i := 1) (N := some 37) (v := ?_) (a' := ?_) #[false, true, false, false, false, false, false, false, false, false, false] rfl rfl (any_of HT_.out (by kernel_rfl)) (fun _ _ _ h => h) (Or.inl ⟨by rfl, ?_⟩) ?_ ?_
     rotate_left
     ·intro w'
      go_simp
      with_reducible rfl
     rotate_left
     ·simp only [Act.put, List.setIfInBounds_toArray, List.set_cons_zero, List.set_cons_succ, i64_w, i32_w]
      rfl
     refine take_ (i := 0) (N := some 36) (v := ?_) (a' := ?_) #[true, true, false, false, false, false, false, false, false, false, false] rfl rfl (take_ofW HT_.out HW_.out (by kernel_rfl)) (fun _ _ _ h => h) (Or.inl ⟨by rfl, ?_⟩) hHeld ?_ ?_
     rotate_left
     ·rintro w' ⟨s0, s1, s2, s3⟩
      go_simp
      with_reducible rfl
     rotate_left
     ·simp only [Act.put, List.setIfInBounds_toArray, List.set_cons_zero, List.set_cons_succ, i64_w, i32_w]
      rfl
     refine take_ (i := 2) (N := some 38) (v := ?_) (a' := ?_) #[true, true, true, false, false, false, false, false, false, false, false] rfl rfl (take_ofW HT_.out HW_.out (by kernel_rfl)) (fun _ _ _ h => h) (Or.inl ⟨by rfl, ?_⟩) hHeld ?_ ?_
     rotate_left
     ·rintro w' ⟨s0, s1, s2, s3⟩
      go_simp
      with_reducible rfl
     rotate_left
     ·simp only [Act.put, List.setIfInBounds_toArray, List.set_cons_zero, List.set_cons_succ, i64_w, i32_w]
      rfl
     refine join_ (σ := Value × Value × Nat) 2 #[true, true, true, true, true, true, true, true, true, false, false] (fun s_ => [(39, .agg #[.int .i64 t219, s_.1]), (40, .tuple #[.agg #[.int .i64 t223, s_.2.1], .bool false]), (9, .pointer (some ⟨s_.2.2, 0, none⟩)), (35, .tuple #[.agg #[.int .i64 t223, s_.2.1], .bool false]), (41, .agg #[.int .i64 t223, s_.2.1]), (42, .bool false)]) (fun s_ w' => (w'.cell? ⟨gb209, 0, none⟩ = some (.int .i64 a1_0) ∧ w'.cell? ⟨gb209, 1, none⟩ = some (.slice A1_1 l1_1.length c1_1) ∧ w'.cell? ⟨gb208, 0, none⟩ = some (.int .i64 a0_0) ∧ w'.cell? ⟨gb208, 1, none⟩ = some (.slice A0_1 l0_1.length c0_1)) ∧ (Kd.R (Kd.int .i64) 3 w' w.heap.size (fun k_ => some k_ ≠ (s_.2.1 : Value).ownBlock ∧ some k_ ≠ (.slice Ao20 t212.length co20 : Value).ownBlock) s_.1 t220) ∧ (Kd.R (Kd.int .i64) 3 w' w.heap.size (fun k_ => some k_ ≠ (s_.1 : Value).ownBlock ∧ some k_ ≠ (.slice Ao20 t212.length co20 : Value).ownBlock) s_.2.1 t224) ∧ (Kd.R (Kd.int .i64) 3 w' w.heap.size (fun k_ => some k_ ≠ (s_.1 : Value).ownBlock ∧ some k_ ≠ (s_.2.1 : Value).ownBlock) (.slice Ao20 t212.length co20) t212) ∧ (w'.heap[gb208]? = some (.cells #[.int .i64 a0_0, .slice A0_1 l0_1.length c0_1] 32 (0, 0))) ∧ (w'.heap[gb209]? = some (.cells #[.int .i64 a1_0, .slice A1_1 l1_1.length c1_1] 36 (0, 0))) ∧ (w'.heap[gb210]? = some (.cells #[.int .i64 a2_0, .slice A2_1 l2_1.length c2_1] 65 (0, 0))) ∧ (w'.heap[gb216]? = some (.cells #[.int .i64 t211, .slice Ao20 t212.length co20] 36 (0, 0))) ∧ (w'.heap[s_.2.2]? = some (.cells #[.int .i64 0, .slice none 0 0] 36 (0, 0))) ∧ (w.heap.size ≤ s_.2.2) ∧ (w.heap.size ≤ s_.2.2) ∧ (gb208 ≠ s_.2.2) ∧ (s_.2.2 ≠ gb208) ∧ (gb209 ≠ s_.2.2) ∧ (s_.2.2 ≠ gb209) ∧ (gb210 ≠ s_.2.2) ∧ (s_.2.2 ≠ gb210) ∧ (gb216 ≠ s_.2.2) ∧ (s_.2.2 ≠ gb216) ∧ (Below w.heap.size w w')) ?_ ?_
     rotate_left
     ·intro hCont
      refine two_ (i := 3) (j := 8) (Ni := some 39) (Nj := some 9) #[true, true, true, true, false, false, false, false, false, false, false] #[true, true, true, false, false, false, false, false, true, false, false] rfl rfl rfl rfl (two_of HT_.out (by kernel_rfl)) (by decide) (by decide) (fun K hK => ?_) (fun K hK => ?_)
      ·skip
       refine goes_ Try.func69 (by kernel_rfl) rfl #[.int .i64 1, .int .i64 a0_0] (by rfl) rfl rfl (by (try simp only [List.map_toArray, List.map_cons, List.map_nil]); first | done | rfl | (simp only [List.length_drop, List.length_take]; rfl)) ?_
       with_reducible refine (spec_ConstLin.calls 1 a0_0 t219 t220 _ A44.out).mono ?_
       rintro e w145 ⟨v221, rfl, ho0, hb⟩
       refine ⟨_, rfl, ?_⟩
       have HO222 := Aside0.mk (Kd.R_lower (Kd.R_new' ho0 (Kd.R_lt (mr HO_217001))) (below_size (ms HB)))
       replace HO_217001 := rl HO_217001 ho0 hb
       replace BK208 := bb BK208 hb
       replace BK209 := bb BK209 hb
       replace BK210 := bb BK210 hb
       replace BK216 := bb BK216 hb
       replace HB := bs HB hb
       (try clear hb)
       (try clear hb2)
       (try clear hk)
       (try clear hi)
       (try clear ho0)
       obtain ⟨Ao146, co146, eo146⟩ := Kd.R_slice HO222.out
       (first | subst eo146 | (injection eo146 with f1_ f2_ f3_; have f4_ := f1_.symm; have f5_ := f3_.symm; clear f1_ f2_ f3_; subst f4_; subst f5_))
       refine hK.out _ _ ⟨(c2 BK209).1, (c2 BK209).2, (c2 BK208).1, (c2 BK208).2⟩ (fun hHeld => ?_)
       clear hK K
       refine norm_ (a' := ?_) ?_ ?_
       rotate_left
       ·show Act.put _ (some 39) _ = _
        simp only [Act.put, List.setIfInBounds_toArray, List.set_cons_zero, List.set_cons_succ, i64_w, i32_w]
        rfl
       refine two_ (i := 4) (j := 8) (Ni := some 40) (Nj := some 9) #[true, true, true, true, true, false, false, false, false, false, false] #[true, true, true, true, false, false, false, false, true, false, false] rfl rfl rfl rfl (two_of HT_.out (by kernel_rfl)) (by decide) (by decide) (fun K hK => ?_) (fun K hK => ?_)
       ·skip
        refine goes_ Try.func70 (by kernel_rfl) rfl #[.agg #[.int .i64 a1_0, .slice A1_1 l1_1.length c1_1], .int .i64 1, .agg #[.int .i64 t219, .slice Ao146 t220.length co146]] (by rfl) rfl rfl (by (try simp only [List.map_toArray, List.map_cons, List.map_nil]); first | done | rfl | (simp only [List.length_drop, List.length_take]; rfl)) ?_
        with_reducible refine (spec_AddScaled.calls kj4 a1_0 _ _ l1_1 1 t219 _ _ t220 t223 t224 false _ ?side1 ?side2 ?side3 ?side4 A45.out).mono ?_
        (case side1 => exact mc ((Kd.C_below HR1_1.out HB.out)))
        (case side2 => exact HC1_1.out)
        (case side3 => exact mc ((Kd.R_reads' HO222.out).2.2))
        (case side4 => exact (Kd.R_reads' HO222.out).2.1)
        rintro e w147 ⟨v225, rfl, ho0, hb⟩
        refine ⟨_, rfl, ?_⟩
        have HO226 := Aside0.mk (Kd.R_lower (Kd.R_new' (Kd.R_new' ho0 (Kd.R_lt (mr HO_217001))) (Kd.R_lt (mr HO222))) (below_size (ms HB)))
        replace HO_217001 := rl HO_217001 ho0 hb
        replace HO222 := rl HO222 ho0 hb
        replace BK208 := bb BK208 hb
        replace BK209 := bb BK209 hb
        replace BK210 := bb BK210 hb
        replace BK216 := bb BK216 hb
        replace HB := bs HB hb
        (try clear hb)
        (try clear hb2)
        (try clear hk)
        (try clear hi)
        (try clear ho0)
        refine hK.out _ _ ⟨(c2 BK209).1, (c2 BK209).2, (c2 BK208).1, (c2 BK208).2⟩ (fun hHeld => ?_)
        clear hK K
        refine norm_ (a' := ?_) ?_ ?_
        rotate_left
        ·show Act.put _ (some 40) _ = _
         simp only [Act.put, List.setIfInBounds_toArray, List.set_cons_zero, List.set_cons_succ, i64_w, i32_w]
         rfl
        refine pure_ (i := 5) (N := some 35) (v := ?_) (a' := ?_) #[true, true, true, true, true, true, false, false, false, false, false] rfl rfl (any_of HT_.out (by kernel_rfl)) (fun _ _ _ h => h) (Or.inl ⟨by rfl, ?_⟩) ?_ ?_
        rotate_left
        ·intro w'
         go_simp
         with_reducible rfl
        rotate_left
        ·simp only [Act.put, List.setIfInBounds_toArray, List.set_cons_zero, List.set_cons_succ, i64_w, i32_w]
         rfl
        refine pure_ (i := 6) (N := some 41) (v := ?_) (a' := ?_) #[true, true, true, true, true, true, true, false, false, false, false] rfl rfl (any_of HT_.out (by kernel_rfl)) (fun _ _ _ h => h) (Or.inl ⟨by rfl, ?_⟩) ?_ ?_
        rotate_left
        ·intro w'
         go_simp
         with_reducible rfl
        rotate_left
        ·simp only [Act.put, List.setIfInBounds_toArray, List.set_cons_zero, List.set_cons_succ, i64_w, i32_w]
         rfl
        refine pure_ (i := 7) (N := some 42) (v := ?_) (a' := ?_) #[true, true, true, true, true, true, true, true, false, false, false] rfl rfl (any_of HT_.out (by kernel_rfl)) (fun _ _ _ h => h) (Or.inl ⟨by rfl, ?_⟩) ?_ ?_
        rotate_left
        ·intro w'
         go_simp
         with_reducible rfl
        rotate_left
        ·simp only [Act.put, List.setIfInBounds_toArray, List.set_cons_zero, List.set_cons_succ, i64_w, i32_w]
         rfl
        refine one_ (i := 8) (N := some 9) #[true, true, true, true, true, true, true, true, true, false, false] rfl rfl (one_of HT_.out (by kernel_rfl)) (by decide) (fun K hK => ?_)
        refine box_step ?hg (N := 9) ?hd (cs := #[.int .i64 0, .slice none 0 0]) (t := 36) ?hr ?_; (case hd => rfl); (case hg => rfl); (case hr => first | (go_simp; done) | (go_simp; rfl))
        intro gb228 hg w148 hbox hb
        replace HO_217001 := rb HO_217001 hb
        replace HO222 := rb HO222 hb
        replace HO226 := rb HO226 hb
        have BK228 := Aside0.mk (hbox)
        have GW228 := gw hg HB
        have GE228 := gw hg HB
        replace HB := bs HB hb
        have NB208_228 := nl hg BK208
        have NB228_208 := ng hg BK208
        replace BK208 := bb BK208 hb
        have NB209_228 := nl hg BK209
        have NB228_209 := ng hg BK209
        replace BK209 := bb BK209 hb
        have NB210_228 := nl hg BK210
        have NB228_210 := ng hg BK210
        replace BK210 := bb BK210 hb
        have NB216_228 := nl hg BK216
        have NB228_216 := ng hg BK216
        replace BK216 := bb BK216 hb
        clear hb hbox hg
        refine hK.out _ _ ⟨(c2 BK209).1, (c2 BK209).2, (c2 BK208).1, (c2 BK208).2⟩ (fun hHeld => ?_)
        clear hK K
        refine norm_ (a' := ?_) ?_ ?_
        rotate_left
        ·show Act.put _ (some 9) _ = _
         simp only [Act.put, List.setIfInBounds_toArray, List.set_cons_zero, List.set_cons_succ, i64_w, i32_w]
         rfl
        exact norm_ (by simp only [putAll, Act.put, List.setIfInBounds_toArray, List.set_cons_zero, List.set_cons_succ]) (hCont (.slice Ao146 t220.length co146, v225, gb228) _ ⟨hHeld, (by (with_reducible repeat (first | apply Kd.R_alloc | apply Kd.R_drewN | apply Kd.R_drew)); exact Kd.R_mono HO222.out (fun _ hk => ⟨hk.2, hk.1.2⟩)), (by (with_reducible repeat (first | apply Kd.R_alloc | apply Kd.R_drewN | apply Kd.R_drew)); exact Kd.R_mono HO226.out (fun _ hk => ⟨hk.2, hk.1.2⟩)), (by (with_reducible repeat (first | apply Kd.R_alloc | apply Kd.R_drewN | apply Kd.R_drew)); exact Kd.R_mono HO_217001.out (fun _ hk => ⟨hk.1.2, hk.2⟩)), (mb BK208), (mb BK209), (mb BK210), (mb BK216), (mb BK228), GW228.out, GE228.out, NB208_228.out, NB228_208.out, NB209_228.out, NB228_209.out, NB210_228.out, NB228_210.out, NB216_228.out, NB228_216.out, (ms HB)⟩)
       ·skip
        refine box_step ?hg (N := 9) ?hd (cs := #[.int .i64 0, .slice none 0 0]) (t := 36) ?hr ?_; (case hd => rfl); (case hg => rfl); (case hr => first | (go_simp; done) | (go_simp; rfl))
        intro gb228 hg w146 hbox hb
        replace HO_217001 := rb HO_217001 hb
        replace HO222 := rb HO222 hb
        have BK228 := Aside0.mk (hbox)
        have GW228 := gw hg HB
        have GE228 := gw hg HB
        replace HB := bs HB hb
        have NB208_228 := nl hg BK208
        have NB228_208 := ng hg BK208
        replace BK208 := bb BK208 hb
        have NB209_228 := nl hg BK209
        have NB228_209 := ng hg BK209
        replace BK209 := bb BK209 hb
        have NB210_228 := nl hg BK210
        have NB228_210 := ng hg BK210
        replace BK210 := bb BK210 hb
        have NB216_228 := nl hg BK216
        have NB228_216 := ng hg BK216
        replace BK216 := bb BK216 hb
        clear hb hbox hg
        obtain ⟨Ao147, co147, eo147⟩ := Kd.R_slice HO222.out
        (first | subst eo147 | (injection eo147 with f1_ f2_ f3_; have f4_ := f1_.symm; have f5_ := f3_.symm; clear f1_ f2_ f3_; subst f4_; subst f5_))
        refine hK.out _ _ ⟨(c2 BK209).1, (c2 BK209).2, (c2 BK208).1, (c2 BK208).2⟩ (fun hHeld => ?_)
        clear hK K
        refine norm_ (a' := ?_) ?_ ?_
        rotate_left
        ·show Act.put _ (some 9) _ = _
         simp only [Act.put, List.setIfInBounds_toArray, List.set_cons_zero, List.set_cons_succ, i64_w, i32_w]
         rfl
        refine one_ (i := 4) (N := some 40) #[true, true, true, true, true, false, false, false, true, false, false] rfl rfl (one_of HT_.out (by kernel_rfl)) (by decide) (fun K hK => ?_)
        refine goes_ Try.func70 (by kernel_rfl) rfl #[.agg #[.int .i64 a1_0, .slice A1_1 l1_1.length c1_1], .int .i64 1, .agg #[.int .i64 t219, .slice Ao147 t220.length co147]] (by rfl) rfl rfl (by (try simp only [List.map_toArray, List.map_cons, List.map_nil]); first | done | rfl | (simp only [List.length_drop, List.length_take]; rfl)) ?_
        with_reducible refine (spec_AddScaled.calls kj4 a1_0 _ _ l1_1 1 t219 _ _ t220 t223 t224 false _ ?side1 ?side2 ?side3 ?side4 A45.out).mono ?_
        (case side1 => exact mc ((Kd.C_below HR1_1.out HB.out)))
        (case side2 => exact HC1_1.out)
        (case side3 => exact mc ((Kd.R_reads' HO222.out).2.2))
        (case side4 => exact (Kd.R_reads' HO222.out).2.1)
        rintro e w148 ⟨v225, rfl, ho0, hb⟩
        refine ⟨_, rfl, ?_⟩
        have HO226 := Aside0.mk (Kd.R_lower (Kd.R_new' (Kd.R_new' ho0 (Kd.R_lt (mr HO_217001))) (Kd.R_lt (mr HO222))) (below_size (ms HB)))
        replace HO_217001 := rl HO_217001 ho0 hb
        replace HO222 := rl HO222 ho0 hb
        replace BK208 := bb BK208 hb
        replace BK209 := bb BK209 hb
        replace BK210 := bb BK210 hb
        replace BK216 := bb BK216 hb
        replace BK228 := bb BK228 hb
        replace HB := bs HB hb
        (try clear hb)
        (try clear hb2)
        (try clear hk)
        (try clear hi)
        (try clear ho0)
        refine hK.out _ _ ⟨(c2 BK209).1, (c2 BK209).2, (c2 BK208).1, (c2 BK208).2⟩ (fun hHeld => ?_)
        clear hK K
        refine norm_ (a' := ?_) ?_ ?_
        rotate_left
        ·show Act.put _ (some 40) _ = _
         simp only [Act.put, List.setIfInBounds_toArray, List.set_cons_zero, List.set_cons_succ, i64_w, i32_w]
         rfl
        refine pure_ (i := 5) (N := some 35) (v := ?_) (a' := ?_) #[true, true, true, true, true, true, false, false, true, false, false] rfl rfl (any_of HT_.out (by kernel_rfl)) (fun _ _ _ h => h) (Or.inl ⟨by rfl, ?_⟩) ?_ ?_
        rotate_left
        ·intro w'
         go_simp
         with_reducible rfl
        rotate_left
        ·simp only [Act.put, List.setIfInBounds_toArray, List.set_cons_zero, List.set_cons_succ, i64_w, i32_w]
         rfl
        refine pure_ (i := 6) (N := some 41) (v := ?_) (a' := ?_) #[true, true, true, true, true, true, true, false, true, false, false] rfl rfl (any_of HT_.out (by kernel_rfl)) (fun _ _ _ h => h) (Or.inl ⟨by rfl, ?_⟩) ?_ ?_
        rotate_left
        ·intro w'
         go_simp
         with_reducible rfl
        rotate_left
        ·simp only [Act.put, List.setIfInBounds_toArray, List.set_cons_zero, List.set_cons_succ, i64_w, i32_w]
         rfl
        refine pure_ (i := 7) (N := some 42) (v := ?_) (a' := ?_) #[true, true, true, true, true, true, true, true, true, false, false] rfl rfl (any_of HT_.out (by kernel_rfl)) (fun _ _ _ h => h) (Or.inl ⟨by rfl, ?_⟩) ?_ ?_
        rotate_left
        ·intro w'
         go_simp
         with_reducible rfl
        rotate_left
        ·simp only [Act.put, List.setIfInBounds_toArray, List.set_cons_zero, List.set_cons_succ, i64_w, i32_w]
         rfl
        exact norm_ (by simp only [putAll, Act.put, List.setIfInBounds_toArray, List.set_cons_zero, List.set_cons_succ]) (hCont (.slice Ao147 t220.length co147, v225, gb228) _ ⟨hHeld, (by (with_reducible repeat (first | apply Kd.R_alloc | apply Kd.R_drewN | apply Kd.R_drew)); exact Kd.R_mono HO222.out (fun _ hk => ⟨hk.2, hk.1.2⟩)), (by (with_reducible repeat (first | apply Kd.R_alloc | apply Kd.R_drewN | apply Kd.R_drew)); exact Kd.R_mono HO226.out (fun _ hk => ⟨hk.2, hk.1.2⟩)), (by (with_reducible repeat (first | apply Kd.R_alloc | apply Kd.R_drewN | apply Kd.R_drew)); exact Kd.R_mono HO_217001.out (fun _ hk => ⟨hk.1.2, hk.2⟩)), (mb BK208), (mb BK209), (mb BK210), (mb BK216), (mb BK228), GW228.out, GE228.out, NB208_228.out, NB228_208.out, NB209_228.out, NB228_209.out, NB210_228.out, NB228_210.out, NB216_228.out, NB228_216.out, (ms HB)⟩)
      ·skip
       refine box_step ?hg (N := 9) ?hd (cs := #[.int .i64 0, .slice none 0 0]) (t := 36) ?hr ?_; (case hd => rfl); (case hg => rfl); (case hr => first | (go_simp; done) | (go_simp; rfl))
       intro gb228 hg w145 hbox hb
       replace HO_217001 := rb HO_217001 hb
       have BK228 := Aside0.mk (hbox)
       have GW228 := gw hg HB
       have GE228 := gw hg HB
       replace HB := bs HB hb
       have NB208_228 := nl hg BK208
       have NB228_208 := ng hg BK208
       replace BK208 := bb BK208 hb
       have NB209_228 := nl hg BK209
       have NB228_209 := ng hg BK209
       replace BK209 := bb BK209 hb
       have NB210_228 := nl hg BK210
       have NB228_210 := ng hg BK210
       replace BK210 := bb BK210 hb
       have NB216_228 := nl hg BK216
       have NB228_216 := ng hg BK216
       replace BK216 := bb BK216 hb
       clear hb hbox hg
       refine hK.out _ _ ⟨(c2 BK209).1, (c2 BK209).2, (c2 BK208).1, (c2 BK208).2⟩ (fun hHeld => ?_)
       clear hK K
       refine norm_ (a' := ?_) ?_ ?_
       rotate_left
       ·show Act.put _ (some 9) _ = _
        simp only [Act.put, List.setIfInBounds_toArray, List.set_cons_zero, List.set_cons_succ, i64_w, i32_w]
        rfl
       refine one_ (i := 3) (N := some 39) #[true, true, true, true, false, false, false, false, true, false, false] rfl rfl (one_of HT_.out (by kernel_rfl)) (by decide) (fun K hK => ?_)
       refine goes_ Try.func69 (by kernel_rfl) rfl #[.int .i64 1, .int .i64 a0_0] (by rfl) rfl rfl (by (try simp only [List.map_toArray, List.map_cons, List.map_nil]); first | done | rfl | (simp only [List.length_drop, List.length_take]; rfl)) ?_
       with_reducible refine (spec_ConstLin.calls 1 a0_0 t219 t220 _ A44.out).mono ?_
       rintro e w146 ⟨v221, rfl, ho0, hb⟩
       refine ⟨_, rfl, ?_⟩
       have HO222 := Aside0.mk (Kd.R_lower (Kd.R_new' ho0 (Kd.R_lt (mr HO_217001))) (below_size (ms HB)))
       replace HO_217001 := rl HO_217001 ho0 hb
       replace BK208 := bb BK208 hb
       replace BK209 := bb BK209 hb
       replace BK210 := bb BK210 hb
       replace BK216 := bb BK216 hb
       replace BK228 := bb BK228 hb
       replace HB := bs HB hb
       (try clear hb)
       (try clear hb2)
       (try clear hk)
       (try clear hi)
       (try clear ho0)
       obtain ⟨Ao147, co147, eo147⟩ := Kd.R_slice HO222.out
       (first | subst eo147 | (injection eo147 with f1_ f2_ f3_; have f4_ := f1_.symm; have f5_ := f3_.symm; clear f1_ f2_ f3_; subst f4_; subst f5_))
       refine hK.out _ _ ⟨(c2 BK209).1, (c2 BK209).2, (c2 BK208).1, (c2 BK208).2⟩ (fun hHeld => ?_)
       clear hK K
       refine norm_ (a' := ?_) ?_ ?_
       rotate_left
       ·show Act.put _ (some 39) _ = _
        simp only [Act.put, List.setIfInBounds_toArray, List.set_cons_zero, List.set_cons_succ, i64_w, i32_w]
        rfl
       refine one_ (i := 4) (N := some 40) #[true, true, true, true, true, false, false, false, true, false, false] rfl rfl (one_of HT_.out (by kernel_rfl)) (by decide) (fun K hK => ?_)
       refine goes_ Try.func70 (by kernel_rfl) rfl #[.agg #[.int .i64 a1_0, .slice A1_1 l1_1.length c1_1], .int .i64 1, .agg #[.int .i64 t219, .slice Ao147 t220.length co147]] (by rfl) rfl rfl (by (try simp only [List.map_toArray, List.map_cons, List.map_nil]); first | done | rfl | (simp only [List.length_drop, List.length_take]; rfl)) ?_
       with_reducible refine (spec_AddScaled.calls kj4 a1_0 _ _ l1_1 1 t219 _ _ t220 t223 t224 false _ ?side1 ?side2 ?side3 ?side4 A45.out).mono ?_
       (case side1 => exact mc ((Kd.C_below HR1_1.out HB.out)))
       (case side2 => exact HC1_1.out)
       (case side3 => exact mc ((Kd.R_reads' HO222.out).2.2))
       (case side4 => exact (Kd.R_reads' HO222.out).2.1)
       rintro e w148 ⟨v225, rfl, ho0, hb⟩
       refine ⟨_, rfl, ?_⟩
       have HO226 := Aside0.mk (Kd.R_lower (Kd.R_new' (Kd.R_new' ho0 (Kd.R_lt (mr HO_217001))) (Kd.R_lt (mr HO222))) (below_size (ms HB)))
       replace HO_217001 := rl HO_217001 ho0 hb
       replace HO222 := rl HO222 ho0 hb
       replace BK208 := bb BK208 hb
       replace BK209 := bb BK209 hb
       replace BK210 := bb BK210 hb
       replace BK216 := bb BK216 hb
       replace BK228 := bb BK228 hb
       replace HB := bs HB hb
       (try clear hb)
       (try clear hb2)
       (try clear hk)
       (try clear hi)
       (try clear ho0)
       refine hK.out _ _ ⟨(c2 BK209).1, (c2 BK209).2, (c2 BK208).1, (c2 BK208).2⟩ (fun hHeld => ?_)
       clear hK K
       refine norm_ (a' := ?_) ?_ ?_
       rotate_left
       ·show Act.put _ (some 40) _ = _
        simp only [Act.put, List.setIfInBounds_toArray, List.set_cons_zero, List.set_cons_succ, i64_w, i32_w]
        rfl
       refine pure_ (i := 5) (N := some 35) (v := ?_) (a' := ?_) #[true, true, true, true, true, true, false, false, true, false, false] rfl rfl (any_of HT_.out (by kernel_rfl)) (fun _ _ _ h => h) (Or.inl ⟨by rfl, ?_⟩) ?_ ?_
       rotate_left
       ·intro w'
        go_simp
        with_reducible rfl
       rotate_left
       ·simp only [Act.put, List.setIfInBounds_toArray, List.set_cons_zero, List.set_cons_succ, i64_w, i32_w]
        rfl
       refine pure_ (i := 6) (N := some 41) (v := ?_) (a' := ?_) #[true, true, true, true, true, true, true, false, true, false, false] rfl rfl (any_of HT_.out (by kernel_rfl)) (fun _ _ _ h => h) (Or.inl ⟨by rfl, ?_⟩) ?_ ?_
       rotate_left
       ·intro w'
        go_simp
        with_reducible rfl
       rotate_left
       ·simp only [Act.put, List.setIfInBounds_toArray, List.set_cons_zero, List.set_cons_succ, i64_w, i32_w]
        rfl
       refine pure_ (i := 7) (N := some 42) (v := ?_) (a' := ?_) #[true, true, true, true, true, true, true, true, true, false, false] rfl rfl (any_of HT_.out (by kernel_rfl)) (fun _ _ _ h => h) (Or.inl ⟨by rfl, ?_⟩) ?_ ?_
       rotate_left
       ·intro w'
        go_simp
        with_reducible rfl
       rotate_left
       ·simp only [Act.put, List.setIfInBounds_toArray, List.set_cons_zero, List.set_cons_succ, i64_w, i32_w]
        rfl
       exact norm_ (by simp only [putAll, Act.put, List.setIfInBounds_toArray, List.set_cons_zero, List.set_cons_succ]) (hCont (.slice Ao147 t220.length co147, v225, gb228) _ ⟨hHeld, (by (with_reducible repeat (first | apply Kd.R_alloc | apply Kd.R_drewN | apply Kd.R_drew)); exact Kd.R_mono HO222.out (fun _ hk => ⟨hk.2, hk.1.2⟩)), (by (with_reducible repeat (first | apply Kd.R_alloc | apply Kd.R_drewN | apply Kd.R_drew)); exact Kd.R_mono HO226.out (fun _ hk => ⟨hk.2, hk.1.2⟩)), (by (with_reducible repeat (first | apply Kd.R_alloc | apply Kd.R_drewN | apply Kd.R_drew)); exact Kd.R_mono HO_217001.out (fun _ hk => ⟨hk.1.2, hk.2⟩)), (mb BK208), (mb BK209), (mb BK210), (mb BK216), (mb BK228), GW228.out, GE228.out, NB208_228.out, NB228_208.out, NB209_228.out, NB228_209.out, NB210_228.out, NB228_210.out, NB216_228.out, NB228_216.out, (ms HB)⟩)
     rintro ⟨v221, v225, gb228⟩ w149 ⟨hS_, h0_, h1_, h2_, h3_, h4_, h5_, h6_, h7_, h8_, h9_, h10_, h11_, h12_, h13_, h14_, h15_, h16_, h17_, h18_⟩
     have n0_ : Aside0 (Kd.R (Kd.int .i64) 3 w149 w.heap.size (fun k_ => some k_ ≠ (v225 : Value).ownBlock ∧ some k_ ≠ (.slice Ao20 t212.length co20 : Value).ownBlock) v221 t220) := ⟨h0_⟩
     have n1_ : Aside0 (Kd.R (Kd.int .i64) 3 w149 w.heap.size (fun k_ => some k_ ≠ (v221 : Value).ownBlock ∧ some k_ ≠ (.slice Ao20 t212.length co20 : Value).ownBlock) v225 t224) := ⟨h1_⟩
     have n2_ : Aside0 (Kd.R (Kd.int .i64) 3 w149 w.heap.size (fun k_ => some k_ ≠ (v221 : Value).ownBlock ∧ some k_ ≠ (v225 : Value).ownBlock) (.slice Ao20 t212.length co20) t212) := ⟨h2_⟩
     have n3_ : Aside0 (w149.heap[gb208]? = some (.cells #[.int .i64 a0_0, .slice A0_1 l0_1.length c0_1] 32 (0, 0))) := ⟨h3_⟩
     have n4_ : Aside0 (w149.heap[gb209]? = some (.cells #[.int .i64 a1_0, .slice A1_1 l1_1.length c1_1] 36 (0, 0))) := ⟨h4_⟩
     have n5_ : Aside0 (w149.heap[gb210]? = some (.cells #[.int .i64 a2_0, .slice A2_1 l2_1.length c2_1] 65 (0, 0))) := ⟨h5_⟩
     have n6_ : Aside0 (w149.heap[gb216]? = some (.cells #[.int .i64 t211, .slice Ao20 t212.length co20] 36 (0, 0))) := ⟨h6_⟩
     have n7_ : Aside0 (w149.heap[gb228]? = some (.cells #[.int .i64 0, .slice none 0 0] 36 (0, 0))) := ⟨h7_⟩
     have n8_ : Aside0 (w.heap.size ≤ gb228) := ⟨h8_⟩
     have n9_ : Aside0 (w.heap.size ≤ gb228) := ⟨h9_⟩
     have n10_ : Aside0 (gb208 ≠ gb228) := ⟨h10_⟩
     have n11_ : Aside0 (gb228 ≠ gb208) := ⟨h11_⟩
     have n12_ : Aside0 (gb209 ≠ gb228) := ⟨h12_⟩
     have n13_ : Aside0 (gb228 ≠ gb209) := ⟨h13_⟩
     have n14_ : Aside0 (gb210 ≠ gb228) := ⟨h14_⟩
     have n15_ : Aside0 (gb228 ≠ gb210) := ⟨h15_⟩
     have n16_ : Aside0 (gb216 ≠ gb228) := ⟨h16_⟩
     have n17_ : Aside0 (gb228 ≠ gb216) := ⟨h17_⟩
     have n18_ : Aside0 (Below w.heap.size w w149) := ⟨h18_⟩
     clear HO_217001
     clear BK208
     clear BK209
     clear BK210
     clear BK216
     clear HB
     clear h0_ h1_ h2_ h3_ h4_ h5_ h6_ h7_ h8_ h9_ h10_ h11_ h12_ h13_ h14_ h15_ h16_ h17_ h18_
     have HO222 := n0_
     have HO226 := n1_
     have HO_217001 := n2_
     have BK208 := n3_
     have BK209 := n4_
     have BK210 := n5_
     have BK216 := n6_
     have BK228 := n7_
     have GW228 := n8_
     have GE228 := n9_
     have NB208_228 := n10_
     have NB228_208 := n11_
     have NB209_228 := n12_
     have NB228_209 := n13_
     have NB210_228 := n14_
     have NB228_210 := n15_
     have NB216_228 := n16_
     have NB228_216 := n17_
     have HB := n18_
     clear n0_ n1_ n2_ n3_ n4_ n5_ n6_ n7_ n8_ n9_ n10_ n11_ n12_ n13_ n14_ n15_ n16_ n17_ n18_
     have hHeld : w149.cell? ⟨gb209, 0, none⟩ = some (.int .i64 a1_0) ∧ w149.cell? ⟨gb209, 1, none⟩ = some (.slice A1_1 l1_1.length c1_1) ∧ w149.cell? ⟨gb208, 0, none⟩ = some (.int .i64 a0_0) ∧ w149.cell? ⟨gb208, 1, none⟩ = some (.slice A0_1 l0_1.length c0_1) := hS_
     obtain ⟨Ao151, co151, eo151⟩ := Kd.R_slice HO226.out
     (first | subst eo151 | (injection eo151 with f1_ f2_ f3_; have f4_ := f1_.symm; have f5_ := f3_.symm; clear f1_ f2_ f3_; subst f4_; subst f5_))
     refine norm_ (a' := ?_) ?_ ?_
     rotate_left
     ·simp only [putAll, Act.put, List.setIfInBounds_toArray, List.set_cons_zero, List.set_cons_succ]
      rfl
     refine one_ (i := 9) (N := none) #[true, true, true, true, true, true, true, true, true, true, false] rfl rfl (one_of HT_.out (by kernel_rfl)) (by decide) (fun K hK => ?_)
     have hs150 : w149.cell? ⟨gb228, 0, none⟩ = some (.int .i64 0) := (blk_cell BK228.out 0).trans rfl
     have hfs150 := blk_frozen BK228.out 0
     have hns150_0 := NB208_228.out
     have hns150_1 := NB209_228.out
     have hns150_2 := NB210_228.out
     have hns150_3 := NB216_228.out
     have hms150_0 := NB228_208.out
     have hms150_1 := NB228_209.out
     have hms150_2 := NB228_210.out
     have hms150_3 := NB228_216.out
     have hs152 : w149.cell? ⟨gb228, 1, none⟩ = some (.slice none 0 0) := (blk_cell BK228.out 1).trans rfl
     have hfs152 := blk_frozen BK228.out 1
     have hns152_0 := NB208_228.out
     have hns152_1 := NB209_228.out
     have hns152_2 := NB210_228.out
     have hns152_3 := NB216_228.out
     have hms152_0 := NB228_208.out
     have hms152_1 := NB228_209.out
     have hms152_2 := NB228_210.out
     have hms152_3 := NB228_216.out
     refine skip_ (w1 := ?_) (by rfl) rfl ?_ ?_
     rotate_left
     ·go_simp
      rfl
     refine hK.out _ _ ⟨((cell_far (p := ⟨gb228, _, none⟩) NB209_228.out _).trans (((cell_far (p := ⟨gb228, _, none⟩) NB209_228.out _).trans (hHeld.1)))), ((cell_far (p := ⟨gb228, _, none⟩) NB209_228.out _).trans (((cell_far (p := ⟨gb228, _, none⟩) NB209_228.out _).trans (hHeld.2.1)))), ((cell_far (p := ⟨gb228, _, none⟩) NB208_228.out _).trans (((cell_far (p := ⟨gb228, _, none⟩) NB208_228.out _).trans (hHeld.2.2.1)))), ((cell_far (p := ⟨gb228, _, none⟩) NB208_228.out _).trans (((cell_far (p := ⟨gb228, _, none⟩) NB208_228.out _).trans (hHeld.2.2.2))))⟩ (fun hHeld => ?_)
     clear hK K
     refine pure_ (i := 10) (N := some 10) (v := ?_) (a' := ?_) #[true, true, true, true, true, true, true, true, true, true, true] rfl rfl (any_of HT_.out (by kernel_rfl)) (fun _ _ _ h => h) (Or.inl ⟨by rfl, ?_⟩) ?_ ?_
     rotate_left
     ·intro w'
      go_simp
      with_reducible rfl
     rotate_left
     ·simp only [Act.put, List.setIfInBounds_toArray, List.set_cons_zero, List.set_cons_succ, i64_w, i32_w]
      rfl
     refine done_ (done_of HT_.out (by kernel_rfl)) ?_
     have hnb153 := NB216_208.out
     have hnc153 := NB208_216.out
     have hnb154 := NB216_209.out
     have hnc154 := NB209_216.out
     have hnb155 := NB216_210.out
     have hnc155 := NB210_216.out
     have hnb156 := NB216_228.out
     have hnc156 := NB228_216.out
     obtain ⟨hcz157_0, hcz157_1⟩ := c2 BK216
     have hfz157_0 := blk_frozen BK216.out 0
     have hfz157_1 := blk_frozen BK216.out 1
     have hnb158 := NB210_208.out
     have hnc158 := NB208_210.out
     have hnb159 := NB210_209.out
     have hnc159 := NB209_210.out
     have hnb160 := NB210_228.out
     have hnc160 := NB228_210.out
     obtain ⟨hcz161_0, hcz161_1⟩ := c2 BK210
     have hfz161_0 := blk_frozen BK210.out 0
     have hfz161_1 := blk_frozen BK210.out 1
     have hnb162 := NB228_208.out
     have hnc162 := NB208_228.out
     have hnb163 := NB228_209.out
     have hnc163 := NB209_228.out
     obtain ⟨hcz164_0, hcz164_1⟩ := c2 BK228
     have hfz164_0 := blk_frozen BK228.out 0
     have hfz164_1 := blk_frozen BK228.out 1
     try go_wp2_with (first | ((with_reducible refine gate_callee (f := 70) rfl ?_); refine goesL_ (some 49) rfl rfl Try.func70 (by kernel_rfl) rfl #[.agg #[.int .i64 t211, .slice Ao20 t212.length co20], .int .i64 (wrap64 (-a2_0)), .agg #[.int .i64 t223, .slice Ao151 t224.length co151]] rfl (by (try simp only [List.map_toArray, List.map_cons, List.map_nil]); first | done | rfl | (simp only [List.length_drop, List.length_take]; rfl)) ?_; (with_reducible refine (spec_AddScaled.calls kj4 t211 _ _ t212 (wrap64 (-a2_0)) t223 _ _ t224 t229 t230 t233 _ ?side1 ?side2 ?side3 ?side4 A46.out).mono ?_); (case side1 => refine (Kd.R_reads' (e := 3) (base := w.heap.size) (ok := fun k_ => (some k_ ≠ (v221 : Value).ownBlock ∧ some k_ ≠ (.slice Ao151 t224.length co151 : Value).ownBlock)) (n := t212.length) (c := co20) ?_).2.2; exact (by (with_reducible repeat (first | apply Kd.R_alloc | apply Kd.R_drewN | apply Kd.R_drew)); exact (Kd.R_mono (Kd.R_far (p := ⟨gb228, 1, none⟩) (Kd.R_far (p := ⟨gb228, 0, none⟩) (Kd.R_types HO_217001.out BK228.out (by decide)) (fun _ hk => hk.2) (.int .i64 t223)) (fun _ hk => hk.2) (.slice Ao151 t224.length co151)) (fun _ h_ => h_.1)))); (case side2 => exact (Kd.R_reads' HO_217001.out).2.1); (case side3 => refine (Kd.R_reads' (e := 3) (base := w.heap.size) (ok := fun k_ => (some k_ ≠ (v221 : Value).ownBlock ∧ some k_ ≠ (.slice Ao20 t212.length co20 : Value).ownBlock)) (n := t224.length) (c := co151) ?_).2.2; exact (by (with_reducible repeat (first | apply Kd.R_alloc | apply Kd.R_drewN | apply Kd.R_drew)); exact (Kd.R_mono (Kd.R_far (p := ⟨gb228, 1, none⟩) (Kd.R_far (p := ⟨gb228, 0, none⟩) (Kd.R_types HO226.out BK228.out (by decide)) (fun _ hk => hk.2) (.int .i64 t223)) (fun _ hk => hk.2) (.slice Ao151 t224.length co151)) (fun _ h_ => h_.1)))); (case side4 => exact (Kd.R_reads' HO226.out).2.1); rintro e w165 ⟨v231, rfl, ho0, hb⟩; refine ⟨_, rfl, ?_⟩; have n0_ := Aside0.mk (Kd.R_elder' (by (with_reducible repeat (first | apply Kd.R_alloc | apply Kd.R_drewN | apply Kd.R_drew)); exact (Kd.R_mono (Kd.R_far (p := ⟨gb228, 1, none⟩) (Kd.R_far (p := ⟨gb228, 0, none⟩) (Kd.R_types HO_217001.out BK228.out (by decide)) (fun _ hk => hk.2) (.int .i64 t223)) (fun _ hk => hk.2) (.slice Ao151 t224.length co151)) (fun _ h_ => h_.1))) (Kd.R_base ho0) hb); have n1_ := Aside0.mk (Kd.R_elder' (by (with_reducible repeat (first | apply Kd.R_alloc | apply Kd.R_drewN | apply Kd.R_drew)); exact (Kd.R_mono (Kd.R_far (p := ⟨gb228, 1, none⟩) (Kd.R_far (p := ⟨gb228, 0, none⟩) (Kd.R_types HO222.out BK228.out (by decide)) (fun _ hk => hk.2) (.int .i64 t223)) (fun _ hk => hk.2) (.slice Ao151 t224.length co151)) (fun _ h_ => h_.1))) (Kd.R_base ho0) hb); have n2_ := Aside0.mk (Kd.R_elder' (by (with_reducible repeat (first | apply Kd.R_alloc | apply Kd.R_drewN | apply Kd.R_drew)); exact (Kd.R_mono (Kd.R_far (p := ⟨gb228, 1, none⟩) (Kd.R_far (p := ⟨gb228, 0, none⟩) (Kd.R_types HO226.out BK228.out (by decide)) (fun _ hk => hk.2) (.int .i64 t223)) (fun _ hk => hk.2) (.slice Ao151 t224.length co151)) (fun _ h_ => h_.1))) (Kd.R_base ho0) hb); have n3_ := Aside0.mk (Kd.R_lower (Kd.R_new' (Kd.R_new' (Kd.R_new' ho0 (Kd.R_lt (by (with_reducible repeat (first | apply Kd.R_alloc | apply Kd.R_drewN | apply Kd.R_drew)); exact (Kd.R_mono (Kd.R_far (p := ⟨gb228, 1, none⟩) (Kd.R_far (p := ⟨gb228, 0, none⟩) (Kd.R_types HO_217001.out BK228.out (by decide)) (fun _ hk => hk.2) (.int .i64 t223)) (fun _ hk => hk.2) (.slice Ao151 t224.length co151)) (fun _ h_ => h_.1))))) (Kd.R_lt (by (with_reducible repeat (first | apply Kd.R_alloc | apply Kd.R_drewN | apply Kd.R_drew)); exact (Kd.R_mono (Kd.R_far (p := ⟨gb228, 1, none⟩) (Kd.R_far (p := ⟨gb228, 0, none⟩) (Kd.R_types HO222.out BK228.out (by decide)) (fun _ hk => hk.2) (.int .i64 t223)) (fun _ hk => hk.2) (.slice Ao151 t224.length co151)) (fun _ h_ => h_.1))))) (Kd.R_lt (by (with_reducible repeat (first | apply Kd.R_alloc | apply Kd.R_drewN | apply Kd.R_drew)); exact (Kd.R_mono (Kd.R_far (p := ⟨gb228, 1, none⟩) (Kd.R_far (p := ⟨gb228, 0, none⟩) (Kd.R_types HO226.out BK228.out (by decide)) (fun _ hk => hk.2) (.int .i64 t223)) (fun _ hk => hk.2) (.slice Ao151 t224.length co151)) (fun _ h_ => h_.1))))) (below_size (ms HB))); have n4_ := bf BK208 hb; have n5_ := bf BK209 hb; have n6_ := bf BK210 hb; have n7_ := bf BK216 hb; have n8_ := Aside0.mk (blk_below (g := gb228) (o := .cells #[.int .i64 t223, .slice Ao151 t224.length co151] 36 (0, 0)) (by (with_reducible repeat (first | refine blk_drewN ?_ _ | refine blk_drew ?_ | refine blk_alloc ?_ _)); refine blk_put (cs := #[.int .i64 t223, .slice none 0 0]) ?_ 1 _ rfl; (with_reducible repeat (first | refine blk_drewN ?_ _ | refine blk_drew ?_ | refine blk_alloc ?_ _)); refine blk_put (cs := #[.int .i64 0, .slice none 0 0]) ?_ 0 _ rfl; (with_reducible repeat (first | refine blk_drewN ?_ _ | refine blk_drew ?_ | refine blk_alloc ?_ _)); exact BK228.out) hb); have n9_ := bs HB hb; clear HO_217001 HO222 HO226 BK208 BK209 BK210 BK216 BK228 HB; have HO_217001 := n0_; have HO222 := n1_; have HO226 := n2_; have HO232 := n3_; have BK208 := n4_; have BK209 := n5_; have BK210 := n6_; have BK216 := n7_; have BK228 := n8_; have HB := n9_; clear n0_ n1_ n2_ n3_ n4_ n5_ n6_ n7_ n8_ n9_; (try clear hb); (try clear ho0)) | ((with_reducible refine gate_dst (N := 11) rfl ?_); refine box_event ?hg (N := 11) ?hd (cs := #[.int .i64 0, .slice none 0 0]) (t := 36) ?hr ?_; (case hd => rfl); (case hg => rfl); (case hr => first | (go_simp; done) | (go_simp; rfl)); intro gb234 hg w166 hbox hb; replace HO_217001 := rb HO_217001 hb; replace HO222 := rb HO222 hb; replace HO226 := rb HO226 hb; replace HO232 := rb HO232 hb; have BK234 := Aside0.mk (hbox); have GW234 := gw hg HB; have GE234 := gw hg HB; replace HB := bs HB hb; have NB208_234 := nl hg BK208; have NB234_208 := ng hg BK208; replace BK208 := bb BK208 hb; have NB209_234 := nl hg BK209; have NB234_209 := ng hg BK209; replace BK209 := bb BK209 hb; have NB210_234 := nl hg BK210; have NB234_210 := ng hg BK210; replace BK210 := bb BK210 hb; have NB216_234 := nl hg BK216; have NB234_216 := ng hg BK216; replace BK216 := bb BK216 hb; have NB228_234 := nl hg BK228; have NB234_228 := ng hg BK228; replace BK228 := bb BK228 hb; clear hb hbox hg; have hnb167 := NB234_208.out; have hnc167 := NB208_234.out; have hnb168 := NB234_209.out; have hnc168 := NB209_234.out; have hnb169 := NB234_210.out; have hnc169 := NB210_234.out; have hnb170 := NB234_216.out; have hnc170 := NB216_234.out; have hnb171 := NB234_228.out; have hnc171 := NB228_234.out; obtain ⟨hcz172_0, hcz172_1⟩ := c2 BK234; have hfz172_0 := blk_frozen BK234.out 0; have hfz172_1 := blk_frozen BK234.out 1; obtain ⟨Ao173, co173, eo173⟩ := Kd.R_slice HO232.out; subst eo173))
     go_ret
     exact ⟨by first | rfl | (simp [errW_none, errW_some] <;> rfl) | (simp [*, errW_none, errW_some] <;> rfl), ms HB⟩

end Go.Proofs.Ytghiljjkaiggfaa.QFnExactCheckFarkas
