-- Made by a program of this claim's own (wip/print): not the kit's print as it stands.
import Derived.Test.YtlencemmlgkflaaUFnExactCombineRowsTri
import Derived.Test.YtlencemmlgkflaaQFnExactCombineRowsx0
import Derived.Test.YtlencemmlgkflaaQFnExactCombineRowsx6
namespace Go.Proofs.Ytlencemmlgkflaa.QFnExactCombineRows
open Go.RowKit Go.Proofs.YtlencemmlgkflaaV.PrintWords Go.Proofs.YtlencemmlgkflaaV.PrintLast Go.Proofs.YtlencemmlgkflaaV.PrintMore
attribute [local go_sem] max2_int min2_int max_two min_two max_three min_three max_four min_four   -- for this text's walks alone
set_option linter.unusedVariables false
set_option linter.unusedSimpArgs false

/-! ### impl_AddScaled: function 75 -/
mutual
def impl_AddScaled.j0 : Nat → Int → Int → Bool → Int → List Int → Int → List Int → Option (Int × List Int × Bool)
 | 0, _, _, _, _, _, _, _ => none
 | k + 1, x1, x8, x32, x239000, x239001, x240000, x240001 => if x32 = true then (some (0, ([] : List Int), false)) else ((impl_ConstLin.f 0 x8).bind fun bt244 => ((impl_scaled.f x239000 x1 x240000).bind fun bt249 => (impl_AddScaled.l0 k x1 bt249.2 (x239001.length : Int) 0 x239000 x239001 x240000 x240001 bt249.1 bt244.2)))
def impl_AddScaled.l0 : Nat → Int → Bool → Int → Int → Int → List Int → Int → List Int → Int → List Int → Option (Int × List Int × Bool)
 | 0, _, _, _, _, _, _, _, _, _, _ => none
 | k + 1, x1, x11, x49, x50, x239000, x239001, x240000, x240001, x249000, x249001 => if x50 < x49 then (if 0 ≤ x50 then (if x50 < (x239001.length : Int) then (if x50 < (x240001.length : Int) then ((impl_scaled.f (rd x239001 x50) x1 (rd x240001 x50)).bind fun bt253 => (if x50 < (x249001.length : Int) then ((some (x249001.set (x50 : Int).toNat bt253.1 : List Int)).bind fun y255 => (if x11 = true then (impl_AddScaled.l0 k x1 bt253.2 x49 (wrap64 (x50 + 1)) x239000 x239001 x240000 x240001 x249000 y255) else (impl_AddScaled.l0 k x1 false x49 (wrap64 (x50 + 1)) x239000 x239001 x240000 x240001 x249000 y255))) else (none))) else (none)) else (none)) else (none)) else (if x11 = true then (some (x249000, x249001, true)) else (some (0, ([] : List Int), false)))
end
def impl_AddScaled.f (k : Nat) (a0_0 : Int) (l0_1 : List Int) (a1 : Int) (a2_0 : Int) (l2_1 : List Int) : Option (Int × List Int × Bool) := (impl_IsValidLin.f k a0_0 l0_1 (l0_1.length : Int)).bind fun t241 => (if t241 = true then ((impl_IsValidLin.f k a2_0 l2_1 (l0_1.length : Int)).bind fun t242 => (if t242 = true then ((impl_coeffOk.f a1).bind fun t243 => (impl_AddScaled.j0 k a1 (l0_1.length : Int) (!t243) a0_0 l0_1 a2_0 l2_1)) else (impl_AddScaled.j0 k a1 (l0_1.length : Int) true a0_0 l0_1 a2_0 l2_1))) else (impl_AddScaled.j0 k a1 (l0_1.length : Int) true a0_0 l0_1 a2_0 l2_1))
theorem impl_AddScaled.mono_l : ∀ k, (∀ y0 y1 y2 y3 y4 y5 y6, LeO (impl_AddScaled.j0 k y0 y1 y2 y3 y4 y5 y6) (impl_AddScaled.j0 (k + 1) y0 y1 y2 y3 y4 y5 y6)) ∧ (∀ y0 y1 y2 y3 y4 y5 y6 y7 y8 y9, LeO (impl_AddScaled.l0 k y0 y1 y2 y3 y4 y5 y6 y7 y8 y9) (impl_AddScaled.l0 (k + 1) y0 y1 y2 y3 y4 y5 y6 y7 y8 y9))
 | 0 => ⟨fun _ _ _ _ _ _ _ r h => by simp [impl_AddScaled.j0] at h, fun _ _ _ _ _ _ _ _ _ _ r h => by simp [impl_AddScaled.l0] at h⟩
 | k + 1 => by
  obtain ⟨ih0, ih1⟩ := impl_AddScaled.mono_l k
  refine ⟨?_, ?_⟩
  ·intro y0 y1 y2 y3 y4 y5 y6
   unfold impl_AddScaled.j0
   repeat' first
   | (with_reducible exact ih0 _ _ _ _ _ _ _)
   | (with_reducible exact ih1 _ _ _ _ _ _ _ _ _ _)
   | (with_reducible exact impl_IsValidLin.mono _ _ _ _)
   | (with_reducible exact LeO.refl _)
   | (with_reducible exact LeO.none _)
   | (with_reducible refine LeO.ite ?_ ?_)
   | (with_reducible refine LeO.bind ?_ (fun _ => ?_))
   | exact ih0 _ _ _ _ _ _ _
   | exact ih1 _ _ _ _ _ _ _ _ _ _
   | exact impl_IsValidLin.mono _ _ _ _
   | exact LeO.none _
   | refine LeO.ite ?_ ?_
   | refine LeO.bind ?_ (fun _ => ?_)
  ·intro y0 y1 y2 y3 y4 y5 y6 y7 y8 y9
   unfold impl_AddScaled.l0
   repeat' first
   | (with_reducible exact ih0 _ _ _ _ _ _ _)
   | (with_reducible exact ih1 _ _ _ _ _ _ _ _ _ _)
   | (with_reducible exact impl_IsValidLin.mono _ _ _ _)
   | (with_reducible exact LeO.refl _)
   | (with_reducible exact LeO.none _)
   | (with_reducible refine LeO.ite ?_ ?_)
   | (with_reducible refine LeO.bind ?_ (fun _ => ?_))
   | exact ih0 _ _ _ _ _ _ _
   | exact ih1 _ _ _ _ _ _ _ _ _ _
   | exact impl_IsValidLin.mono _ _ _ _
   | exact LeO.none _
   | refine LeO.ite ?_ ?_
   | refine LeO.bind ?_ (fun _ => ?_)
theorem impl_AddScaled.mono : ∀ a0 a1 a2 a3 a4 k, LeO (impl_AddScaled.f k a0 a1 a2 a3 a4) (impl_AddScaled.f (k + 1) a0 a1 a2 a3 a4) := by
 intro a0 a1 a2 a3 a4 k
 obtain ⟨ih0, ih1⟩ := impl_AddScaled.mono_l k
 unfold impl_AddScaled.f
 repeat' first
   | (with_reducible exact ih0 _ _ _ _ _ _ _)
   | (with_reducible exact ih1 _ _ _ _ _ _ _ _ _ _)
   | (with_reducible exact impl_IsValidLin.mono _ _ _ _)
   | (with_reducible exact LeO.refl _)
   | (with_reducible exact LeO.none _)
   | (with_reducible refine LeO.ite ?_ ?_)
   | (with_reducible refine LeO.bind ?_ (fun _ => ?_))
   | exact ih0 _ _ _ _ _ _ _
   | exact ih1 _ _ _ _ _ _ _ _ _ _
   | exact impl_IsValidLin.mono _ _ _ _
   | exact LeO.none _
   | refine LeO.ite ?_ ?_
   | refine LeO.bind ?_ (fun _ => ?_)
set_option maxHeartbeats 8000000 in
set_option maxRecDepth 100000 in
theorem impl_AddScaled.calls (k : Nat) (a0_0 : Int) (A0_1 : Option Addr) (c0_1 : Nat) (l0_1 : List Int) (a1 : Int) (a2_0 : Int) (A2_1 : Option Addr) (c2_1 : Nat) (l2_1 : List Int) (r1 : Int) (r2 : List Int) (r3 : Bool) (w : World) (hr0_1 : Kd.C (Kd.int .i64) w A0_1 l0_1.length l0_1) (hc0_1 : l0_1.length ≤ c0_1) (hr2_1 : Kd.C (Kd.int .i64) w A2_1 l2_1.length l2_1) (hc2_1 : l2_1.length ≤ c2_1) (h : impl_AddScaled.f k a0_0 l0_1 a1 a2_0 l2_1 = some (r1, r2, r3)) :
  Calls Try.prog 75 #[.agg #[.int .i64 a0_0, .slice A0_1 l0_1.length c0_1], .int .i64 a1, .agg #[.int .i64 a2_0, .slice A2_1 l2_1.length c2_1]] w fun e w' => ∃ v1_ : Value, e = .returned (.tuple #[.agg #[.int .i64 r1, v1_], .bool r3]) ∧ Kd.R (Kd.int .i64) 3 w' w.heap.size (fun _ => True) v1_ r2 ∧ Below w.heap.size w w' := by
 have hu29 := Try.underlying29
 have HR0_1 := Aside0.mk hr0_1
 have HC0_1 := Aside0.mk hc0_1
 clear hr0_1 hc0_1
 have HR2_1 := Aside0.mk hr2_1
 have HC2_1 := Aside0.mk hc2_1
 clear hr2_1 hc2_1
 have HB := Aside0.mk (Below.refl w.heap.size w)
 have H : ((impl_IsValidLin.f k a0_0 l0_1 (l0_1.length : Int)).bind fun t241 => (if t241 = true then ((impl_IsValidLin.f k a2_0 l2_1 (l0_1.length : Int)).bind fun t242 => (if t242 = true then ((impl_coeffOk.f a1).bind fun t243 => (impl_AddScaled.j0 k a1 (l0_1.length : Int) (!t243) a0_0 l0_1 a2_0 l2_1)) else (impl_AddScaled.j0 k a1 (l0_1.length : Int) true a0_0 l0_1 a2_0 l2_1))) else (impl_AddScaled.j0 k a1 (l0_1.length : Int) true a0_0 l0_1 a2_0 l2_1))) = some (r1, r2, r3) := h
 clear h
 have HC4 := Aside0.mk H
 clear H
 go_enter Try.func75, Try.ntmps75
 go_upto_region 2 with (first | ((with_reducible refine gate_dst (N := 3) rfl ?_); refine box_event ?hg (N := 3) ?hd (cs := #[.int .i64 a0_0, .slice A0_1 l0_1.length c0_1]) (t := 29) ?hr ?_; (case hd => rfl); (case hg => rfl); (case hr => first | (go_simp; done) | (go_simp; rfl)); intro gb238 hg w5 hbox hb; have BK238 := Aside0.mk (hbox); have GW238 := gw hg HB; have GE238 := gw hg HB; replace HB := bs HB hb; clear hb hbox hg) | ((with_reducible refine gate_dst (N := 5) rfl ?_); refine box_event ?hg (N := 5) ?hd (cs := #[.int .i64 a2_0, .slice A2_1 l2_1.length c2_1]) (t := 29) ?hr ?_; (case hd => rfl); (case hg => rfl); (case hr => first | (go_simp; done) | (go_simp; rfl)); intro gb239 hg w6 hbox hb; have BK239 := Aside0.mk (hbox); have GW239 := gw hg HB; have GE239 := gw hg HB; replace HB := bs HB hb; have NB238_239 := nl hg BK238; have NB239_238 := ng hg BK238; replace BK238 := bb BK238 hb; clear hb hbox hg) | ((with_reducible refine gate_dst (N := 6) rfl ?_); refine box_event ?hg (N := 6) ?hd (cs := #[.int .i64 0, .slice none 0 0]) (t := 29) ?hr ?_; (case hd => rfl); (case hg => rfl); (case hr => first | (go_simp; done) | (go_simp; rfl)); intro gb240 hg w7 hbox hb; have BK240 := Aside0.mk (hbox); have GW240 := gw hg HB; have GE240 := gw hg HB; replace HB := bs HB hb; have NB238_240 := nl hg BK238; have NB240_238 := ng hg BK238; replace BK238 := bb BK238 hb; have NB239_240 := nl hg BK239; have NB240_239 := ng hg BK239; replace BK239 := bb BK239 hb; clear hb hbox hg; have hnb8 := NB238_239.out; have hnc8 := NB239_238.out; have hnb9 := NB238_240.out; have hnc9 := NB240_238.out; obtain ⟨hcz10_0, hcz10_1⟩ := c2 BK238; have hfz10_0 := blk_frozen BK238.out 0; have hfz10_1 := blk_frozen BK238.out 1))
 repeat (go_quiet (first | ((with_reducible refine gate_dst (N := 3) rfl ?_); refine box_event ?hg (N := 3) ?hd (cs := #[.int .i64 a0_0, .slice A0_1 l0_1.length c0_1]) (t := 29) ?hr ?_; (case hd => rfl); (case hg => rfl); (case hr => first | (go_simp; done) | (go_simp; rfl)); intro gb238 hg w5 hbox hb; have BK238 := Aside0.mk (hbox); have GW238 := gw hg HB; have GE238 := gw hg HB; replace HB := bs HB hb; clear hb hbox hg) | ((with_reducible refine gate_dst (N := 5) rfl ?_); refine box_event ?hg (N := 5) ?hd (cs := #[.int .i64 a2_0, .slice A2_1 l2_1.length c2_1]) (t := 29) ?hr ?_; (case hd => rfl); (case hg => rfl); (case hr => first | (go_simp; done) | (go_simp; rfl)); intro gb239 hg w6 hbox hb; have BK239 := Aside0.mk (hbox); have GW239 := gw hg HB; have GE239 := gw hg HB; replace HB := bs HB hb; have NB238_239 := nl hg BK238; have NB239_238 := ng hg BK238; replace BK238 := bb BK238 hb; clear hb hbox hg) | ((with_reducible refine gate_dst (N := 6) rfl ?_); refine box_event ?hg (N := 6) ?hd (cs := #[.int .i64 0, .slice none 0 0]) (t := 29) ?hr ?_; (case hd => rfl); (case hg => rfl); (case hr => first | (go_simp; done) | (go_simp; rfl)); intro gb240 hg w7 hbox hb; have BK240 := Aside0.mk (hbox); have GW240 := gw hg HB; have GE240 := gw hg HB; replace HB := bs HB hb; have NB238_240 := nl hg BK238; have NB240_238 := ng hg BK238; replace BK238 := bb BK238 hb; have NB239_240 := nl hg BK239; have NB240_239 := ng hg BK239; replace BK239 := bb BK239 hb; clear hb hbox hg; have hnb8 := NB238_239.out; have hnc8 := NB239_238.out; have hnb9 := NB238_240.out; have hnc9 := NB240_238.out; obtain ⟨hcz10_0, hcz10_1⟩ := c2 BK238; have hfz10_0 := blk_frozen BK238.out 0; have hfz10_1 := blk_frozen BK238.out 1)); go_upto_region 2 with (first | ((with_reducible refine gate_dst (N := 3) rfl ?_); refine box_event ?hg (N := 3) ?hd (cs := #[.int .i64 a0_0, .slice A0_1 l0_1.length c0_1]) (t := 29) ?hr ?_; (case hd => rfl); (case hg => rfl); (case hr => first | (go_simp; done) | (go_simp; rfl)); intro gb238 hg w5 hbox hb; have BK238 := Aside0.mk (hbox); have GW238 := gw hg HB; have GE238 := gw hg HB; replace HB := bs HB hb; clear hb hbox hg) | ((with_reducible refine gate_dst (N := 5) rfl ?_); refine box_event ?hg (N := 5) ?hd (cs := #[.int .i64 a2_0, .slice A2_1 l2_1.length c2_1]) (t := 29) ?hr ?_; (case hd => rfl); (case hg => rfl); (case hr => first | (go_simp; done) | (go_simp; rfl)); intro gb239 hg w6 hbox hb; have BK239 := Aside0.mk (hbox); have GW239 := gw hg HB; have GE239 := gw hg HB; replace HB := bs HB hb; have NB238_239 := nl hg BK238; have NB239_238 := ng hg BK238; replace BK238 := bb BK238 hb; clear hb hbox hg) | ((with_reducible refine gate_dst (N := 6) rfl ?_); refine box_event ?hg (N := 6) ?hd (cs := #[.int .i64 0, .slice none 0 0]) (t := 29) ?hr ?_; (case hd => rfl); (case hg => rfl); (case hr => first | (go_simp; done) | (go_simp; rfl)); intro gb240 hg w7 hbox hb; have BK240 := Aside0.mk (hbox); have GW240 := gw hg HB; have GE240 := gw hg HB; replace HB := bs HB hb; have NB238_240 := nl hg BK238; have NB240_238 := ng hg BK238; replace BK238 := bb BK238 hb; have NB239_240 := nl hg BK239; have NB240_239 := ng hg BK239; replace BK239 := bb BK239 hb; clear hb hbox hg; have hnb8 := NB238_239.out; have hnc8 := NB239_238.out; have hnb9 := NB238_240.out; have hnc9 := NB240_238.out; obtain ⟨hcz10_0, hcz10_1⟩ := c2 BK238; have hfz10_0 := blk_frozen BK238.out 0; have hfz10_1 := blk_frozen BK238.out 1)))
 (try simp only [Act.put, List.setIfInBounds_toArray, List.set_cons_zero, List.set_cons_succ])
 go_cut [32] (fun v32 wc => ∃ (kq : Nat) (x32_3 : Bool), v32 = .bool x32_3 ∧ Aside0 (impl_AddScaled.j0 kq a1 (l0_1.length : Int) x32_3 a0_0 l0_1 a2_0 l2_1 = some (r1, r2, r3)) ∧ Aside0 (kq ≤ k) ∧ Aside0 (wc.heap[gb238]? = some (.cells #[.int .i64 a0_0, (.slice A0_1 l0_1.length c0_1)] 29 (0, 0))) ∧ Aside0 (wc.heap[gb239]? = some (.cells #[.int .i64 a2_0, (.slice A2_1 l2_1.length c2_1)] 29 (0, 0))) ∧ Aside0 (wc.heap[gb240]? = some (.cells #[.int .i64 0, (.slice none 0 0)] 29 (0, 0))) ∧ Aside0 (Below w.heap.size w wc))
 case first =>
  have H := HC4.out
  clear HC4
  replace H := Option.bind_eq_some_iff.mp H
  obtain ⟨t241, A110, H⟩ := H
  replace H : (if t241 = true then ((impl_IsValidLin.f k a2_0 l2_1 (l0_1.length : Int)).bind fun t242 => (if t242 = true then ((impl_coeffOk.f a1).bind fun t243 => (impl_AddScaled.j0 k a1 (l0_1.length : Int) (!t243) a0_0 l0_1 a2_0 l2_1)) else (impl_AddScaled.j0 k a1 (l0_1.length : Int) true a0_0 l0_1 a2_0 l2_1))) else (impl_AddScaled.j0 k a1 (l0_1.length : Int) true a0_0 l0_1 a2_0 l2_1)) = some (r1, r2, r3) := H
  have A11 := Aside0.mk A110
  clear A110
  by_cases c12 : t241 = true
  ·subst c12
   have H1 : ((impl_IsValidLin.f k a2_0 l2_1 (l0_1.length : Int)).bind fun t242 => (if t242 = true then ((impl_coeffOk.f a1).bind fun t243 => (impl_AddScaled.j0 k a1 (l0_1.length : Int) (!t243) a0_0 l0_1 a2_0 l2_1)) else (impl_AddScaled.j0 k a1 (l0_1.length : Int) true a0_0 l0_1 a2_0 l2_1))) = some (r1, r2, r3) := by rw [if_pos rfl] at H; exact H
   clear H
   have H := H1
   clear H1
   replace H := Option.bind_eq_some_iff.mp H
   obtain ⟨t242, A130, H⟩ := H
   replace H : (if t242 = true then ((impl_coeffOk.f a1).bind fun t243 => (impl_AddScaled.j0 k a1 (l0_1.length : Int) (!t243) a0_0 l0_1 a2_0 l2_1)) else (impl_AddScaled.j0 k a1 (l0_1.length : Int) true a0_0 l0_1 a2_0 l2_1)) = some (r1, r2, r3) := H
   have A13 := Aside0.mk A130
   clear A130
   by_cases c14 : t242 = true
   ·subst c14
    have H1 : ((impl_coeffOk.f a1).bind fun t243 => (impl_AddScaled.j0 k a1 (l0_1.length : Int) (!t243) a0_0 l0_1 a2_0 l2_1)) = some (r1, r2, r3) := by rw [if_pos rfl] at H; exact H
    clear H
    have H := H1
    clear H1
    replace H := Option.bind_eq_some_iff.mp H
    obtain ⟨t243, A150, H⟩ := H
    replace H : (impl_AddScaled.j0 k a1 (l0_1.length : Int) (!t243) a0_0 l0_1 a2_0 l2_1) = some (r1, r2, r3) := H
    have A15 := Aside0.mk A150
    clear A150
    have H' := Aside0.mk H
    clear H
    have hnb16 := NB238_239.out
    have hnc16 := NB239_238.out
    have hnb17 := NB238_240.out
    have hnc17 := NB240_238.out
    obtain ⟨hcz18_0, hcz18_1⟩ := c2 BK238
    have hfz18_0 := blk_frozen BK238.out 0
    have hfz18_1 := blk_frozen BK238.out 1
    go_wp2_with (first | (go_at_call 74; (with_reducible refine (impl_IsValidLin.calls k a0_0 _ _ l0_1 (l0_1.length : Int) true _ ?side1 ?side2 A11.out).mono ?_); (case side1 => exact mc ((Kd.C_below HR0_1.out HB.out))); (case side2 => exact HC0_1.out); rintro e w19 ⟨rfl, hb⟩; replace BK238 := bb BK238 hb; replace BK239 := bb BK239 hb; replace BK240 := bb BK240 hb; replace HB := bs HB hb; (try clear hb); have hnb20 := NB239_240.out; have hnc20 := NB240_239.out; obtain ⟨hcz21_0, hcz21_1⟩ := c2 BK239; have hfz21_0 := blk_frozen BK239.out 0; have hfz21_1 := blk_frozen BK239.out 1) | (go_at_call 74; (with_reducible refine (impl_IsValidLin.calls k a2_0 _ _ l2_1 (l0_1.length : Int) true _ ?side1 ?side2 A13.out).mono ?_); (case side1 => exact mc ((Kd.C_below HR2_1.out HB.out))); (case side2 => exact HC2_1.out); rintro e w22 ⟨rfl, hb⟩; replace BK238 := bb BK238 hb; replace BK239 := bb BK239 hb; replace BK240 := bb BK240 hb; replace HB := bs HB hb; (try clear hb)) | (go_at_call 122; (with_reducible refine (impl_coeffOk.calls a1 t243 _ A15.out).mono ?_); rintro e w' ⟨rfl, ⟨nd, rfl⟩⟩; (try first | exact ⟨rfl, _, World.drewN_drewN _ _ _⟩ | exact ⟨rfl, _, Eq.trans (World.drewN_drewN _ _ _) (congrArg (World.drewN _) (Nat.add_assoc _ _ _))⟩)))
    repeat (go_quiet (first | (go_at_call 74; (with_reducible refine (impl_IsValidLin.calls k a0_0 _ _ l0_1 (l0_1.length : Int) true _ ?side1 ?side2 A11.out).mono ?_); (case side1 => exact mc ((Kd.C_below HR0_1.out HB.out))); (case side2 => exact HC0_1.out); rintro e w19 ⟨rfl, hb⟩; replace BK238 := bb BK238 hb; replace BK239 := bb BK239 hb; replace BK240 := bb BK240 hb; replace HB := bs HB hb; (try clear hb); have hnb20 := NB239_240.out; have hnc20 := NB240_239.out; obtain ⟨hcz21_0, hcz21_1⟩ := c2 BK239; have hfz21_0 := blk_frozen BK239.out 0; have hfz21_1 := blk_frozen BK239.out 1) | (go_at_call 74; (with_reducible refine (impl_IsValidLin.calls k a2_0 _ _ l2_1 (l0_1.length : Int) true _ ?side1 ?side2 A13.out).mono ?_); (case side1 => exact mc ((Kd.C_below HR2_1.out HB.out))); (case side2 => exact HC2_1.out); rintro e w22 ⟨rfl, hb⟩; replace BK238 := bb BK238 hb; replace BK239 := bb BK239 hb; replace BK240 := bb BK240 hb; replace HB := bs HB hb; (try clear hb)) | (go_at_call 122; (with_reducible refine (impl_coeffOk.calls a1 t243 _ A15.out).mono ?_); rintro e w' ⟨rfl, ⟨nd, rfl⟩⟩; (try first | exact ⟨rfl, _, World.drewN_drewN _ _ _⟩ | exact ⟨rfl, _, Eq.trans (World.drewN_drewN _ _ _) (congrArg (World.drewN _) (Nat.add_assoc _ _ _))⟩))); try go_wp2_with (first | (go_at_call 74; (with_reducible refine (impl_IsValidLin.calls k a0_0 _ _ l0_1 (l0_1.length : Int) true _ ?side1 ?side2 A11.out).mono ?_); (case side1 => exact mc ((Kd.C_below HR0_1.out HB.out))); (case side2 => exact HC0_1.out); rintro e w19 ⟨rfl, hb⟩; replace BK238 := bb BK238 hb; replace BK239 := bb BK239 hb; replace BK240 := bb BK240 hb; replace HB := bs HB hb; (try clear hb); have hnb20 := NB239_240.out; have hnc20 := NB240_239.out; obtain ⟨hcz21_0, hcz21_1⟩ := c2 BK239; have hfz21_0 := blk_frozen BK239.out 0; have hfz21_1 := blk_frozen BK239.out 1) | (go_at_call 74; (with_reducible refine (impl_IsValidLin.calls k a2_0 _ _ l2_1 (l0_1.length : Int) true _ ?side1 ?side2 A13.out).mono ?_); (case side1 => exact mc ((Kd.C_below HR2_1.out HB.out))); (case side2 => exact HC2_1.out); rintro e w22 ⟨rfl, hb⟩; replace BK238 := bb BK238 hb; replace BK239 := bb BK239 hb; replace BK240 := bb BK240 hb; replace HB := bs HB hb; (try clear hb)) | (go_at_call 122; (with_reducible refine (impl_coeffOk.calls a1 t243 _ A15.out).mono ?_); rintro e w' ⟨rfl, ⟨nd, rfl⟩⟩; (try first | exact ⟨rfl, _, World.drewN_drewN _ _ _⟩ | exact ⟨rfl, _, Eq.trans (World.drewN_drewN _ _ _) (congrArg (World.drewN _) (Nat.add_assoc _ _ _))⟩))))
    go_meet
    case rel => exact ⟨_, (!t243), (by first | rfl | (simp; done) | (simp [*]; done)), H', ⟨by first | omega | exact Nat.le_refl _⟩, ⟨mb BK238⟩, ⟨mb BK239⟩, ⟨mb BK240⟩, ⟨ms HB⟩⟩
   ·replace c14 := Bool.eq_false_iff.mpr c14
    subst c14
    have H1 : (impl_AddScaled.j0 k a1 (l0_1.length : Int) true a0_0 l0_1 a2_0 l2_1) = some (r1, r2, r3) := by rw [if_neg (show ¬ (false = true) by decide)] at H; exact H
    clear H
    have H := H1
    clear H1
    have H' := Aside0.mk H
    clear H
    have hnb23 := NB238_239.out
    have hnc23 := NB239_238.out
    have hnb24 := NB238_240.out
    have hnc24 := NB240_238.out
    obtain ⟨hcz25_0, hcz25_1⟩ := c2 BK238
    have hfz25_0 := blk_frozen BK238.out 0
    have hfz25_1 := blk_frozen BK238.out 1
    go_wp2_with (first | (go_at_call 74; (with_reducible refine (impl_IsValidLin.calls k a0_0 _ _ l0_1 (l0_1.length : Int) true _ ?side1 ?side2 A11.out).mono ?_); (case side1 => exact mc ((Kd.C_below HR0_1.out HB.out))); (case side2 => exact HC0_1.out); rintro e w26 ⟨rfl, hb⟩; replace BK238 := bb BK238 hb; replace BK239 := bb BK239 hb; replace BK240 := bb BK240 hb; replace HB := bs HB hb; (try clear hb); have hnb27 := NB239_240.out; have hnc27 := NB240_239.out; obtain ⟨hcz28_0, hcz28_1⟩ := c2 BK239; have hfz28_0 := blk_frozen BK239.out 0; have hfz28_1 := blk_frozen BK239.out 1) | (go_at_call 74; (with_reducible refine (impl_IsValidLin.calls k a2_0 _ _ l2_1 (l0_1.length : Int) false _ ?side1 ?side2 A13.out).mono ?_); (case side1 => exact mc ((Kd.C_below HR2_1.out HB.out))); (case side2 => exact HC2_1.out); rintro e w29 ⟨rfl, hb⟩; replace BK238 := bb BK238 hb; replace BK239 := bb BK239 hb; replace BK240 := bb BK240 hb; replace HB := bs HB hb; (try clear hb)))
    repeat (go_quiet (first | (go_at_call 74; (with_reducible refine (impl_IsValidLin.calls k a0_0 _ _ l0_1 (l0_1.length : Int) true _ ?side1 ?side2 A11.out).mono ?_); (case side1 => exact mc ((Kd.C_below HR0_1.out HB.out))); (case side2 => exact HC0_1.out); rintro e w26 ⟨rfl, hb⟩; replace BK238 := bb BK238 hb; replace BK239 := bb BK239 hb; replace BK240 := bb BK240 hb; replace HB := bs HB hb; (try clear hb); have hnb27 := NB239_240.out; have hnc27 := NB240_239.out; obtain ⟨hcz28_0, hcz28_1⟩ := c2 BK239; have hfz28_0 := blk_frozen BK239.out 0; have hfz28_1 := blk_frozen BK239.out 1) | (go_at_call 74; (with_reducible refine (impl_IsValidLin.calls k a2_0 _ _ l2_1 (l0_1.length : Int) false _ ?side1 ?side2 A13.out).mono ?_); (case side1 => exact mc ((Kd.C_below HR2_1.out HB.out))); (case side2 => exact HC2_1.out); rintro e w29 ⟨rfl, hb⟩; replace BK238 := bb BK238 hb; replace BK239 := bb BK239 hb; replace BK240 := bb BK240 hb; replace HB := bs HB hb; (try clear hb))); try go_wp2_with (first | (go_at_call 74; (with_reducible refine (impl_IsValidLin.calls k a0_0 _ _ l0_1 (l0_1.length : Int) true _ ?side1 ?side2 A11.out).mono ?_); (case side1 => exact mc ((Kd.C_below HR0_1.out HB.out))); (case side2 => exact HC0_1.out); rintro e w26 ⟨rfl, hb⟩; replace BK238 := bb BK238 hb; replace BK239 := bb BK239 hb; replace BK240 := bb BK240 hb; replace HB := bs HB hb; (try clear hb); have hnb27 := NB239_240.out; have hnc27 := NB240_239.out; obtain ⟨hcz28_0, hcz28_1⟩ := c2 BK239; have hfz28_0 := blk_frozen BK239.out 0; have hfz28_1 := blk_frozen BK239.out 1) | (go_at_call 74; (with_reducible refine (impl_IsValidLin.calls k a2_0 _ _ l2_1 (l0_1.length : Int) false _ ?side1 ?side2 A13.out).mono ?_); (case side1 => exact mc ((Kd.C_below HR2_1.out HB.out))); (case side2 => exact HC2_1.out); rintro e w29 ⟨rfl, hb⟩; replace BK238 := bb BK238 hb; replace BK239 := bb BK239 hb; replace BK240 := bb BK240 hb; replace HB := bs HB hb; (try clear hb))))
    go_meet
    case rel => exact ⟨_, (true), (by first | rfl | (simp; done) | (simp [*]; done)), H', ⟨by first | omega | exact Nat.le_refl _⟩, ⟨mb BK238⟩, ⟨mb BK239⟩, ⟨mb BK240⟩, ⟨ms HB⟩⟩
  ·replace c12 := Bool.eq_false_iff.mpr c12
   subst c12
   have H1 : (impl_AddScaled.j0 k a1 (l0_1.length : Int) true a0_0 l0_1 a2_0 l2_1) = some (r1, r2, r3) := by rw [if_neg (show ¬ (false = true) by decide)] at H; exact H
   clear H
   have H := H1
   clear H1
   have H' := Aside0.mk H
   clear H
   have hnb30 := NB238_239.out
   have hnc30 := NB239_238.out
   have hnb31 := NB238_240.out
   have hnc31 := NB240_238.out
   obtain ⟨hcz32_0, hcz32_1⟩ := c2 BK238
   have hfz32_0 := blk_frozen BK238.out 0
   have hfz32_1 := blk_frozen BK238.out 1
   go_wp2_with (first | (go_at_call 74; (with_reducible refine (impl_IsValidLin.calls k a0_0 _ _ l0_1 (l0_1.length : Int) false _ ?side1 ?side2 A11.out).mono ?_); (case side1 => exact mc ((Kd.C_below HR0_1.out HB.out))); (case side2 => exact HC0_1.out); rintro e w33 ⟨rfl, hb⟩; replace BK238 := bb BK238 hb; replace BK239 := bb BK239 hb; replace BK240 := bb BK240 hb; replace HB := bs HB hb; (try clear hb)))
   repeat (go_quiet (first | (go_at_call 74; (with_reducible refine (impl_IsValidLin.calls k a0_0 _ _ l0_1 (l0_1.length : Int) false _ ?side1 ?side2 A11.out).mono ?_); (case side1 => exact mc ((Kd.C_below HR0_1.out HB.out))); (case side2 => exact HC0_1.out); rintro e w33 ⟨rfl, hb⟩; replace BK238 := bb BK238 hb; replace BK239 := bb BK239 hb; replace BK240 := bb BK240 hb; replace HB := bs HB hb; (try clear hb))); try go_wp2_with (first | (go_at_call 74; (with_reducible refine (impl_IsValidLin.calls k a0_0 _ _ l0_1 (l0_1.length : Int) false _ ?side1 ?side2 A11.out).mono ?_); (case side1 => exact mc ((Kd.C_below HR0_1.out HB.out))); (case side2 => exact HC0_1.out); rintro e w33 ⟨rfl, hb⟩; replace BK238 := bb BK238 hb; replace BK239 := bb BK239 hb; replace BK240 := bb BK240 hb; replace HB := bs HB hb; (try clear hb))))
   go_meet
   case rel => exact ⟨_, (true), (by first | rfl | (simp; done) | (simp [*]; done)), H', ⟨by first | omega | exact Nat.le_refl _⟩, ⟨mb BK238⟩, ⟨mb BK239⟩, ⟨mb BK240⟩, ⟨ms HB⟩⟩
 case rest =>
  clear HC4
  try clear c1
  try clear c2
  try clear p2
  try clear c3
  try clear c7
  try clear c8
  try clear c9
  try clear c12
  try clear c14
  try clear c16
  try clear c17
  try clear c20
  try clear c23
  try clear c24
  try clear c27
  try clear c30
  try clear c31
  try clear hcz10_0
  try clear hcz10_1
  try clear hcz18_0
  try clear hcz18_1
  try clear hcz21_0
  try clear hcz21_1
  try clear hcz25_0
  try clear hcz25_1
  try clear hcz28_0
  try clear hcz28_1
  try clear hcz32_0
  try clear hcz32_1
  try clear hfz10_0
  try clear hfz10_1
  try clear hfz18_0
  try clear hfz18_1
  try clear hfz21_0
  try clear hfz21_1
  try clear hfz25_0
  try clear hfz25_1
  try clear hfz28_0
  try clear hfz28_1
  try clear hfz32_0
  try clear hfz32_1
  obtain ⟨kq, x32_3, rfl, HA, HJ3, BK238, BK239, BK240, HB⟩ := hcut
  cases kq with
  | zero => exact absurd HA.out (by simp [impl_AddScaled.j0])
  | succ kj3 =>
   have H := HA.out
   clear HA
   simp only [impl_AddScaled.j0] at H
   by_cases c34 : x32_3 = true
   ·subst c34
    have H1 : (some (0, ([] : List Int), false)) = some (r1, r2, r3) := by rw [if_pos rfl] at H; exact H
    clear H
    have H := H1
    clear H1
    simp only [Option.some.injEq, Prod.mk.injEq] at H
    obtain ⟨rfl, rfl, rfl⟩ := H
    have hnb35 := NB240_238.out
    have hnc35 := NB238_240.out
    have hnb36 := NB240_239.out
    have hnc36 := NB239_240.out
    obtain ⟨hcz37_0, hcz37_1⟩ := c2 BK240
    have hfz37_0 := blk_frozen BK240.out 0
    have hfz37_1 := blk_frozen BK240.out 1
    go_wp2
    repeat (go_quiet (fail); try go_wp2)
    refine bodyPost_ret (results_ct rfl _ _ gb240 29 #[.int .i64 0, .slice none 0 0] (0, 0) _ rfl (by (with_reducible repeat (first | refine blk_drewN ?_ _ | refine blk_drew ?_ | refine blk_alloc ?_ _)); refine blk_put (cs := #[.int .i64 0, .slice none 0 0]) ?_ 1 _ rfl; (with_reducible repeat (first | refine blk_drewN ?_ _ | refine blk_drew ?_ | refine blk_alloc ?_ _)); refine blk_put (cs := #[.int .i64 0, .slice none 0 0]) ?_ 0 _ rfl; (with_reducible repeat (first | refine blk_drewN ?_ _ | refine blk_drew ?_ | refine blk_alloc ?_ _)); exact BK240.out) Try.underlying29 rfl (by kernel_rfl)) rfl ?_
    exact ⟨_, by first | rfl | (simp [errW_none, errW_some] <;> rfl) | (simp [*, errW_none, errW_some] <;> rfl), by first | exact Kd.R_nil _ _ _ _ _ | exact Kd.N_nil _ _ _ _ _ | exact Kd.V_nil _ _ _ _ _ | exact Kd.Q_nil _ _ _ _ _ | exact Kd.S_nil _ _ _ _ _, ms HB⟩
   ·replace c34 := Bool.eq_false_iff.mpr c34
    subst c34
    have H1 : ((impl_ConstLin.f 0 (l0_1.length : Int)).bind fun bt244 => ((impl_scaled.f a0_0 a1 a2_0).bind fun bt249 => (impl_AddScaled.l0 kj3 a1 bt249.2 (l0_1.length : Int) 0 a0_0 l0_1 a2_0 l2_1 bt249.1 bt244.2))) = some (r1, r2, r3) := by rw [if_neg (show ¬ (false = true) by decide)] at H; exact H
    clear H
    have H := H1
    clear H1
    replace H := Option.bind_eq_some_iff.mp H
    obtain ⟨⟨t244, t245⟩, A380, H⟩ := H
    replace H : ((impl_scaled.f a0_0 a1 a2_0).bind fun bt249 => (impl_AddScaled.l0 kj3 a1 bt249.2 (l0_1.length : Int) 0 a0_0 l0_1 a2_0 l2_1 bt249.1 t245)) = some (r1, r2, r3) := H
    have A38 := Aside0.mk A380
    clear A380
    replace H := Option.bind_eq_some_iff.mp H
    obtain ⟨⟨t249, t250⟩, A390, H⟩ := H
    replace H : (impl_AddScaled.l0 kj3 a1 t250 (l0_1.length : Int) 0 a0_0 l0_1 a2_0 l2_1 t249 t245) = some (r1, r2, r3) := H
    have A39 := Aside0.mk A390
    clear A390
    have H' := Aside0.mk H
    clear H
    go_wp2_with (first | (go_at_call 76; (with_reducible refine (impl_ConstLin.calls 0 (l0_1.length : Int) t244 t245 _ A38.out).mono ?_); rintro e w40 ⟨v246, rfl, ho0, hb⟩; have HO247 := Aside0.mk (Kd.R_lower ho0 (below_size (ms HB))); replace BK238 := bb BK238 hb; replace BK239 := bb BK239 hb; replace BK240 := bb BK240 hb; replace HB := bs HB hb; (try clear hb); (try clear ho0)) | ((with_reducible refine gate_dst (N := 9) rfl ?_); refine box_event ?hg (N := 9) ?hd (cs := #[.int .i64 0, .slice none 0 0]) (t := 29) ?hr ?_; (case hd => rfl); (case hg => rfl); (case hr => first | (go_simp; done) | (go_simp; rfl)); intro gb248 hg w41 hbox hb; replace HO247 := rb HO247 hb; have BK248 := Aside0.mk (hbox); have GW248 := gw hg HB; have GE248 := gw hg HB; replace HB := bs HB hb; have NB238_248 := nl hg BK238; have NB248_238 := ng hg BK238; replace BK238 := bb BK238 hb; have NB239_248 := nl hg BK239; have NB248_239 := ng hg BK239; replace BK239 := bb BK239 hb; have NB240_248 := nl hg BK240; have NB248_240 := ng hg BK240; replace BK240 := bb BK240 hb; clear hb hbox hg; have hnb42 := NB248_238.out; have hnc42 := NB238_248.out; have hnb43 := NB248_239.out; have hnc43 := NB239_248.out; have hnb44 := NB248_240.out; have hnc44 := NB240_248.out; obtain ⟨hcz45_0, hcz45_1⟩ := c2 BK248; have hfz45_0 := blk_frozen BK248.out 0; have hfz45_1 := blk_frozen BK248.out 1; obtain ⟨Ao46, co46, eo46⟩ := Kd.R_slice HO247.out; subst eo46; have hnb47 := NB238_239.out; have hnc47 := NB239_238.out; have hnb48 := NB238_240.out; have hnc48 := NB240_238.out; obtain ⟨hcz49_0, hcz49_1⟩ := c2 BK238; have hfz49_0 := blk_frozen BK238.out 0; have hfz49_1 := blk_frozen BK238.out 1; have hnb50 := NB239_240.out; have hnc50 := NB240_239.out; obtain ⟨hcz51_0, hcz51_1⟩ := c2 BK239; have hfz51_0 := blk_frozen BK239.out 0; have hfz51_1 := blk_frozen BK239.out 1) | (go_at_call 124; (with_reducible refine (impl_scaled.calls a0_0 a1 a2_0 t249 t250 _ A39.out).mono ?_); rintro e w' ⟨rfl, ⟨nd, rfl⟩⟩; (try first | exact ⟨rfl, _, World.drewN_drewN _ _ _⟩ | exact ⟨rfl, _, Eq.trans (World.drewN_drewN _ _ _) (congrArg (World.drewN _) (Nat.add_assoc _ _ _))⟩)))
    repeat (go_quiet (first | (go_at_call 76; (with_reducible refine (impl_ConstLin.calls 0 (l0_1.length : Int) t244 t245 _ A38.out).mono ?_); rintro e w40 ⟨v246, rfl, ho0, hb⟩; have HO247 := Aside0.mk (Kd.R_lower ho0 (below_size (ms HB))); replace BK238 := bb BK238 hb; replace BK239 := bb BK239 hb; replace BK240 := bb BK240 hb; replace HB := bs HB hb; (try clear hb); (try clear ho0)) | ((with_reducible refine gate_dst (N := 9) rfl ?_); refine box_event ?hg (N := 9) ?hd (cs := #[.int .i64 0, .slice none 0 0]) (t := 29) ?hr ?_; (case hd => rfl); (case hg => rfl); (case hr => first | (go_simp; done) | (go_simp; rfl)); intro gb248 hg w41 hbox hb; replace HO247 := rb HO247 hb; have BK248 := Aside0.mk (hbox); have GW248 := gw hg HB; have GE248 := gw hg HB; replace HB := bs HB hb; have NB238_248 := nl hg BK238; have NB248_238 := ng hg BK238; replace BK238 := bb BK238 hb; have NB239_248 := nl hg BK239; have NB248_239 := ng hg BK239; replace BK239 := bb BK239 hb; have NB240_248 := nl hg BK240; have NB248_240 := ng hg BK240; replace BK240 := bb BK240 hb; clear hb hbox hg; have hnb42 := NB248_238.out; have hnc42 := NB238_248.out; have hnb43 := NB248_239.out; have hnc43 := NB239_248.out; have hnb44 := NB248_240.out; have hnc44 := NB240_248.out; obtain ⟨hcz45_0, hcz45_1⟩ := c2 BK248; have hfz45_0 := blk_frozen BK248.out 0; have hfz45_1 := blk_frozen BK248.out 1; obtain ⟨Ao46, co46, eo46⟩ := Kd.R_slice HO247.out; subst eo46; have hnb47 := NB238_239.out; have hnc47 := NB239_238.out; have hnb48 := NB238_240.out; have hnc48 := NB240_238.out; obtain ⟨hcz49_0, hcz49_1⟩ := c2 BK238; have hfz49_0 := blk_frozen BK238.out 0; have hfz49_1 := blk_frozen BK238.out 1; have hnb50 := NB239_240.out; have hnc50 := NB240_239.out; obtain ⟨hcz51_0, hcz51_1⟩ := c2 BK239; have hfz51_0 := blk_frozen BK239.out 0; have hfz51_1 := blk_frozen BK239.out 1) | (go_at_call 124; (with_reducible refine (impl_scaled.calls a0_0 a1 a2_0 t249 t250 _ A39.out).mono ?_); rintro e w' ⟨rfl, ⟨nd, rfl⟩⟩; (try first | exact ⟨rfl, _, World.drewN_drewN _ _ _⟩ | exact ⟨rfl, _, Eq.trans (World.drewN_drewN _ _ _) (congrArg (World.drewN _) (Nat.add_assoc _ _ _))⟩))); try go_wp2_with (first | (go_at_call 76; (with_reducible refine (impl_ConstLin.calls 0 (l0_1.length : Int) t244 t245 _ A38.out).mono ?_); rintro e w40 ⟨v246, rfl, ho0, hb⟩; have HO247 := Aside0.mk (Kd.R_lower ho0 (below_size (ms HB))); replace BK238 := bb BK238 hb; replace BK239 := bb BK239 hb; replace BK240 := bb BK240 hb; replace HB := bs HB hb; (try clear hb); (try clear ho0)) | ((with_reducible refine gate_dst (N := 9) rfl ?_); refine box_event ?hg (N := 9) ?hd (cs := #[.int .i64 0, .slice none 0 0]) (t := 29) ?hr ?_; (case hd => rfl); (case hg => rfl); (case hr => first | (go_simp; done) | (go_simp; rfl)); intro gb248 hg w41 hbox hb; replace HO247 := rb HO247 hb; have BK248 := Aside0.mk (hbox); have GW248 := gw hg HB; have GE248 := gw hg HB; replace HB := bs HB hb; have NB238_248 := nl hg BK238; have NB248_238 := ng hg BK238; replace BK238 := bb BK238 hb; have NB239_248 := nl hg BK239; have NB248_239 := ng hg BK239; replace BK239 := bb BK239 hb; have NB240_248 := nl hg BK240; have NB248_240 := ng hg BK240; replace BK240 := bb BK240 hb; clear hb hbox hg; have hnb42 := NB248_238.out; have hnc42 := NB238_248.out; have hnb43 := NB248_239.out; have hnc43 := NB239_248.out; have hnb44 := NB248_240.out; have hnc44 := NB240_248.out; obtain ⟨hcz45_0, hcz45_1⟩ := c2 BK248; have hfz45_0 := blk_frozen BK248.out 0; have hfz45_1 := blk_frozen BK248.out 1; obtain ⟨Ao46, co46, eo46⟩ := Kd.R_slice HO247.out; subst eo46; have hnb47 := NB238_239.out; have hnc47 := NB239_238.out; have hnb48 := NB238_240.out; have hnc48 := NB240_238.out; obtain ⟨hcz49_0, hcz49_1⟩ := c2 BK238; have hfz49_0 := blk_frozen BK238.out 0; have hfz49_1 := blk_frozen BK238.out 1; have hnb50 := NB239_240.out; have hnc50 := NB240_239.out; obtain ⟨hcz51_0, hcz51_1⟩ := c2 BK239; have hfz51_0 := blk_frozen BK239.out 0; have hfz51_1 := blk_frozen BK239.out 1) | (go_at_call 124; (with_reducible refine (impl_scaled.calls a0_0 a1 a2_0 t249 t250 _ A39.out).mono ?_); rintro e w' ⟨rfl, ⟨nd, rfl⟩⟩; (try first | exact ⟨rfl, _, World.drewN_drewN _ _ _⟩ | exact ⟨rfl, _, Eq.trans (World.drewN_drewN _ _ _) (congrArg (World.drewN _) (Nat.add_assoc _ _ _))⟩))))
    go_loopg [11, 50] kj3 (fun kq v11 v50 w' => ∃ (x11_2 : Bool) (x50_2 : Int) (x249001_2 : List Int) (u249001 : Value), v11 = .bool x11_2 ∧ v50 = .int .i64 x50_2 ∧ Aside0 (impl_AddScaled.l0 kq a1 x11_2 (l0_1.length : Int) x50_2 a0_0 l0_1 a2_0 l2_1 t249 x249001_2 = some (r1, r2, r3)) ∧ Aside0 (kq ≤ kj3) ∧ Aside0 (Kd.R (Kd.int .i64) 3 w' w.heap.size (fun _ => True) u249001 x249001_2) ∧ Aside0 (w'.heap[gb238]? = some (.cells #[.int .i64 a0_0, (.slice A0_1 l0_1.length c0_1)] 29 (0, 0))) ∧ Aside0 (w'.heap[gb239]? = some (.cells #[.int .i64 a2_0, (.slice A2_1 l2_1.length c2_1)] 29 (0, 0))) ∧ Aside0 (w'.heap[gb240]? = some (.cells #[.int .i64 0, (.slice none 0 0)] 29 (0, 0))) ∧ Aside0 (w'.heap[gb248]? = some (.cells #[.int .i64 t249, u249001] 29 (0, 0))) ∧ Aside0 (Below w.heap.size w w'))
    case atStart => exact ⟨(t250), (0), (t245), (.slice Ao46 t245.length co46), (by first | rfl | (simp; done) | (simp [*]; done)), (by first | rfl | (simp; done) | (simp [*]; done)), H', ⟨Nat.le_refl _⟩, ⟨by (with_reducible repeat (first | apply Kd.R_alloc | apply Kd.R_drewN | apply Kd.R_drew)); exact Kd.R_mono (Kd.R_far (p := ⟨gb248, 0, none⟩) (Kd.R_far (p := ⟨gb248, 1, none⟩) (Kd.R_far (p := ⟨gb248, 0, none⟩) (Kd.R_types HO247.out BK248.out (by decide)) (fun _ hk => hk.2) (.int .i64 t244)) (fun _ hk => hk.2) (.slice Ao46 t245.length co46)) (fun _ hk => hk.2) (.int .i64 t249)) (fun _ hk => trivial)⟩, ⟨by (with_reducible repeat (first | refine blk_drewN ?_ _ | refine blk_drew ?_ | refine blk_alloc ?_ _)); refine blk_far ?_ NB238_248.out _; (with_reducible repeat (first | refine blk_drewN ?_ _ | refine blk_drew ?_ | refine blk_alloc ?_ _)); refine blk_far ?_ NB238_248.out _; (with_reducible repeat (first | refine blk_drewN ?_ _ | refine blk_drew ?_ | refine blk_alloc ?_ _)); refine blk_far ?_ NB238_248.out _; (with_reducible repeat (first | refine blk_drewN ?_ _ | refine blk_drew ?_ | refine blk_alloc ?_ _)); exact BK238.out⟩, ⟨by (with_reducible repeat (first | refine blk_drewN ?_ _ | refine blk_drew ?_ | refine blk_alloc ?_ _)); refine blk_far ?_ NB239_248.out _; (with_reducible repeat (first | refine blk_drewN ?_ _ | refine blk_drew ?_ | refine blk_alloc ?_ _)); refine blk_far ?_ NB239_248.out _; (with_reducible repeat (first | refine blk_drewN ?_ _ | refine blk_drew ?_ | refine blk_alloc ?_ _)); refine blk_far ?_ NB239_248.out _; (with_reducible repeat (first | refine blk_drewN ?_ _ | refine blk_drew ?_ | refine blk_alloc ?_ _)); exact BK239.out⟩, ⟨by (with_reducible repeat (first | refine blk_drewN ?_ _ | refine blk_drew ?_ | refine blk_alloc ?_ _)); refine blk_far ?_ NB240_248.out _; (with_reducible repeat (first | refine blk_drewN ?_ _ | refine blk_drew ?_ | refine blk_alloc ?_ _)); refine blk_far ?_ NB240_248.out _; (with_reducible repeat (first | refine blk_drewN ?_ _ | refine blk_drew ?_ | refine blk_alloc ?_ _)); refine blk_far ?_ NB240_248.out _; (with_reducible repeat (first | refine blk_drewN ?_ _ | refine blk_drew ?_ | refine blk_alloc ?_ _)); exact BK240.out⟩, ⟨by (with_reducible repeat (first | refine blk_drewN ?_ _ | refine blk_drew ?_ | refine blk_alloc ?_ _)); refine blk_put (cs := #[.int .i64 t244, .slice Ao46 t245.length co46]) ?_ 0 _ rfl; (with_reducible repeat (first | refine blk_drewN ?_ _ | refine blk_drew ?_ | refine blk_alloc ?_ _)); refine blk_put (cs := #[.int .i64 t244, .slice none 0 0]) ?_ 1 _ rfl; (with_reducible repeat (first | refine blk_drewN ?_ _ | refine blk_drew ?_ | refine blk_alloc ?_ _)); refine blk_put (cs := #[.int .i64 0, .slice none 0 0]) ?_ 0 _ rfl; (with_reducible repeat (first | refine blk_drewN ?_ _ | refine blk_drew ?_ | refine blk_alloc ?_ _)); exact BK248.out⟩, ⟨ms HB⟩⟩
    case round =>
     clear H'
     try clear c1
     try clear c2
     try clear p2
     try clear c3
     try clear c4
     try clear c5
     try clear c7
     try clear c8
     try clear c9
     try clear c12
     try clear c14
     try clear c16
     try clear c17
     try clear c20
     try clear c23
     try clear c24
     try clear c27
     try clear c30
     try clear c31
     try clear c34
     try clear c35
     try clear c36
     try clear c42
     try clear c43
     try clear c44
     try clear c47
     try clear c48
     try clear c50
     try clear hcz10_0
     try clear hcz10_1
     try clear hcz18_0
     try clear hcz18_1
     try clear hcz21_0
     try clear hcz21_1
     try clear hcz25_0
     try clear hcz25_1
     try clear hcz28_0
     try clear hcz28_1
     try clear hcz32_0
     try clear hcz32_1
     try clear hcz37_0
     try clear hcz37_1
     try clear hcz45_0
     try clear hcz45_1
     try clear hcz49_0
     try clear hcz49_1
     try clear hcz51_0
     try clear hcz51_1
     try clear hfz10_0
     try clear hfz10_1
     try clear hfz18_0
     try clear hfz18_1
     try clear hfz21_0
     try clear hfz21_1
     try clear hfz25_0
     try clear hfz25_1
     try clear hfz28_0
     try clear hfz28_1
     try clear hfz32_0
     try clear hfz32_1
     try clear hfz37_0
     try clear hfz37_1
     try clear hfz45_0
     try clear hfz45_1
     try clear hfz49_0
     try clear hfz49_1
     try clear hfz51_0
     try clear hfz51_1
     try clear p2
     obtain ⟨x11_2, x50_2, x249001_2, u249001, rfl, rfl, HA, HK2, HO_249001, BK238, BK239, BK240, BK248, HB⟩ := hrel
     cases gk with
     | zero => exact absurd HA.out (by simp [impl_AddScaled.l0])
     | succ k2 =>
      have H := HA.out
      clear HA
      simp only [impl_AddScaled.l0] at H
      by_cases c52 : x50_2 < (l0_1.length : Int)
      ·rw [if_pos c52] at H
       have c52b0 : decide (x50_2 < (l0_1.length : Int)) = true := decide_eq_true c52
       clear c52
       by_cases c53 : 0 ≤ x50_2
       ·rw [if_pos c53] at H
        have c53b0 : decide (0 ≤ x50_2) = true := decide_eq_true c53
        clear c53
        by_cases c54 : x50_2 < (l0_1.length : Int)
        ·rw [if_pos c54] at H
         have c54b0 : decide (x50_2 < (l0_1.length : Int)) = true := decide_eq_true c54
         clear c54
         by_cases c55 : x50_2 < (l2_1.length : Int)
         ·rw [if_pos c55] at H
          have c55b0 : decide (x50_2 < (l2_1.length : Int)) = true := decide_eq_true c55
          clear c55
          replace H := Option.bind_eq_some_iff.mp H
          obtain ⟨⟨t253, t254⟩, A560, H⟩ := H
          replace H : (if x50_2 < (x249001_2.length : Int) then ((some (x249001_2.set (x50_2 : Int).toNat t253 : List Int)).bind fun y255 => (if x11_2 = true then (impl_AddScaled.l0 k2 a1 t254 (l0_1.length : Int) (wrap64 (x50_2 + 1)) a0_0 l0_1 a2_0 l2_1 t249 y255) else (impl_AddScaled.l0 k2 a1 false (l0_1.length : Int) (wrap64 (x50_2 + 1)) a0_0 l0_1 a2_0 l2_1 t249 y255))) else (none)) = some (r1, r2, r3) := H
          have A56 := Aside0.mk A560
          clear A560
          by_cases c57 : x50_2 < (x249001_2.length : Int)
          ·rw [if_pos c57] at H
           have c57b0 : decide (x50_2 < (x249001_2.length : Int)) = true := decide_eq_true c57
           clear c57
           obtain ⟨y255, hy255⟩ : ∃ y_ : List Int, y_ = (x249001_2.set (x50_2 : Int).toNat t253) := ⟨_, rfl⟩
           replace H : (if x11_2 = true then (impl_AddScaled.l0 k2 a1 t254 (l0_1.length : Int) (wrap64 (x50_2 + 1)) a0_0 l0_1 a2_0 l2_1 t249 y255) else (impl_AddScaled.l0 k2 a1 false (l0_1.length : Int) (wrap64 (x50_2 + 1)) a0_0 l0_1 a2_0 l2_1 t249 y255)) = some (r1, r2, r3) := by first | (rw [hy255]; with_reducible exact H) | (have H2_ := (Option.bind_some _ _).symm.trans H; rw [hy255]; with_reducible exact H2_) | (have H2_ := (Option.bind_some _ _).symm.trans H; with_reducible exact H2_) | with_reducible exact H | (rw [hy255]; exact H) | exact H
           have Ny255 := Aside0.mk hy255
           clear hy255
           by_cases c59 : x11_2 = true
           ·subst c59
            have H1 : (impl_AddScaled.l0 k2 a1 t254 (l0_1.length : Int) (wrap64 (x50_2 + 1)) a0_0 l0_1 a2_0 l2_1 t249 y255) = some (r1, r2, r3) := by rw [if_pos rfl] at H; exact H
            clear H
            have H := H1
            clear H1
            have H' := Aside0.mk H
            clear H
            have hnb60 := NB238_239.out
            have hnc60 := NB239_238.out
            have hnb61 := NB238_240.out
            have hnc61 := NB240_238.out
            have hnb62 := NB238_248.out
            have hnc62 := NB248_238.out
            obtain ⟨hcz63_0, hcz63_1⟩ := c2 BK238
            have hfz63_0 := blk_frozen BK238.out 0
            have hfz63_1 := blk_frozen BK238.out 1
            have p251 : 0 ≤ (x50_2 : Int) := of_decide_eq_true (by first | (with_reducible assumption) | assumption)
            have q251 : x50_2 < (l0_1.length : Int) := of_decide_eq_true (by first | (with_reducible assumption) | assumption)
            obtain ⟨ad251, e251, hx251_0⟩ := Kd.at_int HR0_1.out x50_2 p251 q251
            cases e251
            replace hx251_0 := (HB.out.cell (World.block_lt_of_cell? w _ hx251_0)).trans hx251_0
            replace p251 := eq_true p251
            replace q251 := eq_true q251
            have hnb64 := NB239_240.out
            have hnc64 := NB240_239.out
            have hnb65 := NB239_248.out
            have hnc65 := NB248_239.out
            obtain ⟨hcz66_0, hcz66_1⟩ := c2 BK239
            have hfz66_0 := blk_frozen BK239.out 0
            have hfz66_1 := blk_frozen BK239.out 1
            have p252 : 0 ≤ (x50_2 : Int) := of_decide_eq_true (by first | (with_reducible assumption) | assumption)
            have q252 : x50_2 < (l2_1.length : Int) := of_decide_eq_true (by first | (with_reducible assumption) | assumption)
            obtain ⟨ad252, e252, hx252_0⟩ := Kd.at_int HR2_1.out x50_2 p252 q252
            cases e252
            replace hx252_0 := (HB.out.cell (World.block_lt_of_cell? w _ hx252_0)).trans hx252_0
            replace p252 := eq_true p252
            replace q252 := eq_true q252
            go_wp2_with (first | (go_at_call 124; (with_reducible refine (impl_scaled.calls (rd l0_1 x50_2) a1 (rd l2_1 x50_2) t253 t254 _ A56.out).mono ?_); rintro e w' ⟨rfl, ⟨nd, rfl⟩⟩; (try first | exact ⟨rfl, _, World.drewN_drewN _ _ _⟩ | exact ⟨rfl, _, Eq.trans (World.drewN_drewN _ _ _) (congrArg (World.drewN _) (Nat.add_assoc _ _ _))⟩); have hnb67 := NB248_240.out; have hnc67 := NB240_248.out; obtain ⟨hcz68_0, hcz68_1⟩ := c2 BK248; have hfz68_0 := blk_frozen BK248.out 0; have hfz68_1 := blk_frozen BK248.out 1; have p58 : 0 ≤ (x50_2 : Int) := of_decide_eq_true (by first | (with_reducible assumption) | assumption); have q58 : (x50_2 : Int) < ((x249001_2.length : Int) : Int) := of_decide_eq_true (by first | (with_reducible assumption) | assumption); obtain ⟨go58, co58, eo58, gb58, gl58, cl58, HG58⟩ := Kd.R_form HO_249001.out (by omega); (first | cases eo58 | (injection eo58 with ea_ en_ ec_; (first | subst ea_ | (injection ea_ with ea_; subst ea_)); subst ec_; clear en_)); have GB58 := Aside0.mk gb58; have GG58 := Aside0.mk HG58; clear gb58 gl58 HG58; obtain ⟨hx58_0, hf58_0⟩ := Kd.R_celln 0 HO_249001.out (x50_2 : Int) p58 q58; replace p58 := eq_true p58; replace q58 := eq_true q58; obtain ⟨hy69_, hz69_⟩ := Kd.R_celln 0 HO_249001.out (x50_2 : Int) (of_decide_eq_true (by first | (with_reducible assumption) | assumption)) (of_decide_eq_true (by first | (with_reducible assumption) | assumption)); have HP69 := Kd.R_putg HO_249001.out (x50_2 : Int) t253) | ((with_reducible refine gate_store (t := 3) (p := 72) rfl ?_); (try (rw [drewN_self wr]; generalize hq_ : World.drewN wr _ = wr; have n0_ := Aside0.mk (Kd.R_at hq_ HO_249001.out); have n1_ := Aside0.mk (blk_at hq_ BK238.out); have n2_ := Aside0.mk (blk_at hq_ BK239.out); have n3_ := Aside0.mk (blk_at hq_ BK240.out); have n4_ := Aside0.mk (blk_at hq_ BK248.out); have n5_ := Aside0.mk (below_at hq_ HB.out); clear hq_ HO_249001 BK238 BK239 BK240 BK248 HB; have HO_249001 := n0_; have BK238 := n1_; have BK239 := n2_; have BK240 := n3_; have BK248 := n4_; have HB := n5_; clear n0_ n1_ n2_ n3_ n4_ n5_; (try (obtain ⟨hy69_, hz69_⟩ := Kd.R_celln 0 HO_249001.out (x50_2 : Int) (of_decide_eq_true (by first | (with_reducible assumption) | assumption)) (of_decide_eq_true (by first | (with_reducible assumption) | assumption)))); (try (have HP69 := Kd.R_putg HO_249001.out (x50_2 : Int) t253)))); refine store_event (t := 3) (p := 72) (v := ?vo_w70) (w1 := (wr.setCell ⟨go58, (x50_2 : Int).toNat, none⟩ (.int .i64 t253))) ?hg ?ho ?hn ?hr ?_; (case ho => rfl); (case hg => rfl); (case hn => rfl); (case hr => first | (go_simp; done) | (go_simp; rfl)); intro w70 hw; have hg : wr.grownBy w70 (some go58) := (by rw [hw]; exact HP69.2); have hp_ : Kd.R (Kd.int .i64) 3 w70 w.heap.size (fun _ => True) (.slice (some ⟨go58, 0, none⟩) x249001_2.length co58) y255 := (by rw [hw, Ny255.out]; exact HP69.1); clear HP69; have n0_ := Aside0.mk (hp_); have n1_ := Aside0.mk (blk_grown (g := gb238) (o := .cells #[.int .i64 a0_0, .slice (some ad251) l0_1.length c0_1] 29 (0, 0)) (mb BK238) hg (Kd.R_ne HO_249001.out BK238.out (by decide))); have n2_ := Aside0.mk (blk_grown (g := gb239) (o := .cells #[.int .i64 a2_0, .slice (some ad252) l2_1.length c2_1] 29 (0, 0)) (mb BK239) hg (Kd.R_ne HO_249001.out BK239.out (by decide))); have n3_ := Aside0.mk (blk_grown (g := gb240) (o := .cells #[.int .i64 0, .slice none 0 0] 29 (0, 0)) (mb BK240) hg (Kd.R_ne HO_249001.out BK240.out (by decide))); have n4_ := Aside0.mk (blk_grown (g := gb248) (o := .cells #[.int .i64 t249, .slice (some ⟨go58, 0, none⟩) x249001_2.length co58] 29 (0, 0)) (mb BK248) hg (Kd.R_ne HO_249001.out BK248.out (by decide))); have n5_ := Aside0.mk ((by rw [hw]; exact below_set (HB.out) GB58.out : Below w.heap.size w w70)); clear HO_249001 BK238 BK239 BK240 BK248 HB; have HO_249001 := n0_; have BK238 := n1_; have BK239 := n2_; have BK240 := n3_; have BK248 := n4_; have HB := n5_; clear n0_ n1_ n2_ n3_ n4_ n5_; clear hg hw hp_))
            repeat (go_quiet (first | (go_at_call 124; (with_reducible refine (impl_scaled.calls (rd l0_1 x50_2) a1 (rd l2_1 x50_2) t253 t254 _ A56.out).mono ?_); rintro e w' ⟨rfl, ⟨nd, rfl⟩⟩; (try first | exact ⟨rfl, _, World.drewN_drewN _ _ _⟩ | exact ⟨rfl, _, Eq.trans (World.drewN_drewN _ _ _) (congrArg (World.drewN _) (Nat.add_assoc _ _ _))⟩); have hnb67 := NB248_240.out; have hnc67 := NB240_248.out; obtain ⟨hcz68_0, hcz68_1⟩ := c2 BK248; have hfz68_0 := blk_frozen BK248.out 0; have hfz68_1 := blk_frozen BK248.out 1; have p58 : 0 ≤ (x50_2 : Int) := of_decide_eq_true (by first | (with_reducible assumption) | assumption); have q58 : (x50_2 : Int) < ((x249001_2.length : Int) : Int) := of_decide_eq_true (by first | (with_reducible assumption) | assumption); obtain ⟨go58, co58, eo58, gb58, gl58, cl58, HG58⟩ := Kd.R_form HO_249001.out (by omega); (first | cases eo58 | (injection eo58 with ea_ en_ ec_; (first | subst ea_ | (injection ea_ with ea_; subst ea_)); subst ec_; clear en_)); have GB58 := Aside0.mk gb58; have GG58 := Aside0.mk HG58; clear gb58 gl58 HG58; obtain ⟨hx58_0, hf58_0⟩ := Kd.R_celln 0 HO_249001.out (x50_2 : Int) p58 q58; replace p58 := eq_true p58; replace q58 := eq_true q58; obtain ⟨hy69_, hz69_⟩ := Kd.R_celln 0 HO_249001.out (x50_2 : Int) (of_decide_eq_true (by first | (with_reducible assumption) | assumption)) (of_decide_eq_true (by first | (with_reducible assumption) | assumption)); have HP69 := Kd.R_putg HO_249001.out (x50_2 : Int) t253) | ((with_reducible refine gate_store (t := 3) (p := 72) rfl ?_); (try (rw [drewN_self wr]; generalize hq_ : World.drewN wr _ = wr; have n0_ := Aside0.mk (Kd.R_at hq_ HO_249001.out); have n1_ := Aside0.mk (blk_at hq_ BK238.out); have n2_ := Aside0.mk (blk_at hq_ BK239.out); have n3_ := Aside0.mk (blk_at hq_ BK240.out); have n4_ := Aside0.mk (blk_at hq_ BK248.out); have n5_ := Aside0.mk (below_at hq_ HB.out); clear hq_ HO_249001 BK238 BK239 BK240 BK248 HB; have HO_249001 := n0_; have BK238 := n1_; have BK239 := n2_; have BK240 := n3_; have BK248 := n4_; have HB := n5_; clear n0_ n1_ n2_ n3_ n4_ n5_; (try (obtain ⟨hy69_, hz69_⟩ := Kd.R_celln 0 HO_249001.out (x50_2 : Int) (of_decide_eq_true (by first | (with_reducible assumption) | assumption)) (of_decide_eq_true (by first | (with_reducible assumption) | assumption)))); (try (have HP69 := Kd.R_putg HO_249001.out (x50_2 : Int) t253)))); refine store_event (t := 3) (p := 72) (v := ?vo_w70) (w1 := (wr.setCell ⟨go58, (x50_2 : Int).toNat, none⟩ (.int .i64 t253))) ?hg ?ho ?hn ?hr ?_; (case ho => rfl); (case hg => rfl); (case hn => rfl); (case hr => first | (go_simp; done) | (go_simp; rfl)); intro w70 hw; have hg : wr.grownBy w70 (some go58) := (by rw [hw]; exact HP69.2); have hp_ : Kd.R (Kd.int .i64) 3 w70 w.heap.size (fun _ => True) (.slice (some ⟨go58, 0, none⟩) x249001_2.length co58) y255 := (by rw [hw, Ny255.out]; exact HP69.1); clear HP69; have n0_ := Aside0.mk (hp_); have n1_ := Aside0.mk (blk_grown (g := gb238) (o := .cells #[.int .i64 a0_0, .slice (some ad251) l0_1.length c0_1] 29 (0, 0)) (mb BK238) hg (Kd.R_ne HO_249001.out BK238.out (by decide))); have n2_ := Aside0.mk (blk_grown (g := gb239) (o := .cells #[.int .i64 a2_0, .slice (some ad252) l2_1.length c2_1] 29 (0, 0)) (mb BK239) hg (Kd.R_ne HO_249001.out BK239.out (by decide))); have n3_ := Aside0.mk (blk_grown (g := gb240) (o := .cells #[.int .i64 0, .slice none 0 0] 29 (0, 0)) (mb BK240) hg (Kd.R_ne HO_249001.out BK240.out (by decide))); have n4_ := Aside0.mk (blk_grown (g := gb248) (o := .cells #[.int .i64 t249, .slice (some ⟨go58, 0, none⟩) x249001_2.length co58] 29 (0, 0)) (mb BK248) hg (Kd.R_ne HO_249001.out BK248.out (by decide))); have n5_ := Aside0.mk ((by rw [hw]; exact below_set (HB.out) GB58.out : Below w.heap.size w w70)); clear HO_249001 BK238 BK239 BK240 BK248 HB; have HO_249001 := n0_; have BK238 := n1_; have BK239 := n2_; have BK240 := n3_; have BK248 := n4_; have HB := n5_; clear n0_ n1_ n2_ n3_ n4_ n5_; clear hg hw hp_)); try go_wp2_with (first | (go_at_call 124; (with_reducible refine (impl_scaled.calls (rd l0_1 x50_2) a1 (rd l2_1 x50_2) t253 t254 _ A56.out).mono ?_); rintro e w' ⟨rfl, ⟨nd, rfl⟩⟩; (try first | exact ⟨rfl, _, World.drewN_drewN _ _ _⟩ | exact ⟨rfl, _, Eq.trans (World.drewN_drewN _ _ _) (congrArg (World.drewN _) (Nat.add_assoc _ _ _))⟩); have hnb67 := NB248_240.out; have hnc67 := NB240_248.out; obtain ⟨hcz68_0, hcz68_1⟩ := c2 BK248; have hfz68_0 := blk_frozen BK248.out 0; have hfz68_1 := blk_frozen BK248.out 1; have p58 : 0 ≤ (x50_2 : Int) := of_decide_eq_true (by first | (with_reducible assumption) | assumption); have q58 : (x50_2 : Int) < ((x249001_2.length : Int) : Int) := of_decide_eq_true (by first | (with_reducible assumption) | assumption); obtain ⟨go58, co58, eo58, gb58, gl58, cl58, HG58⟩ := Kd.R_form HO_249001.out (by omega); (first | cases eo58 | (injection eo58 with ea_ en_ ec_; (first | subst ea_ | (injection ea_ with ea_; subst ea_)); subst ec_; clear en_)); have GB58 := Aside0.mk gb58; have GG58 := Aside0.mk HG58; clear gb58 gl58 HG58; obtain ⟨hx58_0, hf58_0⟩ := Kd.R_celln 0 HO_249001.out (x50_2 : Int) p58 q58; replace p58 := eq_true p58; replace q58 := eq_true q58; obtain ⟨hy69_, hz69_⟩ := Kd.R_celln 0 HO_249001.out (x50_2 : Int) (of_decide_eq_true (by first | (with_reducible assumption) | assumption)) (of_decide_eq_true (by first | (with_reducible assumption) | assumption)); have HP69 := Kd.R_putg HO_249001.out (x50_2 : Int) t253) | ((with_reducible refine gate_store (t := 3) (p := 72) rfl ?_); (try (rw [drewN_self wr]; generalize hq_ : World.drewN wr _ = wr; have n0_ := Aside0.mk (Kd.R_at hq_ HO_249001.out); have n1_ := Aside0.mk (blk_at hq_ BK238.out); have n2_ := Aside0.mk (blk_at hq_ BK239.out); have n3_ := Aside0.mk (blk_at hq_ BK240.out); have n4_ := Aside0.mk (blk_at hq_ BK248.out); have n5_ := Aside0.mk (below_at hq_ HB.out); clear hq_ HO_249001 BK238 BK239 BK240 BK248 HB; have HO_249001 := n0_; have BK238 := n1_; have BK239 := n2_; have BK240 := n3_; have BK248 := n4_; have HB := n5_; clear n0_ n1_ n2_ n3_ n4_ n5_; (try (obtain ⟨hy69_, hz69_⟩ := Kd.R_celln 0 HO_249001.out (x50_2 : Int) (of_decide_eq_true (by first | (with_reducible assumption) | assumption)) (of_decide_eq_true (by first | (with_reducible assumption) | assumption)))); (try (have HP69 := Kd.R_putg HO_249001.out (x50_2 : Int) t253)))); refine store_event (t := 3) (p := 72) (v := ?vo_w70) (w1 := (wr.setCell ⟨go58, (x50_2 : Int).toNat, none⟩ (.int .i64 t253))) ?hg ?ho ?hn ?hr ?_; (case ho => rfl); (case hg => rfl); (case hn => rfl); (case hr => first | (go_simp; done) | (go_simp; rfl)); intro w70 hw; have hg : wr.grownBy w70 (some go58) := (by rw [hw]; exact HP69.2); have hp_ : Kd.R (Kd.int .i64) 3 w70 w.heap.size (fun _ => True) (.slice (some ⟨go58, 0, none⟩) x249001_2.length co58) y255 := (by rw [hw, Ny255.out]; exact HP69.1); clear HP69; have n0_ := Aside0.mk (hp_); have n1_ := Aside0.mk (blk_grown (g := gb238) (o := .cells #[.int .i64 a0_0, .slice (some ad251) l0_1.length c0_1] 29 (0, 0)) (mb BK238) hg (Kd.R_ne HO_249001.out BK238.out (by decide))); have n2_ := Aside0.mk (blk_grown (g := gb239) (o := .cells #[.int .i64 a2_0, .slice (some ad252) l2_1.length c2_1] 29 (0, 0)) (mb BK239) hg (Kd.R_ne HO_249001.out BK239.out (by decide))); have n3_ := Aside0.mk (blk_grown (g := gb240) (o := .cells #[.int .i64 0, .slice none 0 0] 29 (0, 0)) (mb BK240) hg (Kd.R_ne HO_249001.out BK240.out (by decide))); have n4_ := Aside0.mk (blk_grown (g := gb248) (o := .cells #[.int .i64 t249, .slice (some ⟨go58, 0, none⟩) x249001_2.length co58] 29 (0, 0)) (mb BK248) hg (Kd.R_ne HO_249001.out BK248.out (by decide))); have n5_ := Aside0.mk ((by rw [hw]; exact below_set (HB.out) GB58.out : Below w.heap.size w w70)); clear HO_249001 BK238 BK239 BK240 BK248 HB; have HO_249001 := n0_; have BK238 := n1_; have BK239 := n2_; have BK240 := n3_; have BK248 := n4_; have HB := n5_; clear n0_ n1_ n2_ n3_ n4_ n5_; clear hg hw hp_)))
            go_roundg k2
            case measure => have := HJ3.out; have := HK2.out; omega
            case rel => exact ⟨(t254), (wrap64 (x50_2 + 1)), (y255), (.slice (some ⟨go58, 0, none⟩) x249001_2.length co58), (by first | rfl | (simp; done) | (simp [*]; done)), (by first | rfl | (simp; done) | (simp [*]; done)), H', ⟨by have := HJ3.out; have := HK2.out; omega⟩, ⟨by (with_reducible repeat (first | apply Kd.R_alloc | apply Kd.R_drewN | apply Kd.R_drew)); exact HO_249001.out⟩, ⟨mb BK238⟩, ⟨mb BK239⟩, ⟨mb BK240⟩, ⟨mb BK248⟩, ⟨ms HB⟩⟩
           ·replace c59 := Bool.eq_false_iff.mpr c59
            subst c59
            have H1 : (impl_AddScaled.l0 k2 a1 false (l0_1.length : Int) (wrap64 (x50_2 + 1)) a0_0 l0_1 a2_0 l2_1 t249 y255) = some (r1, r2, r3) := by rw [if_neg (show ¬ (false = true) by decide)] at H; exact H
            clear H
            have H := H1
            clear H1
            have H' := Aside0.mk H
            clear H
            have hnb71 := NB238_239.out
            have hnc71 := NB239_238.out
            have hnb72 := NB238_240.out
            have hnc72 := NB240_238.out
            have hnb73 := NB238_248.out
            have hnc73 := NB248_238.out
            obtain ⟨hcz74_0, hcz74_1⟩ := c2 BK238
            have hfz74_0 := blk_frozen BK238.out 0
            have hfz74_1 := blk_frozen BK238.out 1
            have p251 : 0 ≤ (x50_2 : Int) := of_decide_eq_true (by first | (with_reducible assumption) | assumption)
            have q251 : x50_2 < (l0_1.length : Int) := of_decide_eq_true (by first | (with_reducible assumption) | assumption)
            obtain ⟨ad251, e251, hx251_0⟩ := Kd.at_int HR0_1.out x50_2 p251 q251
            cases e251
            replace hx251_0 := (HB.out.cell (World.block_lt_of_cell? w _ hx251_0)).trans hx251_0
            replace p251 := eq_true p251
            replace q251 := eq_true q251
            have hnb75 := NB239_240.out
            have hnc75 := NB240_239.out
            have hnb76 := NB239_248.out
            have hnc76 := NB248_239.out
            obtain ⟨hcz77_0, hcz77_1⟩ := c2 BK239
            have hfz77_0 := blk_frozen BK239.out 0
            have hfz77_1 := blk_frozen BK239.out 1
            have p252 : 0 ≤ (x50_2 : Int) := of_decide_eq_true (by first | (with_reducible assumption) | assumption)
            have q252 : x50_2 < (l2_1.length : Int) := of_decide_eq_true (by first | (with_reducible assumption) | assumption)
            obtain ⟨ad252, e252, hx252_0⟩ := Kd.at_int HR2_1.out x50_2 p252 q252
            cases e252
            replace hx252_0 := (HB.out.cell (World.block_lt_of_cell? w _ hx252_0)).trans hx252_0
            replace p252 := eq_true p252
            replace q252 := eq_true q252
            go_wp2_with (first | (go_at_call 124; (with_reducible refine (impl_scaled.calls (rd l0_1 x50_2) a1 (rd l2_1 x50_2) t253 t254 _ A56.out).mono ?_); rintro e w' ⟨rfl, ⟨nd, rfl⟩⟩; (try first | exact ⟨rfl, _, World.drewN_drewN _ _ _⟩ | exact ⟨rfl, _, Eq.trans (World.drewN_drewN _ _ _) (congrArg (World.drewN _) (Nat.add_assoc _ _ _))⟩); have hnb78 := NB248_240.out; have hnc78 := NB240_248.out; obtain ⟨hcz79_0, hcz79_1⟩ := c2 BK248; have hfz79_0 := blk_frozen BK248.out 0; have hfz79_1 := blk_frozen BK248.out 1; have p58 : 0 ≤ (x50_2 : Int) := of_decide_eq_true (by first | (with_reducible assumption) | assumption); have q58 : (x50_2 : Int) < ((x249001_2.length : Int) : Int) := of_decide_eq_true (by first | (with_reducible assumption) | assumption); obtain ⟨go58, co58, eo58, gb58, gl58, cl58, HG58⟩ := Kd.R_form HO_249001.out (by omega); (first | cases eo58 | (injection eo58 with ea_ en_ ec_; (first | subst ea_ | (injection ea_ with ea_; subst ea_)); subst ec_; clear en_)); have GB58 := Aside0.mk gb58; have GG58 := Aside0.mk HG58; clear gb58 gl58 HG58; obtain ⟨hx58_0, hf58_0⟩ := Kd.R_celln 0 HO_249001.out (x50_2 : Int) p58 q58; replace p58 := eq_true p58; replace q58 := eq_true q58; obtain ⟨hy80_, hz80_⟩ := Kd.R_celln 0 HO_249001.out (x50_2 : Int) (of_decide_eq_true (by first | (with_reducible assumption) | assumption)) (of_decide_eq_true (by first | (with_reducible assumption) | assumption)); have HP80 := Kd.R_putg HO_249001.out (x50_2 : Int) t253) | ((with_reducible refine gate_store (t := 3) (p := 72) rfl ?_); (try (rw [drewN_self wr]; generalize hq_ : World.drewN wr _ = wr; have n0_ := Aside0.mk (Kd.R_at hq_ HO_249001.out); have n1_ := Aside0.mk (blk_at hq_ BK238.out); have n2_ := Aside0.mk (blk_at hq_ BK239.out); have n3_ := Aside0.mk (blk_at hq_ BK240.out); have n4_ := Aside0.mk (blk_at hq_ BK248.out); have n5_ := Aside0.mk (below_at hq_ HB.out); clear hq_ HO_249001 BK238 BK239 BK240 BK248 HB; have HO_249001 := n0_; have BK238 := n1_; have BK239 := n2_; have BK240 := n3_; have BK248 := n4_; have HB := n5_; clear n0_ n1_ n2_ n3_ n4_ n5_; (try (obtain ⟨hy80_, hz80_⟩ := Kd.R_celln 0 HO_249001.out (x50_2 : Int) (of_decide_eq_true (by first | (with_reducible assumption) | assumption)) (of_decide_eq_true (by first | (with_reducible assumption) | assumption)))); (try (have HP80 := Kd.R_putg HO_249001.out (x50_2 : Int) t253)))); refine store_event (t := 3) (p := 72) (v := ?vo_w81) (w1 := (wr.setCell ⟨go58, (x50_2 : Int).toNat, none⟩ (.int .i64 t253))) ?hg ?ho ?hn ?hr ?_; (case ho => rfl); (case hg => rfl); (case hn => rfl); (case hr => first | (go_simp; done) | (go_simp; rfl)); intro w81 hw; have hg : wr.grownBy w81 (some go58) := (by rw [hw]; exact HP80.2); have hp_ : Kd.R (Kd.int .i64) 3 w81 w.heap.size (fun _ => True) (.slice (some ⟨go58, 0, none⟩) x249001_2.length co58) y255 := (by rw [hw, Ny255.out]; exact HP80.1); clear HP80; have n0_ := Aside0.mk (hp_); have n1_ := Aside0.mk (blk_grown (g := gb238) (o := .cells #[.int .i64 a0_0, .slice (some ad251) l0_1.length c0_1] 29 (0, 0)) (mb BK238) hg (Kd.R_ne HO_249001.out BK238.out (by decide))); have n2_ := Aside0.mk (blk_grown (g := gb239) (o := .cells #[.int .i64 a2_0, .slice (some ad252) l2_1.length c2_1] 29 (0, 0)) (mb BK239) hg (Kd.R_ne HO_249001.out BK239.out (by decide))); have n3_ := Aside0.mk (blk_grown (g := gb240) (o := .cells #[.int .i64 0, .slice none 0 0] 29 (0, 0)) (mb BK240) hg (Kd.R_ne HO_249001.out BK240.out (by decide))); have n4_ := Aside0.mk (blk_grown (g := gb248) (o := .cells #[.int .i64 t249, .slice (some ⟨go58, 0, none⟩) x249001_2.length co58] 29 (0, 0)) (mb BK248) hg (Kd.R_ne HO_249001.out BK248.out (by decide))); have n5_ := Aside0.mk ((by rw [hw]; exact below_set (HB.out) GB58.out : Below w.heap.size w w81)); clear HO_249001 BK238 BK239 BK240 BK248 HB; have HO_249001 := n0_; have BK238 := n1_; have BK239 := n2_; have BK240 := n3_; have BK248 := n4_; have HB := n5_; clear n0_ n1_ n2_ n3_ n4_ n5_; clear hg hw hp_))
            repeat (go_quiet (first | (go_at_call 124; (with_reducible refine (impl_scaled.calls (rd l0_1 x50_2) a1 (rd l2_1 x50_2) t253 t254 _ A56.out).mono ?_); rintro e w' ⟨rfl, ⟨nd, rfl⟩⟩; (try first | exact ⟨rfl, _, World.drewN_drewN _ _ _⟩ | exact ⟨rfl, _, Eq.trans (World.drewN_drewN _ _ _) (congrArg (World.drewN _) (Nat.add_assoc _ _ _))⟩); have hnb78 := NB248_240.out; have hnc78 := NB240_248.out; obtain ⟨hcz79_0, hcz79_1⟩ := c2 BK248; have hfz79_0 := blk_frozen BK248.out 0; have hfz79_1 := blk_frozen BK248.out 1; have p58 : 0 ≤ (x50_2 : Int) := of_decide_eq_true (by first | (with_reducible assumption) | assumption); have q58 : (x50_2 : Int) < ((x249001_2.length : Int) : Int) := of_decide_eq_true (by first | (with_reducible assumption) | assumption); obtain ⟨go58, co58, eo58, gb58, gl58, cl58, HG58⟩ := Kd.R_form HO_249001.out (by omega); (first | cases eo58 | (injection eo58 with ea_ en_ ec_; (first | subst ea_ | (injection ea_ with ea_; subst ea_)); subst ec_; clear en_)); have GB58 := Aside0.mk gb58; have GG58 := Aside0.mk HG58; clear gb58 gl58 HG58; obtain ⟨hx58_0, hf58_0⟩ := Kd.R_celln 0 HO_249001.out (x50_2 : Int) p58 q58; replace p58 := eq_true p58; replace q58 := eq_true q58; obtain ⟨hy80_, hz80_⟩ := Kd.R_celln 0 HO_249001.out (x50_2 : Int) (of_decide_eq_true (by first | (with_reducible assumption) | assumption)) (of_decide_eq_true (by first | (with_reducible assumption) | assumption)); have HP80 := Kd.R_putg HO_249001.out (x50_2 : Int) t253) | ((with_reducible refine gate_store (t := 3) (p := 72) rfl ?_); (try (rw [drewN_self wr]; generalize hq_ : World.drewN wr _ = wr; have n0_ := Aside0.mk (Kd.R_at hq_ HO_249001.out); have n1_ := Aside0.mk (blk_at hq_ BK238.out); have n2_ := Aside0.mk (blk_at hq_ BK239.out); have n3_ := Aside0.mk (blk_at hq_ BK240.out); have n4_ := Aside0.mk (blk_at hq_ BK248.out); have n5_ := Aside0.mk (below_at hq_ HB.out); clear hq_ HO_249001 BK238 BK239 BK240 BK248 HB; have HO_249001 := n0_; have BK238 := n1_; have BK239 := n2_; have BK240 := n3_; have BK248 := n4_; have HB := n5_; clear n0_ n1_ n2_ n3_ n4_ n5_; (try (obtain ⟨hy80_, hz80_⟩ := Kd.R_celln 0 HO_249001.out (x50_2 : Int) (of_decide_eq_true (by first | (with_reducible assumption) | assumption)) (of_decide_eq_true (by first | (with_reducible assumption) | assumption)))); (try (have HP80 := Kd.R_putg HO_249001.out (x50_2 : Int) t253)))); refine store_event (t := 3) (p := 72) (v := ?vo_w81) (w1 := (wr.setCell ⟨go58, (x50_2 : Int).toNat, none⟩ (.int .i64 t253))) ?hg ?ho ?hn ?hr ?_; (case ho => rfl); (case hg => rfl); (case hn => rfl); (case hr => first | (go_simp; done) | (go_simp; rfl)); intro w81 hw; have hg : wr.grownBy w81 (some go58) := (by rw [hw]; exact HP80.2); have hp_ : Kd.R (Kd.int .i64) 3 w81 w.heap.size (fun _ => True) (.slice (some ⟨go58, 0, none⟩) x249001_2.length co58) y255 := (by rw [hw, Ny255.out]; exact HP80.1); clear HP80; have n0_ := Aside0.mk (hp_); have n1_ := Aside0.mk (blk_grown (g := gb238) (o := .cells #[.int .i64 a0_0, .slice (some ad251) l0_1.length c0_1] 29 (0, 0)) (mb BK238) hg (Kd.R_ne HO_249001.out BK238.out (by decide))); have n2_ := Aside0.mk (blk_grown (g := gb239) (o := .cells #[.int .i64 a2_0, .slice (some ad252) l2_1.length c2_1] 29 (0, 0)) (mb BK239) hg (Kd.R_ne HO_249001.out BK239.out (by decide))); have n3_ := Aside0.mk (blk_grown (g := gb240) (o := .cells #[.int .i64 0, .slice none 0 0] 29 (0, 0)) (mb BK240) hg (Kd.R_ne HO_249001.out BK240.out (by decide))); have n4_ := Aside0.mk (blk_grown (g := gb248) (o := .cells #[.int .i64 t249, .slice (some ⟨go58, 0, none⟩) x249001_2.length co58] 29 (0, 0)) (mb BK248) hg (Kd.R_ne HO_249001.out BK248.out (by decide))); have n5_ := Aside0.mk ((by rw [hw]; exact below_set (HB.out) GB58.out : Below w.heap.size w w81)); clear HO_249001 BK238 BK239 BK240 BK248 HB; have HO_249001 := n0_; have BK238 := n1_; have BK239 := n2_; have BK240 := n3_; have BK248 := n4_; have HB := n5_; clear n0_ n1_ n2_ n3_ n4_ n5_; clear hg hw hp_)); try go_wp2_with (first | (go_at_call 124; (with_reducible refine (impl_scaled.calls (rd l0_1 x50_2) a1 (rd l2_1 x50_2) t253 t254 _ A56.out).mono ?_); rintro e w' ⟨rfl, ⟨nd, rfl⟩⟩; (try first | exact ⟨rfl, _, World.drewN_drewN _ _ _⟩ | exact ⟨rfl, _, Eq.trans (World.drewN_drewN _ _ _) (congrArg (World.drewN _) (Nat.add_assoc _ _ _))⟩); have hnb78 := NB248_240.out; have hnc78 := NB240_248.out; obtain ⟨hcz79_0, hcz79_1⟩ := c2 BK248; have hfz79_0 := blk_frozen BK248.out 0; have hfz79_1 := blk_frozen BK248.out 1; have p58 : 0 ≤ (x50_2 : Int) := of_decide_eq_true (by first | (with_reducible assumption) | assumption); have q58 : (x50_2 : Int) < ((x249001_2.length : Int) : Int) := of_decide_eq_true (by first | (with_reducible assumption) | assumption); obtain ⟨go58, co58, eo58, gb58, gl58, cl58, HG58⟩ := Kd.R_form HO_249001.out (by omega); (first | cases eo58 | (injection eo58 with ea_ en_ ec_; (first | subst ea_ | (injection ea_ with ea_; subst ea_)); subst ec_; clear en_)); have GB58 := Aside0.mk gb58; have GG58 := Aside0.mk HG58; clear gb58 gl58 HG58; obtain ⟨hx58_0, hf58_0⟩ := Kd.R_celln 0 HO_249001.out (x50_2 : Int) p58 q58; replace p58 := eq_true p58; replace q58 := eq_true q58; obtain ⟨hy80_, hz80_⟩ := Kd.R_celln 0 HO_249001.out (x50_2 : Int) (of_decide_eq_true (by first | (with_reducible assumption) | assumption)) (of_decide_eq_true (by first | (with_reducible assumption) | assumption)); have HP80 := Kd.R_putg HO_249001.out (x50_2 : Int) t253) | ((with_reducible refine gate_store (t := 3) (p := 72) rfl ?_); (try (rw [drewN_self wr]; generalize hq_ : World.drewN wr _ = wr; have n0_ := Aside0.mk (Kd.R_at hq_ HO_249001.out); have n1_ := Aside0.mk (blk_at hq_ BK238.out); have n2_ := Aside0.mk (blk_at hq_ BK239.out); have n3_ := Aside0.mk (blk_at hq_ BK240.out); have n4_ := Aside0.mk (blk_at hq_ BK248.out); have n5_ := Aside0.mk (below_at hq_ HB.out); clear hq_ HO_249001 BK238 BK239 BK240 BK248 HB; have HO_249001 := n0_; have BK238 := n1_; have BK239 := n2_; have BK240 := n3_; have BK248 := n4_; have HB := n5_; clear n0_ n1_ n2_ n3_ n4_ n5_; (try (obtain ⟨hy80_, hz80_⟩ := Kd.R_celln 0 HO_249001.out (x50_2 : Int) (of_decide_eq_true (by first | (with_reducible assumption) | assumption)) (of_decide_eq_true (by first | (with_reducible assumption) | assumption)))); (try (have HP80 := Kd.R_putg HO_249001.out (x50_2 : Int) t253)))); refine store_event (t := 3) (p := 72) (v := ?vo_w81) (w1 := (wr.setCell ⟨go58, (x50_2 : Int).toNat, none⟩ (.int .i64 t253))) ?hg ?ho ?hn ?hr ?_; (case ho => rfl); (case hg => rfl); (case hn => rfl); (case hr => first | (go_simp; done) | (go_simp; rfl)); intro w81 hw; have hg : wr.grownBy w81 (some go58) := (by rw [hw]; exact HP80.2); have hp_ : Kd.R (Kd.int .i64) 3 w81 w.heap.size (fun _ => True) (.slice (some ⟨go58, 0, none⟩) x249001_2.length co58) y255 := (by rw [hw, Ny255.out]; exact HP80.1); clear HP80; have n0_ := Aside0.mk (hp_); have n1_ := Aside0.mk (blk_grown (g := gb238) (o := .cells #[.int .i64 a0_0, .slice (some ad251) l0_1.length c0_1] 29 (0, 0)) (mb BK238) hg (Kd.R_ne HO_249001.out BK238.out (by decide))); have n2_ := Aside0.mk (blk_grown (g := gb239) (o := .cells #[.int .i64 a2_0, .slice (some ad252) l2_1.length c2_1] 29 (0, 0)) (mb BK239) hg (Kd.R_ne HO_249001.out BK239.out (by decide))); have n3_ := Aside0.mk (blk_grown (g := gb240) (o := .cells #[.int .i64 0, .slice none 0 0] 29 (0, 0)) (mb BK240) hg (Kd.R_ne HO_249001.out BK240.out (by decide))); have n4_ := Aside0.mk (blk_grown (g := gb248) (o := .cells #[.int .i64 t249, .slice (some ⟨go58, 0, none⟩) x249001_2.length co58] 29 (0, 0)) (mb BK248) hg (Kd.R_ne HO_249001.out BK248.out (by decide))); have n5_ := Aside0.mk ((by rw [hw]; exact below_set (HB.out) GB58.out : Below w.heap.size w w81)); clear HO_249001 BK238 BK239 BK240 BK248 HB; have HO_249001 := n0_; have BK238 := n1_; have BK239 := n2_; have BK240 := n3_; have BK248 := n4_; have HB := n5_; clear n0_ n1_ n2_ n3_ n4_ n5_; clear hg hw hp_)))
            go_roundg k2
            case measure => have := HJ3.out; have := HK2.out; omega
            case rel => exact ⟨(false), (wrap64 (x50_2 + 1)), (y255), (.slice (some ⟨go58, 0, none⟩) x249001_2.length co58), (by first | rfl | (simp; done) | (simp [*]; done)), (by first | rfl | (simp; done) | (simp [*]; done)), H', ⟨by have := HJ3.out; have := HK2.out; omega⟩, ⟨by (with_reducible repeat (first | apply Kd.R_alloc | apply Kd.R_drewN | apply Kd.R_drew)); exact HO_249001.out⟩, ⟨mb BK238⟩, ⟨mb BK239⟩, ⟨mb BK240⟩, ⟨mb BK248⟩, ⟨ms HB⟩⟩
          ·rw [if_neg c57] at H
           exact absurd H (by simp)
         ·rw [if_neg c55] at H
          exact absurd H (by simp)
        ·rw [if_neg c54] at H
         exact absurd H (by simp)
       ·rw [if_neg c53] at H
        exact absurd H (by simp)
      ·rw [if_neg c52] at H
       have c52b0 : decide (x50_2 < (l0_1.length : Int)) = false := decide_eq_false c52
       clear c52
       by_cases c82 : x11_2 = true
       ·subst c82
        have H1 : (some (t249, x249001_2, true)) = some (r1, r2, r3) := by rw [if_pos rfl] at H; exact H
        clear H
        have H := H1
        clear H1
        simp only [Option.some.injEq, Prod.mk.injEq] at H
        obtain ⟨rfl, rfl, rfl⟩ := H
        have hnb83 := NB248_238.out
        have hnc83 := NB238_248.out
        have hnb84 := NB248_239.out
        have hnc84 := NB239_248.out
        have hnb85 := NB248_240.out
        have hnc85 := NB240_248.out
        obtain ⟨hcz86_0, hcz86_1⟩ := c2 BK248
        have hfz86_0 := blk_frozen BK248.out 0
        have hfz86_1 := blk_frozen BK248.out 1
        have hnb87 := NB240_238.out
        have hnc87 := NB238_240.out
        have hnb88 := NB240_239.out
        have hnc88 := NB239_240.out
        obtain ⟨hcz89_0, hcz89_1⟩ := c2 BK240
        have hfz89_0 := blk_frozen BK240.out 0
        have hfz89_1 := blk_frozen BK240.out 1
        obtain ⟨Ao90, co90, eo90⟩ := Kd.R_slice HO_249001.out
        subst eo90
        go_wp2
        repeat (go_quiet (fail); try go_wp2)
        refine bodyPost_ret (results_ct rfl _ _ gb240 29 #[.int .i64 t249, .slice Ao90 x249001_2.length co90] (0, 0) _ rfl (by (with_reducible repeat (first | refine blk_drewN ?_ _ | refine blk_drew ?_ | refine blk_alloc ?_ _)); refine blk_put (cs := #[.int .i64 t249, .slice none 0 0]) ?_ 1 _ rfl; (with_reducible repeat (first | refine blk_drewN ?_ _ | refine blk_drew ?_ | refine blk_alloc ?_ _)); refine blk_put (cs := #[.int .i64 0, .slice none 0 0]) ?_ 0 _ rfl; (with_reducible repeat (first | refine blk_drewN ?_ _ | refine blk_drew ?_ | refine blk_alloc ?_ _)); exact BK240.out) Try.underlying29 rfl (by kernel_rfl)) rfl ?_
        exact ⟨_, by first | rfl | (simp [errW_none, errW_some] <;> rfl) | (simp [*, errW_none, errW_some] <;> rfl), by (with_reducible repeat (first | apply Kd.R_alloc | apply Kd.R_drewN | apply Kd.R_drew)); exact Kd.R_mono (Kd.R_far (p := ⟨gb240, 1, none⟩) (Kd.R_far (p := ⟨gb240, 0, none⟩) (Kd.R_types HO_249001.out BK240.out (by decide)) (fun _ hk => hk.2) (.int .i64 t249)) (fun _ hk => hk.2) (.slice Ao90 x249001_2.length co90)) (fun _ hk => trivial), ms HB⟩
       ·replace c82 := Bool.eq_false_iff.mpr c82
        subst c82
        have H1 : (some (0, ([] : List Int), false)) = some (r1, r2, r3) := by rw [if_neg (show ¬ (false = true) by decide)] at H; exact H
        clear H
        have H := H1
        clear H1
        simp only [Option.some.injEq, Prod.mk.injEq] at H
        obtain ⟨rfl, rfl, rfl⟩ := H
        have hnb91 := NB240_238.out
        have hnc91 := NB238_240.out
        have hnb92 := NB240_239.out
        have hnc92 := NB239_240.out
        have hnb93 := NB240_248.out
        have hnc93 := NB248_240.out
        obtain ⟨hcz94_0, hcz94_1⟩ := c2 BK240
        have hfz94_0 := blk_frozen BK240.out 0
        have hfz94_1 := blk_frozen BK240.out 1
        go_wp2
        repeat (go_quiet (fail); try go_wp2)
        refine bodyPost_ret (results_ct rfl _ _ gb240 29 #[.int .i64 0, .slice none 0 0] (0, 0) _ rfl (by (with_reducible repeat (first | refine blk_drewN ?_ _ | refine blk_drew ?_ | refine blk_alloc ?_ _)); refine blk_put (cs := #[.int .i64 0, .slice none 0 0]) ?_ 1 _ rfl; (with_reducible repeat (first | refine blk_drewN ?_ _ | refine blk_drew ?_ | refine blk_alloc ?_ _)); refine blk_put (cs := #[.int .i64 0, .slice none 0 0]) ?_ 0 _ rfl; (with_reducible repeat (first | refine blk_drewN ?_ _ | refine blk_drew ?_ | refine blk_alloc ?_ _)); exact BK240.out) Try.underlying29 rfl (by kernel_rfl)) rfl ?_
        exact ⟨_, by first | rfl | (simp [errW_none, errW_some] <;> rfl) | (simp [*, errW_none, errW_some] <;> rfl), by first | exact Kd.R_nil _ _ _ _ _ | exact Kd.N_nil _ _ _ _ _ | exact Kd.V_nil _ _ _ _ _ | exact Kd.Q_nil _ _ _ _ _ | exact Kd.S_nil _ _ _ _ _, ms HB⟩

/-! ### impl_CombineRows_1: function 98 -/
def impl_CombineRows_1.f (a0 : Int) : Option (Bool) := (impl_within.f a0 0 1000000000).bind fun t256 => (some (!t256))
set_option maxHeartbeats 8000000 in
set_option maxRecDepth 100000 in
theorem impl_CombineRows_1.calls (a0 : Int) (r : Bool) (w : World) (h : impl_CombineRows_1.f a0 = some r) :
  Calls Try.prog 98 #[.int .i64 a0] w fun e w' => e = .returned (.bool r) ∧ Drawn0 w w' := by
 have H : ((impl_within.f a0 0 1000000000).bind fun t256 => (some (!t256))) = some r := h
 clear h
 replace H := Option.bind_eq_some_iff.mp H
 obtain ⟨t256, A20, H⟩ := H
 replace H : (some (!t256)) = some r := H
 have A2 := Aside0.mk A20
 clear A20
 obtain rfl := Option.some.inj H
 go_enter Try.func98, Try.ntmps98
 go_wp2_with (first | ((with_reducible refine gate_callee (f := 99) rfl ?_); refine gl (some 4) rfl rfl Try.func99 (by kernel_rfl) rfl #[.int .i64 a0, .int .i64 0, .int .i64 1000000000] rfl ?_; (with_reducible refine (impl_within.calls a0 0 1000000000 t256 _ A2.out).mono ?_); rintro e w' ⟨rfl, ⟨nd, rfl⟩⟩; refine ⟨_, rfl, ?_⟩))
 go_ret
 exact ⟨by first | rfl | (simp; done) | (simp [*]; done), by repeat (first | exact Drawn0.refl _ | apply Drawn0.step)⟩

/-! ### slices_IndexFunc_int_int__CombineRows_1: function 134 -/
def slices_IndexFunc_int_int__CombineRows_1.l0 : Nat → List Int → Int → Int → Option (Int)
 | 0, _, _, _ => none
 | k + 1, x0, x7, x8 => if x8 < x7 then (if 0 ≤ x8 then (if x8 < (x0.length : Int) then ((impl_CombineRows_1.f (rd x0 x8)).bind fun t258 => (if t258 = true then (some x8) else (slices_IndexFunc_int_int__CombineRows_1.l0 k x0 x7 (wrap64 (x8 + 1))))) else (none)) else (none)) else (some (-1))
def slices_IndexFunc_int_int__CombineRows_1.f (k : Nat) (l0 : List Int) (a1 : Unit) : Option (Int) := slices_IndexFunc_int_int__CombineRows_1.l0 k l0 (l0.length : Int) 0
theorem slices_IndexFunc_int_int__CombineRows_1.mono_l : ∀ k, (∀ y0 y1 y2, LeO (slices_IndexFunc_int_int__CombineRows_1.l0 k y0 y1 y2) (slices_IndexFunc_int_int__CombineRows_1.l0 (k + 1) y0 y1 y2))
 | 0 => fun _ _ _ r h => by simp [slices_IndexFunc_int_int__CombineRows_1.l0] at h
 | k + 1 => by
  have ih0 := slices_IndexFunc_int_int__CombineRows_1.mono_l k
  ·intro y0 y1 y2
   unfold slices_IndexFunc_int_int__CombineRows_1.l0
   repeat' first
   | (with_reducible exact ih0 _ _ _)
   | (with_reducible exact LeO.refl _)
   | (with_reducible exact LeO.none _)
   | (with_reducible refine LeO.ite ?_ ?_)
   | (with_reducible refine LeO.bind ?_ (fun _ => ?_))
   | exact ih0 _ _ _
   | exact LeO.none _
   | refine LeO.ite ?_ ?_
   | refine LeO.bind ?_ (fun _ => ?_)
theorem slices_IndexFunc_int_int__CombineRows_1.mono : ∀ a0 a1 k, LeO (slices_IndexFunc_int_int__CombineRows_1.f k a0 a1) (slices_IndexFunc_int_int__CombineRows_1.f (k + 1) a0 a1) := by
 intro a0 a1 k
 have ih0 := slices_IndexFunc_int_int__CombineRows_1.mono_l k
 unfold slices_IndexFunc_int_int__CombineRows_1.f
 repeat' first
   | (with_reducible exact ih0 _ _ _)
   | (with_reducible exact LeO.refl _)
   | (with_reducible exact LeO.none _)
   | (with_reducible refine LeO.ite ?_ ?_)
   | (with_reducible refine LeO.bind ?_ (fun _ => ?_))
   | exact ih0 _ _ _
   | exact LeO.none _
   | refine LeO.ite ?_ ?_
   | refine LeO.bind ?_ (fun _ => ?_)
set_option maxHeartbeats 8000000 in
set_option maxRecDepth 100000 in
theorem slices_IndexFunc_int_int__CombineRows_1.calls (k : Nat) (A0 : Option Addr) (c0 : Nat) (l0 : List Int) (a1 : Unit) (r : Int) (w : World) (hr0 : Kd.C (Kd.int .i64) w A0 l0.length l0) (hc0 : l0.length ≤ c0) (h : slices_IndexFunc_int_int__CombineRows_1.f k l0 a1 = some r) :
  Calls Try.prog 134 #[.slice A0 l0.length c0, .func (.func 98) #[] #[]] w fun e w' => e = .returned (.int .i64 r) ∧ Drawn0 w w' := by
 have HR0 := Aside0.mk hr0
 have HC0 := Aside0.mk hc0
 clear hr0 hc0
 have H : (slices_IndexFunc_int_int__CombineRows_1.l0 k l0 (l0.length : Int) 0) = some r := h
 clear h
 have H' := Aside0.mk H
 clear H
 go_enter Try.func134, Try.ntmps134
 go_wp2
 go_loopg [8] k (fun kq v8 w' => ∃ (x8_1 : Int), v8 = .int .i64 x8_1 ∧ Aside0 (slices_IndexFunc_int_int__CombineRows_1.l0 kq l0 (l0.length : Int) x8_1 = some r) ∧ Aside0 (kq ≤ k) ∧ Drawn0 w w')
 case atStart => exact ⟨(0), (by first | rfl | (simp; done) | (simp [*]; done)), H', ⟨Nat.le_refl _⟩, by repeat (first | exact Drawn0.refl _ | apply Drawn0.step)⟩
 case round =>
  clear H'
  try clear p2
  obtain ⟨x8_1, rfl, HA, HK1, ⟨m1, rfl⟩⟩ := hrel
  cases gk with
  | zero => exact absurd HA.out (by simp [slices_IndexFunc_int_int__CombineRows_1.l0])
  | succ k1 =>
   have H := HA.out
   clear HA
   simp only [slices_IndexFunc_int_int__CombineRows_1.l0] at H
   by_cases c3 : x8_1 < (l0.length : Int)
   ·rw [if_pos c3] at H
    have c3b0 : decide (x8_1 < (l0.length : Int)) = true := decide_eq_true c3
    clear c3
    by_cases c4 : 0 ≤ x8_1
    ·rw [if_pos c4] at H
     have c4b0 : decide (0 ≤ x8_1) = true := decide_eq_true c4
     clear c4
     by_cases c5 : x8_1 < (l0.length : Int)
     ·rw [if_pos c5] at H
      have c5b0 : decide (x8_1 < (l0.length : Int)) = true := decide_eq_true c5
      clear c5
      replace H := Option.bind_eq_some_iff.mp H
      obtain ⟨t258, A60, H⟩ := H
      replace H : (if t258 = true then (some x8_1) else (slices_IndexFunc_int_int__CombineRows_1.l0 k1 l0 (l0.length : Int) (wrap64 (x8_1 + 1)))) = some r := H
      have A6 := Aside0.mk A60
      clear A60
      by_cases c7 : t258 = true
      ·subst c7
       have H1 : (some x8_1) = some r := by rw [if_pos rfl] at H; exact H
       clear H
       have H := H1
       clear H1
       obtain rfl := Option.some.inj H
       have p257 : 0 ≤ (x8_1 : Int) := of_decide_eq_true (by first | (with_reducible assumption) | assumption)
       have q257 : x8_1 < (l0.length : Int) := of_decide_eq_true (by first | (with_reducible assumption) | assumption)
       obtain ⟨ad257, e257, hx257_0⟩ := Kd.at_int HR0.out x8_1 p257 q257
       cases e257
       replace p257 := eq_true p257
       replace q257 := eq_true q257
       go_wp2_with (first | (go_at_call 98; (with_reducible refine (impl_CombineRows_1.calls (rd l0 x8_1) true _ A6.out).mono ?_); rintro e w' ⟨rfl, ⟨nd, rfl⟩⟩))
       go_ret
       exact ⟨by first | rfl | (simp; done) | (simp [*]; done), by repeat (first | exact Drawn0.refl _ | apply Drawn0.step)⟩
      ·replace c7 := Bool.eq_false_iff.mpr c7
       subst c7
       have H1 : (slices_IndexFunc_int_int__CombineRows_1.l0 k1 l0 (l0.length : Int) (wrap64 (x8_1 + 1))) = some r := by rw [if_neg (show ¬ (false = true) by decide)] at H; exact H
       clear H
       have H := H1
       clear H1
       have H' := Aside0.mk H
       clear H
       have p257 : 0 ≤ (x8_1 : Int) := of_decide_eq_true (by first | (with_reducible assumption) | assumption)
       have q257 : x8_1 < (l0.length : Int) := of_decide_eq_true (by first | (with_reducible assumption) | assumption)
       obtain ⟨ad257, e257, hx257_0⟩ := Kd.at_int HR0.out x8_1 p257 q257
       cases e257
       replace p257 := eq_true p257
       replace q257 := eq_true q257
       go_wp2_with (first | (go_at_call 98; (with_reducible refine (impl_CombineRows_1.calls (rd l0 x8_1) false _ A6.out).mono ?_); rintro e w' ⟨rfl, ⟨nd, rfl⟩⟩))
       go_roundg k1
       case measure => have := HK1.out; omega
       case rel => exact ⟨(wrap64 (x8_1 + 1)), (by first | rfl | (simp; done) | (simp [*]; done)), H', ⟨by have := HK1.out; omega⟩, by repeat (first | exact Drawn0.refl _ | apply Drawn0.step)⟩
     ·rw [if_neg c5] at H
      exact absurd H (by simp)
    ·rw [if_neg c4] at H
     exact absurd H (by simp)
   ·rw [if_neg c3] at H
    have c3b0 : decide (x8_1 < (l0.length : Int)) = false := decide_eq_false c3
    clear c3
    obtain rfl := Option.some.inj H
    go_wp2
    go_ret
    exact ⟨by first | rfl | (simp; done) | (simp [*]; done), by repeat (first | exact Drawn0.refl _ | apply Drawn0.step)⟩

/-! ### slices_ContainsFunc_int_int__CombineRows_1: function 97 -/
def slices_ContainsFunc_int_int__CombineRows_1.f (k : Nat) (l0 : List Int) (a1 : Unit) : Option (Bool) := (slices_IndexFunc_int_int__CombineRows_1.f k l0 a1).bind fun t259 => (some (decide (t259 ≥ 0)))
theorem slices_ContainsFunc_int_int__CombineRows_1.mono : ∀ a0 a1 k, LeO (slices_ContainsFunc_int_int__CombineRows_1.f k a0 a1) (slices_ContainsFunc_int_int__CombineRows_1.f (k + 1) a0 a1) := by
 intro a0 a1 k
 unfold slices_ContainsFunc_int_int__CombineRows_1.f
 repeat' first
   | (with_reducible exact slices_IndexFunc_int_int__CombineRows_1.mono _ _ _)
   | (with_reducible exact LeO.refl _)
   | (with_reducible exact LeO.none _)
   | (with_reducible refine LeO.ite ?_ ?_)
   | (with_reducible refine LeO.bind ?_ (fun _ => ?_))
   | exact slices_IndexFunc_int_int__CombineRows_1.mono _ _ _
   | exact LeO.none _
   | refine LeO.ite ?_ ?_
   | refine LeO.bind ?_ (fun _ => ?_)
set_option maxHeartbeats 8000000 in
set_option maxRecDepth 100000 in
theorem slices_ContainsFunc_int_int__CombineRows_1.calls (k : Nat) (A0 : Option Addr) (c0 : Nat) (l0 : List Int) (a1 : Unit) (r : Bool) (w : World) (hr0 : Kd.C (Kd.int .i64) w A0 l0.length l0) (hc0 : l0.length ≤ c0) (h : slices_ContainsFunc_int_int__CombineRows_1.f k l0 a1 = some r) :
  Calls Try.prog 97 #[.slice A0 l0.length c0, .func (.func 98) #[] #[]] w fun e w' => e = .returned (.bool r) ∧ Drawn0 w w' := by
 have HR0 := Aside0.mk hr0
 have HC0 := Aside0.mk hc0
 clear hr0 hc0
 have H : ((slices_IndexFunc_int_int__CombineRows_1.f k l0 a1).bind fun t259 => (some (decide (t259 ≥ 0)))) = some r := h
 clear h
 replace H := Option.bind_eq_some_iff.mp H
 obtain ⟨t259, A30, H⟩ := H
 replace H : (some (decide (t259 ≥ 0))) = some r := H
 have A3 := Aside0.mk A30
 clear A30
 obtain rfl := Option.some.inj H
 go_enter Try.func97, Try.ntmps97
 go_wp2_with (first | (go_at_call 134; (with_reducible refine (slices_IndexFunc_int_int__CombineRows_1.calls k _ _ l0 a1 t259 _ ?side1 ?side2 A3.out).mono ?_); (case side1 => repeat (first | exact HR0.out | (with_reducible refine Kd.C_alloc ?_ _) | (with_reducible refine Kd.C_drewN ?_ _) | (with_reducible refine Kd.C_drew ?_))); (case side2 => exact HC0.out); rintro e w' ⟨rfl, ⟨nd, rfl⟩⟩))
 go_ret
 exact ⟨by first | rfl | (simp; done) | (simp [*]; done), by repeat (first | exact Drawn0.refl _ | apply Drawn0.step)⟩

end Go.Proofs.Ytlencemmlgkflaa.QFnExactCombineRows
