-- Made by a program of this claim's own (wip/print): not the kit's print as it stands.
import Derived.Test.YtkfllkmhbkmepaaUFnExactAddScaledTwo
import Derived.Test.YtkfllkmhbkmepaaQFnExactAddScaledx0
import Derived.Test.YtkfllkmhbkmepaaQFnExactAddScaledx2
import Derived.Test.YtkfllkmhbkmepaaQFnExactAddScaledx3
namespace Go.Proofs.Ytkfllkmhbkmepaa.QFnExactAddScaled
open Go.RowKit Go.Proofs.YtkfllkmhbkmepaaV.PrintWords Go.Proofs.YtkfllkmhbkmepaaV.PrintLast Go.Proofs.YtkfllkmhbkmepaaV.PrintMore
attribute [local go_sem] max2_int min2_int max_two min_two max_three min_three max_four min_four   -- for this text's walks alone
set_option linter.unusedVariables false
set_option linter.unusedSimpArgs false

/-! ### impl_AddScaled: function 41 -/
mutual
def impl_AddScaled.j0 : Nat → Int → Int → Bool → Int → List Int → Int → List Int → Option (Int × List Int × Bool)
 | 0, _, _, _, _, _, _, _ => none
 | k + 1, x1, x8, x32, x173000, x173001, x174000, x174001 => if x32 = true then (some (0, ([] : List Int), false)) else ((impl_ConstLin.f 0 x8).bind fun bt178 => ((impl_scaled.f x173000 x1 x174000).bind fun bt183 => (impl_AddScaled.l0 k x1 bt183.2 (x173001.length : Int) 0 x173000 x173001 x174000 x174001 bt183.1 bt178.2)))
def impl_AddScaled.l0 : Nat → Int → Bool → Int → Int → Int → List Int → Int → List Int → Int → List Int → Option (Int × List Int × Bool)
 | 0, _, _, _, _, _, _, _, _, _, _ => none
 | k + 1, x1, x11, x49, x50, x173000, x173001, x174000, x174001, x183000, x183001 => if x50 < x49 then (if 0 ≤ x50 then (if x50 < (x173001.length : Int) then (if x50 < (x174001.length : Int) then ((impl_scaled.f (rd x173001 x50) x1 (rd x174001 x50)).bind fun bt187 => (if x50 < (x183001.length : Int) then ((some (x183001.set (x50 : Int).toNat bt187.1 : List Int)).bind fun y189 => (if x11 = true then (impl_AddScaled.l0 k x1 bt187.2 x49 (wrap64 (x50 + 1)) x173000 x173001 x174000 x174001 x183000 y189) else (impl_AddScaled.l0 k x1 false x49 (wrap64 (x50 + 1)) x173000 x173001 x174000 x174001 x183000 y189))) else (none))) else (none)) else (none)) else (none)) else (if x11 = true then (some (x183000, x183001, true)) else (some (0, ([] : List Int), false)))
end
def impl_AddScaled.f (k : Nat) (a0_0 : Int) (l0_1 : List Int) (a1 : Int) (a2_0 : Int) (l2_1 : List Int) : Option (Int × List Int × Bool) := (impl_IsValidLin.f k a0_0 l0_1 (l0_1.length : Int)).bind fun t175 => (if t175 = true then ((impl_IsValidLin.f k a2_0 l2_1 (l0_1.length : Int)).bind fun t176 => (if t176 = true then ((impl_coeffOk.f a1).bind fun t177 => (impl_AddScaled.j0 k a1 (l0_1.length : Int) (!t177) a0_0 l0_1 a2_0 l2_1)) else (impl_AddScaled.j0 k a1 (l0_1.length : Int) true a0_0 l0_1 a2_0 l2_1))) else (impl_AddScaled.j0 k a1 (l0_1.length : Int) true a0_0 l0_1 a2_0 l2_1))
theorem impl_AddScaled.mono_l : ∀ k, (∀ y0 y1 y2 y3 y4 y5 y6, LeO (impl_AddScaled.j0 k y0 y1 y2 y3 y4 y5 y6) (impl_AddScaled.j0 (k + 1) y0 y1 y2 y3 y4 y5 y6)) ∧ (∀ y0 y1 y2 y3 y4 y5 y6 y7 y8 y9, LeO (impl_AddScaled.l0 k y0 y1 y2 y3 y4 y5 y6 y7 y8 y9) (impl_AddScaled.l0 (k + 1) y0 y1 y2 y3 y4 y5 y6 y7 y8 y9))
 | 0 => ⟨fun _ _ _ _ _ _ _ r h => by simp [impl_AddScaled.j0] at h, fun _ _ _ _ _ _ _ _ _ _ r h => by simp [impl_AddScaled.l0] at h⟩
 | k + 1 => by
  obtain ⟨ih0, ih1⟩ := impl_AddScaled.mono_l k
  refine ⟨?_, ?_⟩
  ·intro y0 y1 y2 y3 y4 y5 y6
   unfold impl_AddScaled.j0
   repeat' first
   | (with_reducible exact ih0 _ _ _ _ _ _ _)
   | (with_reducible exact ih1 _ _ _ _ _ _ _ _ _ _)
   | (with_reducible exact impl_IsValidLin.mono _ _ _ _)
   | (with_reducible exact LeO.refl _)
   | (with_reducible exact LeO.none _)
   | (with_reducible refine LeO.ite ?_ ?_)
   | (with_reducible refine LeO.bind ?_ (fun _ => ?_))
   | exact ih0 _ _ _ _ _ _ _
   | exact ih1 _ _ _ _ _ _ _ _ _ _
   | exact impl_IsValidLin.mono _ _ _ _
   | exact LeO.none _
   | refine LeO.ite ?_ ?_
   | refine LeO.bind ?_ (fun _ => ?_)
  ·intro y0 y1 y2 y3 y4 y5 y6 y7 y8 y9
   unfold impl_AddScaled.l0
   repeat' first
   | (with_reducible exact ih0 _ _ _ _ _ _ _)
   | (with_reducible exact ih1 _ _ _ _ _ _ _ _ _ _)
   | (with_reducible exact impl_IsValidLin.mono _ _ _ _)
   | (with_reducible exact LeO.refl _)
   | (with_reducible exact LeO.none _)
   | (with_reducible refine LeO.ite ?_ ?_)
   | (with_reducible refine LeO.bind ?_ (fun _ => ?_))
   | exact ih0 _ _ _ _ _ _ _
   | exact ih1 _ _ _ _ _ _ _ _ _ _
   | exact impl_IsValidLin.mono _ _ _ _
   | exact LeO.none _
   | refine LeO.ite ?_ ?_
   | refine LeO.bind ?_ (fun _ => ?_)
theorem impl_AddScaled.mono : ∀ a0 a1 a2 a3 a4 k, LeO (impl_AddScaled.f k a0 a1 a2 a3 a4) (impl_AddScaled.f (k + 1) a0 a1 a2 a3 a4) := by
 intro a0 a1 a2 a3 a4 k
 obtain ⟨ih0, ih1⟩ := impl_AddScaled.mono_l k
 unfold impl_AddScaled.f
 repeat' first
   | (with_reducible exact ih0 _ _ _ _ _ _ _)
   | (with_reducible exact ih1 _ _ _ _ _ _ _ _ _ _)
   | (with_reducible exact impl_IsValidLin.mono _ _ _ _)
   | (with_reducible exact LeO.refl _)
   | (with_reducible exact LeO.none _)
   | (with_reducible refine LeO.ite ?_ ?_)
   | (with_reducible refine LeO.bind ?_ (fun _ => ?_))
   | exact ih0 _ _ _ _ _ _ _
   | exact ih1 _ _ _ _ _ _ _ _ _ _
   | exact impl_IsValidLin.mono _ _ _ _
   | exact LeO.none _
   | refine LeO.ite ?_ ?_
   | refine LeO.bind ?_ (fun _ => ?_)
set_option maxHeartbeats 8000000 in
set_option maxRecDepth 100000 in
theorem impl_AddScaled.calls (k : Nat) (a0_0 : Int) (A0_1 : Option Addr) (c0_1 : Nat) (l0_1 : List Int) (a1 : Int) (a2_0 : Int) (A2_1 : Option Addr) (c2_1 : Nat) (l2_1 : List Int) (r1 : Int) (r2 : List Int) (r3 : Bool) (w : World) (hr0_1 : Kd.C (Kd.int .i64) w A0_1 l0_1.length l0_1) (hc0_1 : l0_1.length ≤ c0_1) (hr2_1 : Kd.C (Kd.int .i64) w A2_1 l2_1.length l2_1) (hc2_1 : l2_1.length ≤ c2_1) (h : impl_AddScaled.f k a0_0 l0_1 a1 a2_0 l2_1 = some (r1, r2, r3)) :
  Calls Try.prog 41 #[.agg #[.int .i64 a0_0, .slice A0_1 l0_1.length c0_1], .int .i64 a1, .agg #[.int .i64 a2_0, .slice A2_1 l2_1.length c2_1]] w fun e w' => ∃ v1_ : Value, e = .returned (.tuple #[.agg #[.int .i64 r1, v1_], .bool r3]) ∧ Kd.R (Kd.int .i64) 3 w' w.heap.size (fun _ => True) v1_ r2 ∧ Below w.heap.size w w' := by
 have hu51 := Try.underlying51
 have HR0_1 := Aside0.mk hr0_1
 have HC0_1 := Aside0.mk hc0_1
 clear hr0_1 hc0_1
 have HR2_1 := Aside0.mk hr2_1
 have HC2_1 := Aside0.mk hc2_1
 clear hr2_1 hc2_1
 have HB := Aside0.mk (Below.refl w.heap.size w)
 have H : ((impl_IsValidLin.f k a0_0 l0_1 (l0_1.length : Int)).bind fun t175 => (if t175 = true then ((impl_IsValidLin.f k a2_0 l2_1 (l0_1.length : Int)).bind fun t176 => (if t176 = true then ((impl_coeffOk.f a1).bind fun t177 => (impl_AddScaled.j0 k a1 (l0_1.length : Int) (!t177) a0_0 l0_1 a2_0 l2_1)) else (impl_AddScaled.j0 k a1 (l0_1.length : Int) true a0_0 l0_1 a2_0 l2_1))) else (impl_AddScaled.j0 k a1 (l0_1.length : Int) true a0_0 l0_1 a2_0 l2_1))) = some (r1, r2, r3) := h
 clear h
 have HC4 := Aside0.mk H
 clear H
 go_enter Try.func41, Try.ntmps41
 go_upto_region 2 with (first | ((with_reducible refine gate_dst (N := 3) rfl ?_); refine box_event ?hg (N := 3) ?hd (cs := #[.int .i64 a0_0, .slice A0_1 l0_1.length c0_1]) (t := 51) ?hr ?_; (case hd => rfl); (case hg => rfl); (case hr => first | (go_simp; done) | (go_simp; rfl)); intro gb172 hg w5 hbox hb; have BK172 := Aside0.mk (hbox); have GW172 := gw hg HB; have GE172 := gw hg HB; replace HB := bs HB hb; clear hb hbox hg) | ((with_reducible refine gate_dst (N := 5) rfl ?_); refine box_event ?hg (N := 5) ?hd (cs := #[.int .i64 a2_0, .slice A2_1 l2_1.length c2_1]) (t := 51) ?hr ?_; (case hd => rfl); (case hg => rfl); (case hr => first | (go_simp; done) | (go_simp; rfl)); intro gb173 hg w6 hbox hb; have BK173 := Aside0.mk (hbox); have GW173 := gw hg HB; have GE173 := gw hg HB; replace HB := bs HB hb; have NB172_173 := nl hg BK172; have NB173_172 := ng hg BK172; replace BK172 := bb BK172 hb; clear hb hbox hg) | ((with_reducible refine gate_dst (N := 6) rfl ?_); refine box_event ?hg (N := 6) ?hd (cs := #[.int .i64 0, .slice none 0 0]) (t := 51) ?hr ?_; (case hd => rfl); (case hg => rfl); (case hr => first | (go_simp; done) | (go_simp; rfl)); intro gb174 hg w7 hbox hb; have BK174 := Aside0.mk (hbox); have GW174 := gw hg HB; have GE174 := gw hg HB; replace HB := bs HB hb; have NB172_174 := nl hg BK172; have NB174_172 := ng hg BK172; replace BK172 := bb BK172 hb; have NB173_174 := nl hg BK173; have NB174_173 := ng hg BK173; replace BK173 := bb BK173 hb; clear hb hbox hg; have hnb8 := NB172_173.out; have hnc8 := NB173_172.out; have hnb9 := NB172_174.out; have hnc9 := NB174_172.out; obtain ⟨hcz10_0, hcz10_1⟩ := c2 BK172; have hfz10_0 := blk_frozen BK172.out 0; have hfz10_1 := blk_frozen BK172.out 1))
 repeat (go_quiet (first | ((with_reducible refine gate_dst (N := 3) rfl ?_); refine box_event ?hg (N := 3) ?hd (cs := #[.int .i64 a0_0, .slice A0_1 l0_1.length c0_1]) (t := 51) ?hr ?_; (case hd => rfl); (case hg => rfl); (case hr => first | (go_simp; done) | (go_simp; rfl)); intro gb172 hg w5 hbox hb; have BK172 := Aside0.mk (hbox); have GW172 := gw hg HB; have GE172 := gw hg HB; replace HB := bs HB hb; clear hb hbox hg) | ((with_reducible refine gate_dst (N := 5) rfl ?_); refine box_event ?hg (N := 5) ?hd (cs := #[.int .i64 a2_0, .slice A2_1 l2_1.length c2_1]) (t := 51) ?hr ?_; (case hd => rfl); (case hg => rfl); (case hr => first | (go_simp; done) | (go_simp; rfl)); intro gb173 hg w6 hbox hb; have BK173 := Aside0.mk (hbox); have GW173 := gw hg HB; have GE173 := gw hg HB; replace HB := bs HB hb; have NB172_173 := nl hg BK172; have NB173_172 := ng hg BK172; replace BK172 := bb BK172 hb; clear hb hbox hg) | ((with_reducible refine gate_dst (N := 6) rfl ?_); refine box_event ?hg (N := 6) ?hd (cs := #[.int .i64 0, .slice none 0 0]) (t := 51) ?hr ?_; (case hd => rfl); (case hg => rfl); (case hr => first | (go_simp; done) | (go_simp; rfl)); intro gb174 hg w7 hbox hb; have BK174 := Aside0.mk (hbox); have GW174 := gw hg HB; have GE174 := gw hg HB; replace HB := bs HB hb; have NB172_174 := nl hg BK172; have NB174_172 := ng hg BK172; replace BK172 := bb BK172 hb; have NB173_174 := nl hg BK173; have NB174_173 := ng hg BK173; replace BK173 := bb BK173 hb; clear hb hbox hg; have hnb8 := NB172_173.out; have hnc8 := NB173_172.out; have hnb9 := NB172_174.out; have hnc9 := NB174_172.out; obtain ⟨hcz10_0, hcz10_1⟩ := c2 BK172; have hfz10_0 := blk_frozen BK172.out 0; have hfz10_1 := blk_frozen BK172.out 1)); go_upto_region 2 with (first | ((with_reducible refine gate_dst (N := 3) rfl ?_); refine box_event ?hg (N := 3) ?hd (cs := #[.int .i64 a0_0, .slice A0_1 l0_1.length c0_1]) (t := 51) ?hr ?_; (case hd => rfl); (case hg => rfl); (case hr => first | (go_simp; done) | (go_simp; rfl)); intro gb172 hg w5 hbox hb; have BK172 := Aside0.mk (hbox); have GW172 := gw hg HB; have GE172 := gw hg HB; replace HB := bs HB hb; clear hb hbox hg) | ((with_reducible refine gate_dst (N := 5) rfl ?_); refine box_event ?hg (N := 5) ?hd (cs := #[.int .i64 a2_0, .slice A2_1 l2_1.length c2_1]) (t := 51) ?hr ?_; (case hd => rfl); (case hg => rfl); (case hr => first | (go_simp; done) | (go_simp; rfl)); intro gb173 hg w6 hbox hb; have BK173 := Aside0.mk (hbox); have GW173 := gw hg HB; have GE173 := gw hg HB; replace HB := bs HB hb; have NB172_173 := nl hg BK172; have NB173_172 := ng hg BK172; replace BK172 := bb BK172 hb; clear hb hbox hg) | ((with_reducible refine gate_dst (N := 6) rfl ?_); refine box_event ?hg (N := 6) ?hd (cs := #[.int .i64 0, .slice none 0 0]) (t := 51) ?hr ?_; (case hd => rfl); (case hg => rfl); (case hr => first | (go_simp; done) | (go_simp; rfl)); intro gb174 hg w7 hbox hb; have BK174 := Aside0.mk (hbox); have GW174 := gw hg HB; have GE174 := gw hg HB; replace HB := bs HB hb; have NB172_174 := nl hg BK172; have NB174_172 := ng hg BK172; replace BK172 := bb BK172 hb; have NB173_174 := nl hg BK173; have NB174_173 := ng hg BK173; replace BK173 := bb BK173 hb; clear hb hbox hg; have hnb8 := NB172_173.out; have hnc8 := NB173_172.out; have hnb9 := NB172_174.out; have hnc9 := NB174_172.out; obtain ⟨hcz10_0, hcz10_1⟩ := c2 BK172; have hfz10_0 := blk_frozen BK172.out 0; have hfz10_1 := blk_frozen BK172.out 1)))
 (try simp only [Act.put, List.setIfInBounds_toArray, List.set_cons_zero, List.set_cons_succ])
 go_cut [32] (fun v32 wc => ∃ (kq : Nat) (x32_3 : Bool), v32 = .bool x32_3 ∧ Aside0 (impl_AddScaled.j0 kq a1 (l0_1.length : Int) x32_3 a0_0 l0_1 a2_0 l2_1 = some (r1, r2, r3)) ∧ Aside0 (kq ≤ k) ∧ Aside0 (wc.heap[gb172]? = some (.cells #[.int .i64 a0_0, (.slice A0_1 l0_1.length c0_1)] 51 (0, 0))) ∧ Aside0 (wc.heap[gb173]? = some (.cells #[.int .i64 a2_0, (.slice A2_1 l2_1.length c2_1)] 51 (0, 0))) ∧ Aside0 (wc.heap[gb174]? = some (.cells #[.int .i64 0, (.slice none 0 0)] 51 (0, 0))) ∧ Aside0 (Below w.heap.size w wc))
 case first =>
  have H := HC4.out
  clear HC4
  replace H := Option.bind_eq_some_iff.mp H
  obtain ⟨t175, A110, H⟩ := H
  replace H : (if t175 = true then ((impl_IsValidLin.f k a2_0 l2_1 (l0_1.length : Int)).bind fun t176 => (if t176 = true then ((impl_coeffOk.f a1).bind fun t177 => (impl_AddScaled.j0 k a1 (l0_1.length : Int) (!t177) a0_0 l0_1 a2_0 l2_1)) else (impl_AddScaled.j0 k a1 (l0_1.length : Int) true a0_0 l0_1 a2_0 l2_1))) else (impl_AddScaled.j0 k a1 (l0_1.length : Int) true a0_0 l0_1 a2_0 l2_1)) = some (r1, r2, r3) := H
  have A11 := Aside0.mk A110
  clear A110
  by_cases c12 : t175 = true
  ·subst c12
   have H1 : ((impl_IsValidLin.f k a2_0 l2_1 (l0_1.length : Int)).bind fun t176 => (if t176 = true then ((impl_coeffOk.f a1).bind fun t177 => (impl_AddScaled.j0 k a1 (l0_1.length : Int) (!t177) a0_0 l0_1 a2_0 l2_1)) else (impl_AddScaled.j0 k a1 (l0_1.length : Int) true a0_0 l0_1 a2_0 l2_1))) = some (r1, r2, r3) := by rw [if_pos rfl] at H; exact H
   clear H
   have H := H1
   clear H1
   replace H := Option.bind_eq_some_iff.mp H
   obtain ⟨t176, A130, H⟩ := H
   replace H : (if t176 = true then ((impl_coeffOk.f a1).bind fun t177 => (impl_AddScaled.j0 k a1 (l0_1.length : Int) (!t177) a0_0 l0_1 a2_0 l2_1)) else (impl_AddScaled.j0 k a1 (l0_1.length : Int) true a0_0 l0_1 a2_0 l2_1)) = some (r1, r2, r3) := H
   have A13 := Aside0.mk A130
   clear A130
   by_cases c14 : t176 = true
   ·subst c14
    have H1 : ((impl_coeffOk.f a1).bind fun t177 => (impl_AddScaled.j0 k a1 (l0_1.length : Int) (!t177) a0_0 l0_1 a2_0 l2_1)) = some (r1, r2, r3) := by rw [if_pos rfl] at H; exact H
    clear H
    have H := H1
    clear H1
    replace H := Option.bind_eq_some_iff.mp H
    obtain ⟨t177, A150, H⟩ := H
    replace H : (impl_AddScaled.j0 k a1 (l0_1.length : Int) (!t177) a0_0 l0_1 a2_0 l2_1) = some (r1, r2, r3) := H
    have A15 := Aside0.mk A150
    clear A150
    have H' := Aside0.mk H
    clear H
    have hnb16 := NB172_173.out
    have hnc16 := NB173_172.out
    have hnb17 := NB172_174.out
    have hnc17 := NB174_172.out
    obtain ⟨hcz18_0, hcz18_1⟩ := c2 BK172
    have hfz18_0 := blk_frozen BK172.out 0
    have hfz18_1 := blk_frozen BK172.out 1
    go_wp2_with (first | (go_at_call 54; (with_reducible refine (impl_IsValidLin.calls k a0_0 _ _ l0_1 (l0_1.length : Int) true _ ?side1 ?side2 A11.out).mono ?_); (case side1 => exact mc ((Kd.C_below HR0_1.out HB.out))); (case side2 => exact HC0_1.out); rintro e w19 ⟨rfl, hb⟩; replace BK172 := bb BK172 hb; replace BK173 := bb BK173 hb; replace BK174 := bb BK174 hb; replace HB := bs HB hb; (try clear hb); have hnb20 := NB173_174.out; have hnc20 := NB174_173.out; obtain ⟨hcz21_0, hcz21_1⟩ := c2 BK173; have hfz21_0 := blk_frozen BK173.out 0; have hfz21_1 := blk_frozen BK173.out 1) | (go_at_call 54; (with_reducible refine (impl_IsValidLin.calls k a2_0 _ _ l2_1 (l0_1.length : Int) true _ ?side1 ?side2 A13.out).mono ?_); (case side1 => exact mc ((Kd.C_below HR2_1.out HB.out))); (case side2 => exact HC2_1.out); rintro e w22 ⟨rfl, hb⟩; replace BK172 := bb BK172 hb; replace BK173 := bb BK173 hb; replace BK174 := bb BK174 hb; replace HB := bs HB hb; (try clear hb)) | (go_at_call 81; (with_reducible refine (impl_coeffOk.calls a1 t177 _ A15.out).mono ?_); rintro e w' ⟨rfl, ⟨nd, rfl⟩⟩; (try first | exact ⟨rfl, _, World.drewN_drewN _ _ _⟩ | exact ⟨rfl, _, Eq.trans (World.drewN_drewN _ _ _) (congrArg (World.drewN _) (Nat.add_assoc _ _ _))⟩)))
    repeat (go_quiet (first | (go_at_call 54; (with_reducible refine (impl_IsValidLin.calls k a0_0 _ _ l0_1 (l0_1.length : Int) true _ ?side1 ?side2 A11.out).mono ?_); (case side1 => exact mc ((Kd.C_below HR0_1.out HB.out))); (case side2 => exact HC0_1.out); rintro e w19 ⟨rfl, hb⟩; replace BK172 := bb BK172 hb; replace BK173 := bb BK173 hb; replace BK174 := bb BK174 hb; replace HB := bs HB hb; (try clear hb); have hnb20 := NB173_174.out; have hnc20 := NB174_173.out; obtain ⟨hcz21_0, hcz21_1⟩ := c2 BK173; have hfz21_0 := blk_frozen BK173.out 0; have hfz21_1 := blk_frozen BK173.out 1) | (go_at_call 54; (with_reducible refine (impl_IsValidLin.calls k a2_0 _ _ l2_1 (l0_1.length : Int) true _ ?side1 ?side2 A13.out).mono ?_); (case side1 => exact mc ((Kd.C_below HR2_1.out HB.out))); (case side2 => exact HC2_1.out); rintro e w22 ⟨rfl, hb⟩; replace BK172 := bb BK172 hb; replace BK173 := bb BK173 hb; replace BK174 := bb BK174 hb; replace HB := bs HB hb; (try clear hb)) | (go_at_call 81; (with_reducible refine (impl_coeffOk.calls a1 t177 _ A15.out).mono ?_); rintro e w' ⟨rfl, ⟨nd, rfl⟩⟩; (try first | exact ⟨rfl, _, World.drewN_drewN _ _ _⟩ | exact ⟨rfl, _, Eq.trans (World.drewN_drewN _ _ _) (congrArg (World.drewN _) (Nat.add_assoc _ _ _))⟩))); try go_wp2_with (first | (go_at_call 54; (with_reducible refine (impl_IsValidLin.calls k a0_0 _ _ l0_1 (l0_1.length : Int) true _ ?side1 ?side2 A11.out).mono ?_); (case side1 => exact mc ((Kd.C_below HR0_1.out HB.out))); (case side2 => exact HC0_1.out); rintro e w19 ⟨rfl, hb⟩; replace BK172 := bb BK172 hb; replace BK173 := bb BK173 hb; replace BK174 := bb BK174 hb; replace HB := bs HB hb; (try clear hb); have hnb20 := NB173_174.out; have hnc20 := NB174_173.out; obtain ⟨hcz21_0, hcz21_1⟩ := c2 BK173; have hfz21_0 := blk_frozen BK173.out 0; have hfz21_1 := blk_frozen BK173.out 1) | (go_at_call 54; (with_reducible refine (impl_IsValidLin.calls k a2_0 _ _ l2_1 (l0_1.length : Int) true _ ?side1 ?side2 A13.out).mono ?_); (case side1 => exact mc ((Kd.C_below HR2_1.out HB.out))); (case side2 => exact HC2_1.out); rintro e w22 ⟨rfl, hb⟩; replace BK172 := bb BK172 hb; replace BK173 := bb BK173 hb; replace BK174 := bb BK174 hb; replace HB := bs HB hb; (try clear hb)) | (go_at_call 81; (with_reducible refine (impl_coeffOk.calls a1 t177 _ A15.out).mono ?_); rintro e w' ⟨rfl, ⟨nd, rfl⟩⟩; (try first | exact ⟨rfl, _, World.drewN_drewN _ _ _⟩ | exact ⟨rfl, _, Eq.trans (World.drewN_drewN _ _ _) (congrArg (World.drewN _) (Nat.add_assoc _ _ _))⟩))))
    go_meet
    case rel => exact ⟨_, (!t177), (by first | rfl | (simp; done) | (simp [*]; done)), H', ⟨by first | omega | exact Nat.le_refl _⟩, ⟨by (with_reducible repeat (first | refine blk_drewN ?_ _ | refine blk_drew ?_ | refine blk_alloc ?_ _)); exact BK172.out⟩, ⟨by (with_reducible repeat (first | refine blk_drewN ?_ _ | refine blk_drew ?_ | refine blk_alloc ?_ _)); exact BK173.out⟩, ⟨by (with_reducible repeat (first | refine blk_drewN ?_ _ | refine blk_drew ?_ | refine blk_alloc ?_ _)); exact BK174.out⟩, ⟨ms HB⟩⟩
   ·replace c14 := Bool.eq_false_iff.mpr c14
    subst c14
    have H1 : (impl_AddScaled.j0 k a1 (l0_1.length : Int) true a0_0 l0_1 a2_0 l2_1) = some (r1, r2, r3) := by rw [if_neg (show ¬ (false = true) by decide)] at H; exact H
    clear H
    have H := H1
    clear H1
    have H' := Aside0.mk H
    clear H
    have hnb23 := NB172_173.out
    have hnc23 := NB173_172.out
    have hnb24 := NB172_174.out
    have hnc24 := NB174_172.out
    obtain ⟨hcz25_0, hcz25_1⟩ := c2 BK172
    have hfz25_0 := blk_frozen BK172.out 0
    have hfz25_1 := blk_frozen BK172.out 1
    go_wp2_with (first | (go_at_call 54; (with_reducible refine (impl_IsValidLin.calls k a0_0 _ _ l0_1 (l0_1.length : Int) true _ ?side1 ?side2 A11.out).mono ?_); (case side1 => exact mc ((Kd.C_below HR0_1.out HB.out))); (case side2 => exact HC0_1.out); rintro e w26 ⟨rfl, hb⟩; replace BK172 := bb BK172 hb; replace BK173 := bb BK173 hb; replace BK174 := bb BK174 hb; replace HB := bs HB hb; (try clear hb); have hnb27 := NB173_174.out; have hnc27 := NB174_173.out; obtain ⟨hcz28_0, hcz28_1⟩ := c2 BK173; have hfz28_0 := blk_frozen BK173.out 0; have hfz28_1 := blk_frozen BK173.out 1) | (go_at_call 54; (with_reducible refine (impl_IsValidLin.calls k a2_0 _ _ l2_1 (l0_1.length : Int) false _ ?side1 ?side2 A13.out).mono ?_); (case side1 => exact mc ((Kd.C_below HR2_1.out HB.out))); (case side2 => exact HC2_1.out); rintro e w29 ⟨rfl, hb⟩; replace BK172 := bb BK172 hb; replace BK173 := bb BK173 hb; replace BK174 := bb BK174 hb; replace HB := bs HB hb; (try clear hb)))
    repeat (go_quiet (first | (go_at_call 54; (with_reducible refine (impl_IsValidLin.calls k a0_0 _ _ l0_1 (l0_1.length : Int) true _ ?side1 ?side2 A11.out).mono ?_); (case side1 => exact mc ((Kd.C_below HR0_1.out HB.out))); (case side2 => exact HC0_1.out); rintro e w26 ⟨rfl, hb⟩; replace BK172 := bb BK172 hb; replace BK173 := bb BK173 hb; replace BK174 := bb BK174 hb; replace HB := bs HB hb; (try clear hb); have hnb27 := NB173_174.out; have hnc27 := NB174_173.out; obtain ⟨hcz28_0, hcz28_1⟩ := c2 BK173; have hfz28_0 := blk_frozen BK173.out 0; have hfz28_1 := blk_frozen BK173.out 1) | (go_at_call 54; (with_reducible refine (impl_IsValidLin.calls k a2_0 _ _ l2_1 (l0_1.length : Int) false _ ?side1 ?side2 A13.out).mono ?_); (case side1 => exact mc ((Kd.C_below HR2_1.out HB.out))); (case side2 => exact HC2_1.out); rintro e w29 ⟨rfl, hb⟩; replace BK172 := bb BK172 hb; replace BK173 := bb BK173 hb; replace BK174 := bb BK174 hb; replace HB := bs HB hb; (try clear hb))); try go_wp2_with (first | (go_at_call 54; (with_reducible refine (impl_IsValidLin.calls k a0_0 _ _ l0_1 (l0_1.length : Int) true _ ?side1 ?side2 A11.out).mono ?_); (case side1 => exact mc ((Kd.C_below HR0_1.out HB.out))); (case side2 => exact HC0_1.out); rintro e w26 ⟨rfl, hb⟩; replace BK172 := bb BK172 hb; replace BK173 := bb BK173 hb; replace BK174 := bb BK174 hb; replace HB := bs HB hb; (try clear hb); have hnb27 := NB173_174.out; have hnc27 := NB174_173.out; obtain ⟨hcz28_0, hcz28_1⟩ := c2 BK173; have hfz28_0 := blk_frozen BK173.out 0; have hfz28_1 := blk_frozen BK173.out 1) | (go_at_call 54; (with_reducible refine (impl_IsValidLin.calls k a2_0 _ _ l2_1 (l0_1.length : Int) false _ ?side1 ?side2 A13.out).mono ?_); (case side1 => exact mc ((Kd.C_below HR2_1.out HB.out))); (case side2 => exact HC2_1.out); rintro e w29 ⟨rfl, hb⟩; replace BK172 := bb BK172 hb; replace BK173 := bb BK173 hb; replace BK174 := bb BK174 hb; replace HB := bs HB hb; (try clear hb))))
    go_meet
    case rel => exact ⟨_, (true), (by first | rfl | (simp; done) | (simp [*]; done)), H', ⟨by first | omega | exact Nat.le_refl _⟩, ⟨by (with_reducible repeat (first | refine blk_drewN ?_ _ | refine blk_drew ?_ | refine blk_alloc ?_ _)); exact BK172.out⟩, ⟨by (with_reducible repeat (first | refine blk_drewN ?_ _ | refine blk_drew ?_ | refine blk_alloc ?_ _)); exact BK173.out⟩, ⟨by (with_reducible repeat (first | refine blk_drewN ?_ _ | refine blk_drew ?_ | refine blk_alloc ?_ _)); exact BK174.out⟩, ⟨ms HB⟩⟩
  ·replace c12 := Bool.eq_false_iff.mpr c12
   subst c12
   have H1 : (impl_AddScaled.j0 k a1 (l0_1.length : Int) true a0_0 l0_1 a2_0 l2_1) = some (r1, r2, r3) := by rw [if_neg (show ¬ (false = true) by decide)] at H; exact H
   clear H
   have H := H1
   clear H1
   have H' := Aside0.mk H
   clear H
   have hnb30 := NB172_173.out
   have hnc30 := NB173_172.out
   have hnb31 := NB172_174.out
   have hnc31 := NB174_172.out
   obtain ⟨hcz32_0, hcz32_1⟩ := c2 BK172
   have hfz32_0 := blk_frozen BK172.out 0
   have hfz32_1 := blk_frozen BK172.out 1
   go_wp2_with (first | (go_at_call 54; (with_reducible refine (impl_IsValidLin.calls k a0_0 _ _ l0_1 (l0_1.length : Int) false _ ?side1 ?side2 A11.out).mono ?_); (case side1 => exact mc ((Kd.C_below HR0_1.out HB.out))); (case side2 => exact HC0_1.out); rintro e w33 ⟨rfl, hb⟩; replace BK172 := bb BK172 hb; replace BK173 := bb BK173 hb; replace BK174 := bb BK174 hb; replace HB := bs HB hb; (try clear hb)))
   repeat (go_quiet (first | (go_at_call 54; (with_reducible refine (impl_IsValidLin.calls k a0_0 _ _ l0_1 (l0_1.length : Int) false _ ?side1 ?side2 A11.out).mono ?_); (case side1 => exact mc ((Kd.C_below HR0_1.out HB.out))); (case side2 => exact HC0_1.out); rintro e w33 ⟨rfl, hb⟩; replace BK172 := bb BK172 hb; replace BK173 := bb BK173 hb; replace BK174 := bb BK174 hb; replace HB := bs HB hb; (try clear hb))); try go_wp2_with (first | (go_at_call 54; (with_reducible refine (impl_IsValidLin.calls k a0_0 _ _ l0_1 (l0_1.length : Int) false _ ?side1 ?side2 A11.out).mono ?_); (case side1 => exact mc ((Kd.C_below HR0_1.out HB.out))); (case side2 => exact HC0_1.out); rintro e w33 ⟨rfl, hb⟩; replace BK172 := bb BK172 hb; replace BK173 := bb BK173 hb; replace BK174 := bb BK174 hb; replace HB := bs HB hb; (try clear hb))))
   go_meet
   case rel => exact ⟨_, (true), (by first | rfl | (simp; done) | (simp [*]; done)), H', ⟨by first | omega | exact Nat.le_refl _⟩, ⟨by (with_reducible repeat (first | refine blk_drewN ?_ _ | refine blk_drew ?_ | refine blk_alloc ?_ _)); exact BK172.out⟩, ⟨by (with_reducible repeat (first | refine blk_drewN ?_ _ | refine blk_drew ?_ | refine blk_alloc ?_ _)); exact BK173.out⟩, ⟨by (with_reducible repeat (first | refine blk_drewN ?_ _ | refine blk_drew ?_ | refine blk_alloc ?_ _)); exact BK174.out⟩, ⟨ms HB⟩⟩
 case rest =>
  clear HC4
  try clear c1
  try clear c2
  try clear p2
  try clear c3
  try clear c4
  try clear c8
  try clear c9
  try clear c12
  try clear c14
  try clear c16
  try clear c17
  try clear c20
  try clear c23
  try clear c24
  try clear c27
  try clear c30
  try clear c31
  try clear hcz10_0
  try clear hcz10_1
  try clear hcz18_0
  try clear hcz18_1
  try clear hcz21_0
  try clear hcz21_1
  try clear hcz25_0
  try clear hcz25_1
  try clear hcz28_0
  try clear hcz28_1
  try clear hcz32_0
  try clear hcz32_1
  try clear hfz10_0
  try clear hfz10_1
  try clear hfz18_0
  try clear hfz18_1
  try clear hfz21_0
  try clear hfz21_1
  try clear hfz25_0
  try clear hfz25_1
  try clear hfz28_0
  try clear hfz28_1
  try clear hfz32_0
  try clear hfz32_1
  obtain ⟨kq, x32_3, rfl, HA, HJ3, BK172, BK173, BK174, HB⟩ := hcut
  cases kq with
  | zero => exact absurd HA.out (by simp [impl_AddScaled.j0])
  | succ kj3 =>
   have H := HA.out
   clear HA
   simp only [impl_AddScaled.j0] at H
   by_cases c34 : x32_3 = true
   ·subst c34
    have H1 : (some (0, ([] : List Int), false)) = some (r1, r2, r3) := by rw [if_pos rfl] at H; exact H
    clear H
    have H := H1
    clear H1
    simp only [Option.some.injEq, Prod.mk.injEq] at H
    obtain ⟨rfl, rfl, rfl⟩ := H
    have hnb35 := NB174_172.out
    have hnc35 := NB172_174.out
    have hnb36 := NB174_173.out
    have hnc36 := NB173_174.out
    obtain ⟨hcz37_0, hcz37_1⟩ := c2 BK174
    have hfz37_0 := blk_frozen BK174.out 0
    have hfz37_1 := blk_frozen BK174.out 1
    go_wp2
    repeat (go_quiet (fail); try go_wp2)
    refine bodyPost_ret (results_ct rfl _ _ gb174 51 #[.int .i64 0, .slice none 0 0] (0, 0) _ rfl (by (with_reducible repeat (first | refine blk_drewN ?_ _ | refine blk_drew ?_ | refine blk_alloc ?_ _)); refine blk_put (cs := #[.int .i64 0, .slice none 0 0]) ?_ 1 _ rfl; (with_reducible repeat (first | refine blk_drewN ?_ _ | refine blk_drew ?_ | refine blk_alloc ?_ _)); refine blk_put (cs := #[.int .i64 0, .slice none 0 0]) ?_ 0 _ rfl; (with_reducible repeat (first | refine blk_drewN ?_ _ | refine blk_drew ?_ | refine blk_alloc ?_ _)); exact BK174.out) Try.underlying51 rfl (by kernel_rfl)) rfl ?_
    exact ⟨_, by first | rfl | (simp [errW_none, errW_some] <;> rfl) | (simp [*, errW_none, errW_some] <;> rfl), by first | exact Kd.R_nil _ _ _ _ _ | exact Kd.N_nil _ _ _ _ _ | exact Kd.V_nil _ _ _ _ _ | exact Kd.Q_nil _ _ _ _ _ | exact Kd.S_nil _ _ _ _ _, ms HB⟩
   ·replace c34 := Bool.eq_false_iff.mpr c34
    subst c34
    have H1 : ((impl_ConstLin.f 0 (l0_1.length : Int)).bind fun bt178 => ((impl_scaled.f a0_0 a1 a2_0).bind fun bt183 => (impl_AddScaled.l0 kj3 a1 bt183.2 (l0_1.length : Int) 0 a0_0 l0_1 a2_0 l2_1 bt183.1 bt178.2))) = some (r1, r2, r3) := by rw [if_neg (show ¬ (false = true) by decide)] at H; exact H
    clear H
    have H := H1
    clear H1
    replace H := Option.bind_eq_some_iff.mp H
    obtain ⟨⟨t178, t179⟩, A380, H⟩ := H
    replace H : ((impl_scaled.f a0_0 a1 a2_0).bind fun bt183 => (impl_AddScaled.l0 kj3 a1 bt183.2 (l0_1.length : Int) 0 a0_0 l0_1 a2_0 l2_1 bt183.1 t179)) = some (r1, r2, r3) := H
    have A38 := Aside0.mk A380
    clear A380
    replace H := Option.bind_eq_some_iff.mp H
    obtain ⟨⟨t183, t184⟩, A390, H⟩ := H
    replace H : (impl_AddScaled.l0 kj3 a1 t184 (l0_1.length : Int) 0 a0_0 l0_1 a2_0 l2_1 t183 t179) = some (r1, r2, r3) := H
    have A39 := Aside0.mk A390
    clear A390
    have H' := Aside0.mk H
    clear H
    go_wp2_with (first | (go_at_call 29; (with_reducible refine (impl_ConstLin.calls 0 (l0_1.length : Int) t178 t179 _ A38.out).mono ?_); rintro e w40 ⟨v180, rfl, ho0, hb⟩; have HO181 := Aside0.mk (Kd.R_lower ho0 (below_size (ms HB))); replace BK172 := bb BK172 hb; replace BK173 := bb BK173 hb; replace BK174 := bb BK174 hb; replace HB := bs HB hb; (try clear hb); (try clear ho0)) | ((with_reducible refine gate_dst (N := 9) rfl ?_); refine box_event ?hg (N := 9) ?hd (cs := #[.int .i64 0, .slice none 0 0]) (t := 51) ?hr ?_; (case hd => rfl); (case hg => rfl); (case hr => first | (go_simp; done) | (go_simp; rfl)); intro gb182 hg w41 hbox hb; replace HO181 := rb HO181 hb; have BK182 := Aside0.mk (hbox); have GW182 := gw hg HB; have GE182 := gw hg HB; replace HB := bs HB hb; have NB172_182 := nl hg BK172; have NB182_172 := ng hg BK172; replace BK172 := bb BK172 hb; have NB173_182 := nl hg BK173; have NB182_173 := ng hg BK173; replace BK173 := bb BK173 hb; have NB174_182 := nl hg BK174; have NB182_174 := ng hg BK174; replace BK174 := bb BK174 hb; clear hb hbox hg; have hnb42 := NB182_172.out; have hnc42 := NB172_182.out; have hnb43 := NB182_173.out; have hnc43 := NB173_182.out; have hnb44 := NB182_174.out; have hnc44 := NB174_182.out; obtain ⟨hcz45_0, hcz45_1⟩ := c2 BK182; have hfz45_0 := blk_frozen BK182.out 0; have hfz45_1 := blk_frozen BK182.out 1; obtain ⟨Ao46, co46, eo46⟩ := Kd.R_slice HO181.out; subst eo46; have hnb47 := NB172_173.out; have hnc47 := NB173_172.out; have hnb48 := NB172_174.out; have hnc48 := NB174_172.out; obtain ⟨hcz49_0, hcz49_1⟩ := c2 BK172; have hfz49_0 := blk_frozen BK172.out 0; have hfz49_1 := blk_frozen BK172.out 1; have hnb50 := NB173_174.out; have hnc50 := NB174_173.out; obtain ⟨hcz51_0, hcz51_1⟩ := c2 BK173; have hfz51_0 := blk_frozen BK173.out 0; have hfz51_1 := blk_frozen BK173.out 1) | (go_at_call 90; (with_reducible refine (impl_scaled.calls a0_0 a1 a2_0 t183 t184 _ A39.out).mono ?_); rintro e w' ⟨rfl, ⟨nd, rfl⟩⟩; (try first | exact ⟨rfl, _, World.drewN_drewN _ _ _⟩ | exact ⟨rfl, _, Eq.trans (World.drewN_drewN _ _ _) (congrArg (World.drewN _) (Nat.add_assoc _ _ _))⟩)))
    repeat (go_quiet (first | (go_at_call 29; (with_reducible refine (impl_ConstLin.calls 0 (l0_1.length : Int) t178 t179 _ A38.out).mono ?_); rintro e w40 ⟨v180, rfl, ho0, hb⟩; have HO181 := Aside0.mk (Kd.R_lower ho0 (below_size (ms HB))); replace BK172 := bb BK172 hb; replace BK173 := bb BK173 hb; replace BK174 := bb BK174 hb; replace HB := bs HB hb; (try clear hb); (try clear ho0)) | ((with_reducible refine gate_dst (N := 9) rfl ?_); refine box_event ?hg (N := 9) ?hd (cs := #[.int .i64 0, .slice none 0 0]) (t := 51) ?hr ?_; (case hd => rfl); (case hg => rfl); (case hr => first | (go_simp; done) | (go_simp; rfl)); intro gb182 hg w41 hbox hb; replace HO181 := rb HO181 hb; have BK182 := Aside0.mk (hbox); have GW182 := gw hg HB; have GE182 := gw hg HB; replace HB := bs HB hb; have NB172_182 := nl hg BK172; have NB182_172 := ng hg BK172; replace BK172 := bb BK172 hb; have NB173_182 := nl hg BK173; have NB182_173 := ng hg BK173; replace BK173 := bb BK173 hb; have NB174_182 := nl hg BK174; have NB182_174 := ng hg BK174; replace BK174 := bb BK174 hb; clear hb hbox hg; have hnb42 := NB182_172.out; have hnc42 := NB172_182.out; have hnb43 := NB182_173.out; have hnc43 := NB173_182.out; have hnb44 := NB182_174.out; have hnc44 := NB174_182.out; obtain ⟨hcz45_0, hcz45_1⟩ := c2 BK182; have hfz45_0 := blk_frozen BK182.out 0; have hfz45_1 := blk_frozen BK182.out 1; obtain ⟨Ao46, co46, eo46⟩ := Kd.R_slice HO181.out; subst eo46; have hnb47 := NB172_173.out; have hnc47 := NB173_172.out; have hnb48 := NB172_174.out; have hnc48 := NB174_172.out; obtain ⟨hcz49_0, hcz49_1⟩ := c2 BK172; have hfz49_0 := blk_frozen BK172.out 0; have hfz49_1 := blk_frozen BK172.out 1; have hnb50 := NB173_174.out; have hnc50 := NB174_173.out; obtain ⟨hcz51_0, hcz51_1⟩ := c2 BK173; have hfz51_0 := blk_frozen BK173.out 0; have hfz51_1 := blk_frozen BK173.out 1) | (go_at_call 90; (with_reducible refine (impl_scaled.calls a0_0 a1 a2_0 t183 t184 _ A39.out).mono ?_); rintro e w' ⟨rfl, ⟨nd, rfl⟩⟩; (try first | exact ⟨rfl, _, World.drewN_drewN _ _ _⟩ | exact ⟨rfl, _, Eq.trans (World.drewN_drewN _ _ _) (congrArg (World.drewN _) (Nat.add_assoc _ _ _))⟩))); try go_wp2_with (first | (go_at_call 29; (with_reducible refine (impl_ConstLin.calls 0 (l0_1.length : Int) t178 t179 _ A38.out).mono ?_); rintro e w40 ⟨v180, rfl, ho0, hb⟩; have HO181 := Aside0.mk (Kd.R_lower ho0 (below_size (ms HB))); replace BK172 := bb BK172 hb; replace BK173 := bb BK173 hb; replace BK174 := bb BK174 hb; replace HB := bs HB hb; (try clear hb); (try clear ho0)) | ((with_reducible refine gate_dst (N := 9) rfl ?_); refine box_event ?hg (N := 9) ?hd (cs := #[.int .i64 0, .slice none 0 0]) (t := 51) ?hr ?_; (case hd => rfl); (case hg => rfl); (case hr => first | (go_simp; done) | (go_simp; rfl)); intro gb182 hg w41 hbox hb; replace HO181 := rb HO181 hb; have BK182 := Aside0.mk (hbox); have GW182 := gw hg HB; have GE182 := gw hg HB; replace HB := bs HB hb; have NB172_182 := nl hg BK172; have NB182_172 := ng hg BK172; replace BK172 := bb BK172 hb; have NB173_182 := nl hg BK173; have NB182_173 := ng hg BK173; replace BK173 := bb BK173 hb; have NB174_182 := nl hg BK174; have NB182_174 := ng hg BK174; replace BK174 := bb BK174 hb; clear hb hbox hg; have hnb42 := NB182_172.out; have hnc42 := NB172_182.out; have hnb43 := NB182_173.out; have hnc43 := NB173_182.out; have hnb44 := NB182_174.out; have hnc44 := NB174_182.out; obtain ⟨hcz45_0, hcz45_1⟩ := c2 BK182; have hfz45_0 := blk_frozen BK182.out 0; have hfz45_1 := blk_frozen BK182.out 1; obtain ⟨Ao46, co46, eo46⟩ := Kd.R_slice HO181.out; subst eo46; have hnb47 := NB172_173.out; have hnc47 := NB173_172.out; have hnb48 := NB172_174.out; have hnc48 := NB174_172.out; obtain ⟨hcz49_0, hcz49_1⟩ := c2 BK172; have hfz49_0 := blk_frozen BK172.out 0; have hfz49_1 := blk_frozen BK172.out 1; have hnb50 := NB173_174.out; have hnc50 := NB174_173.out; obtain ⟨hcz51_0, hcz51_1⟩ := c2 BK173; have hfz51_0 := blk_frozen BK173.out 0; have hfz51_1 := blk_frozen BK173.out 1) | (go_at_call 90; (with_reducible refine (impl_scaled.calls a0_0 a1 a2_0 t183 t184 _ A39.out).mono ?_); rintro e w' ⟨rfl, ⟨nd, rfl⟩⟩; (try first | exact ⟨rfl, _, World.drewN_drewN _ _ _⟩ | exact ⟨rfl, _, Eq.trans (World.drewN_drewN _ _ _) (congrArg (World.drewN _) (Nat.add_assoc _ _ _))⟩))))
    go_loopg [11, 50] kj3 (fun kq v11 v50 w' => ∃ (x11_2 : Bool) (x50_2 : Int) (x183001_2 : List Int) (u183001 : Value), v11 = .bool x11_2 ∧ v50 = .int .i64 x50_2 ∧ Aside0 (impl_AddScaled.l0 kq a1 x11_2 (l0_1.length : Int) x50_2 a0_0 l0_1 a2_0 l2_1 t183 x183001_2 = some (r1, r2, r3)) ∧ Aside0 (kq ≤ kj3) ∧ Aside0 (Kd.R (Kd.int .i64) 3 w' w.heap.size (fun _ => True) u183001 x183001_2) ∧ Aside0 (w'.heap[gb172]? = some (.cells #[.int .i64 a0_0, (.slice A0_1 l0_1.length c0_1)] 51 (0, 0))) ∧ Aside0 (w'.heap[gb173]? = some (.cells #[.int .i64 a2_0, (.slice A2_1 l2_1.length c2_1)] 51 (0, 0))) ∧ Aside0 (w'.heap[gb174]? = some (.cells #[.int .i64 0, (.slice none 0 0)] 51 (0, 0))) ∧ Aside0 (w'.heap[gb182]? = some (.cells #[.int .i64 t183, u183001] 51 (0, 0))) ∧ Aside0 (Below w.heap.size w w'))
    case atStart => exact ⟨(t184), (0), (t179), (.slice Ao46 t179.length co46), (by first | rfl | (simp; done) | (simp [*]; done)), (by first | rfl | (simp; done) | (simp [*]; done)), H', ⟨Nat.le_refl _⟩, ⟨by (with_reducible repeat (first | apply Kd.R_alloc | apply Kd.R_drewN | apply Kd.R_drew)); exact Kd.R_mono (Kd.R_far (p := ⟨gb182, 0, none⟩) (Kd.R_far (p := ⟨gb182, 1, none⟩) (Kd.R_far (p := ⟨gb182, 0, none⟩) (Kd.R_types HO181.out BK182.out (by decide)) (fun _ hk => hk.2) (.int .i64 t178)) (fun _ hk => hk.2) (.slice Ao46 t179.length co46)) (fun _ hk => hk.2) (.int .i64 t183)) (fun _ hk => trivial)⟩, ⟨by (with_reducible repeat (first | refine blk_drewN ?_ _ | refine blk_drew ?_ | refine blk_alloc ?_ _)); refine blk_far ?_ NB172_182.out _; (with_reducible repeat (first | refine blk_drewN ?_ _ | refine blk_drew ?_ | refine blk_alloc ?_ _)); refine blk_far ?_ NB172_182.out _; (with_reducible repeat (first | refine blk_drewN ?_ _ | refine blk_drew ?_ | refine blk_alloc ?_ _)); refine blk_far ?_ NB172_182.out _; (with_reducible repeat (first | refine blk_drewN ?_ _ | refine blk_drew ?_ | refine blk_alloc ?_ _)); exact BK172.out⟩, ⟨by (with_reducible repeat (first | refine blk_drewN ?_ _ | refine blk_drew ?_ | refine blk_alloc ?_ _)); refine blk_far ?_ NB173_182.out _; (with_reducible repeat (first | refine blk_drewN ?_ _ | refine blk_drew ?_ | refine blk_alloc ?_ _)); refine blk_far ?_ NB173_182.out _; (with_reducible repeat (first | refine blk_drewN ?_ _ | refine blk_drew ?_ | refine blk_alloc ?_ _)); refine blk_far ?_ NB173_182.out _; (with_reducible repeat (first | refine blk_drewN ?_ _ | refine blk_drew ?_ | refine blk_alloc ?_ _)); exact BK173.out⟩, ⟨by (with_reducible repeat (first | refine blk_drewN ?_ _ | refine blk_drew ?_ | refine blk_alloc ?_ _)); refine blk_far ?_ NB174_182.out _; (with_reducible repeat (first | refine blk_drewN ?_ _ | refine blk_drew ?_ | refine blk_alloc ?_ _)); refine blk_far ?_ NB174_182.out _; (with_reducible repeat (first | refine blk_drewN ?_ _ | refine blk_drew ?_ | refine blk_alloc ?_ _)); refine blk_far ?_ NB174_182.out _; (with_reducible repeat (first | refine blk_drewN ?_ _ | refine blk_drew ?_ | refine blk_alloc ?_ _)); exact BK174.out⟩, ⟨by (with_reducible repeat (first | refine blk_drewN ?_ _ | refine blk_drew ?_ | refine blk_alloc ?_ _)); refine blk_put (cs := #[.int .i64 t178, .slice Ao46 t179.length co46]) ?_ 0 _ rfl; (with_reducible repeat (first | refine blk_drewN ?_ _ | refine blk_drew ?_ | refine blk_alloc ?_ _)); refine blk_put (cs := #[.int .i64 t178, .slice none 0 0]) ?_ 1 _ rfl; (with_reducible repeat (first | refine blk_drewN ?_ _ | refine blk_drew ?_ | refine blk_alloc ?_ _)); refine blk_put (cs := #[.int .i64 0, .slice none 0 0]) ?_ 0 _ rfl; (with_reducible repeat (first | refine blk_drewN ?_ _ | refine blk_drew ?_ | refine blk_alloc ?_ _)); exact BK182.out⟩, ⟨ms HB⟩⟩
    case round =>
     clear H'
     try clear c1
     try clear c2
     try clear p2
     try clear c3
     try clear c4
     try clear c5
     try clear c8
     try clear c9
     try clear c12
     try clear c14
     try clear c16
     try clear c17
     try clear c20
     try clear c23
     try clear c24
     try clear c27
     try clear c30
     try clear c31
     try clear c34
     try clear c35
     try clear c36
     try clear c41
     try clear c42
     try clear c43
     try clear c44
     try clear c47
     try clear c48
     try clear c50
     try clear hcz10_0
     try clear hcz10_1
     try clear hcz18_0
     try clear hcz18_1
     try clear hcz21_0
     try clear hcz21_1
     try clear hcz25_0
     try clear hcz25_1
     try clear hcz28_0
     try clear hcz28_1
     try clear hcz32_0
     try clear hcz32_1
     try clear hcz37_0
     try clear hcz37_1
     try clear hcz45_0
     try clear hcz45_1
     try clear hcz49_0
     try clear hcz49_1
     try clear hcz51_0
     try clear hcz51_1
     try clear hfz10_0
     try clear hfz10_1
     try clear hfz18_0
     try clear hfz18_1
     try clear hfz21_0
     try clear hfz21_1
     try clear hfz25_0
     try clear hfz25_1
     try clear hfz28_0
     try clear hfz28_1
     try clear hfz32_0
     try clear hfz32_1
     try clear hfz37_0
     try clear hfz37_1
     try clear hfz45_0
     try clear hfz45_1
     try clear hfz49_0
     try clear hfz49_1
     try clear hfz51_0
     try clear hfz51_1
     try clear p2
     obtain ⟨x11_2, x50_2, x183001_2, u183001, rfl, rfl, HA, HK2, HO_183001, BK172, BK173, BK174, BK182, HB⟩ := hrel
     cases gk with
     | zero => exact absurd HA.out (by simp [impl_AddScaled.l0])
     | succ k2 =>
      have H := HA.out
      clear HA
      simp only [impl_AddScaled.l0] at H
      by_cases c52 : x50_2 < (l0_1.length : Int)
      ·rw [if_pos c52] at H
       have c52b0 : decide (x50_2 < (l0_1.length : Int)) = true := decide_eq_true c52
       clear c52
       by_cases c53 : 0 ≤ x50_2
       ·rw [if_pos c53] at H
        have c53b0 : decide (0 ≤ x50_2) = true := decide_eq_true c53
        clear c53
        by_cases c54 : x50_2 < (l0_1.length : Int)
        ·rw [if_pos c54] at H
         have c54b0 : decide (x50_2 < (l0_1.length : Int)) = true := decide_eq_true c54
         clear c54
         by_cases c55 : x50_2 < (l2_1.length : Int)
         ·rw [if_pos c55] at H
          have c55b0 : decide (x50_2 < (l2_1.length : Int)) = true := decide_eq_true c55
          clear c55
          replace H := Option.bind_eq_some_iff.mp H
          obtain ⟨⟨t187, t188⟩, A560, H⟩ := H
          replace H : (if x50_2 < (x183001_2.length : Int) then ((some (x183001_2.set (x50_2 : Int).toNat t187 : List Int)).bind fun y189 => (if x11_2 = true then (impl_AddScaled.l0 k2 a1 t188 (l0_1.length : Int) (wrap64 (x50_2 + 1)) a0_0 l0_1 a2_0 l2_1 t183 y189) else (impl_AddScaled.l0 k2 a1 false (l0_1.length : Int) (wrap64 (x50_2 + 1)) a0_0 l0_1 a2_0 l2_1 t183 y189))) else (none)) = some (r1, r2, r3) := H
          have A56 := Aside0.mk A560
          clear A560
          by_cases c57 : x50_2 < (x183001_2.length : Int)
          ·rw [if_pos c57] at H
           have c57b0 : decide (x50_2 < (x183001_2.length : Int)) = true := decide_eq_true c57
           clear c57
           obtain ⟨y189, hy189⟩ : ∃ y_ : List Int, y_ = (x183001_2.set (x50_2 : Int).toNat t187) := ⟨_, rfl⟩
           replace H : (if x11_2 = true then (impl_AddScaled.l0 k2 a1 t188 (l0_1.length : Int) (wrap64 (x50_2 + 1)) a0_0 l0_1 a2_0 l2_1 t183 y189) else (impl_AddScaled.l0 k2 a1 false (l0_1.length : Int) (wrap64 (x50_2 + 1)) a0_0 l0_1 a2_0 l2_1 t183 y189)) = some (r1, r2, r3) := by first | (rw [hy189]; with_reducible exact H) | (have H2_ := (Option.bind_some _ _).symm.trans H; rw [hy189]; with_reducible exact H2_) | (have H2_ := (Option.bind_some _ _).symm.trans H; with_reducible exact H2_) | with_reducible exact H | (rw [hy189]; exact H) | exact H
           have Ny189 := Aside0.mk hy189
           clear hy189
           by_cases c59 : x11_2 = true
           ·subst c59
            have H1 : (impl_AddScaled.l0 k2 a1 t188 (l0_1.length : Int) (wrap64 (x50_2 + 1)) a0_0 l0_1 a2_0 l2_1 t183 y189) = some (r1, r2, r3) := by rw [if_pos rfl] at H; exact H
            clear H
            have H := H1
            clear H1
            have H' := Aside0.mk H
            clear H
            have hnb60 := NB172_173.out
            have hnc60 := NB173_172.out
            have hnb61 := NB172_174.out
            have hnc61 := NB174_172.out
            have hnb62 := NB172_182.out
            have hnc62 := NB182_172.out
            obtain ⟨hcz63_0, hcz63_1⟩ := c2 BK172
            have hfz63_0 := blk_frozen BK172.out 0
            have hfz63_1 := blk_frozen BK172.out 1
            have p185 : 0 ≤ (x50_2 : Int) := of_decide_eq_true (by first | (with_reducible assumption) | assumption)
            have q185 : x50_2 < (l0_1.length : Int) := of_decide_eq_true (by first | (with_reducible assumption) | assumption)
            obtain ⟨ad185, e185, hx185_0⟩ := Kd.at_int HR0_1.out x50_2 p185 q185
            cases e185
            replace hx185_0 := (HB.out.cell (World.block_lt_of_cell? w _ hx185_0)).trans hx185_0
            replace p185 := eq_true p185
            replace q185 := eq_true q185
            have hnb64 := NB173_174.out
            have hnc64 := NB174_173.out
            have hnb65 := NB173_182.out
            have hnc65 := NB182_173.out
            obtain ⟨hcz66_0, hcz66_1⟩ := c2 BK173
            have hfz66_0 := blk_frozen BK173.out 0
            have hfz66_1 := blk_frozen BK173.out 1
            have p186 : 0 ≤ (x50_2 : Int) := of_decide_eq_true (by first | (with_reducible assumption) | assumption)
            have q186 : x50_2 < (l2_1.length : Int) := of_decide_eq_true (by first | (with_reducible assumption) | assumption)
            obtain ⟨ad186, e186, hx186_0⟩ := Kd.at_int HR2_1.out x50_2 p186 q186
            cases e186
            replace hx186_0 := (HB.out.cell (World.block_lt_of_cell? w _ hx186_0)).trans hx186_0
            replace p186 := eq_true p186
            replace q186 := eq_true q186
            go_wp2_with (first | (go_at_call 90; (with_reducible refine (impl_scaled.calls (rd l0_1 x50_2) a1 (rd l2_1 x50_2) t187 t188 _ A56.out).mono ?_); rintro e w' ⟨rfl, ⟨nd, rfl⟩⟩; (try first | exact ⟨rfl, _, World.drewN_drewN _ _ _⟩ | exact ⟨rfl, _, Eq.trans (World.drewN_drewN _ _ _) (congrArg (World.drewN _) (Nat.add_assoc _ _ _))⟩); have hnb67 := NB182_174.out; have hnc67 := NB174_182.out; obtain ⟨hcz68_0, hcz68_1⟩ := c2 BK182; have hfz68_0 := blk_frozen BK182.out 0; have hfz68_1 := blk_frozen BK182.out 1; have p58 : 0 ≤ (x50_2 : Int) := of_decide_eq_true (by first | (with_reducible assumption) | assumption); have q58 : (x50_2 : Int) < ((x183001_2.length : Int) : Int) := of_decide_eq_true (by first | (with_reducible assumption) | assumption); obtain ⟨go58, co58, eo58, gb58, gl58, cl58, HG58⟩ := Kd.R_form HO_183001.out (by omega); (first | cases eo58 | (injection eo58 with ea_ en_ ec_; (first | subst ea_ | (injection ea_ with ea_; subst ea_)); subst ec_; clear en_)); have GB58 := Aside0.mk gb58; have GG58 := Aside0.mk HG58; clear gb58 gl58 HG58; obtain ⟨hx58_0, hf58_0⟩ := Kd.R_celln 0 HO_183001.out (x50_2 : Int) p58 q58; replace p58 := eq_true p58; replace q58 := eq_true q58; obtain ⟨hy69_, hz69_⟩ := Kd.R_celln 0 HO_183001.out (x50_2 : Int) (of_decide_eq_true (by first | (with_reducible assumption) | assumption)) (of_decide_eq_true (by first | (with_reducible assumption) | assumption)); have HP69 := Kd.R_putg HO_183001.out (x50_2 : Int) t187) | ((with_reducible refine gate_store (t := 3) (p := 72) rfl ?_); (try (rw [drewN_self wr]; generalize hq_ : World.drewN wr _ = wr; have n0_ := Aside0.mk (Kd.R_at hq_ HO_183001.out); have n1_ := Aside0.mk (blk_at hq_ BK172.out); have n2_ := Aside0.mk (blk_at hq_ BK173.out); have n3_ := Aside0.mk (blk_at hq_ BK174.out); have n4_ := Aside0.mk (blk_at hq_ BK182.out); have n5_ := Aside0.mk (below_at hq_ HB.out); clear hq_ HO_183001 BK172 BK173 BK174 BK182 HB; have HO_183001 := n0_; have BK172 := n1_; have BK173 := n2_; have BK174 := n3_; have BK182 := n4_; have HB := n5_; clear n0_ n1_ n2_ n3_ n4_ n5_; (try (obtain ⟨hy69_, hz69_⟩ := Kd.R_celln 0 HO_183001.out (x50_2 : Int) (of_decide_eq_true (by first | (with_reducible assumption) | assumption)) (of_decide_eq_true (by first | (with_reducible assumption) | assumption)))); (try (have HP69 := Kd.R_putg HO_183001.out (x50_2 : Int) t187)))); refine store_event (t := 3) (p := 72) (v := ?vo_w70) (w1 := (wr.setCell ⟨go58, (x50_2 : Int).toNat, none⟩ (.int .i64 t187))) ?hg ?ho ?hn ?hr ?_; (case ho => rfl); (case hg => rfl); (case hn => rfl); (case hr => first | (go_simp; done) | (go_simp; rfl)); intro w70 hw; have hg : wr.grownBy w70 (some go58) := (by rw [hw]; exact HP69.2); have hp_ : Kd.R (Kd.int .i64) 3 w70 w.heap.size (fun _ => True) (.slice (some ⟨go58, 0, none⟩) x183001_2.length co58) y189 := (by rw [hw, Ny189.out]; exact HP69.1); clear HP69; have n0_ := Aside0.mk (hp_); have n1_ := Aside0.mk (blk_grown (g := gb172) (o := .cells #[.int .i64 a0_0, .slice (some ad185) l0_1.length c0_1] 51 (0, 0)) (mb BK172) hg (Kd.R_ne HO_183001.out BK172.out (by decide))); have n2_ := Aside0.mk (blk_grown (g := gb173) (o := .cells #[.int .i64 a2_0, .slice (some ad186) l2_1.length c2_1] 51 (0, 0)) (mb BK173) hg (Kd.R_ne HO_183001.out BK173.out (by decide))); have n3_ := Aside0.mk (blk_grown (g := gb174) (o := .cells #[.int .i64 0, .slice none 0 0] 51 (0, 0)) (mb BK174) hg (Kd.R_ne HO_183001.out BK174.out (by decide))); have n4_ := Aside0.mk (blk_grown (g := gb182) (o := .cells #[.int .i64 t183, .slice (some ⟨go58, 0, none⟩) x183001_2.length co58] 51 (0, 0)) (mb BK182) hg (Kd.R_ne HO_183001.out BK182.out (by decide))); have n5_ := Aside0.mk ((by rw [hw]; exact below_set (HB.out) GB58.out : Below w.heap.size w w70)); clear HO_183001 BK172 BK173 BK174 BK182 HB; have HO_183001 := n0_; have BK172 := n1_; have BK173 := n2_; have BK174 := n3_; have BK182 := n4_; have HB := n5_; clear n0_ n1_ n2_ n3_ n4_ n5_; clear hg hw hp_))
            repeat (go_quiet (first | (go_at_call 90; (with_reducible refine (impl_scaled.calls (rd l0_1 x50_2) a1 (rd l2_1 x50_2) t187 t188 _ A56.out).mono ?_); rintro e w' ⟨rfl, ⟨nd, rfl⟩⟩; (try first | exact ⟨rfl, _, World.drewN_drewN _ _ _⟩ | exact ⟨rfl, _, Eq.trans (World.drewN_drewN _ _ _) (congrArg (World.drewN _) (Nat.add_assoc _ _ _))⟩); have hnb67 := NB182_174.out; have hnc67 := NB174_182.out; obtain ⟨hcz68_0, hcz68_1⟩ := c2 BK182; have hfz68_0 := blk_frozen BK182.out 0; have hfz68_1 := blk_frozen BK182.out 1; have p58 : 0 ≤ (x50_2 : Int) := of_decide_eq_true (by first | (with_reducible assumption) | assumption); have q58 : (x50_2 : Int) < ((x183001_2.length : Int) : Int) := of_decide_eq_true (by first | (with_reducible assumption) | assumption); obtain ⟨go58, co58, eo58, gb58, gl58, cl58, HG58⟩ := Kd.R_form HO_183001.out (by omega); (first | cases eo58 | (injection eo58 with ea_ en_ ec_; (first | subst ea_ | (injection ea_ with ea_; subst ea_)); subst ec_; clear en_)); have GB58 := Aside0.mk gb58; have GG58 := Aside0.mk HG58; clear gb58 gl58 HG58; obtain ⟨hx58_0, hf58_0⟩ := Kd.R_celln 0 HO_183001.out (x50_2 : Int) p58 q58; replace p58 := eq_true p58; replace q58 := eq_true q58; obtain ⟨hy69_, hz69_⟩ := Kd.R_celln 0 HO_183001.out (x50_2 : Int) (of_decide_eq_true (by first | (with_reducible assumption) | assumption)) (of_decide_eq_true (by first | (with_reducible assumption) | assumption)); have HP69 := Kd.R_putg HO_183001.out (x50_2 : Int) t187) | ((with_reducible refine gate_store (t := 3) (p := 72) rfl ?_); (try (rw [drewN_self wr]; generalize hq_ : World.drewN wr _ = wr; have n0_ := Aside0.mk (Kd.R_at hq_ HO_183001.out); have n1_ := Aside0.mk (blk_at hq_ BK172.out); have n2_ := Aside0.mk (blk_at hq_ BK173.out); have n3_ := Aside0.mk (blk_at hq_ BK174.out); have n4_ := Aside0.mk (blk_at hq_ BK182.out); have n5_ := Aside0.mk (below_at hq_ HB.out); clear hq_ HO_183001 BK172 BK173 BK174 BK182 HB; have HO_183001 := n0_; have BK172 := n1_; have BK173 := n2_; have BK174 := n3_; have BK182 := n4_; have HB := n5_; clear n0_ n1_ n2_ n3_ n4_ n5_; (try (obtain ⟨hy69_, hz69_⟩ := Kd.R_celln 0 HO_183001.out (x50_2 : Int) (of_decide_eq_true (by first | (with_reducible assumption) | assumption)) (of_decide_eq_true (by first | (with_reducible assumption) | assumption)))); (try (have HP69 := Kd.R_putg HO_183001.out (x50_2 : Int) t187)))); refine store_event (t := 3) (p := 72) (v := ?vo_w70) (w1 := (wr.setCell ⟨go58, (x50_2 : Int).toNat, none⟩ (.int .i64 t187))) ?hg ?ho ?hn ?hr ?_; (case ho => rfl); (case hg => rfl); (case hn => rfl); (case hr => first | (go_simp; done) | (go_simp; rfl)); intro w70 hw; have hg : wr.grownBy w70 (some go58) := (by rw [hw]; exact HP69.2); have hp_ : Kd.R (Kd.int .i64) 3 w70 w.heap.size (fun _ => True) (.slice (some ⟨go58, 0, none⟩) x183001_2.length co58) y189 := (by rw [hw, Ny189.out]; exact HP69.1); clear HP69; have n0_ := Aside0.mk (hp_); have n1_ := Aside0.mk (blk_grown (g := gb172) (o := .cells #[.int .i64 a0_0, .slice (some ad185) l0_1.length c0_1] 51 (0, 0)) (mb BK172) hg (Kd.R_ne HO_183001.out BK172.out (by decide))); have n2_ := Aside0.mk (blk_grown (g := gb173) (o := .cells #[.int .i64 a2_0, .slice (some ad186) l2_1.length c2_1] 51 (0, 0)) (mb BK173) hg (Kd.R_ne HO_183001.out BK173.out (by decide))); have n3_ := Aside0.mk (blk_grown (g := gb174) (o := .cells #[.int .i64 0, .slice none 0 0] 51 (0, 0)) (mb BK174) hg (Kd.R_ne HO_183001.out BK174.out (by decide))); have n4_ := Aside0.mk (blk_grown (g := gb182) (o := .cells #[.int .i64 t183, .slice (some ⟨go58, 0, none⟩) x183001_2.length co58] 51 (0, 0)) (mb BK182) hg (Kd.R_ne HO_183001.out BK182.out (by decide))); have n5_ := Aside0.mk ((by rw [hw]; exact below_set (HB.out) GB58.out : Below w.heap.size w w70)); clear HO_183001 BK172 BK173 BK174 BK182 HB; have HO_183001 := n0_; have BK172 := n1_; have BK173 := n2_; have BK174 := n3_; have BK182 := n4_; have HB := n5_; clear n0_ n1_ n2_ n3_ n4_ n5_; clear hg hw hp_)); try go_wp2_with (first | (go_at_call 90; (with_reducible refine (impl_scaled.calls (rd l0_1 x50_2) a1 (rd l2_1 x50_2) t187 t188 _ A56.out).mono ?_); rintro e w' ⟨rfl, ⟨nd, rfl⟩⟩; (try first | exact ⟨rfl, _, World.drewN_drewN _ _ _⟩ | exact ⟨rfl, _, Eq.trans (World.drewN_drewN _ _ _) (congrArg (World.drewN _) (Nat.add_assoc _ _ _))⟩); have hnb67 := NB182_174.out; have hnc67 := NB174_182.out; obtain ⟨hcz68_0, hcz68_1⟩ := c2 BK182; have hfz68_0 := blk_frozen BK182.out 0; have hfz68_1 := blk_frozen BK182.out 1; have p58 : 0 ≤ (x50_2 : Int) := of_decide_eq_true (by first | (with_reducible assumption) | assumption); have q58 : (x50_2 : Int) < ((x183001_2.length : Int) : Int) := of_decide_eq_true (by first | (with_reducible assumption) | assumption); obtain ⟨go58, co58, eo58, gb58, gl58, cl58, HG58⟩ := Kd.R_form HO_183001.out (by omega); (first | cases eo58 | (injection eo58 with ea_ en_ ec_; (first | subst ea_ | (injection ea_ with ea_; subst ea_)); subst ec_; clear en_)); have GB58 := Aside0.mk gb58; have GG58 := Aside0.mk HG58; clear gb58 gl58 HG58; obtain ⟨hx58_0, hf58_0⟩ := Kd.R_celln 0 HO_183001.out (x50_2 : Int) p58 q58; replace p58 := eq_true p58; replace q58 := eq_true q58; obtain ⟨hy69_, hz69_⟩ := Kd.R_celln 0 HO_183001.out (x50_2 : Int) (of_decide_eq_true (by first | (with_reducible assumption) | assumption)) (of_decide_eq_true (by first | (with_reducible assumption) | assumption)); have HP69 := Kd.R_putg HO_183001.out (x50_2 : Int) t187) | ((with_reducible refine gate_store (t := 3) (p := 72) rfl ?_); (try (rw [drewN_self wr]; generalize hq_ : World.drewN wr _ = wr; have n0_ := Aside0.mk (Kd.R_at hq_ HO_183001.out); have n1_ := Aside0.mk (blk_at hq_ BK172.out); have n2_ := Aside0.mk (blk_at hq_ BK173.out); have n3_ := Aside0.mk (blk_at hq_ BK174.out); have n4_ := Aside0.mk (blk_at hq_ BK182.out); have n5_ := Aside0.mk (below_at hq_ HB.out); clear hq_ HO_183001 BK172 BK173 BK174 BK182 HB; have HO_183001 := n0_; have BK172 := n1_; have BK173 := n2_; have BK174 := n3_; have BK182 := n4_; have HB := n5_; clear n0_ n1_ n2_ n3_ n4_ n5_; (try (obtain ⟨hy69_, hz69_⟩ := Kd.R_celln 0 HO_183001.out (x50_2 : Int) (of_decide_eq_true (by first | (with_reducible assumption) | assumption)) (of_decide_eq_true (by first | (with_reducible assumption) | assumption)))); (try (have HP69 := Kd.R_putg HO_183001.out (x50_2 : Int) t187)))); refine store_event (t := 3) (p := 72) (v := ?vo_w70) (w1 := (wr.setCell ⟨go58, (x50_2 : Int).toNat, none⟩ (.int .i64 t187))) ?hg ?ho ?hn ?hr ?_; (case ho => rfl); (case hg => rfl); (case hn => rfl); (case hr => first | (go_simp; done) | (go_simp; rfl)); intro w70 hw; have hg : wr.grownBy w70 (some go58) := (by rw [hw]; exact HP69.2); have hp_ : Kd.R (Kd.int .i64) 3 w70 w.heap.size (fun _ => True) (.slice (some ⟨go58, 0, none⟩) x183001_2.length co58) y189 := (by rw [hw, Ny189.out]; exact HP69.1); clear HP69; have n0_ := Aside0.mk (hp_); have n1_ := Aside0.mk (blk_grown (g := gb172) (o := .cells #[.int .i64 a0_0, .slice (some ad185) l0_1.length c0_1] 51 (0, 0)) (mb BK172) hg (Kd.R_ne HO_183001.out BK172.out (by decide))); have n2_ := Aside0.mk (blk_grown (g := gb173) (o := .cells #[.int .i64 a2_0, .slice (some ad186) l2_1.length c2_1] 51 (0, 0)) (mb BK173) hg (Kd.R_ne HO_183001.out BK173.out (by decide))); have n3_ := Aside0.mk (blk_grown (g := gb174) (o := .cells #[.int .i64 0, .slice none 0 0] 51 (0, 0)) (mb BK174) hg (Kd.R_ne HO_183001.out BK174.out (by decide))); have n4_ := Aside0.mk (blk_grown (g := gb182) (o := .cells #[.int .i64 t183, .slice (some ⟨go58, 0, none⟩) x183001_2.length co58] 51 (0, 0)) (mb BK182) hg (Kd.R_ne HO_183001.out BK182.out (by decide))); have n5_ := Aside0.mk ((by rw [hw]; exact below_set (HB.out) GB58.out : Below w.heap.size w w70)); clear HO_183001 BK172 BK173 BK174 BK182 HB; have HO_183001 := n0_; have BK172 := n1_; have BK173 := n2_; have BK174 := n3_; have BK182 := n4_; have HB := n5_; clear n0_ n1_ n2_ n3_ n4_ n5_; clear hg hw hp_)))
            go_roundg k2
            case measure => have := HJ3.out; have := HK2.out; omega
            case rel => exact ⟨(t188), (wrap64 (x50_2 + 1)), (y189), (.slice (some ⟨go58, 0, none⟩) x183001_2.length co58), (by first | rfl | (simp; done) | (simp [*]; done)), (by first | rfl | (simp; done) | (simp [*]; done)), H', ⟨by have := HJ3.out; have := HK2.out; omega⟩, ⟨by (with_reducible repeat (first | apply Kd.R_alloc | apply Kd.R_drewN | apply Kd.R_drew)); exact HO_183001.out⟩, ⟨by (with_reducible repeat (first | refine blk_drewN ?_ _ | refine blk_drew ?_ | refine blk_alloc ?_ _)); exact BK172.out⟩, ⟨by (with_reducible repeat (first | refine blk_drewN ?_ _ | refine blk_drew ?_ | refine blk_alloc ?_ _)); exact BK173.out⟩, ⟨by (with_reducible repeat (first | refine blk_drewN ?_ _ | refine blk_drew ?_ | refine blk_alloc ?_ _)); exact BK174.out⟩, ⟨by (with_reducible repeat (first | refine blk_drewN ?_ _ | refine blk_drew ?_ | refine blk_alloc ?_ _)); exact BK182.out⟩, ⟨ms HB⟩⟩
           ·replace c59 := Bool.eq_false_iff.mpr c59
            subst c59
            have H1 : (impl_AddScaled.l0 k2 a1 false (l0_1.length : Int) (wrap64 (x50_2 + 1)) a0_0 l0_1 a2_0 l2_1 t183 y189) = some (r1, r2, r3) := by rw [if_neg (show ¬ (false = true) by decide)] at H; exact H
            clear H
            have H := H1
            clear H1
            have H' := Aside0.mk H
            clear H
            have hnb71 := NB172_173.out
            have hnc71 := NB173_172.out
            have hnb72 := NB172_174.out
            have hnc72 := NB174_172.out
            have hnb73 := NB172_182.out
            have hnc73 := NB182_172.out
            obtain ⟨hcz74_0, hcz74_1⟩ := c2 BK172
            have hfz74_0 := blk_frozen BK172.out 0
            have hfz74_1 := blk_frozen BK172.out 1
            have p185 : 0 ≤ (x50_2 : Int) := of_decide_eq_true (by first | (with_reducible assumption) | assumption)
            have q185 : x50_2 < (l0_1.length : Int) := of_decide_eq_true (by first | (with_reducible assumption) | assumption)
            obtain ⟨ad185, e185, hx185_0⟩ := Kd.at_int HR0_1.out x50_2 p185 q185
            cases e185
            replace hx185_0 := (HB.out.cell (World.block_lt_of_cell? w _ hx185_0)).trans hx185_0
            replace p185 := eq_true p185
            replace q185 := eq_true q185
            have hnb75 := NB173_174.out
            have hnc75 := NB174_173.out
            have hnb76 := NB173_182.out
            have hnc76 := NB182_173.out
            obtain ⟨hcz77_0, hcz77_1⟩ := c2 BK173
            have hfz77_0 := blk_frozen BK173.out 0
            have hfz77_1 := blk_frozen BK173.out 1
            have p186 : 0 ≤ (x50_2 : Int) := of_decide_eq_true (by first | (with_reducible assumption) | assumption)
            have q186 : x50_2 < (l2_1.length : Int) := of_decide_eq_true (by first | (with_reducible assumption) | assumption)
            obtain ⟨ad186, e186, hx186_0⟩ := Kd.at_int HR2_1.out x50_2 p186 q186
            cases e186
            replace hx186_0 := (HB.out.cell (World.block_lt_of_cell? w _ hx186_0)).trans hx186_0
            replace p186 := eq_true p186
            replace q186 := eq_true q186
            go_wp2_with (first | (go_at_call 90; (with_reducible refine (impl_scaled.calls (rd l0_1 x50_2) a1 (rd l2_1 x50_2) t187 t188 _ A56.out).mono ?_); rintro e w' ⟨rfl, ⟨nd, rfl⟩⟩; (try first | exact ⟨rfl, _, World.drewN_drewN _ _ _⟩ | exact ⟨rfl, _, Eq.trans (World.drewN_drewN _ _ _) (congrArg (World.drewN _) (Nat.add_assoc _ _ _))⟩); have hnb78 := NB182_174.out; have hnc78 := NB174_182.out; obtain ⟨hcz79_0, hcz79_1⟩ := c2 BK182; have hfz79_0 := blk_frozen BK182.out 0; have hfz79_1 := blk_frozen BK182.out 1; have p58 : 0 ≤ (x50_2 : Int) := of_decide_eq_true (by first | (with_reducible assumption) | assumption); have q58 : (x50_2 : Int) < ((x183001_2.length : Int) : Int) := of_decide_eq_true (by first | (with_reducible assumption) | assumption); obtain ⟨go58, co58, eo58, gb58, gl58, cl58, HG58⟩ := Kd.R_form HO_183001.out (by omega); (first | cases eo58 | (injection eo58 with ea_ en_ ec_; (first | subst ea_ | (injection ea_ with ea_; subst ea_)); subst ec_; clear en_)); have GB58 := Aside0.mk gb58; have GG58 := Aside0.mk HG58; clear gb58 gl58 HG58; obtain ⟨hx58_0, hf58_0⟩ := Kd.R_celln 0 HO_183001.out (x50_2 : Int) p58 q58; replace p58 := eq_true p58; replace q58 := eq_true q58; obtain ⟨hy80_, hz80_⟩ := Kd.R_celln 0 HO_183001.out (x50_2 : Int) (of_decide_eq_true (by first | (with_reducible assumption) | assumption)) (of_decide_eq_true (by first | (with_reducible assumption) | assumption)); have HP80 := Kd.R_putg HO_183001.out (x50_2 : Int) t187) | ((with_reducible refine gate_store (t := 3) (p := 72) rfl ?_); (try (rw [drewN_self wr]; generalize hq_ : World.drewN wr _ = wr; have n0_ := Aside0.mk (Kd.R_at hq_ HO_183001.out); have n1_ := Aside0.mk (blk_at hq_ BK172.out); have n2_ := Aside0.mk (blk_at hq_ BK173.out); have n3_ := Aside0.mk (blk_at hq_ BK174.out); have n4_ := Aside0.mk (blk_at hq_ BK182.out); have n5_ := Aside0.mk (below_at hq_ HB.out); clear hq_ HO_183001 BK172 BK173 BK174 BK182 HB; have HO_183001 := n0_; have BK172 := n1_; have BK173 := n2_; have BK174 := n3_; have BK182 := n4_; have HB := n5_; clear n0_ n1_ n2_ n3_ n4_ n5_; (try (obtain ⟨hy80_, hz80_⟩ := Kd.R_celln 0 HO_183001.out (x50_2 : Int) (of_decide_eq_true (by first | (with_reducible assumption) | assumption)) (of_decide_eq_true (by first | (with_reducible assumption) | assumption)))); (try (have HP80 := Kd.R_putg HO_183001.out (x50_2 : Int) t187)))); refine store_event (t := 3) (p := 72) (v := ?vo_w81) (w1 := (wr.setCell ⟨go58, (x50_2 : Int).toNat, none⟩ (.int .i64 t187))) ?hg ?ho ?hn ?hr ?_; (case ho => rfl); (case hg => rfl); (case hn => rfl); (case hr => first | (go_simp; done) | (go_simp; rfl)); intro w81 hw; have hg : wr.grownBy w81 (some go58) := (by rw [hw]; exact HP80.2); have hp_ : Kd.R (Kd.int .i64) 3 w81 w.heap.size (fun _ => True) (.slice (some ⟨go58, 0, none⟩) x183001_2.length co58) y189 := (by rw [hw, Ny189.out]; exact HP80.1); clear HP80; have n0_ := Aside0.mk (hp_); have n1_ := Aside0.mk (blk_grown (g := gb172) (o := .cells #[.int .i64 a0_0, .slice (some ad185) l0_1.length c0_1] 51 (0, 0)) (mb BK172) hg (Kd.R_ne HO_183001.out BK172.out (by decide))); have n2_ := Aside0.mk (blk_grown (g := gb173) (o := .cells #[.int .i64 a2_0, .slice (some ad186) l2_1.length c2_1] 51 (0, 0)) (mb BK173) hg (Kd.R_ne HO_183001.out BK173.out (by decide))); have n3_ := Aside0.mk (blk_grown (g := gb174) (o := .cells #[.int .i64 0, .slice none 0 0] 51 (0, 0)) (mb BK174) hg (Kd.R_ne HO_183001.out BK174.out (by decide))); have n4_ := Aside0.mk (blk_grown (g := gb182) (o := .cells #[.int .i64 t183, .slice (some ⟨go58, 0, none⟩) x183001_2.length co58] 51 (0, 0)) (mb BK182) hg (Kd.R_ne HO_183001.out BK182.out (by decide))); have n5_ := Aside0.mk ((by rw [hw]; exact below_set (HB.out) GB58.out : Below w.heap.size w w81)); clear HO_183001 BK172 BK173 BK174 BK182 HB; have HO_183001 := n0_; have BK172 := n1_; have BK173 := n2_; have BK174 := n3_; have BK182 := n4_; have HB := n5_; clear n0_ n1_ n2_ n3_ n4_ n5_; clear hg hw hp_))
            repeat (go_quiet (first | (go_at_call 90; (with_reducible refine (impl_scaled.calls (rd l0_1 x50_2) a1 (rd l2_1 x50_2) t187 t188 _ A56.out).mono ?_); rintro e w' ⟨rfl, ⟨nd, rfl⟩⟩; (try first | exact ⟨rfl, _, World.drewN_drewN _ _ _⟩ | exact ⟨rfl, _, Eq.trans (World.drewN_drewN _ _ _) (congrArg (World.drewN _) (Nat.add_assoc _ _ _))⟩); have hnb78 := NB182_174.out; have hnc78 := NB174_182.out; obtain ⟨hcz79_0, hcz79_1⟩ := c2 BK182; have hfz79_0 := blk_frozen BK182.out 0; have hfz79_1 := blk_frozen BK182.out 1; have p58 : 0 ≤ (x50_2 : Int) := of_decide_eq_true (by first | (with_reducible assumption) | assumption); have q58 : (x50_2 : Int) < ((x183001_2.length : Int) : Int) := of_decide_eq_true (by first | (with_reducible assumption) | assumption); obtain ⟨go58, co58, eo58, gb58, gl58, cl58, HG58⟩ := Kd.R_form HO_183001.out (by omega); (first | cases eo58 | (injection eo58 with ea_ en_ ec_; (first | subst ea_ | (injection ea_ with ea_; subst ea_)); subst ec_; clear en_)); have GB58 := Aside0.mk gb58; have GG58 := Aside0.mk HG58; clear gb58 gl58 HG58; obtain ⟨hx58_0, hf58_0⟩ := Kd.R_celln 0 HO_183001.out (x50_2 : Int) p58 q58; replace p58 := eq_true p58; replace q58 := eq_true q58; obtain ⟨hy80_, hz80_⟩ := Kd.R_celln 0 HO_183001.out (x50_2 : Int) (of_decide_eq_true (by first | (with_reducible assumption) | assumption)) (of_decide_eq_true (by first | (with_reducible assumption) | assumption)); have HP80 := Kd.R_putg HO_183001.out (x50_2 : Int) t187) | ((with_reducible refine gate_store (t := 3) (p := 72) rfl ?_); (try (rw [drewN_self wr]; generalize hq_ : World.drewN wr _ = wr; have n0_ := Aside0.mk (Kd.R_at hq_ HO_183001.out); have n1_ := Aside0.mk (blk_at hq_ BK172.out); have n2_ := Aside0.mk (blk_at hq_ BK173.out); have n3_ := Aside0.mk (blk_at hq_ BK174.out); have n4_ := Aside0.mk (blk_at hq_ BK182.out); have n5_ := Aside0.mk (below_at hq_ HB.out); clear hq_ HO_183001 BK172 BK173 BK174 BK182 HB; have HO_183001 := n0_; have BK172 := n1_; have BK173 := n2_; have BK174 := n3_; have BK182 := n4_; have HB := n5_; clear n0_ n1_ n2_ n3_ n4_ n5_; (try (obtain ⟨hy80_, hz80_⟩ := Kd.R_celln 0 HO_183001.out (x50_2 : Int) (of_decide_eq_true (by first | (with_reducible assumption) | assumption)) (of_decide_eq_true (by first | (with_reducible assumption) | assumption)))); (try (have HP80 := Kd.R_putg HO_183001.out (x50_2 : Int) t187)))); refine store_event (t := 3) (p := 72) (v := ?vo_w81) (w1 := (wr.setCell ⟨go58, (x50_2 : Int).toNat, none⟩ (.int .i64 t187))) ?hg ?ho ?hn ?hr ?_; (case ho => rfl); (case hg => rfl); (case hn => rfl); (case hr => first | (go_simp; done) | (go_simp; rfl)); intro w81 hw; have hg : wr.grownBy w81 (some go58) := (by rw [hw]; exact HP80.2); have hp_ : Kd.R (Kd.int .i64) 3 w81 w.heap.size (fun _ => True) (.slice (some ⟨go58, 0, none⟩) x183001_2.length co58) y189 := (by rw [hw, Ny189.out]; exact HP80.1); clear HP80; have n0_ := Aside0.mk (hp_); have n1_ := Aside0.mk (blk_grown (g := gb172) (o := .cells #[.int .i64 a0_0, .slice (some ad185) l0_1.length c0_1] 51 (0, 0)) (mb BK172) hg (Kd.R_ne HO_183001.out BK172.out (by decide))); have n2_ := Aside0.mk (blk_grown (g := gb173) (o := .cells #[.int .i64 a2_0, .slice (some ad186) l2_1.length c2_1] 51 (0, 0)) (mb BK173) hg (Kd.R_ne HO_183001.out BK173.out (by decide))); have n3_ := Aside0.mk (blk_grown (g := gb174) (o := .cells #[.int .i64 0, .slice none 0 0] 51 (0, 0)) (mb BK174) hg (Kd.R_ne HO_183001.out BK174.out (by decide))); have n4_ := Aside0.mk (blk_grown (g := gb182) (o := .cells #[.int .i64 t183, .slice (some ⟨go58, 0, none⟩) x183001_2.length co58] 51 (0, 0)) (mb BK182) hg (Kd.R_ne HO_183001.out BK182.out (by decide))); have n5_ := Aside0.mk ((by rw [hw]; exact below_set (HB.out) GB58.out : Below w.heap.size w w81)); clear HO_183001 BK172 BK173 BK174 BK182 HB; have HO_183001 := n0_; have BK172 := n1_; have BK173 := n2_; have BK174 := n3_; have BK182 := n4_; have HB := n5_; clear n0_ n1_ n2_ n3_ n4_ n5_; clear hg hw hp_)); try go_wp2_with (first | (go_at_call 90; (with_reducible refine (impl_scaled.calls (rd l0_1 x50_2) a1 (rd l2_1 x50_2) t187 t188 _ A56.out).mono ?_); rintro e w' ⟨rfl, ⟨nd, rfl⟩⟩; (try first | exact ⟨rfl, _, World.drewN_drewN _ _ _⟩ | exact ⟨rfl, _, Eq.trans (World.drewN_drewN _ _ _) (congrArg (World.drewN _) (Nat.add_assoc _ _ _))⟩); have hnb78 := NB182_174.out; have hnc78 := NB174_182.out; obtain ⟨hcz79_0, hcz79_1⟩ := c2 BK182; have hfz79_0 := blk_frozen BK182.out 0; have hfz79_1 := blk_frozen BK182.out 1; have p58 : 0 ≤ (x50_2 : Int) := of_decide_eq_true (by first | (with_reducible assumption) | assumption); have q58 : (x50_2 : Int) < ((x183001_2.length : Int) : Int) := of_decide_eq_true (by first | (with_reducible assumption) | assumption); obtain ⟨go58, co58, eo58, gb58, gl58, cl58, HG58⟩ := Kd.R_form HO_183001.out (by omega); (first | cases eo58 | (injection eo58 with ea_ en_ ec_; (first | subst ea_ | (injection ea_ with ea_; subst ea_)); subst ec_; clear en_)); have GB58 := Aside0.mk gb58; have GG58 := Aside0.mk HG58; clear gb58 gl58 HG58; obtain ⟨hx58_0, hf58_0⟩ := Kd.R_celln 0 HO_183001.out (x50_2 : Int) p58 q58; replace p58 := eq_true p58; replace q58 := eq_true q58; obtain ⟨hy80_, hz80_⟩ := Kd.R_celln 0 HO_183001.out (x50_2 : Int) (of_decide_eq_true (by first | (with_reducible assumption) | assumption)) (of_decide_eq_true (by first | (with_reducible assumption) | assumption)); have HP80 := Kd.R_putg HO_183001.out (x50_2 : Int) t187) | ((with_reducible refine gate_store (t := 3) (p := 72) rfl ?_); (try (rw [drewN_self wr]; generalize hq_ : World.drewN wr _ = wr; have n0_ := Aside0.mk (Kd.R_at hq_ HO_183001.out); have n1_ := Aside0.mk (blk_at hq_ BK172.out); have n2_ := Aside0.mk (blk_at hq_ BK173.out); have n3_ := Aside0.mk (blk_at hq_ BK174.out); have n4_ := Aside0.mk (blk_at hq_ BK182.out); have n5_ := Aside0.mk (below_at hq_ HB.out); clear hq_ HO_183001 BK172 BK173 BK174 BK182 HB; have HO_183001 := n0_; have BK172 := n1_; have BK173 := n2_; have BK174 := n3_; have BK182 := n4_; have HB := n5_; clear n0_ n1_ n2_ n3_ n4_ n5_; (try (obtain ⟨hy80_, hz80_⟩ := Kd.R_celln 0 HO_183001.out (x50_2 : Int) (of_decide_eq_true (by first | (with_reducible assumption) | assumption)) (of_decide_eq_true (by first | (with_reducible assumption) | assumption)))); (try (have HP80 := Kd.R_putg HO_183001.out (x50_2 : Int) t187)))); refine store_event (t := 3) (p := 72) (v := ?vo_w81) (w1 := (wr.setCell ⟨go58, (x50_2 : Int).toNat, none⟩ (.int .i64 t187))) ?hg ?ho ?hn ?hr ?_; (case ho => rfl); (case hg => rfl); (case hn => rfl); (case hr => first | (go_simp; done) | (go_simp; rfl)); intro w81 hw; have hg : wr.grownBy w81 (some go58) := (by rw [hw]; exact HP80.2); have hp_ : Kd.R (Kd.int .i64) 3 w81 w.heap.size (fun _ => True) (.slice (some ⟨go58, 0, none⟩) x183001_2.length co58) y189 := (by rw [hw, Ny189.out]; exact HP80.1); clear HP80; have n0_ := Aside0.mk (hp_); have n1_ := Aside0.mk (blk_grown (g := gb172) (o := .cells #[.int .i64 a0_0, .slice (some ad185) l0_1.length c0_1] 51 (0, 0)) (mb BK172) hg (Kd.R_ne HO_183001.out BK172.out (by decide))); have n2_ := Aside0.mk (blk_grown (g := gb173) (o := .cells #[.int .i64 a2_0, .slice (some ad186) l2_1.length c2_1] 51 (0, 0)) (mb BK173) hg (Kd.R_ne HO_183001.out BK173.out (by decide))); have n3_ := Aside0.mk (blk_grown (g := gb174) (o := .cells #[.int .i64 0, .slice none 0 0] 51 (0, 0)) (mb BK174) hg (Kd.R_ne HO_183001.out BK174.out (by decide))); have n4_ := Aside0.mk (blk_grown (g := gb182) (o := .cells #[.int .i64 t183, .slice (some ⟨go58, 0, none⟩) x183001_2.length co58] 51 (0, 0)) (mb BK182) hg (Kd.R_ne HO_183001.out BK182.out (by decide))); have n5_ := Aside0.mk ((by rw [hw]; exact below_set (HB.out) GB58.out : Below w.heap.size w w81)); clear HO_183001 BK172 BK173 BK174 BK182 HB; have HO_183001 := n0_; have BK172 := n1_; have BK173 := n2_; have BK174 := n3_; have BK182 := n4_; have HB := n5_; clear n0_ n1_ n2_ n3_ n4_ n5_; clear hg hw hp_)))
            go_roundg k2
            case measure => have := HJ3.out; have := HK2.out; omega
            case rel => exact ⟨(false), (wrap64 (x50_2 + 1)), (y189), (.slice (some ⟨go58, 0, none⟩) x183001_2.length co58), (by first | rfl | (simp; done) | (simp [*]; done)), (by first | rfl | (simp; done) | (simp [*]; done)), H', ⟨by have := HJ3.out; have := HK2.out; omega⟩, ⟨by (with_reducible repeat (first | apply Kd.R_alloc | apply Kd.R_drewN | apply Kd.R_drew)); exact HO_183001.out⟩, ⟨by (with_reducible repeat (first | refine blk_drewN ?_ _ | refine blk_drew ?_ | refine blk_alloc ?_ _)); exact BK172.out⟩, ⟨by (with_reducible repeat (first | refine blk_drewN ?_ _ | refine blk_drew ?_ | refine blk_alloc ?_ _)); exact BK173.out⟩, ⟨by (with_reducible repeat (first | refine blk_drewN ?_ _ | refine blk_drew ?_ | refine blk_alloc ?_ _)); exact BK174.out⟩, ⟨by (with_reducible repeat (first | refine blk_drewN ?_ _ | refine blk_drew ?_ | refine blk_alloc ?_ _)); exact BK182.out⟩, ⟨ms HB⟩⟩
          ·rw [if_neg c57] at H
           exact absurd H (by simp)
         ·rw [if_neg c55] at H
          exact absurd H (by simp)
        ·rw [if_neg c54] at H
         exact absurd H (by simp)
       ·rw [if_neg c53] at H
        exact absurd H (by simp)
      ·rw [if_neg c52] at H
       have c52b0 : decide (x50_2 < (l0_1.length : Int)) = false := decide_eq_false c52
       clear c52
       by_cases c82 : x11_2 = true
       ·subst c82
        have H1 : (some (t183, x183001_2, true)) = some (r1, r2, r3) := by rw [if_pos rfl] at H; exact H
        clear H
        have H := H1
        clear H1
        simp only [Option.some.injEq, Prod.mk.injEq] at H
        obtain ⟨rfl, rfl, rfl⟩ := H
        have hnb83 := NB182_172.out
        have hnc83 := NB172_182.out
        have hnb84 := NB182_173.out
        have hnc84 := NB173_182.out
        have hnb85 := NB182_174.out
        have hnc85 := NB174_182.out
        obtain ⟨hcz86_0, hcz86_1⟩ := c2 BK182
        have hfz86_0 := blk_frozen BK182.out 0
        have hfz86_1 := blk_frozen BK182.out 1
        have hnb87 := NB174_172.out
        have hnc87 := NB172_174.out
        have hnb88 := NB174_173.out
        have hnc88 := NB173_174.out
        obtain ⟨hcz89_0, hcz89_1⟩ := c2 BK174
        have hfz89_0 := blk_frozen BK174.out 0
        have hfz89_1 := blk_frozen BK174.out 1
        obtain ⟨Ao90, co90, eo90⟩ := Kd.R_slice HO_183001.out
        subst eo90
        go_wp2
        repeat (go_quiet (fail); try go_wp2)
        refine bodyPost_ret (results_ct rfl _ _ gb174 51 #[.int .i64 t183, .slice Ao90 x183001_2.length co90] (0, 0) _ rfl (by (with_reducible repeat (first | refine blk_drewN ?_ _ | refine blk_drew ?_ | refine blk_alloc ?_ _)); refine blk_put (cs := #[.int .i64 t183, .slice none 0 0]) ?_ 1 _ rfl; (with_reducible repeat (first | refine blk_drewN ?_ _ | refine blk_drew ?_ | refine blk_alloc ?_ _)); refine blk_put (cs := #[.int .i64 0, .slice none 0 0]) ?_ 0 _ rfl; (with_reducible repeat (first | refine blk_drewN ?_ _ | refine blk_drew ?_ | refine blk_alloc ?_ _)); exact BK174.out) Try.underlying51 rfl (by kernel_rfl)) rfl ?_
        exact ⟨_, by first | rfl | (simp [errW_none, errW_some] <;> rfl) | (simp [*, errW_none, errW_some] <;> rfl), by (with_reducible repeat (first | apply Kd.R_alloc | apply Kd.R_drewN | apply Kd.R_drew)); exact Kd.R_mono (Kd.R_far (p := ⟨gb174, 1, none⟩) (Kd.R_far (p := ⟨gb174, 0, none⟩) (Kd.R_types HO_183001.out BK174.out (by decide)) (fun _ hk => hk.2) (.int .i64 t183)) (fun _ hk => hk.2) (.slice Ao90 x183001_2.length co90)) (fun _ hk => trivial), ms HB⟩
       ·replace c82 := Bool.eq_false_iff.mpr c82
        subst c82
        have H1 : (some (0, ([] : List Int), false)) = some (r1, r2, r3) := by rw [if_neg (show ¬ (false = true) by decide)] at H; exact H
        clear H
        have H := H1
        clear H1
        simp only [Option.some.injEq, Prod.mk.injEq] at H
        obtain ⟨rfl, rfl, rfl⟩ := H
        have hnb91 := NB174_172.out
        have hnc91 := NB172_174.out
        have hnb92 := NB174_173.out
        have hnc92 := NB173_174.out
        have hnb93 := NB174_182.out
        have hnc93 := NB182_174.out
        obtain ⟨hcz94_0, hcz94_1⟩ := c2 BK174
        have hfz94_0 := blk_frozen BK174.out 0
        have hfz94_1 := blk_frozen BK174.out 1
        go_wp2
        repeat (go_quiet (fail); try go_wp2)
        refine bodyPost_ret (results_ct rfl _ _ gb174 51 #[.int .i64 0, .slice none 0 0] (0, 0) _ rfl (by (with_reducible repeat (first | refine blk_drewN ?_ _ | refine blk_drew ?_ | refine blk_alloc ?_ _)); refine blk_put (cs := #[.int .i64 0, .slice none 0 0]) ?_ 1 _ rfl; (with_reducible repeat (first | refine blk_drewN ?_ _ | refine blk_drew ?_ | refine blk_alloc ?_ _)); refine blk_put (cs := #[.int .i64 0, .slice none 0 0]) ?_ 0 _ rfl; (with_reducible repeat (first | refine blk_drewN ?_ _ | refine blk_drew ?_ | refine blk_alloc ?_ _)); exact BK174.out) Try.underlying51 rfl (by kernel_rfl)) rfl ?_
        exact ⟨_, by first | rfl | (simp [errW_none, errW_some] <;> rfl) | (simp [*, errW_none, errW_some] <;> rfl), by first | exact Kd.R_nil _ _ _ _ _ | exact Kd.N_nil _ _ _ _ _ | exact Kd.V_nil _ _ _ _ _ | exact Kd.Q_nil _ _ _ _ _ | exact Kd.S_nil _ _ _ _ _, ms HB⟩

/-! ### laws_eqIntS: function 59 -/
def laws_eqIntS.l0 : Nat → List Int → List Int → Int → Option (Bool)
 | 0, _, _, _ => none
 | k + 1, x0, x1, x5 => if x5 < (x0.length : Int) then (if 0 ≤ x5 then (if x5 < (x1.length : Int) then (if (rd x0 x5) = (rd x1 x5) then (laws_eqIntS.l0 k x0 x1 (wrap64 (x5 + 1))) else (some false)) else (none)) else (none)) else (some true)
def laws_eqIntS.f (k : Nat) (l0 : List Int) (l1 : List Int) : Option (Bool) := if (l0.length : Int) = (l1.length : Int) then (laws_eqIntS.l0 k l0 l1 0) else (some false)
theorem laws_eqIntS.mono_l : ∀ k, (∀ y0 y1 y2, LeO (laws_eqIntS.l0 k y0 y1 y2) (laws_eqIntS.l0 (k + 1) y0 y1 y2))
 | 0 => fun _ _ _ r h => by simp [laws_eqIntS.l0] at h
 | k + 1 => by
  have ih0 := laws_eqIntS.mono_l k
  ·intro y0 y1 y2
   unfold laws_eqIntS.l0
   repeat' first
   | (with_reducible exact ih0 _ _ _)
   | (with_reducible exact LeO.refl _)
   | (with_reducible exact LeO.none _)
   | (with_reducible refine LeO.ite ?_ ?_)
   | (with_reducible refine LeO.bind ?_ (fun _ => ?_))
   | exact ih0 _ _ _
   | exact LeO.none _
   | refine LeO.ite ?_ ?_
   | refine LeO.bind ?_ (fun _ => ?_)
theorem laws_eqIntS.mono : ∀ a0 a1 k, LeO (laws_eqIntS.f k a0 a1) (laws_eqIntS.f (k + 1) a0 a1) := by
 intro a0 a1 k
 have ih0 := laws_eqIntS.mono_l k
 unfold laws_eqIntS.f
 repeat' first
   | (with_reducible exact ih0 _ _ _)
   | (with_reducible exact LeO.refl _)
   | (with_reducible exact LeO.none _)
   | (with_reducible refine LeO.ite ?_ ?_)
   | (with_reducible refine LeO.bind ?_ (fun _ => ?_))
   | exact ih0 _ _ _
   | exact LeO.none _
   | refine LeO.ite ?_ ?_
   | refine LeO.bind ?_ (fun _ => ?_)
set_option maxHeartbeats 8000000 in
set_option maxRecDepth 100000 in
theorem laws_eqIntS.calls (k : Nat) (A0 : Option Addr) (c0 : Nat) (l0 : List Int) (A1 : Option Addr) (c1 : Nat) (l1 : List Int) (r : Bool) (w : World) (hr0 : Kd.C (Kd.int .i64) w A0 l0.length l0) (hc0 : l0.length ≤ c0) (hr1 : Kd.C (Kd.int .i64) w A1 l1.length l1) (hc1 : l1.length ≤ c1) (h : laws_eqIntS.f k l0 l1 = some r) :
  Calls Try.prog 59 #[.slice A0 l0.length c0, .slice A1 l1.length c1] w fun e w' => e = .returned (.bool r) ∧ Drawn0 w w' := by
 have HR0 := Aside0.mk hr0
 have HC0 := Aside0.mk hc0
 clear hr0 hc0
 have HR1 := Aside0.mk hr1
 have HC1 := Aside0.mk hc1
 clear hr1 hc1
 have H : (if (l0.length : Int) = (l1.length : Int) then (laws_eqIntS.l0 k l0 l1 0) else (some false)) = some r := h
 clear h
 by_cases c3 : (l0.length : Int) = (l1.length : Int)
 ·rw [if_pos c3] at H
  have c3b0 : ((l0.length : Int) == (l1.length : Int)) = true := beq_iff_eq.mpr c3
  have c3b1 : ((l0.length : Int) != (l1.length : Int)) = false := bne_eq_false_iff_eq.mpr c3
  have c3b2 : (l0.length == l1.length) = true := by first | simpa using c3 | (simp at c3 ⊢; omega)
  clear c3
  have H' := Aside0.mk H
  clear H
  go_enter Try.func59, Try.ntmps59
  go_wp2
  repeat (go_quiet (fail); try go_wp2)
  go_loopg [5] k (fun kq v5 w' => ∃ (x5_1 : Int), v5 = .int .i64 x5_1 ∧ Aside0 (laws_eqIntS.l0 kq l0 l1 x5_1 = some r) ∧ Aside0 (kq ≤ k) ∧ Drawn0 w w')
  case atStart => exact ⟨(0), (by first | rfl | (simp; done) | (simp [*]; done)), H', ⟨Nat.le_refl _⟩, by repeat (first | exact Drawn0.refl _ | apply Drawn0.step)⟩
  case round =>
   clear H'
   try clear c1
   try clear p2
   try clear c3
   try clear c3b0
   try clear c3b1
   try clear c3b2
   obtain ⟨x5_1, rfl, HA, HK1, ⟨m1, rfl⟩⟩ := hrel
   cases gk with
   | zero => exact absurd HA.out (by simp [laws_eqIntS.l0])
   | succ k1 =>
    have H := HA.out
    clear HA
    simp only [laws_eqIntS.l0] at H
    by_cases c4 : x5_1 < (l0.length : Int)
    ·rw [if_pos c4] at H
     have c4b0 : decide (x5_1 < (l0.length : Int)) = true := decide_eq_true c4
     clear c4
     by_cases c5 : 0 ≤ x5_1
     ·rw [if_pos c5] at H
      have c5b0 : decide (0 ≤ x5_1) = true := decide_eq_true c5
      clear c5
      by_cases c6 : x5_1 < (l1.length : Int)
      ·rw [if_pos c6] at H
       have c6b0 : decide (x5_1 < (l1.length : Int)) = true := decide_eq_true c6
       clear c6
       by_cases c7 : (rd l0 x5_1) = (rd l1 x5_1)
       ·rw [if_pos c7] at H
        have c7b0 : ((rd l0 x5_1) == (rd l1 x5_1)) = true := beq_iff_eq.mpr c7
        have c7b1 : ((rd l0 x5_1) != (rd l1 x5_1)) = false := bne_eq_false_iff_eq.mpr c7
        clear c7
        have H' := Aside0.mk H
        clear H
        have p190 : 0 ≤ (x5_1 : Int) := of_decide_eq_true (by first | (with_reducible assumption) | assumption)
        have q190 : x5_1 < (l0.length : Int) := of_decide_eq_true (by first | (with_reducible assumption) | assumption)
        obtain ⟨ad190, e190, hx190_0⟩ := Kd.at_int HR0.out x5_1 p190 q190
        cases e190
        replace p190 := eq_true p190
        replace q190 := eq_true q190
        have p191 : 0 ≤ (x5_1 : Int) := of_decide_eq_true (by first | (with_reducible assumption) | assumption)
        have q191 : x5_1 < (l1.length : Int) := of_decide_eq_true (by first | (with_reducible assumption) | assumption)
        obtain ⟨ad191, e191, hx191_0⟩ := Kd.at_int HR1.out x5_1 p191 q191
        cases e191
        replace p191 := eq_true p191
        replace q191 := eq_true q191
        go_wp2
        repeat (go_quiet (fail); try go_wp2)
        go_roundg k1
        case measure => have := HK1.out; omega
        case rel => exact ⟨(wrap64 (x5_1 + 1)), (by first | rfl | (simp; done) | (simp [*]; done)), H', ⟨by have := HK1.out; omega⟩, by repeat (first | exact Drawn0.refl _ | apply Drawn0.step)⟩
       ·rw [if_neg c7] at H
        have c7b0 : ((rd l0 x5_1) == (rd l1 x5_1)) = false := beq_eq_false_iff_ne.mpr c7
        have c7b1 : ((rd l0 x5_1) != (rd l1 x5_1)) = true := bne_iff_ne.mpr c7
        obtain rfl := Option.some.inj H
        have p190 : 0 ≤ (x5_1 : Int) := of_decide_eq_true (by first | (with_reducible assumption) | assumption)
        have q190 : x5_1 < (l0.length : Int) := of_decide_eq_true (by first | (with_reducible assumption) | assumption)
        obtain ⟨ad190, e190, hx190_0⟩ := Kd.at_int HR0.out x5_1 p190 q190
        cases e190
        replace p190 := eq_true p190
        replace q190 := eq_true q190
        have p191 : 0 ≤ (x5_1 : Int) := of_decide_eq_true (by first | (with_reducible assumption) | assumption)
        have q191 : x5_1 < (l1.length : Int) := of_decide_eq_true (by first | (with_reducible assumption) | assumption)
        obtain ⟨ad191, e191, hx191_0⟩ := Kd.at_int HR1.out x5_1 p191 q191
        cases e191
        replace p191 := eq_true p191
        replace q191 := eq_true q191
        go_wp2
        repeat (go_quiet (fail); try go_wp2)
        go_ret
        exact ⟨by first | rfl | (simp; done) | (simp [*]; done), by repeat (first | exact Drawn0.refl _ | apply Drawn0.step)⟩
      ·rw [if_neg c6] at H
       exact absurd H (by simp)
     ·rw [if_neg c5] at H
      exact absurd H (by simp)
    ·rw [if_neg c4] at H
     have c4b0 : decide (x5_1 < (l0.length : Int)) = false := decide_eq_false c4
     clear c4
     obtain rfl := Option.some.inj H
     go_wp2
     repeat (go_quiet (fail); try go_wp2)
     go_ret
     exact ⟨by first | rfl | (simp; done) | (simp [*]; done), by repeat (first | exact Drawn0.refl _ | apply Drawn0.step)⟩
 ·rw [if_neg c3] at H
  have c3b0 : ((l0.length : Int) == (l1.length : Int)) = false := beq_eq_false_iff_ne.mpr c3
  have c3b1 : ((l0.length : Int) != (l1.length : Int)) = true := bne_iff_ne.mpr c3
  have c3b2 : (l0.length == l1.length) = false := by first | simpa using c3 | (simp at c3 ⊢; omega)
  obtain rfl := Option.some.inj H
  go_enter Try.func59, Try.ntmps59
  go_wp2
  repeat (go_quiet (fail); try go_wp2)
  go_ret
  exact ⟨by first | rfl | (simp; done) | (simp [*]; done), by repeat (first | exact Drawn0.refl _ | apply Drawn0.step)⟩

/-! ### laws_eqLin: function 42 -/
def laws_eqLin.f (k : Nat) (a0_0 : Int) (l0_1 : List Int) (a1_0 : Int) (l1_1 : List Int) : Option (Bool) := if a0_0 = a1_0 then ((laws_eqIntS.f k l0_1 l1_1).bind fun t194 => (if t194 = true then (some true) else (some false))) else (some false)
theorem laws_eqLin.mono : ∀ a0 a1 a2 a3 k, LeO (laws_eqLin.f k a0 a1 a2 a3) (laws_eqLin.f (k + 1) a0 a1 a2 a3) := by
 intro a0 a1 a2 a3 k
 unfold laws_eqLin.f
 repeat' first
   | (with_reducible exact laws_eqIntS.mono _ _ _)
   | (with_reducible exact LeO.refl _)
   | (with_reducible exact LeO.none _)
   | (with_reducible refine LeO.ite ?_ ?_)
   | (with_reducible refine LeO.bind ?_ (fun _ => ?_))
   | exact laws_eqIntS.mono _ _ _
   | exact LeO.none _
   | refine LeO.ite ?_ ?_
   | refine LeO.bind ?_ (fun _ => ?_)
set_option maxHeartbeats 8000000 in
set_option maxRecDepth 100000 in
theorem laws_eqLin.calls (k : Nat) (a0_0 : Int) (A0_1 : Option Addr) (c0_1 : Nat) (l0_1 : List Int) (a1_0 : Int) (A1_1 : Option Addr) (c1_1 : Nat) (l1_1 : List Int) (r : Bool) (w : World) (hr0_1 : Kd.C (Kd.int .i64) w A0_1 l0_1.length l0_1) (hc0_1 : l0_1.length ≤ c0_1) (hr1_1 : Kd.C (Kd.int .i64) w A1_1 l1_1.length l1_1) (hc1_1 : l1_1.length ≤ c1_1) (h : laws_eqLin.f k a0_0 l0_1 a1_0 l1_1 = some r) :
  Calls Try.prog 42 #[.agg #[.int .i64 a0_0, .slice A0_1 l0_1.length c0_1], .agg #[.int .i64 a1_0, .slice A1_1 l1_1.length c1_1]] w fun e w' => e = .returned (.bool r) ∧ Below w.heap.size w w' := by
 have hu51 := Try.underlying51
 have HR0_1 := Aside0.mk hr0_1
 have HC0_1 := Aside0.mk hc0_1
 clear hr0_1 hc0_1
 have HR1_1 := Aside0.mk hr1_1
 have HC1_1 := Aside0.mk hc1_1
 clear hr1_1 hc1_1
 have HB := Aside0.mk (Below.refl w.heap.size w)
 have H : (if a0_0 = a1_0 then ((laws_eqIntS.f k l0_1 l1_1).bind fun t194 => (if t194 = true then (some true) else (some false))) else (some false)) = some r := h
 clear h
 by_cases c3 : a0_0 = a1_0
 ·rw [if_pos c3] at H
  have c3b0 : (a0_0 == a1_0) = true := beq_iff_eq.mpr c3
  have c3b1 : (a0_0 != a1_0) = false := bne_eq_false_iff_eq.mpr c3
  clear c3
  replace H := Option.bind_eq_some_iff.mp H
  obtain ⟨t194, A40, H⟩ := H
  replace H : (if t194 = true then (some true) else (some false)) = some r := H
  have A4 := Aside0.mk A40
  clear A40
  by_cases c5 : t194 = true
  ·subst c5
   have H1 : (some true) = some r := by rw [if_pos rfl] at H; exact H
   clear H
   have H := H1
   clear H1
   obtain rfl := Option.some.inj H
   go_enter Try.func42, Try.ntmps42
   go_wp2_with (first | ((with_reducible refine gate_dst (N := 2) rfl ?_); refine box_event ?hg (N := 2) ?hd (cs := #[.int .i64 a0_0, .slice A0_1 l0_1.length c0_1]) (t := 51) ?hr ?_; (case hd => rfl); (case hg => rfl); (case hr => first | (go_simp; done) | (go_simp; rfl)); intro gb192 hg w6 hbox hb; have BK192 := Aside0.mk (hbox); have GW192 := gw hg HB; have GE192 := gw hg HB; replace HB := bs HB hb; clear hb hbox hg) | ((with_reducible refine gate_dst (N := 3) rfl ?_); refine box_event ?hg (N := 3) ?hd (cs := #[.int .i64 a1_0, .slice A1_1 l1_1.length c1_1]) (t := 51) ?hr ?_; (case hd => rfl); (case hg => rfl); (case hr => first | (go_simp; done) | (go_simp; rfl)); intro gb193 hg w7 hbox hb; have BK193 := Aside0.mk (hbox); have GW193 := gw hg HB; have GE193 := gw hg HB; replace HB := bs HB hb; have NB192_193 := nl hg BK192; have NB193_192 := ng hg BK192; replace BK192 := bb BK192 hb; clear hb hbox hg; have hnb8 := NB192_193.out; have hnc8 := NB193_192.out; obtain ⟨hcz9_0, hcz9_1⟩ := c2 BK192; have hfz9_0 := blk_frozen BK192.out 0; have hfz9_1 := blk_frozen BK192.out 1; obtain ⟨hcz10_0, hcz10_1⟩ := c2 BK193; have hfz10_0 := blk_frozen BK193.out 0; have hfz10_1 := blk_frozen BK193.out 1) | ((with_reducible refine gate_callee (f := 59) rfl ?_); refine goesL_ (some 14) rfl rfl Try.func59 (by kernel_rfl) rfl #[.slice A0_1 l0_1.length c0_1, .slice A1_1 l1_1.length c1_1] rfl (by (try simp only [List.map_toArray, List.map_cons, List.map_nil]); first | done | rfl | (simp only [List.length_drop, List.length_take]; rfl)) ?_; (with_reducible refine (laws_eqIntS.calls k _ _ l0_1 _ _ l1_1 true _ ?side1 ?side2 ?side3 ?side4 A4.out).mono ?_); (case side1 => exact mc ((Kd.C_below HR0_1.out HB.out))); (case side2 => exact HC0_1.out); (case side3 => exact mc ((Kd.C_below HR1_1.out HB.out))); (case side4 => exact HC1_1.out); rintro e w' ⟨rfl, ⟨nd, rfl⟩⟩; refine ⟨_, rfl, ?_⟩))
   go_ret
   exact ⟨by first | rfl | (simp [errW_none, errW_some] <;> rfl) | (simp [*, errW_none, errW_some] <;> rfl), ms HB⟩
  ·replace c5 := Bool.eq_false_iff.mpr c5
   subst c5
   have H1 : (some false) = some r := by rw [if_neg (show ¬ (false = true) by decide)] at H; exact H
   clear H
   have H := H1
   clear H1
   obtain rfl := Option.some.inj H
   go_enter Try.func42, Try.ntmps42
   go_wp2_with (first | ((with_reducible refine gate_dst (N := 2) rfl ?_); refine box_event ?hg (N := 2) ?hd (cs := #[.int .i64 a0_0, .slice A0_1 l0_1.length c0_1]) (t := 51) ?hr ?_; (case hd => rfl); (case hg => rfl); (case hr => first | (go_simp; done) | (go_simp; rfl)); intro gb192 hg w11 hbox hb; have BK192 := Aside0.mk (hbox); have GW192 := gw hg HB; have GE192 := gw hg HB; replace HB := bs HB hb; clear hb hbox hg) | ((with_reducible refine gate_dst (N := 3) rfl ?_); refine box_event ?hg (N := 3) ?hd (cs := #[.int .i64 a1_0, .slice A1_1 l1_1.length c1_1]) (t := 51) ?hr ?_; (case hd => rfl); (case hg => rfl); (case hr => first | (go_simp; done) | (go_simp; rfl)); intro gb193 hg w12 hbox hb; have BK193 := Aside0.mk (hbox); have GW193 := gw hg HB; have GE193 := gw hg HB; replace HB := bs HB hb; have NB192_193 := nl hg BK192; have NB193_192 := ng hg BK192; replace BK192 := bb BK192 hb; clear hb hbox hg; have hnb13 := NB192_193.out; have hnc13 := NB193_192.out; obtain ⟨hcz14_0, hcz14_1⟩ := c2 BK192; have hfz14_0 := blk_frozen BK192.out 0; have hfz14_1 := blk_frozen BK192.out 1; obtain ⟨hcz15_0, hcz15_1⟩ := c2 BK193; have hfz15_0 := blk_frozen BK193.out 0; have hfz15_1 := blk_frozen BK193.out 1) | ((with_reducible refine gate_callee (f := 59) rfl ?_); refine goesL_ (some 14) rfl rfl Try.func59 (by kernel_rfl) rfl #[.slice A0_1 l0_1.length c0_1, .slice A1_1 l1_1.length c1_1] rfl (by (try simp only [List.map_toArray, List.map_cons, List.map_nil]); first | done | rfl | (simp only [List.length_drop, List.length_take]; rfl)) ?_; (with_reducible refine (laws_eqIntS.calls k _ _ l0_1 _ _ l1_1 false _ ?side1 ?side2 ?side3 ?side4 A4.out).mono ?_); (case side1 => exact mc ((Kd.C_below HR0_1.out HB.out))); (case side2 => exact HC0_1.out); (case side3 => exact mc ((Kd.C_below HR1_1.out HB.out))); (case side4 => exact HC1_1.out); rintro e w' ⟨rfl, ⟨nd, rfl⟩⟩; refine ⟨_, rfl, ?_⟩))
   go_ret
   exact ⟨by first | rfl | (simp [errW_none, errW_some] <;> rfl) | (simp [*, errW_none, errW_some] <;> rfl), ms HB⟩
 ·rw [if_neg c3] at H
  have c3b0 : (a0_0 == a1_0) = false := beq_eq_false_iff_ne.mpr c3
  have c3b1 : (a0_0 != a1_0) = true := bne_iff_ne.mpr c3
  obtain rfl := Option.some.inj H
  go_enter Try.func42, Try.ntmps42
  go_wp2_with (first | ((with_reducible refine gate_dst (N := 2) rfl ?_); refine box_event ?hg (N := 2) ?hd (cs := #[.int .i64 a0_0, .slice A0_1 l0_1.length c0_1]) (t := 51) ?hr ?_; (case hd => rfl); (case hg => rfl); (case hr => first | (go_simp; done) | (go_simp; rfl)); intro gb192 hg w16 hbox hb; have BK192 := Aside0.mk (hbox); have GW192 := gw hg HB; have GE192 := gw hg HB; replace HB := bs HB hb; clear hb hbox hg) | ((with_reducible refine gate_dst (N := 3) rfl ?_); refine box_event ?hg (N := 3) ?hd (cs := #[.int .i64 a1_0, .slice A1_1 l1_1.length c1_1]) (t := 51) ?hr ?_; (case hd => rfl); (case hg => rfl); (case hr => first | (go_simp; done) | (go_simp; rfl)); intro gb193 hg w17 hbox hb; have BK193 := Aside0.mk (hbox); have GW193 := gw hg HB; have GE193 := gw hg HB; replace HB := bs HB hb; have NB192_193 := nl hg BK192; have NB193_192 := ng hg BK192; replace BK192 := bb BK192 hb; clear hb hbox hg; have hnb18 := NB192_193.out; have hnc18 := NB193_192.out; obtain ⟨hcz19_0, hcz19_1⟩ := c2 BK192; have hfz19_0 := blk_frozen BK192.out 0; have hfz19_1 := blk_frozen BK192.out 1; obtain ⟨hcz20_0, hcz20_1⟩ := c2 BK193; have hfz20_0 := blk_frozen BK193.out 0; have hfz20_1 := blk_frozen BK193.out 1))
  go_ret
  exact ⟨by first | rfl | (simp [errW_none, errW_some] <;> rfl) | (simp [*, errW_none, errW_some] <;> rfl), ms HB⟩

/-! ### laws_markIntS: function 91 -/
def laws_markIntS.l0 : Nat → List Int → Int → Int → Option (Int × List Int)
 | 0, _, _, _ => none
 | k + 1, x0, x1, x5 => if x5 < (x0.length : Int) then (if 0 ≤ x5 then (laws_markIntS.l0 k (x0.set (x5 : Int).toNat x1) (wrap64 (x1 + 1)) (wrap64 (x5 + 1))) else (none)) else (some (x1, x0))
def laws_markIntS.f (k : Nat) (l0 : List Int) (a1 : Int) : Option (Int × List Int) := laws_markIntS.l0 k l0 a1 0
theorem laws_markIntS.mono_l : ∀ k, (∀ y0 y1 y2, LeO (laws_markIntS.l0 k y0 y1 y2) (laws_markIntS.l0 (k + 1) y0 y1 y2))
 | 0 => fun _ _ _ r h => by simp [laws_markIntS.l0] at h
 | k + 1 => by
  have ih0 := laws_markIntS.mono_l k
  ·intro y0 y1 y2
   unfold laws_markIntS.l0
   repeat' first
   | (with_reducible exact ih0 _ _ _)
   | (with_reducible exact LeO.refl _)
   | (with_reducible exact LeO.none _)
   | (with_reducible refine LeO.ite ?_ ?_)
   | (with_reducible refine LeO.bind ?_ (fun _ => ?_))
   | exact ih0 _ _ _
   | exact LeO.none _
   | refine LeO.ite ?_ ?_
   | refine LeO.bind ?_ (fun _ => ?_)
theorem laws_markIntS.mono : ∀ a0 a1 k, LeO (laws_markIntS.f k a0 a1) (laws_markIntS.f (k + 1) a0 a1) := by
 intro a0 a1 k
 have ih0 := laws_markIntS.mono_l k
 unfold laws_markIntS.f
 repeat' first
   | (with_reducible exact ih0 _ _ _)
   | (with_reducible exact LeO.refl _)
   | (with_reducible exact LeO.none _)
   | (with_reducible refine LeO.ite ?_ ?_)
   | (with_reducible refine LeO.bind ?_ (fun _ => ?_))
   | exact ih0 _ _ _
   | exact LeO.none _
   | refine LeO.ite ?_ ?_
   | refine LeO.bind ?_ (fun _ => ?_)
set_option maxHeartbeats 8000000 in
set_option maxRecDepth 100000 in
theorem laws_markIntS.calls (k : Nat) (P0_ : Nat → Prop) (u9000_ : Value) (l0 : List Int) (a1 : Int) (r1 : Int) (r2 : List Int) (w0 w : World) (hB : Below w0.heap.size w0 w) (ho0 : Kd.R (Kd.int .i64) 3 w w0.heap.size P0_ u9000_ l0) (h : laws_markIntS.f k l0 a1 = some (r1, r2)) :
  Calls Try.prog 91 #[u9000_, .int .i64 a1] w fun e w' => e = .returned (.int .i64 r1) ∧ Kd.R (Kd.int .i64) 3 w' w0.heap.size (fun k_ => (P0_ k_ ∨ w.heap.size ≤ k_)) u9000_ r2 ∧ Below w0.heap.size w0 w' ∧ Kept w w' (fun k_ => P0_ k_) := by
 have HO0 := Aside0.mk (show Kd.R (Kd.int .i64) 3 w w0.heap.size (fun k_ => (P0_ k_ ∨ w.heap.size ≤ k_)) u9000_ l0 from Kd.R_mono ho0 (fun k_ hk => (.inl hk)))
 have HK := Aside0.mk (Kept.refl w (fun k_ => P0_ k_))
 have HW0 := Aside0.mk hB.size
 have HB := Aside0.mk hB
 clear hB
 have H : (laws_markIntS.l0 k l0 a1 0) = some (r1, r2) := h
 clear h
 have H' := Aside0.mk H
 clear H
 go_enter Try.func91, Try.ntmps91
 go_wp2
 go_loopg [1, 5] k (fun kq v1 v5 w' => ∃ (x0_1 : List Int) (x1_1 : Int) (x5_1 : Int), v1 = .int .i64 x1_1 ∧ v5 = .int .i64 x5_1 ∧ Aside0 (laws_markIntS.l0 kq x0_1 x1_1 x5_1 = some (r1, r2)) ∧ Aside0 (kq ≤ k) ∧ Aside0 (Kd.R (Kd.int .i64) 3 w' w0.heap.size (fun k_ => (P0_ k_ ∨ w.heap.size ≤ k_)) u9000_ x0_1) ∧ Aside0 (Kept w w' (fun k_ => P0_ k_)) ∧ Aside0 (Below w0.heap.size w0 w'))
 case atStart => exact ⟨(l0), (a1), (0), (by first | rfl | (simp; done) | (simp [*]; done)), (by first | rfl | (simp; done) | (simp [*]; done)), H', ⟨Nat.le_refl _⟩, ⟨by (with_reducible repeat (first | apply Kd.R_alloc | apply Kd.R_drewN | apply Kd.R_drew)); exact HO0.out⟩, ⟨by repeat (first | (with_reducible first | exact HK.out | apply Kept.alloc | apply Kept.drewN | apply Kept.drew) | exact HK.out)⟩, ⟨ms HB⟩⟩
 case round =>
  clear H'
  try clear p2
  obtain ⟨x0_1, x1_1, x5_1, rfl, rfl, HA, HK1, HO_0, HK, HB⟩ := hrel
  cases gk with
  | zero => exact absurd HA.out (by simp [laws_markIntS.l0])
  | succ k1 =>
   have H := HA.out
   clear HA
   simp only [laws_markIntS.l0] at H
   by_cases c3 : x5_1 < (x0_1.length : Int)
   ·rw [if_pos c3] at H
    have c3b0 : decide (x5_1 < (x0_1.length : Int)) = true := decide_eq_true c3
    clear c3
    by_cases c4 : 0 ≤ x5_1
    ·rw [if_pos c4] at H
     have c4b0 : decide (0 ≤ x5_1) = true := decide_eq_true c4
     clear c4
     obtain ⟨y195, hy195⟩ : ∃ y_ : List Int, y_ = (x0_1.set (x5_1 : Int).toNat x1_1) := ⟨_, rfl⟩
     replace H : (laws_markIntS.l0 k1 y195 (wrap64 (x1_1 + 1)) (wrap64 (x5_1 + 1))) = some (r1, r2) := by first | (rw [hy195]; with_reducible exact H) | (have H2_ := (Option.bind_some _ _).symm.trans H; rw [hy195]; with_reducible exact H2_) | (have H2_ := (Option.bind_some _ _).symm.trans H; with_reducible exact H2_) | with_reducible exact H | (rw [hy195]; exact H) | exact H
     have Ny195 := Aside0.mk hy195
     clear hy195
     have H' := Aside0.mk H
     clear H
     obtain ⟨Ao6, co6, eo6⟩ := Kd.R_slice HO_0.out
     subst eo6
     have p5 : 0 ≤ (x5_1 : Int) := of_decide_eq_true (by first | (with_reducible assumption) | assumption)
     have q5 : (x5_1 : Int) < ((x0_1.length : Int) : Int) := of_decide_eq_true (by first | (with_reducible assumption) | assumption)
     obtain ⟨go5, co5, eo5, gb5, gl5, cl5, HG5⟩ := Kd.R_form HO_0.out (by omega)
     (first | cases eo5 | (injection eo5 with ea_ en_ ec_; (first | subst ea_ | (injection ea_ with ea_; subst ea_)); subst ec_; clear en_))
     have GB5 := Aside0.mk gb5
     have GG5 := Aside0.mk HG5
     clear gb5 gl5 HG5
     have HMgo5 := Aside0.mk (show (P0_ go5 ∨ w.heap.size ≤ go5) from (HO_0.out.1 _ rfl))
     obtain ⟨hx5_0, hf5_0⟩ := Kd.R_celln 0 HO_0.out (x5_1 : Int) p5 q5
     replace p5 := eq_true p5
     replace q5 := eq_true q5
     have HP7 := Kd.R_putg HO_0.out (x5_1 : Int) x1_1
     go_wp2_with (first | ((with_reducible refine gate_store (t := 3) (p := 15) rfl ?_); refine store_event (t := 3) (p := 15) (v := ?vo_w8) (w1 := (wr.setCell ⟨go5, (x5_1 : Int).toNat, none⟩ (.int .i64 x1_1))) ?hg ?ho ?hn ?hr ?_; (case ho => rfl); (case hg => rfl); (case hn => rfl); (case hr => first | (go_simp; done) | (go_simp; rfl)); intro w8 hw; have hg : wr.grownBy w8 (some go5) := (by rw [hw]; exact HP7.2); have hp_ : Kd.R (Kd.int .i64) 3 w8 w0.heap.size (fun k_ => (P0_ k_ ∨ w.heap.size ≤ k_)) (.slice (some ⟨go5, 0, none⟩) x0_1.length co6) y195 := (by rw [hw, Ny195.out]; exact HP7.1); clear HP7; have n0_ := Aside0.mk (hp_); have n1_ := Aside0.mk ((by rw [hw]; exact below_set (HB.out) GB5.out : Below w0.heap.size w0 w8)); have n2_ := Aside0.mk (Kept.of_grown (S := (fun k_ => P0_ k_)) hg (by repeat (first | (with_reducible first | exact HK.out | apply Kept.alloc | apply Kept.drewN | apply Kept.drew) | exact HK.out)) (fun k_ e_ => (HO_0.out.1 k_ e_))); clear HO_0 HB HK; have HO_0 := n0_; have HB := n1_; have HK := n2_; clear n0_ n1_ n2_; clear hg hw hp_))
     go_roundg k1
     case measure => have := HK1.out; omega
     case rel => exact ⟨(y195), (wrap64 (x1_1 + 1)), (wrap64 (x5_1 + 1)), (by first | rfl | (simp; done) | (simp [*]; done)), (by first | rfl | (simp; done) | (simp [*]; done)), H', ⟨by have := HK1.out; omega⟩, ⟨by (with_reducible repeat (first | apply Kd.R_alloc | apply Kd.R_drewN | apply Kd.R_drew)); exact HO_0.out⟩, ⟨by repeat (first | (with_reducible first | exact HK.out | apply Kept.alloc | apply Kept.drewN | apply Kept.drew) | exact HK.out)⟩, ⟨ms HB⟩⟩
    ·rw [if_neg c4] at H
     exact absurd H (by simp)
   ·rw [if_neg c3] at H
    have c3b0 : decide (x5_1 < (x0_1.length : Int)) = false := decide_eq_false c3
    clear c3
    simp only [Option.some.injEq, Prod.mk.injEq] at H
    obtain ⟨rfl, rfl⟩ := H
    obtain ⟨Ao9, co9, eo9⟩ := Kd.R_slice HO_0.out
    subst eo9
    go_wp2
    go_ret
    exact ⟨by first | rfl | (simp [errW_none, errW_some] <;> rfl) | (simp [*, errW_none, errW_some] <;> rfl), by (with_reducible repeat (first | apply Kd.R_alloc | apply Kd.R_drewN | apply Kd.R_drew)); exact HO_0.out, by repeat (first | (with_reducible first | exact HB.out | apply below_alloc | apply pw_below_drewN | apply below_drew1) | exact HB.out), by repeat (first | (with_reducible first | exact HK.out | apply Kept.alloc | apply Kept.drewN | apply Kept.drew) | exact HK.out)⟩

/-! ### laws_markLin: function 43 -/
def laws_markLin.f (k : Nat) (a0_0 : Int) (l0_1 : List Int) (a1 : Int) : Option (Int × List Int) := (laws_markIntS.f k l0_1 a1).bind fun bt197 => (some (bt197.1, bt197.2))
theorem laws_markLin.mono : ∀ a0 a1 a2 k, LeO (laws_markLin.f k a0 a1 a2) (laws_markLin.f (k + 1) a0 a1 a2) := by
 intro a0 a1 a2 k
 unfold laws_markLin.f
 repeat' first
   | (with_reducible exact laws_markIntS.mono _ _ _)
   | (with_reducible exact LeO.refl _)
   | (with_reducible exact LeO.none _)
   | (with_reducible refine LeO.ite ?_ ?_)
   | (with_reducible refine LeO.bind ?_ (fun _ => ?_))
   | exact laws_markIntS.mono _ _ _
   | exact LeO.none _
   | refine LeO.ite ?_ ?_
   | refine LeO.bind ?_ (fun _ => ?_)
set_option maxHeartbeats 8000000 in
set_option maxRecDepth 100000 in
theorem laws_markLin.calls (k : Nat) (a0_0 : Int) (P0_1_ : Nat → Prop) (u9000_ : Value) (l0_1 : List Int) (a1 : Int) (r1 : Int) (r2 : List Int) (w0 w : World) (hB : Below w0.heap.size w0 w) (ho0_1 : Kd.R (Kd.int .i64) 3 w w0.heap.size P0_1_ u9000_ l0_1) (h : laws_markLin.f k a0_0 l0_1 a1 = some (r1, r2)) :
  Calls Try.prog 43 #[.agg #[.int .i64 a0_0, u9000_], .int .i64 a1] w fun e w' => e = .returned (.int .i64 r1) ∧ Kd.R (Kd.int .i64) 3 w' w0.heap.size (fun k_ => (P0_1_ k_ ∨ w.heap.size ≤ k_)) u9000_ r2 ∧ Below w0.heap.size w0 w' ∧ Kept w w' (fun k_ => P0_1_ k_) := by
 have hu51 := Try.underlying51
 have HO0_1 := Aside0.mk (show Kd.R (Kd.int .i64) 3 w w0.heap.size (fun k_ => (P0_1_ k_ ∨ w.heap.size ≤ k_)) u9000_ l0_1 from Kd.R_mono ho0_1 (fun k_ hk => (.inl hk)))
 have HK := Aside0.mk (Kept.refl w (fun k_ => P0_1_ k_))
 have HW0 := Aside0.mk hB.size
 have HB := Aside0.mk hB
 clear hB
 have H : ((laws_markIntS.f k l0_1 a1).bind fun bt197 => (some (bt197.1, bt197.2))) = some (r1, r2) := h
 clear h
 replace H := Option.bind_eq_some_iff.mp H
 obtain ⟨⟨t197, t198⟩, A30, H⟩ := H
 replace H : (some (t197, t198)) = some (r1, r2) := H
 have A3 := Aside0.mk A30
 clear A30
 simp only [Option.some.injEq, Prod.mk.injEq] at H
 obtain ⟨rfl, rfl⟩ := H
 obtain ⟨Ao4, co4, eo4⟩ := Kd.R_slice HO0_1.out
 subst eo4
 go_enter Try.func43, Try.ntmps43
 go_wp2_with (first | ((with_reducible refine gate_dst (N := 2) rfl ?_); refine box_event ?hg (N := 2) ?hd (cs := #[.int .i64 a0_0, .slice Ao4 l0_1.length co4]) (t := 51) ?hr ?_; (case hd => rfl); (case hg => rfl); (case hr => first | (go_simp; done) | (go_simp; rfl)); intro gb196 hg w5 hbox hb; have n0_ := rb HO0_1 hb; have n1_ := Aside0.mk (Kept.below (S := (fun k_ => P0_1_ k_)) (by repeat (first | (with_reducible first | exact HK.out | apply Kept.alloc | apply Kept.drewN | apply Kept.drew) | exact HK.out)) hb); have n2_ := bs HB hb; have n3_ := Aside0.mk (hbox); have n4_ := Aside0.mk ((by rw [hg]; exact (by first | exact HK.out.1 | exact (show Kept w _ (fun k_ => P0_1_ k_) from by repeat (first | (with_reducible first | exact HK.out | apply Kept.alloc | apply Kept.drewN | apply Kept.drew) | exact HK.out)).1) : w.heap.size ≤ gb196)); have n5_ := Aside0.mk ((by rw [hg]; exact (below_size (ms HB)) : w0.heap.size ≤ gb196)); clear HO0_1 HK HB; have HO0_1 := n0_; have HK := n1_; have HB := n2_; have BK196 := n3_; have GW196 := n4_; have GE196 := n5_; clear n0_ n1_ n2_ n3_ n4_ n5_; clear hb hbox hg; obtain ⟨hcz6_0, hcz6_1⟩ := c2 BK196; have hfz6_0 := blk_frozen BK196.out 0; have hfz6_1 := blk_frozen BK196.out 1) | ((with_reducible refine gate_callee (f := 91) rfl ?_); refine goesL_ (some 8) rfl rfl Try.func91 (by kernel_rfl) rfl #[.slice Ao4 l0_1.length co4, .int .i64 a1] rfl (by (try simp only [List.map_toArray, List.map_cons, List.map_nil]); first | done | rfl | (simp only [List.length_drop, List.length_take]; rfl)) ?_; (with_reducible refine (laws_markIntS.calls k (fun k_ => some k_ = (.slice Ao4 l0_1.length co4 : Value).ownBlock) (.slice Ao4 l0_1.length co4) l0_1 a1 t197 t198 w0 _ ?side1 ?side2 A3.out).mono ?_); (case side1 => repeat (first | (with_reducible first | exact HB.out | apply below_alloc | apply pw_below_drewN | apply below_drew1 | refine below_set ?_ GE196.out) | exact HB.out)); (case side2 => exact Kd.R_tight rfl HO0_1.out); rintro e w7 ⟨rfl, hy0, hb, hkp⟩; refine ⟨_, rfl, ?_⟩; replace BK196 := Aside0.mk (blk_kept (mb BK196) hkp (fun hs_ => (fun e_ => (Kd.R_ne HO0_1.out BK196.out (by decide)) e_) hs_)); replace HK := Aside0.mk (Kept.then_ (S := (fun k_ => P0_1_ k_)) (by repeat (first | (with_reducible first | exact HK.out | apply Kept.alloc | apply Kept.drewN | apply Kept.drew | refine Kept.setCell ?_ (.inr GW196.out) _) | exact HK.out)) hkp (fun k_ hs_ => (fun e_ => (HO0_1.out.1 k_ e_.symm)) hs_)); replace HO0_1 := Aside0.mk (Kd.R_reok rfl hy0 (fun k_ e_ => HO0_1.out.1 k_ e_)); replace HB := Aside0.mk (hb); (try clear hb); (try clear hkp); (try clear hy0)))
 go_ret
 exact ⟨by first | rfl | (simp [errW_none, errW_some] <;> rfl) | (simp [*, errW_none, errW_some] <;> rfl), by (with_reducible repeat (first | apply Kd.R_alloc | apply Kd.R_drewN | apply Kd.R_drew)); exact HO0_1.out, by repeat (first | (with_reducible first | exact HB.out | apply below_alloc | apply pw_below_drewN | apply below_drew1 | refine below_set ?_ GE196.out) | exact HB.out), by repeat (first | (with_reducible first | exact HK.out | apply Kept.alloc | apply Kept.drewN | apply Kept.drew | refine Kept.setCell ?_ (.inr GW196.out) _) | exact HK.out)⟩

end Go.Proofs.Ytkfllkmhbkmepaa.QFnExactAddScaled
