-- Made by a program of this claim's own (wip/print): not the kit's print as it stands.
import Derived.Test.YtlencemmlgkflaaUFnExactCombineRowsTri
import Derived.Test.YtlencemmlgkflaaQFnExactCombineRowsx0
import Derived.Test.YtlencemmlgkflaaQFnExactCombineRowsx2
import Derived.Test.YtlencemmlgkflaaQFnExactCombineRowsx3
namespace Go.Proofs.Ytlencemmlgkflaa.QFnExactCombineRows
open Go.RowKit Go.Proofs.YtlencemmlgkflaaV.PrintWords Go.Proofs.YtlencemmlgkflaaV.PrintLast Go.Proofs.YtlencemmlgkflaaV.PrintMore
attribute [local go_sem] max2_int min2_int max_two min_two max_three min_three max_four min_four   -- for this text's walks alone
set_option linter.unusedVariables false
set_option linter.unusedSimpArgs false

/-! ### spec_AddScaled: function 81 -/
mutual
def spec_AddScaled.j0 : Nat → Int → Int → Bool → Int → List Int → Int → List Int → Option (Int × List Int × Bool)
 | 0, _, _, _, _, _, _, _ => none
 | k + 1, x1, x8, x33, x169000, x169001, x170000, x170001 => if x33 = true then (some (0, ([] : List Int), false)) else (if 0 ≤ x8 then (if (x8 : Int).toNat ≤ 35184372088832 then (spec_AddScaled.l0 k x1 x8 true 0 x169000 x169001 x170000 x170001 0 (List.replicate (x8 : Int).toNat 0)) else (none)) else (none))
def spec_AddScaled.l0 : Nat → Int → Int → Bool → Int → Int → List Int → Int → List Int → Int → List Int → Option (Int × List Int × Bool)
 | 0, _, _, _, _, _, _, _, _, _, _ => none
 | k + 1, x1, x8, x10, x11, x169000, x169001, x170000, x170001, x178000, x178001 => if x11 < x8 then (if 0 ≤ x11 then (if x11 < (x169001.length : Int) then (if x11 < (x170001.length : Int) then ((spec_l4Sum.f (rd x169001 x11) x1 (rd x170001 x11)).bind fun bt180 => (if x11 < (x178001.length : Int) then ((some (x178001.set (x11 : Int).toNat bt180.1 : List Int)).bind fun y182 => (if x10 = true then (spec_AddScaled.l0 k x1 x8 bt180.2 (wrap64 (x11 + 1)) x169000 x169001 x170000 x170001 x178000 y182) else (spec_AddScaled.l0 k x1 x8 false (wrap64 (x11 + 1)) x169000 x169001 x170000 x170001 x178000 y182))) else (none))) else (none)) else (none)) else (none)) else ((spec_l4Sum.f x169000 x1 x170000).bind fun bt183 => (if x10 = true then (if bt183.2 = true then (some (bt183.1, x178001, true)) else (some (0, ([] : List Int), false))) else (some (0, ([] : List Int), false))))
end
def spec_AddScaled.f (k : Nat) (a0_0 : Int) (l0_1 : List Int) (a1 : Int) (a2_0 : Int) (l2_1 : List Int) : Option (Int × List Int × Bool) := (spec_IsValidLin.f k a0_0 l0_1 (l0_1.length : Int)).bind fun t171 => (if t171 = true then ((spec_IsValidLin.f k a2_0 l2_1 (l0_1.length : Int)).bind fun t172 => (if t172 = true then ((spec_l3In.f a1).bind fun t173 => (spec_AddScaled.j0 k a1 (l0_1.length : Int) (!t173) a0_0 l0_1 a2_0 l2_1)) else (spec_AddScaled.j0 k a1 (l0_1.length : Int) true a0_0 l0_1 a2_0 l2_1))) else (spec_AddScaled.j0 k a1 (l0_1.length : Int) true a0_0 l0_1 a2_0 l2_1))
theorem spec_AddScaled.mono_l : ∀ k, (∀ y0 y1 y2 y3 y4 y5 y6, LeO (spec_AddScaled.j0 k y0 y1 y2 y3 y4 y5 y6) (spec_AddScaled.j0 (k + 1) y0 y1 y2 y3 y4 y5 y6)) ∧ (∀ y0 y1 y2 y3 y4 y5 y6 y7 y8 y9, LeO (spec_AddScaled.l0 k y0 y1 y2 y3 y4 y5 y6 y7 y8 y9) (spec_AddScaled.l0 (k + 1) y0 y1 y2 y3 y4 y5 y6 y7 y8 y9))
 | 0 => ⟨fun _ _ _ _ _ _ _ r h => by simp [spec_AddScaled.j0] at h, fun _ _ _ _ _ _ _ _ _ _ r h => by simp [spec_AddScaled.l0] at h⟩
 | k + 1 => by
  obtain ⟨ih0, ih1⟩ := spec_AddScaled.mono_l k
  refine ⟨?_, ?_⟩
  ·intro y0 y1 y2 y3 y4 y5 y6
   unfold spec_AddScaled.j0
   repeat' first
   | (with_reducible exact ih0 _ _ _ _ _ _ _)
   | (with_reducible exact ih1 _ _ _ _ _ _ _ _ _ _)
   | (with_reducible exact spec_IsValidLin.mono _ _ _ _)
   | (with_reducible exact LeO.refl _)
   | (with_reducible exact LeO.none _)
   | (with_reducible refine LeO.ite ?_ ?_)
   | (with_reducible refine LeO.bind ?_ (fun _ => ?_))
   | exact ih0 _ _ _ _ _ _ _
   | exact ih1 _ _ _ _ _ _ _ _ _ _
   | exact spec_IsValidLin.mono _ _ _ _
   | exact LeO.none _
   | refine LeO.ite ?_ ?_
   | refine LeO.bind ?_ (fun _ => ?_)
  ·intro y0 y1 y2 y3 y4 y5 y6 y7 y8 y9
   unfold spec_AddScaled.l0
   repeat' first
   | (with_reducible exact ih0 _ _ _ _ _ _ _)
   | (with_reducible exact ih1 _ _ _ _ _ _ _ _ _ _)
   | (with_reducible exact spec_IsValidLin.mono _ _ _ _)
   | (with_reducible exact LeO.refl _)
   | (with_reducible exact LeO.none _)
   | (with_reducible refine LeO.ite ?_ ?_)
   | (with_reducible refine LeO.bind ?_ (fun _ => ?_))
   | exact ih0 _ _ _ _ _ _ _
   | exact ih1 _ _ _ _ _ _ _ _ _ _
   | exact spec_IsValidLin.mono _ _ _ _
   | exact LeO.none _
   | refine LeO.ite ?_ ?_
   | refine LeO.bind ?_ (fun _ => ?_)
theorem spec_AddScaled.mono : ∀ a0 a1 a2 a3 a4 k, LeO (spec_AddScaled.f k a0 a1 a2 a3 a4) (spec_AddScaled.f (k + 1) a0 a1 a2 a3 a4) := by
 intro a0 a1 a2 a3 a4 k
 obtain ⟨ih0, ih1⟩ := spec_AddScaled.mono_l k
 unfold spec_AddScaled.f
 repeat' first
   | (with_reducible exact ih0 _ _ _ _ _ _ _)
   | (with_reducible exact ih1 _ _ _ _ _ _ _ _ _ _)
   | (with_reducible exact spec_IsValidLin.mono _ _ _ _)
   | (with_reducible exact LeO.refl _)
   | (with_reducible exact LeO.none _)
   | (with_reducible refine LeO.ite ?_ ?_)
   | (with_reducible refine LeO.bind ?_ (fun _ => ?_))
   | exact ih0 _ _ _ _ _ _ _
   | exact ih1 _ _ _ _ _ _ _ _ _ _
   | exact spec_IsValidLin.mono _ _ _ _
   | exact LeO.none _
   | refine LeO.ite ?_ ?_
   | refine LeO.bind ?_ (fun _ => ?_)
set_option maxHeartbeats 8000000 in
set_option maxRecDepth 100000 in
theorem spec_AddScaled.calls (k : Nat) (a0_0 : Int) (A0_1 : Option Addr) (c0_1 : Nat) (l0_1 : List Int) (a1 : Int) (a2_0 : Int) (A2_1 : Option Addr) (c2_1 : Nat) (l2_1 : List Int) (r1 : Int) (r2 : List Int) (r3 : Bool) (w : World) (hr0_1 : Kd.C (Kd.int .i64) w A0_1 l0_1.length l0_1) (hc0_1 : l0_1.length ≤ c0_1) (hr2_1 : Kd.C (Kd.int .i64) w A2_1 l2_1.length l2_1) (hc2_1 : l2_1.length ≤ c2_1) (h : spec_AddScaled.f k a0_0 l0_1 a1 a2_0 l2_1 = some (r1, r2, r3)) :
  Calls Try.prog 81 #[.agg #[.int .i64 a0_0, .slice A0_1 l0_1.length c0_1], .int .i64 a1, .agg #[.int .i64 a2_0, .slice A2_1 l2_1.length c2_1]] w fun e w' => ∃ v1_ : Value, e = .returned (.tuple #[.agg #[.int .i64 r1, v1_], .bool r3]) ∧ Kd.R (Kd.int .i64) 3 w' w.heap.size (fun _ => True) v1_ r2 ∧ Below w.heap.size w w' := by
 have hu29 := Try.underlying29
 have HR0_1 := Aside0.mk hr0_1
 have HC0_1 := Aside0.mk hc0_1
 clear hr0_1 hc0_1
 have HR2_1 := Aside0.mk hr2_1
 have HC2_1 := Aside0.mk hc2_1
 clear hr2_1 hc2_1
 have HB := Aside0.mk (Below.refl w.heap.size w)
 have H : ((spec_IsValidLin.f k a0_0 l0_1 (l0_1.length : Int)).bind fun t171 => (if t171 = true then ((spec_IsValidLin.f k a2_0 l2_1 (l0_1.length : Int)).bind fun t172 => (if t172 = true then ((spec_l3In.f a1).bind fun t173 => (spec_AddScaled.j0 k a1 (l0_1.length : Int) (!t173) a0_0 l0_1 a2_0 l2_1)) else (spec_AddScaled.j0 k a1 (l0_1.length : Int) true a0_0 l0_1 a2_0 l2_1))) else (spec_AddScaled.j0 k a1 (l0_1.length : Int) true a0_0 l0_1 a2_0 l2_1))) = some (r1, r2, r3) := h
 clear h
 have HC4 := Aside0.mk H
 clear H
 go_enter Try.func81, Try.ntmps81
 go_upto_region 2 with (first | ((with_reducible refine gate_dst (N := 3) rfl ?_); refine box_event ?hg (N := 3) ?hd (cs := #[.int .i64 a0_0, .slice A0_1 l0_1.length c0_1]) (t := 29) ?hr ?_; (case hd => rfl); (case hg => rfl); (case hr => first | (go_simp; done) | (go_simp; rfl)); intro gb168 hg w5 hbox hb; have BK168 := Aside0.mk (hbox); have GW168 := gw hg HB; have GE168 := gw hg HB; replace HB := bs HB hb; clear hb hbox hg) | ((with_reducible refine gate_dst (N := 5) rfl ?_); refine box_event ?hg (N := 5) ?hd (cs := #[.int .i64 a2_0, .slice A2_1 l2_1.length c2_1]) (t := 29) ?hr ?_; (case hd => rfl); (case hg => rfl); (case hr => first | (go_simp; done) | (go_simp; rfl)); intro gb169 hg w6 hbox hb; have BK169 := Aside0.mk (hbox); have GW169 := gw hg HB; have GE169 := gw hg HB; replace HB := bs HB hb; have NB168_169 := nl hg BK168; have NB169_168 := ng hg BK168; replace BK168 := bb BK168 hb; clear hb hbox hg) | ((with_reducible refine gate_dst (N := 6) rfl ?_); refine box_event ?hg (N := 6) ?hd (cs := #[.int .i64 0, .slice none 0 0]) (t := 29) ?hr ?_; (case hd => rfl); (case hg => rfl); (case hr => first | (go_simp; done) | (go_simp; rfl)); intro gb170 hg w7 hbox hb; have BK170 := Aside0.mk (hbox); have GW170 := gw hg HB; have GE170 := gw hg HB; replace HB := bs HB hb; have NB168_170 := nl hg BK168; have NB170_168 := ng hg BK168; replace BK168 := bb BK168 hb; have NB169_170 := nl hg BK169; have NB170_169 := ng hg BK169; replace BK169 := bb BK169 hb; clear hb hbox hg; have hnb8 := NB168_169.out; have hnc8 := NB169_168.out; have hnb9 := NB168_170.out; have hnc9 := NB170_168.out; obtain ⟨hcz10_0, hcz10_1⟩ := c2 BK168; have hfz10_0 := blk_frozen BK168.out 0; have hfz10_1 := blk_frozen BK168.out 1))
 repeat (go_quiet (first | ((with_reducible refine gate_dst (N := 3) rfl ?_); refine box_event ?hg (N := 3) ?hd (cs := #[.int .i64 a0_0, .slice A0_1 l0_1.length c0_1]) (t := 29) ?hr ?_; (case hd => rfl); (case hg => rfl); (case hr => first | (go_simp; done) | (go_simp; rfl)); intro gb168 hg w5 hbox hb; have BK168 := Aside0.mk (hbox); have GW168 := gw hg HB; have GE168 := gw hg HB; replace HB := bs HB hb; clear hb hbox hg) | ((with_reducible refine gate_dst (N := 5) rfl ?_); refine box_event ?hg (N := 5) ?hd (cs := #[.int .i64 a2_0, .slice A2_1 l2_1.length c2_1]) (t := 29) ?hr ?_; (case hd => rfl); (case hg => rfl); (case hr => first | (go_simp; done) | (go_simp; rfl)); intro gb169 hg w6 hbox hb; have BK169 := Aside0.mk (hbox); have GW169 := gw hg HB; have GE169 := gw hg HB; replace HB := bs HB hb; have NB168_169 := nl hg BK168; have NB169_168 := ng hg BK168; replace BK168 := bb BK168 hb; clear hb hbox hg) | ((with_reducible refine gate_dst (N := 6) rfl ?_); refine box_event ?hg (N := 6) ?hd (cs := #[.int .i64 0, .slice none 0 0]) (t := 29) ?hr ?_; (case hd => rfl); (case hg => rfl); (case hr => first | (go_simp; done) | (go_simp; rfl)); intro gb170 hg w7 hbox hb; have BK170 := Aside0.mk (hbox); have GW170 := gw hg HB; have GE170 := gw hg HB; replace HB := bs HB hb; have NB168_170 := nl hg BK168; have NB170_168 := ng hg BK168; replace BK168 := bb BK168 hb; have NB169_170 := nl hg BK169; have NB170_169 := ng hg BK169; replace BK169 := bb BK169 hb; clear hb hbox hg; have hnb8 := NB168_169.out; have hnc8 := NB169_168.out; have hnb9 := NB168_170.out; have hnc9 := NB170_168.out; obtain ⟨hcz10_0, hcz10_1⟩ := c2 BK168; have hfz10_0 := blk_frozen BK168.out 0; have hfz10_1 := blk_frozen BK168.out 1)); go_upto_region 2 with (first | ((with_reducible refine gate_dst (N := 3) rfl ?_); refine box_event ?hg (N := 3) ?hd (cs := #[.int .i64 a0_0, .slice A0_1 l0_1.length c0_1]) (t := 29) ?hr ?_; (case hd => rfl); (case hg => rfl); (case hr => first | (go_simp; done) | (go_simp; rfl)); intro gb168 hg w5 hbox hb; have BK168 := Aside0.mk (hbox); have GW168 := gw hg HB; have GE168 := gw hg HB; replace HB := bs HB hb; clear hb hbox hg) | ((with_reducible refine gate_dst (N := 5) rfl ?_); refine box_event ?hg (N := 5) ?hd (cs := #[.int .i64 a2_0, .slice A2_1 l2_1.length c2_1]) (t := 29) ?hr ?_; (case hd => rfl); (case hg => rfl); (case hr => first | (go_simp; done) | (go_simp; rfl)); intro gb169 hg w6 hbox hb; have BK169 := Aside0.mk (hbox); have GW169 := gw hg HB; have GE169 := gw hg HB; replace HB := bs HB hb; have NB168_169 := nl hg BK168; have NB169_168 := ng hg BK168; replace BK168 := bb BK168 hb; clear hb hbox hg) | ((with_reducible refine gate_dst (N := 6) rfl ?_); refine box_event ?hg (N := 6) ?hd (cs := #[.int .i64 0, .slice none 0 0]) (t := 29) ?hr ?_; (case hd => rfl); (case hg => rfl); (case hr => first | (go_simp; done) | (go_simp; rfl)); intro gb170 hg w7 hbox hb; have BK170 := Aside0.mk (hbox); have GW170 := gw hg HB; have GE170 := gw hg HB; replace HB := bs HB hb; have NB168_170 := nl hg BK168; have NB170_168 := ng hg BK168; replace BK168 := bb BK168 hb; have NB169_170 := nl hg BK169; have NB170_169 := ng hg BK169; replace BK169 := bb BK169 hb; clear hb hbox hg; have hnb8 := NB168_169.out; have hnc8 := NB169_168.out; have hnb9 := NB168_170.out; have hnc9 := NB170_168.out; obtain ⟨hcz10_0, hcz10_1⟩ := c2 BK168; have hfz10_0 := blk_frozen BK168.out 0; have hfz10_1 := blk_frozen BK168.out 1)))
 (try simp only [Act.put, List.setIfInBounds_toArray, List.set_cons_zero, List.set_cons_succ])
 go_cut [33] (fun v33 wc => ∃ (kq : Nat) (x33_3 : Bool), v33 = .bool x33_3 ∧ Aside0 (spec_AddScaled.j0 kq a1 (l0_1.length : Int) x33_3 a0_0 l0_1 a2_0 l2_1 = some (r1, r2, r3)) ∧ Aside0 (kq ≤ k) ∧ Aside0 (wc.heap[gb168]? = some (.cells #[.int .i64 a0_0, (.slice A0_1 l0_1.length c0_1)] 29 (0, 0))) ∧ Aside0 (wc.heap[gb169]? = some (.cells #[.int .i64 a2_0, (.slice A2_1 l2_1.length c2_1)] 29 (0, 0))) ∧ Aside0 (wc.heap[gb170]? = some (.cells #[.int .i64 0, (.slice none 0 0)] 29 (0, 0))) ∧ Aside0 (Below w.heap.size w wc))
 case first =>
  have H := HC4.out
  clear HC4
  replace H := Option.bind_eq_some_iff.mp H
  obtain ⟨t171, A110, H⟩ := H
  replace H : (if t171 = true then ((spec_IsValidLin.f k a2_0 l2_1 (l0_1.length : Int)).bind fun t172 => (if t172 = true then ((spec_l3In.f a1).bind fun t173 => (spec_AddScaled.j0 k a1 (l0_1.length : Int) (!t173) a0_0 l0_1 a2_0 l2_1)) else (spec_AddScaled.j0 k a1 (l0_1.length : Int) true a0_0 l0_1 a2_0 l2_1))) else (spec_AddScaled.j0 k a1 (l0_1.length : Int) true a0_0 l0_1 a2_0 l2_1)) = some (r1, r2, r3) := H
  have A11 := Aside0.mk A110
  clear A110
  by_cases c12 : t171 = true
  ·subst c12
   have H1 : ((spec_IsValidLin.f k a2_0 l2_1 (l0_1.length : Int)).bind fun t172 => (if t172 = true then ((spec_l3In.f a1).bind fun t173 => (spec_AddScaled.j0 k a1 (l0_1.length : Int) (!t173) a0_0 l0_1 a2_0 l2_1)) else (spec_AddScaled.j0 k a1 (l0_1.length : Int) true a0_0 l0_1 a2_0 l2_1))) = some (r1, r2, r3) := by rw [if_pos rfl] at H; exact H
   clear H
   have H := H1
   clear H1
   replace H := Option.bind_eq_some_iff.mp H
   obtain ⟨t172, A130, H⟩ := H
   replace H : (if t172 = true then ((spec_l3In.f a1).bind fun t173 => (spec_AddScaled.j0 k a1 (l0_1.length : Int) (!t173) a0_0 l0_1 a2_0 l2_1)) else (spec_AddScaled.j0 k a1 (l0_1.length : Int) true a0_0 l0_1 a2_0 l2_1)) = some (r1, r2, r3) := H
   have A13 := Aside0.mk A130
   clear A130
   by_cases c14 : t172 = true
   ·subst c14
    have H1 : ((spec_l3In.f a1).bind fun t173 => (spec_AddScaled.j0 k a1 (l0_1.length : Int) (!t173) a0_0 l0_1 a2_0 l2_1)) = some (r1, r2, r3) := by rw [if_pos rfl] at H; exact H
    clear H
    have H := H1
    clear H1
    replace H := Option.bind_eq_some_iff.mp H
    obtain ⟨t173, A150, H⟩ := H
    replace H : (spec_AddScaled.j0 k a1 (l0_1.length : Int) (!t173) a0_0 l0_1 a2_0 l2_1) = some (r1, r2, r3) := H
    have A15 := Aside0.mk A150
    clear A150
    have H' := Aside0.mk H
    clear H
    have hnb16 := NB168_169.out
    have hnc16 := NB169_168.out
    have hnb17 := NB168_170.out
    have hnc17 := NB170_168.out
    obtain ⟨hcz18_0, hcz18_1⟩ := c2 BK168
    have hfz18_0 := blk_frozen BK168.out 0
    have hfz18_1 := blk_frozen BK168.out 1
    go_wp2_with (first | (go_at_call 80; (with_reducible refine (spec_IsValidLin.calls k a0_0 _ _ l0_1 (l0_1.length : Int) true _ ?side1 ?side2 A11.out).mono ?_); (case side1 => exact mc ((Kd.C_below HR0_1.out HB.out))); (case side2 => exact HC0_1.out); rintro e w19 ⟨rfl, hb⟩; replace BK168 := bb BK168 hb; replace BK169 := bb BK169 hb; replace BK170 := bb BK170 hb; replace HB := bs HB hb; (try clear hb); have hnb20 := NB169_170.out; have hnc20 := NB170_169.out; obtain ⟨hcz21_0, hcz21_1⟩ := c2 BK169; have hfz21_0 := blk_frozen BK169.out 0; have hfz21_1 := blk_frozen BK169.out 1) | (go_at_call 80; (with_reducible refine (spec_IsValidLin.calls k a2_0 _ _ l2_1 (l0_1.length : Int) true _ ?side1 ?side2 A13.out).mono ?_); (case side1 => exact mc ((Kd.C_below HR2_1.out HB.out))); (case side2 => exact HC2_1.out); rintro e w22 ⟨rfl, hb⟩; replace BK168 := bb BK168 hb; replace BK169 := bb BK169 hb; replace BK170 := bb BK170 hb; replace HB := bs HB hb; (try clear hb)) | (go_at_call 129; (with_reducible refine (spec_l3In.calls a1 t173 _ A15.out).mono ?_); rintro e w' ⟨rfl, ⟨nd, rfl⟩⟩; (try first | exact ⟨rfl, _, World.drewN_drewN _ _ _⟩ | exact ⟨rfl, _, Eq.trans (World.drewN_drewN _ _ _) (congrArg (World.drewN _) (Nat.add_assoc _ _ _))⟩)))
    repeat (go_quiet (first | (go_at_call 80; (with_reducible refine (spec_IsValidLin.calls k a0_0 _ _ l0_1 (l0_1.length : Int) true _ ?side1 ?side2 A11.out).mono ?_); (case side1 => exact mc ((Kd.C_below HR0_1.out HB.out))); (case side2 => exact HC0_1.out); rintro e w19 ⟨rfl, hb⟩; replace BK168 := bb BK168 hb; replace BK169 := bb BK169 hb; replace BK170 := bb BK170 hb; replace HB := bs HB hb; (try clear hb); have hnb20 := NB169_170.out; have hnc20 := NB170_169.out; obtain ⟨hcz21_0, hcz21_1⟩ := c2 BK169; have hfz21_0 := blk_frozen BK169.out 0; have hfz21_1 := blk_frozen BK169.out 1) | (go_at_call 80; (with_reducible refine (spec_IsValidLin.calls k a2_0 _ _ l2_1 (l0_1.length : Int) true _ ?side1 ?side2 A13.out).mono ?_); (case side1 => exact mc ((Kd.C_below HR2_1.out HB.out))); (case side2 => exact HC2_1.out); rintro e w22 ⟨rfl, hb⟩; replace BK168 := bb BK168 hb; replace BK169 := bb BK169 hb; replace BK170 := bb BK170 hb; replace HB := bs HB hb; (try clear hb)) | (go_at_call 129; (with_reducible refine (spec_l3In.calls a1 t173 _ A15.out).mono ?_); rintro e w' ⟨rfl, ⟨nd, rfl⟩⟩; (try first | exact ⟨rfl, _, World.drewN_drewN _ _ _⟩ | exact ⟨rfl, _, Eq.trans (World.drewN_drewN _ _ _) (congrArg (World.drewN _) (Nat.add_assoc _ _ _))⟩))); try go_wp2_with (first | (go_at_call 80; (with_reducible refine (spec_IsValidLin.calls k a0_0 _ _ l0_1 (l0_1.length : Int) true _ ?side1 ?side2 A11.out).mono ?_); (case side1 => exact mc ((Kd.C_below HR0_1.out HB.out))); (case side2 => exact HC0_1.out); rintro e w19 ⟨rfl, hb⟩; replace BK168 := bb BK168 hb; replace BK169 := bb BK169 hb; replace BK170 := bb BK170 hb; replace HB := bs HB hb; (try clear hb); have hnb20 := NB169_170.out; have hnc20 := NB170_169.out; obtain ⟨hcz21_0, hcz21_1⟩ := c2 BK169; have hfz21_0 := blk_frozen BK169.out 0; have hfz21_1 := blk_frozen BK169.out 1) | (go_at_call 80; (with_reducible refine (spec_IsValidLin.calls k a2_0 _ _ l2_1 (l0_1.length : Int) true _ ?side1 ?side2 A13.out).mono ?_); (case side1 => exact mc ((Kd.C_below HR2_1.out HB.out))); (case side2 => exact HC2_1.out); rintro e w22 ⟨rfl, hb⟩; replace BK168 := bb BK168 hb; replace BK169 := bb BK169 hb; replace BK170 := bb BK170 hb; replace HB := bs HB hb; (try clear hb)) | (go_at_call 129; (with_reducible refine (spec_l3In.calls a1 t173 _ A15.out).mono ?_); rintro e w' ⟨rfl, ⟨nd, rfl⟩⟩; (try first | exact ⟨rfl, _, World.drewN_drewN _ _ _⟩ | exact ⟨rfl, _, Eq.trans (World.drewN_drewN _ _ _) (congrArg (World.drewN _) (Nat.add_assoc _ _ _))⟩))))
    go_meet
    case rel => exact ⟨_, (!t173), (by first | rfl | (simp; done) | (simp [*]; done)), H', ⟨by first | omega | exact Nat.le_refl _⟩, ⟨mb BK168⟩, ⟨mb BK169⟩, ⟨mb BK170⟩, ⟨ms HB⟩⟩
   ·replace c14 := Bool.eq_false_iff.mpr c14
    subst c14
    have H1 : (spec_AddScaled.j0 k a1 (l0_1.length : Int) true a0_0 l0_1 a2_0 l2_1) = some (r1, r2, r3) := by rw [if_neg (show ¬ (false = true) by decide)] at H; exact H
    clear H
    have H := H1
    clear H1
    have H' := Aside0.mk H
    clear H
    have hnb23 := NB168_169.out
    have hnc23 := NB169_168.out
    have hnb24 := NB168_170.out
    have hnc24 := NB170_168.out
    obtain ⟨hcz25_0, hcz25_1⟩ := c2 BK168
    have hfz25_0 := blk_frozen BK168.out 0
    have hfz25_1 := blk_frozen BK168.out 1
    go_wp2_with (first | (go_at_call 80; (with_reducible refine (spec_IsValidLin.calls k a0_0 _ _ l0_1 (l0_1.length : Int) true _ ?side1 ?side2 A11.out).mono ?_); (case side1 => exact mc ((Kd.C_below HR0_1.out HB.out))); (case side2 => exact HC0_1.out); rintro e w26 ⟨rfl, hb⟩; replace BK168 := bb BK168 hb; replace BK169 := bb BK169 hb; replace BK170 := bb BK170 hb; replace HB := bs HB hb; (try clear hb); have hnb27 := NB169_170.out; have hnc27 := NB170_169.out; obtain ⟨hcz28_0, hcz28_1⟩ := c2 BK169; have hfz28_0 := blk_frozen BK169.out 0; have hfz28_1 := blk_frozen BK169.out 1) | (go_at_call 80; (with_reducible refine (spec_IsValidLin.calls k a2_0 _ _ l2_1 (l0_1.length : Int) false _ ?side1 ?side2 A13.out).mono ?_); (case side1 => exact mc ((Kd.C_below HR2_1.out HB.out))); (case side2 => exact HC2_1.out); rintro e w29 ⟨rfl, hb⟩; replace BK168 := bb BK168 hb; replace BK169 := bb BK169 hb; replace BK170 := bb BK170 hb; replace HB := bs HB hb; (try clear hb)))
    repeat (go_quiet (first | (go_at_call 80; (with_reducible refine (spec_IsValidLin.calls k a0_0 _ _ l0_1 (l0_1.length : Int) true _ ?side1 ?side2 A11.out).mono ?_); (case side1 => exact mc ((Kd.C_below HR0_1.out HB.out))); (case side2 => exact HC0_1.out); rintro e w26 ⟨rfl, hb⟩; replace BK168 := bb BK168 hb; replace BK169 := bb BK169 hb; replace BK170 := bb BK170 hb; replace HB := bs HB hb; (try clear hb); have hnb27 := NB169_170.out; have hnc27 := NB170_169.out; obtain ⟨hcz28_0, hcz28_1⟩ := c2 BK169; have hfz28_0 := blk_frozen BK169.out 0; have hfz28_1 := blk_frozen BK169.out 1) | (go_at_call 80; (with_reducible refine (spec_IsValidLin.calls k a2_0 _ _ l2_1 (l0_1.length : Int) false _ ?side1 ?side2 A13.out).mono ?_); (case side1 => exact mc ((Kd.C_below HR2_1.out HB.out))); (case side2 => exact HC2_1.out); rintro e w29 ⟨rfl, hb⟩; replace BK168 := bb BK168 hb; replace BK169 := bb BK169 hb; replace BK170 := bb BK170 hb; replace HB := bs HB hb; (try clear hb))); try go_wp2_with (first | (go_at_call 80; (with_reducible refine (spec_IsValidLin.calls k a0_0 _ _ l0_1 (l0_1.length : Int) true _ ?side1 ?side2 A11.out).mono ?_); (case side1 => exact mc ((Kd.C_below HR0_1.out HB.out))); (case side2 => exact HC0_1.out); rintro e w26 ⟨rfl, hb⟩; replace BK168 := bb BK168 hb; replace BK169 := bb BK169 hb; replace BK170 := bb BK170 hb; replace HB := bs HB hb; (try clear hb); have hnb27 := NB169_170.out; have hnc27 := NB170_169.out; obtain ⟨hcz28_0, hcz28_1⟩ := c2 BK169; have hfz28_0 := blk_frozen BK169.out 0; have hfz28_1 := blk_frozen BK169.out 1) | (go_at_call 80; (with_reducible refine (spec_IsValidLin.calls k a2_0 _ _ l2_1 (l0_1.length : Int) false _ ?side1 ?side2 A13.out).mono ?_); (case side1 => exact mc ((Kd.C_below HR2_1.out HB.out))); (case side2 => exact HC2_1.out); rintro e w29 ⟨rfl, hb⟩; replace BK168 := bb BK168 hb; replace BK169 := bb BK169 hb; replace BK170 := bb BK170 hb; replace HB := bs HB hb; (try clear hb))))
    go_meet
    case rel => exact ⟨_, (true), (by first | rfl | (simp; done) | (simp [*]; done)), H', ⟨by first | omega | exact Nat.le_refl _⟩, ⟨mb BK168⟩, ⟨mb BK169⟩, ⟨mb BK170⟩, ⟨ms HB⟩⟩
  ·replace c12 := Bool.eq_false_iff.mpr c12
   subst c12
   have H1 : (spec_AddScaled.j0 k a1 (l0_1.length : Int) true a0_0 l0_1 a2_0 l2_1) = some (r1, r2, r3) := by rw [if_neg (show ¬ (false = true) by decide)] at H; exact H
   clear H
   have H := H1
   clear H1
   have H' := Aside0.mk H
   clear H
   have hnb30 := NB168_169.out
   have hnc30 := NB169_168.out
   have hnb31 := NB168_170.out
   have hnc31 := NB170_168.out
   obtain ⟨hcz32_0, hcz32_1⟩ := c2 BK168
   have hfz32_0 := blk_frozen BK168.out 0
   have hfz32_1 := blk_frozen BK168.out 1
   go_wp2_with (first | (go_at_call 80; (with_reducible refine (spec_IsValidLin.calls k a0_0 _ _ l0_1 (l0_1.length : Int) false _ ?side1 ?side2 A11.out).mono ?_); (case side1 => exact mc ((Kd.C_below HR0_1.out HB.out))); (case side2 => exact HC0_1.out); rintro e w33 ⟨rfl, hb⟩; replace BK168 := bb BK168 hb; replace BK169 := bb BK169 hb; replace BK170 := bb BK170 hb; replace HB := bs HB hb; (try clear hb)))
   repeat (go_quiet (first | (go_at_call 80; (with_reducible refine (spec_IsValidLin.calls k a0_0 _ _ l0_1 (l0_1.length : Int) false _ ?side1 ?side2 A11.out).mono ?_); (case side1 => exact mc ((Kd.C_below HR0_1.out HB.out))); (case side2 => exact HC0_1.out); rintro e w33 ⟨rfl, hb⟩; replace BK168 := bb BK168 hb; replace BK169 := bb BK169 hb; replace BK170 := bb BK170 hb; replace HB := bs HB hb; (try clear hb))); try go_wp2_with (first | (go_at_call 80; (with_reducible refine (spec_IsValidLin.calls k a0_0 _ _ l0_1 (l0_1.length : Int) false _ ?side1 ?side2 A11.out).mono ?_); (case side1 => exact mc ((Kd.C_below HR0_1.out HB.out))); (case side2 => exact HC0_1.out); rintro e w33 ⟨rfl, hb⟩; replace BK168 := bb BK168 hb; replace BK169 := bb BK169 hb; replace BK170 := bb BK170 hb; replace HB := bs HB hb; (try clear hb))))
   go_meet
   case rel => exact ⟨_, (true), (by first | rfl | (simp; done) | (simp [*]; done)), H', ⟨by first | omega | exact Nat.le_refl _⟩, ⟨mb BK168⟩, ⟨mb BK169⟩, ⟨mb BK170⟩, ⟨ms HB⟩⟩
 case rest =>
  clear HC4
  try clear c1
  try clear c2
  try clear p2
  try clear c3
  try clear c8
  try clear c9
  try clear c12
  try clear c14
  try clear c16
  try clear c17
  try clear c20
  try clear c23
  try clear c24
  try clear c27
  try clear c30
  try clear c31
  try clear hcz10_0
  try clear hcz10_1
  try clear hcz18_0
  try clear hcz18_1
  try clear hcz21_0
  try clear hcz21_1
  try clear hcz25_0
  try clear hcz25_1
  try clear hcz28_0
  try clear hcz28_1
  try clear hcz32_0
  try clear hcz32_1
  try clear hfz10_0
  try clear hfz10_1
  try clear hfz18_0
  try clear hfz18_1
  try clear hfz21_0
  try clear hfz21_1
  try clear hfz25_0
  try clear hfz25_1
  try clear hfz28_0
  try clear hfz28_1
  try clear hfz32_0
  try clear hfz32_1
  obtain ⟨kq, x33_3, rfl, HA, HJ3, BK168, BK169, BK170, HB⟩ := hcut
  cases kq with
  | zero => exact absurd HA.out (by simp [spec_AddScaled.j0])
  | succ kj3 =>
   have H := HA.out
   clear HA
   simp only [spec_AddScaled.j0] at H
   by_cases c34 : x33_3 = true
   ·subst c34
    have H1 : (some (0, ([] : List Int), false)) = some (r1, r2, r3) := by rw [if_pos rfl] at H; exact H
    clear H
    have H := H1
    clear H1
    simp only [Option.some.injEq, Prod.mk.injEq] at H
    obtain ⟨rfl, rfl, rfl⟩ := H
    have hnb35 := NB170_168.out
    have hnc35 := NB168_170.out
    have hnb36 := NB170_169.out
    have hnc36 := NB169_170.out
    obtain ⟨hcz37_0, hcz37_1⟩ := c2 BK170
    have hfz37_0 := blk_frozen BK170.out 0
    have hfz37_1 := blk_frozen BK170.out 1
    go_wp2
    repeat (go_quiet (fail); try go_wp2)
    refine bodyPost_ret (results_ct rfl _ _ gb170 29 #[.int .i64 0, .slice none 0 0] (0, 0) _ rfl (by (with_reducible repeat (first | refine blk_drewN ?_ _ | refine blk_drew ?_ | refine blk_alloc ?_ _)); refine blk_put (cs := #[.int .i64 0, .slice none 0 0]) ?_ 1 _ rfl; (with_reducible repeat (first | refine blk_drewN ?_ _ | refine blk_drew ?_ | refine blk_alloc ?_ _)); refine blk_put (cs := #[.int .i64 0, .slice none 0 0]) ?_ 0 _ rfl; (with_reducible repeat (first | refine blk_drewN ?_ _ | refine blk_drew ?_ | refine blk_alloc ?_ _)); exact BK170.out) Try.underlying29 rfl (by kernel_rfl)) rfl ?_
    exact ⟨_, by first | rfl | (simp [errW_none, errW_some] <;> rfl) | (simp [*, errW_none, errW_some] <;> rfl), by first | exact Kd.R_nil _ _ _ _ _ | exact Kd.N_nil _ _ _ _ _ | exact Kd.V_nil _ _ _ _ _ | exact Kd.Q_nil _ _ _ _ _ | exact Kd.S_nil _ _ _ _ _, ms HB⟩
   ·replace c34 := Bool.eq_false_iff.mpr c34
    subst c34
    have H1 : (if 0 ≤ (l0_1.length : Int) then (if ((l0_1.length : Int) : Int).toNat ≤ 35184372088832 then (spec_AddScaled.l0 kj3 a1 (l0_1.length : Int) true 0 a0_0 l0_1 a2_0 l2_1 0 (List.replicate ((l0_1.length : Int) : Int).toNat 0)) else (none)) else (none)) = some (r1, r2, r3) := by rw [if_neg (show ¬ (false = true) by decide)] at H; exact H
    clear H
    have H := H1
    clear H1
    by_cases c38 : 0 ≤ (l0_1.length : Int)
    ·rw [if_pos c38] at H
     have c38b0 := eq_true c38
     have c38b1 : decide (0 ≤ (l0_1.length : Int)) = true := decide_eq_true c38
     clear c38
     by_cases c39 : ((l0_1.length : Int) : Int).toNat ≤ 35184372088832
     ·rw [if_pos c39] at H
      have c39b0 := eq_true c39
      have c39b1 : decide (((l0_1.length : Int) : Int).toNat ≤ 35184372088832) = true := decide_eq_true c39
      clear c39
      obtain ⟨y174, hy174⟩ : ∃ y_ : List Int, y_ = (List.replicate ((l0_1.length : Int) : Int).toNat 0) := ⟨_, rfl⟩
      replace H : (spec_AddScaled.l0 kj3 a1 (l0_1.length : Int) true 0 a0_0 l0_1 a2_0 l2_1 0 y174) = some (r1, r2, r3) := by first | (rw [hy174]; with_reducible exact H) | (have H2_ := (Option.bind_some _ _).symm.trans H; rw [hy174]; with_reducible exact H2_) | (have H2_ := (Option.bind_some _ _).symm.trans H; with_reducible exact H2_) | with_reducible exact H | (rw [hy174]; exact H) | exact H
      have Ny174 := Aside0.mk hy174
      clear hy174
      have H' := Aside0.mk H
      clear H
      go_wp2_with (first | ((with_reducible refine gate_dst (N := 36) rfl ?_); refine Kd.R_make (Kd.int .i64) _ 3 rfl (N := 36) rfl 27 _ _ rfl (l0_1.length : Int) rfl rfl Try.underlying27 (.int .i64 0) 8 info3 rfl (by decide) (by omega) 0 (ok := fun _ => True) (okp := fun _ => True) rfl (fun _ hk => hk) trivial (of_decide_eq_true (by first | (with_reducible assumption) | assumption)) (Nat.le_trans (Nat.mul_le_mul_right _ (of_decide_eq_true (by first | (with_reducible assumption) | assumption) : (l0_1.length : Int).toNat ≤ 35184372088832)) (by omega)) (Below.refl _ _) (Nat.le_refl _) ?_; intro v175 w40 ho41 hb hg_ hnew_; clear hg_ hnew_; (first | rw [← Ny174.out] at ho41 | (simp only [Int.reduceToNat] at ho41; rw [← Ny174.out] at ho41)); have HO176 := Aside0.mk (Kd.R_lower ho41 (below_size (ms HB))); replace BK168 := bb BK168 hb; replace BK169 := bb BK169 hb; replace BK170 := bb BK170 hb; replace HB := bs HB hb; clear hb ho41; obtain ⟨Ao42, co42, eo42⟩ := Kd.R_slice HO176.out; subst eo42) | ((with_reducible refine gate_dst (N := 9) rfl ?_); refine box_event ?hg (N := 9) ?hd (cs := #[.int .i64 0, .slice none 0 0]) (t := 29) ?hr ?_; (case hd => rfl); (case hg => rfl); (case hr => first | (go_simp; done) | (go_simp; rfl)); intro gb177 hg w43 hbox hb; replace HO176 := rb HO176 hb; have BK177 := Aside0.mk (hbox); have GW177 := gw hg HB; have GE177 := gw hg HB; replace HB := bs HB hb; have NB168_177 := nl hg BK168; have NB177_168 := ng hg BK168; replace BK168 := bb BK168 hb; have NB169_177 := nl hg BK169; have NB177_169 := ng hg BK169; replace BK169 := bb BK169 hb; have NB170_177 := nl hg BK170; have NB177_170 := ng hg BK170; replace BK170 := bb BK170 hb; clear hb hbox hg; have hnb44 := NB177_168.out; have hnc44 := NB168_177.out; have hnb45 := NB177_169.out; have hnc45 := NB169_177.out; have hnb46 := NB177_170.out; have hnc46 := NB170_177.out; obtain ⟨hcz47_0, hcz47_1⟩ := c2 BK177; have hfz47_0 := blk_frozen BK177.out 0; have hfz47_1 := blk_frozen BK177.out 1))
      repeat (go_quiet (first | ((with_reducible refine gate_dst (N := 36) rfl ?_); refine Kd.R_make (Kd.int .i64) _ 3 rfl (N := 36) rfl 27 _ _ rfl (l0_1.length : Int) rfl rfl Try.underlying27 (.int .i64 0) 8 info3 rfl (by decide) (by omega) 0 (ok := fun _ => True) (okp := fun _ => True) rfl (fun _ hk => hk) trivial (of_decide_eq_true (by first | (with_reducible assumption) | assumption)) (Nat.le_trans (Nat.mul_le_mul_right _ (of_decide_eq_true (by first | (with_reducible assumption) | assumption) : (l0_1.length : Int).toNat ≤ 35184372088832)) (by omega)) (Below.refl _ _) (Nat.le_refl _) ?_; intro v175 w40 ho41 hb hg_ hnew_; clear hg_ hnew_; (first | rw [← Ny174.out] at ho41 | (simp only [Int.reduceToNat] at ho41; rw [← Ny174.out] at ho41)); have HO176 := Aside0.mk (Kd.R_lower ho41 (below_size (ms HB))); replace BK168 := bb BK168 hb; replace BK169 := bb BK169 hb; replace BK170 := bb BK170 hb; replace HB := bs HB hb; clear hb ho41; obtain ⟨Ao42, co42, eo42⟩ := Kd.R_slice HO176.out; subst eo42) | ((with_reducible refine gate_dst (N := 9) rfl ?_); refine box_event ?hg (N := 9) ?hd (cs := #[.int .i64 0, .slice none 0 0]) (t := 29) ?hr ?_; (case hd => rfl); (case hg => rfl); (case hr => first | (go_simp; done) | (go_simp; rfl)); intro gb177 hg w43 hbox hb; replace HO176 := rb HO176 hb; have BK177 := Aside0.mk (hbox); have GW177 := gw hg HB; have GE177 := gw hg HB; replace HB := bs HB hb; have NB168_177 := nl hg BK168; have NB177_168 := ng hg BK168; replace BK168 := bb BK168 hb; have NB169_177 := nl hg BK169; have NB177_169 := ng hg BK169; replace BK169 := bb BK169 hb; have NB170_177 := nl hg BK170; have NB177_170 := ng hg BK170; replace BK170 := bb BK170 hb; clear hb hbox hg; have hnb44 := NB177_168.out; have hnc44 := NB168_177.out; have hnb45 := NB177_169.out; have hnc45 := NB169_177.out; have hnb46 := NB177_170.out; have hnc46 := NB170_177.out; obtain ⟨hcz47_0, hcz47_1⟩ := c2 BK177; have hfz47_0 := blk_frozen BK177.out 0; have hfz47_1 := blk_frozen BK177.out 1)); try go_wp2_with (first | ((with_reducible refine gate_dst (N := 36) rfl ?_); refine Kd.R_make (Kd.int .i64) _ 3 rfl (N := 36) rfl 27 _ _ rfl (l0_1.length : Int) rfl rfl Try.underlying27 (.int .i64 0) 8 info3 rfl (by decide) (by omega) 0 (ok := fun _ => True) (okp := fun _ => True) rfl (fun _ hk => hk) trivial (of_decide_eq_true (by first | (with_reducible assumption) | assumption)) (Nat.le_trans (Nat.mul_le_mul_right _ (of_decide_eq_true (by first | (with_reducible assumption) | assumption) : (l0_1.length : Int).toNat ≤ 35184372088832)) (by omega)) (Below.refl _ _) (Nat.le_refl _) ?_; intro v175 w40 ho41 hb hg_ hnew_; clear hg_ hnew_; (first | rw [← Ny174.out] at ho41 | (simp only [Int.reduceToNat] at ho41; rw [← Ny174.out] at ho41)); have HO176 := Aside0.mk (Kd.R_lower ho41 (below_size (ms HB))); replace BK168 := bb BK168 hb; replace BK169 := bb BK169 hb; replace BK170 := bb BK170 hb; replace HB := bs HB hb; clear hb ho41; obtain ⟨Ao42, co42, eo42⟩ := Kd.R_slice HO176.out; subst eo42) | ((with_reducible refine gate_dst (N := 9) rfl ?_); refine box_event ?hg (N := 9) ?hd (cs := #[.int .i64 0, .slice none 0 0]) (t := 29) ?hr ?_; (case hd => rfl); (case hg => rfl); (case hr => first | (go_simp; done) | (go_simp; rfl)); intro gb177 hg w43 hbox hb; replace HO176 := rb HO176 hb; have BK177 := Aside0.mk (hbox); have GW177 := gw hg HB; have GE177 := gw hg HB; replace HB := bs HB hb; have NB168_177 := nl hg BK168; have NB177_168 := ng hg BK168; replace BK168 := bb BK168 hb; have NB169_177 := nl hg BK169; have NB177_169 := ng hg BK169; replace BK169 := bb BK169 hb; have NB170_177 := nl hg BK170; have NB177_170 := ng hg BK170; replace BK170 := bb BK170 hb; clear hb hbox hg; have hnb44 := NB177_168.out; have hnc44 := NB168_177.out; have hnb45 := NB177_169.out; have hnc45 := NB169_177.out; have hnb46 := NB177_170.out; have hnc46 := NB170_177.out; obtain ⟨hcz47_0, hcz47_1⟩ := c2 BK177; have hfz47_0 := blk_frozen BK177.out 0; have hfz47_1 := blk_frozen BK177.out 1)))
      go_loopg [10, 11] kj3 (fun kq v10 v11 w' => ∃ (x10_2 : Bool) (x11_2 : Int) (x178001_2 : List Int) (u178001 : Value), v10 = .bool x10_2 ∧ v11 = .int .i64 x11_2 ∧ Aside0 (spec_AddScaled.l0 kq a1 (l0_1.length : Int) x10_2 x11_2 a0_0 l0_1 a2_0 l2_1 0 x178001_2 = some (r1, r2, r3)) ∧ Aside0 (kq ≤ kj3) ∧ Aside0 (Kd.R (Kd.int .i64) 3 w' w.heap.size (fun _ => True) u178001 x178001_2) ∧ Aside0 (w'.heap[gb168]? = some (.cells #[.int .i64 a0_0, (.slice A0_1 l0_1.length c0_1)] 29 (0, 0))) ∧ Aside0 (w'.heap[gb169]? = some (.cells #[.int .i64 a2_0, (.slice A2_1 l2_1.length c2_1)] 29 (0, 0))) ∧ Aside0 (w'.heap[gb170]? = some (.cells #[.int .i64 0, (.slice none 0 0)] 29 (0, 0))) ∧ Aside0 (w'.heap[gb177]? = some (.cells #[.int .i64 0, u178001] 29 (0, 0))) ∧ Aside0 (Below w.heap.size w w'))
      case atStart => exact ⟨(true), (0), (y174), (.slice Ao42 y174.length co42), (by first | rfl | (simp; done) | (simp [*]; done)), (by first | rfl | (simp; done) | (simp [*]; done)), H', ⟨Nat.le_refl _⟩, ⟨by (with_reducible repeat (first | apply Kd.R_alloc | apply Kd.R_drewN | apply Kd.R_drew)); exact Kd.R_mono (Kd.R_far (p := ⟨gb177, 1, none⟩) (Kd.R_far (p := ⟨gb177, 0, none⟩) (Kd.R_types HO176.out BK177.out (by decide)) (fun _ hk => hk.2) (.int .i64 0)) (fun _ hk => hk.2) (.slice Ao42 y174.length co42)) (fun _ hk => trivial)⟩, ⟨by (with_reducible repeat (first | refine blk_drewN ?_ _ | refine blk_drew ?_ | refine blk_alloc ?_ _)); refine blk_far ?_ NB168_177.out _; (with_reducible repeat (first | refine blk_drewN ?_ _ | refine blk_drew ?_ | refine blk_alloc ?_ _)); refine blk_far ?_ NB168_177.out _; (with_reducible repeat (first | refine blk_drewN ?_ _ | refine blk_drew ?_ | refine blk_alloc ?_ _)); exact BK168.out⟩, ⟨by (with_reducible repeat (first | refine blk_drewN ?_ _ | refine blk_drew ?_ | refine blk_alloc ?_ _)); refine blk_far ?_ NB169_177.out _; (with_reducible repeat (first | refine blk_drewN ?_ _ | refine blk_drew ?_ | refine blk_alloc ?_ _)); refine blk_far ?_ NB169_177.out _; (with_reducible repeat (first | refine blk_drewN ?_ _ | refine blk_drew ?_ | refine blk_alloc ?_ _)); exact BK169.out⟩, ⟨by (with_reducible repeat (first | refine blk_drewN ?_ _ | refine blk_drew ?_ | refine blk_alloc ?_ _)); refine blk_far ?_ NB170_177.out _; (with_reducible repeat (first | refine blk_drewN ?_ _ | refine blk_drew ?_ | refine blk_alloc ?_ _)); refine blk_far ?_ NB170_177.out _; (with_reducible repeat (first | refine blk_drewN ?_ _ | refine blk_drew ?_ | refine blk_alloc ?_ _)); exact BK170.out⟩, ⟨by (with_reducible repeat (first | refine blk_drewN ?_ _ | refine blk_drew ?_ | refine blk_alloc ?_ _)); refine blk_put (cs := #[.int .i64 0, .slice none 0 0]) ?_ 1 _ rfl; (with_reducible repeat (first | refine blk_drewN ?_ _ | refine blk_drew ?_ | refine blk_alloc ?_ _)); refine blk_put (cs := #[.int .i64 0, .slice none 0 0]) ?_ 0 _ rfl; (with_reducible repeat (first | refine blk_drewN ?_ _ | refine blk_drew ?_ | refine blk_alloc ?_ _)); exact BK177.out⟩, ⟨ms HB⟩⟩
      case round =>
       clear H'
       try clear c1
       try clear c2
       try clear p2
       try clear c3
       try clear c4
       try clear c8
       try clear c9
       try clear c12
       try clear c14
       try clear c16
       try clear c17
       try clear c20
       try clear c23
       try clear c24
       try clear c27
       try clear c30
       try clear c31
       try clear c34
       try clear c35
       try clear c36
       try clear c38
       try clear c38b0
       try clear c38b1
       try clear c39
       try clear c39b0
       try clear c39b1
       try clear c44
       try clear c45
       try clear c46
       try clear hcz10_0
       try clear hcz10_1
       try clear hcz18_0
       try clear hcz18_1
       try clear hcz21_0
       try clear hcz21_1
       try clear hcz25_0
       try clear hcz25_1
       try clear hcz28_0
       try clear hcz28_1
       try clear hcz32_0
       try clear hcz32_1
       try clear hcz37_0
       try clear hcz37_1
       try clear hcz47_0
       try clear hcz47_1
       try clear hfz10_0
       try clear hfz10_1
       try clear hfz18_0
       try clear hfz18_1
       try clear hfz21_0
       try clear hfz21_1
       try clear hfz25_0
       try clear hfz25_1
       try clear hfz28_0
       try clear hfz28_1
       try clear hfz32_0
       try clear hfz32_1
       try clear hfz37_0
       try clear hfz37_1
       try clear hfz47_0
       try clear hfz47_1
       try clear p2
       obtain ⟨x10_2, x11_2, x178001_2, u178001, rfl, rfl, HA, HK2, HO_178001, BK168, BK169, BK170, BK177, HB⟩ := hrel
       cases gk with
       | zero => exact absurd HA.out (by simp [spec_AddScaled.l0])
       | succ k2 =>
        have H := HA.out
        clear HA
        simp only [spec_AddScaled.l0] at H
        by_cases c48 : x11_2 < (l0_1.length : Int)
        ·rw [if_pos c48] at H
         have c48b0 : decide (x11_2 < (l0_1.length : Int)) = true := decide_eq_true c48
         clear c48
         by_cases c49 : 0 ≤ x11_2
         ·rw [if_pos c49] at H
          have c49b0 : decide (0 ≤ x11_2) = true := decide_eq_true c49
          clear c49
          by_cases c50 : x11_2 < (l0_1.length : Int)
          ·rw [if_pos c50] at H
           have c50b0 : decide (x11_2 < (l0_1.length : Int)) = true := decide_eq_true c50
           clear c50
           by_cases c51 : x11_2 < (l2_1.length : Int)
           ·rw [if_pos c51] at H
            have c51b0 : decide (x11_2 < (l2_1.length : Int)) = true := decide_eq_true c51
            clear c51
            replace H := Option.bind_eq_some_iff.mp H
            obtain ⟨⟨t180, t181⟩, A520, H⟩ := H
            replace H : (if x11_2 < (x178001_2.length : Int) then ((some (x178001_2.set (x11_2 : Int).toNat t180 : List Int)).bind fun y182 => (if x10_2 = true then (spec_AddScaled.l0 k2 a1 (l0_1.length : Int) t181 (wrap64 (x11_2 + 1)) a0_0 l0_1 a2_0 l2_1 0 y182) else (spec_AddScaled.l0 k2 a1 (l0_1.length : Int) false (wrap64 (x11_2 + 1)) a0_0 l0_1 a2_0 l2_1 0 y182))) else (none)) = some (r1, r2, r3) := H
            have A52 := Aside0.mk A520
            clear A520
            by_cases c53 : x11_2 < (x178001_2.length : Int)
            ·rw [if_pos c53] at H
             have c53b0 : decide (x11_2 < (x178001_2.length : Int)) = true := decide_eq_true c53
             clear c53
             obtain ⟨y182, hy182⟩ : ∃ y_ : List Int, y_ = (x178001_2.set (x11_2 : Int).toNat t180) := ⟨_, rfl⟩
             replace H : (if x10_2 = true then (spec_AddScaled.l0 k2 a1 (l0_1.length : Int) t181 (wrap64 (x11_2 + 1)) a0_0 l0_1 a2_0 l2_1 0 y182) else (spec_AddScaled.l0 k2 a1 (l0_1.length : Int) false (wrap64 (x11_2 + 1)) a0_0 l0_1 a2_0 l2_1 0 y182)) = some (r1, r2, r3) := by first | (rw [hy182]; with_reducible exact H) | (have H2_ := (Option.bind_some _ _).symm.trans H; rw [hy182]; with_reducible exact H2_) | (have H2_ := (Option.bind_some _ _).symm.trans H; with_reducible exact H2_) | with_reducible exact H | (rw [hy182]; exact H) | exact H
             have Ny182 := Aside0.mk hy182
             clear hy182
             by_cases c55 : x10_2 = true
             ·subst c55
              have H1 : (spec_AddScaled.l0 k2 a1 (l0_1.length : Int) t181 (wrap64 (x11_2 + 1)) a0_0 l0_1 a2_0 l2_1 0 y182) = some (r1, r2, r3) := by rw [if_pos rfl] at H; exact H
              clear H
              have H := H1
              clear H1
              have H' := Aside0.mk H
              clear H
              have hnb56 := NB168_169.out
              have hnc56 := NB169_168.out
              have hnb57 := NB168_170.out
              have hnc57 := NB170_168.out
              have hnb58 := NB168_177.out
              have hnc58 := NB177_168.out
              obtain ⟨hcz59_0, hcz59_1⟩ := c2 BK168
              have hfz59_0 := blk_frozen BK168.out 0
              have hfz59_1 := blk_frozen BK168.out 1
              have p178 : 0 ≤ (x11_2 : Int) := of_decide_eq_true (by first | (with_reducible assumption) | assumption)
              have q178 : x11_2 < (l0_1.length : Int) := of_decide_eq_true (by first | (with_reducible assumption) | assumption)
              obtain ⟨ad178, e178, hx178_0⟩ := Kd.at_int HR0_1.out x11_2 p178 q178
              cases e178
              replace hx178_0 := (HB.out.cell (World.block_lt_of_cell? w _ hx178_0)).trans hx178_0
              replace p178 := eq_true p178
              replace q178 := eq_true q178
              have hnb60 := NB169_170.out
              have hnc60 := NB170_169.out
              have hnb61 := NB169_177.out
              have hnc61 := NB177_169.out
              obtain ⟨hcz62_0, hcz62_1⟩ := c2 BK169
              have hfz62_0 := blk_frozen BK169.out 0
              have hfz62_1 := blk_frozen BK169.out 1
              have p179 : 0 ≤ (x11_2 : Int) := of_decide_eq_true (by first | (with_reducible assumption) | assumption)
              have q179 : x11_2 < (l2_1.length : Int) := of_decide_eq_true (by first | (with_reducible assumption) | assumption)
              obtain ⟨ad179, e179, hx179_0⟩ := Kd.at_int HR2_1.out x11_2 p179 q179
              cases e179
              replace hx179_0 := (HB.out.cell (World.block_lt_of_cell? w _ hx179_0)).trans hx179_0
              replace p179 := eq_true p179
              replace q179 := eq_true q179
              go_wp2_with (first | (go_at_call 130; (with_reducible refine (spec_l4Sum.calls (rd l0_1 x11_2) a1 (rd l2_1 x11_2) t180 t181 _ A52.out).mono ?_); rintro e w' ⟨rfl, ⟨nd, rfl⟩⟩; (try first | exact ⟨rfl, _, World.drewN_drewN _ _ _⟩ | exact ⟨rfl, _, Eq.trans (World.drewN_drewN _ _ _) (congrArg (World.drewN _) (Nat.add_assoc _ _ _))⟩); have hnb63 := NB177_170.out; have hnc63 := NB170_177.out; obtain ⟨hcz64_0, hcz64_1⟩ := c2 BK177; have hfz64_0 := blk_frozen BK177.out 0; have hfz64_1 := blk_frozen BK177.out 1; have p54 : 0 ≤ (x11_2 : Int) := of_decide_eq_true (by first | (with_reducible assumption) | assumption); have q54 : (x11_2 : Int) < ((x178001_2.length : Int) : Int) := of_decide_eq_true (by first | (with_reducible assumption) | assumption); obtain ⟨go54, co54, eo54, gb54, gl54, cl54, HG54⟩ := Kd.R_form HO_178001.out (by omega); (first | cases eo54 | (injection eo54 with ea_ en_ ec_; (first | subst ea_ | (injection ea_ with ea_; subst ea_)); subst ec_; clear en_)); have GB54 := Aside0.mk gb54; have GG54 := Aside0.mk HG54; clear gb54 gl54 HG54; obtain ⟨hx54_0, hf54_0⟩ := Kd.R_celln 0 HO_178001.out (x11_2 : Int) p54 q54; replace p54 := eq_true p54; replace q54 := eq_true q54; obtain ⟨hy65_, hz65_⟩ := Kd.R_celln 0 HO_178001.out (x11_2 : Int) (of_decide_eq_true (by first | (with_reducible assumption) | assumption)) (of_decide_eq_true (by first | (with_reducible assumption) | assumption)); have HP65 := Kd.R_putg HO_178001.out (x11_2 : Int) t180) | ((with_reducible refine gate_store (t := 3) (p := 62) rfl ?_); (try (rw [drewN_self wr]; generalize hq_ : World.drewN wr _ = wr; have n0_ := Aside0.mk (Kd.R_at hq_ HO_178001.out); have n1_ := Aside0.mk (blk_at hq_ BK168.out); have n2_ := Aside0.mk (blk_at hq_ BK169.out); have n3_ := Aside0.mk (blk_at hq_ BK170.out); have n4_ := Aside0.mk (blk_at hq_ BK177.out); have n5_ := Aside0.mk (below_at hq_ HB.out); clear hq_ HO_178001 BK168 BK169 BK170 BK177 HB; have HO_178001 := n0_; have BK168 := n1_; have BK169 := n2_; have BK170 := n3_; have BK177 := n4_; have HB := n5_; clear n0_ n1_ n2_ n3_ n4_ n5_; (try (obtain ⟨hy65_, hz65_⟩ := Kd.R_celln 0 HO_178001.out (x11_2 : Int) (of_decide_eq_true (by first | (with_reducible assumption) | assumption)) (of_decide_eq_true (by first | (with_reducible assumption) | assumption)))); (try (have HP65 := Kd.R_putg HO_178001.out (x11_2 : Int) t180)))); refine store_event (t := 3) (p := 62) (v := ?vo_w66) (w1 := (wr.setCell ⟨go54, (x11_2 : Int).toNat, none⟩ (.int .i64 t180))) ?hg ?ho ?hn ?hr ?_; (case ho => rfl); (case hg => rfl); (case hn => rfl); (case hr => first | (go_simp; done) | (go_simp; rfl)); intro w66 hw; have hg : wr.grownBy w66 (some go54) := (by rw [hw]; exact HP65.2); have hp_ : Kd.R (Kd.int .i64) 3 w66 w.heap.size (fun _ => True) (.slice (some ⟨go54, 0, none⟩) x178001_2.length co54) y182 := (by rw [hw, Ny182.out]; exact HP65.1); clear HP65; have n0_ := Aside0.mk (hp_); have n1_ := Aside0.mk (blk_grown (g := gb168) (o := .cells #[.int .i64 a0_0, .slice (some ad178) l0_1.length c0_1] 29 (0, 0)) (mb BK168) hg (Kd.R_ne HO_178001.out BK168.out (by decide))); have n2_ := Aside0.mk (blk_grown (g := gb169) (o := .cells #[.int .i64 a2_0, .slice (some ad179) l2_1.length c2_1] 29 (0, 0)) (mb BK169) hg (Kd.R_ne HO_178001.out BK169.out (by decide))); have n3_ := Aside0.mk (blk_grown (g := gb170) (o := .cells #[.int .i64 0, .slice none 0 0] 29 (0, 0)) (mb BK170) hg (Kd.R_ne HO_178001.out BK170.out (by decide))); have n4_ := Aside0.mk (blk_grown (g := gb177) (o := .cells #[.int .i64 0, .slice (some ⟨go54, 0, none⟩) x178001_2.length co54] 29 (0, 0)) (mb BK177) hg (Kd.R_ne HO_178001.out BK177.out (by decide))); have n5_ := Aside0.mk ((by rw [hw]; exact below_set (HB.out) GB54.out : Below w.heap.size w w66)); clear HO_178001 BK168 BK169 BK170 BK177 HB; have HO_178001 := n0_; have BK168 := n1_; have BK169 := n2_; have BK170 := n3_; have BK177 := n4_; have HB := n5_; clear n0_ n1_ n2_ n3_ n4_ n5_; clear hg hw hp_))
              repeat (go_quiet (first | (go_at_call 130; (with_reducible refine (spec_l4Sum.calls (rd l0_1 x11_2) a1 (rd l2_1 x11_2) t180 t181 _ A52.out).mono ?_); rintro e w' ⟨rfl, ⟨nd, rfl⟩⟩; (try first | exact ⟨rfl, _, World.drewN_drewN _ _ _⟩ | exact ⟨rfl, _, Eq.trans (World.drewN_drewN _ _ _) (congrArg (World.drewN _) (Nat.add_assoc _ _ _))⟩); have hnb63 := NB177_170.out; have hnc63 := NB170_177.out; obtain ⟨hcz64_0, hcz64_1⟩ := c2 BK177; have hfz64_0 := blk_frozen BK177.out 0; have hfz64_1 := blk_frozen BK177.out 1; have p54 : 0 ≤ (x11_2 : Int) := of_decide_eq_true (by first | (with_reducible assumption) | assumption); have q54 : (x11_2 : Int) < ((x178001_2.length : Int) : Int) := of_decide_eq_true (by first | (with_reducible assumption) | assumption); obtain ⟨go54, co54, eo54, gb54, gl54, cl54, HG54⟩ := Kd.R_form HO_178001.out (by omega); (first | cases eo54 | (injection eo54 with ea_ en_ ec_; (first | subst ea_ | (injection ea_ with ea_; subst ea_)); subst ec_; clear en_)); have GB54 := Aside0.mk gb54; have GG54 := Aside0.mk HG54; clear gb54 gl54 HG54; obtain ⟨hx54_0, hf54_0⟩ := Kd.R_celln 0 HO_178001.out (x11_2 : Int) p54 q54; replace p54 := eq_true p54; replace q54 := eq_true q54; obtain ⟨hy65_, hz65_⟩ := Kd.R_celln 0 HO_178001.out (x11_2 : Int) (of_decide_eq_true (by first | (with_reducible assumption) | assumption)) (of_decide_eq_true (by first | (with_reducible assumption) | assumption)); have HP65 := Kd.R_putg HO_178001.out (x11_2 : Int) t180) | ((with_reducible refine gate_store (t := 3) (p := 62) rfl ?_); (try (rw [drewN_self wr]; generalize hq_ : World.drewN wr _ = wr; have n0_ := Aside0.mk (Kd.R_at hq_ HO_178001.out); have n1_ := Aside0.mk (blk_at hq_ BK168.out); have n2_ := Aside0.mk (blk_at hq_ BK169.out); have n3_ := Aside0.mk (blk_at hq_ BK170.out); have n4_ := Aside0.mk (blk_at hq_ BK177.out); have n5_ := Aside0.mk (below_at hq_ HB.out); clear hq_ HO_178001 BK168 BK169 BK170 BK177 HB; have HO_178001 := n0_; have BK168 := n1_; have BK169 := n2_; have BK170 := n3_; have BK177 := n4_; have HB := n5_; clear n0_ n1_ n2_ n3_ n4_ n5_; (try (obtain ⟨hy65_, hz65_⟩ := Kd.R_celln 0 HO_178001.out (x11_2 : Int) (of_decide_eq_true (by first | (with_reducible assumption) | assumption)) (of_decide_eq_true (by first | (with_reducible assumption) | assumption)))); (try (have HP65 := Kd.R_putg HO_178001.out (x11_2 : Int) t180)))); refine store_event (t := 3) (p := 62) (v := ?vo_w66) (w1 := (wr.setCell ⟨go54, (x11_2 : Int).toNat, none⟩ (.int .i64 t180))) ?hg ?ho ?hn ?hr ?_; (case ho => rfl); (case hg => rfl); (case hn => rfl); (case hr => first | (go_simp; done) | (go_simp; rfl)); intro w66 hw; have hg : wr.grownBy w66 (some go54) := (by rw [hw]; exact HP65.2); have hp_ : Kd.R (Kd.int .i64) 3 w66 w.heap.size (fun _ => True) (.slice (some ⟨go54, 0, none⟩) x178001_2.length co54) y182 := (by rw [hw, Ny182.out]; exact HP65.1); clear HP65; have n0_ := Aside0.mk (hp_); have n1_ := Aside0.mk (blk_grown (g := gb168) (o := .cells #[.int .i64 a0_0, .slice (some ad178) l0_1.length c0_1] 29 (0, 0)) (mb BK168) hg (Kd.R_ne HO_178001.out BK168.out (by decide))); have n2_ := Aside0.mk (blk_grown (g := gb169) (o := .cells #[.int .i64 a2_0, .slice (some ad179) l2_1.length c2_1] 29 (0, 0)) (mb BK169) hg (Kd.R_ne HO_178001.out BK169.out (by decide))); have n3_ := Aside0.mk (blk_grown (g := gb170) (o := .cells #[.int .i64 0, .slice none 0 0] 29 (0, 0)) (mb BK170) hg (Kd.R_ne HO_178001.out BK170.out (by decide))); have n4_ := Aside0.mk (blk_grown (g := gb177) (o := .cells #[.int .i64 0, .slice (some ⟨go54, 0, none⟩) x178001_2.length co54] 29 (0, 0)) (mb BK177) hg (Kd.R_ne HO_178001.out BK177.out (by decide))); have n5_ := Aside0.mk ((by rw [hw]; exact below_set (HB.out) GB54.out : Below w.heap.size w w66)); clear HO_178001 BK168 BK169 BK170 BK177 HB; have HO_178001 := n0_; have BK168 := n1_; have BK169 := n2_; have BK170 := n3_; have BK177 := n4_; have HB := n5_; clear n0_ n1_ n2_ n3_ n4_ n5_; clear hg hw hp_)); try go_wp2_with (first | (go_at_call 130; (with_reducible refine (spec_l4Sum.calls (rd l0_1 x11_2) a1 (rd l2_1 x11_2) t180 t181 _ A52.out).mono ?_); rintro e w' ⟨rfl, ⟨nd, rfl⟩⟩; (try first | exact ⟨rfl, _, World.drewN_drewN _ _ _⟩ | exact ⟨rfl, _, Eq.trans (World.drewN_drewN _ _ _) (congrArg (World.drewN _) (Nat.add_assoc _ _ _))⟩); have hnb63 := NB177_170.out; have hnc63 := NB170_177.out; obtain ⟨hcz64_0, hcz64_1⟩ := c2 BK177; have hfz64_0 := blk_frozen BK177.out 0; have hfz64_1 := blk_frozen BK177.out 1; have p54 : 0 ≤ (x11_2 : Int) := of_decide_eq_true (by first | (with_reducible assumption) | assumption); have q54 : (x11_2 : Int) < ((x178001_2.length : Int) : Int) := of_decide_eq_true (by first | (with_reducible assumption) | assumption); obtain ⟨go54, co54, eo54, gb54, gl54, cl54, HG54⟩ := Kd.R_form HO_178001.out (by omega); (first | cases eo54 | (injection eo54 with ea_ en_ ec_; (first | subst ea_ | (injection ea_ with ea_; subst ea_)); subst ec_; clear en_)); have GB54 := Aside0.mk gb54; have GG54 := Aside0.mk HG54; clear gb54 gl54 HG54; obtain ⟨hx54_0, hf54_0⟩ := Kd.R_celln 0 HO_178001.out (x11_2 : Int) p54 q54; replace p54 := eq_true p54; replace q54 := eq_true q54; obtain ⟨hy65_, hz65_⟩ := Kd.R_celln 0 HO_178001.out (x11_2 : Int) (of_decide_eq_true (by first | (with_reducible assumption) | assumption)) (of_decide_eq_true (by first | (with_reducible assumption) | assumption)); have HP65 := Kd.R_putg HO_178001.out (x11_2 : Int) t180) | ((with_reducible refine gate_store (t := 3) (p := 62) rfl ?_); (try (rw [drewN_self wr]; generalize hq_ : World.drewN wr _ = wr; have n0_ := Aside0.mk (Kd.R_at hq_ HO_178001.out); have n1_ := Aside0.mk (blk_at hq_ BK168.out); have n2_ := Aside0.mk (blk_at hq_ BK169.out); have n3_ := Aside0.mk (blk_at hq_ BK170.out); have n4_ := Aside0.mk (blk_at hq_ BK177.out); have n5_ := Aside0.mk (below_at hq_ HB.out); clear hq_ HO_178001 BK168 BK169 BK170 BK177 HB; have HO_178001 := n0_; have BK168 := n1_; have BK169 := n2_; have BK170 := n3_; have BK177 := n4_; have HB := n5_; clear n0_ n1_ n2_ n3_ n4_ n5_; (try (obtain ⟨hy65_, hz65_⟩ := Kd.R_celln 0 HO_178001.out (x11_2 : Int) (of_decide_eq_true (by first | (with_reducible assumption) | assumption)) (of_decide_eq_true (by first | (with_reducible assumption) | assumption)))); (try (have HP65 := Kd.R_putg HO_178001.out (x11_2 : Int) t180)))); refine store_event (t := 3) (p := 62) (v := ?vo_w66) (w1 := (wr.setCell ⟨go54, (x11_2 : Int).toNat, none⟩ (.int .i64 t180))) ?hg ?ho ?hn ?hr ?_; (case ho => rfl); (case hg => rfl); (case hn => rfl); (case hr => first | (go_simp; done) | (go_simp; rfl)); intro w66 hw; have hg : wr.grownBy w66 (some go54) := (by rw [hw]; exact HP65.2); have hp_ : Kd.R (Kd.int .i64) 3 w66 w.heap.size (fun _ => True) (.slice (some ⟨go54, 0, none⟩) x178001_2.length co54) y182 := (by rw [hw, Ny182.out]; exact HP65.1); clear HP65; have n0_ := Aside0.mk (hp_); have n1_ := Aside0.mk (blk_grown (g := gb168) (o := .cells #[.int .i64 a0_0, .slice (some ad178) l0_1.length c0_1] 29 (0, 0)) (mb BK168) hg (Kd.R_ne HO_178001.out BK168.out (by decide))); have n2_ := Aside0.mk (blk_grown (g := gb169) (o := .cells #[.int .i64 a2_0, .slice (some ad179) l2_1.length c2_1] 29 (0, 0)) (mb BK169) hg (Kd.R_ne HO_178001.out BK169.out (by decide))); have n3_ := Aside0.mk (blk_grown (g := gb170) (o := .cells #[.int .i64 0, .slice none 0 0] 29 (0, 0)) (mb BK170) hg (Kd.R_ne HO_178001.out BK170.out (by decide))); have n4_ := Aside0.mk (blk_grown (g := gb177) (o := .cells #[.int .i64 0, .slice (some ⟨go54, 0, none⟩) x178001_2.length co54] 29 (0, 0)) (mb BK177) hg (Kd.R_ne HO_178001.out BK177.out (by decide))); have n5_ := Aside0.mk ((by rw [hw]; exact below_set (HB.out) GB54.out : Below w.heap.size w w66)); clear HO_178001 BK168 BK169 BK170 BK177 HB; have HO_178001 := n0_; have BK168 := n1_; have BK169 := n2_; have BK170 := n3_; have BK177 := n4_; have HB := n5_; clear n0_ n1_ n2_ n3_ n4_ n5_; clear hg hw hp_)))
              go_roundg k2
              case measure => have := HJ3.out; have := HK2.out; omega
              case rel => exact ⟨(t181), (wrap64 (x11_2 + 1)), (y182), (.slice (some ⟨go54, 0, none⟩) x178001_2.length co54), (by first | rfl | (simp; done) | (simp [*]; done)), (by first | rfl | (simp; done) | (simp [*]; done)), H', ⟨by have := HJ3.out; have := HK2.out; omega⟩, ⟨by (with_reducible repeat (first | apply Kd.R_alloc | apply Kd.R_drewN | apply Kd.R_drew)); exact HO_178001.out⟩, ⟨mb BK168⟩, ⟨mb BK169⟩, ⟨mb BK170⟩, ⟨mb BK177⟩, ⟨ms HB⟩⟩
             ·replace c55 := Bool.eq_false_iff.mpr c55
              subst c55
              have H1 : (spec_AddScaled.l0 k2 a1 (l0_1.length : Int) false (wrap64 (x11_2 + 1)) a0_0 l0_1 a2_0 l2_1 0 y182) = some (r1, r2, r3) := by rw [if_neg (show ¬ (false = true) by decide)] at H; exact H
              clear H
              have H := H1
              clear H1
              have H' := Aside0.mk H
              clear H
              have hnb67 := NB168_169.out
              have hnc67 := NB169_168.out
              have hnb68 := NB168_170.out
              have hnc68 := NB170_168.out
              have hnb69 := NB168_177.out
              have hnc69 := NB177_168.out
              obtain ⟨hcz70_0, hcz70_1⟩ := c2 BK168
              have hfz70_0 := blk_frozen BK168.out 0
              have hfz70_1 := blk_frozen BK168.out 1
              have p178 : 0 ≤ (x11_2 : Int) := of_decide_eq_true (by first | (with_reducible assumption) | assumption)
              have q178 : x11_2 < (l0_1.length : Int) := of_decide_eq_true (by first | (with_reducible assumption) | assumption)
              obtain ⟨ad178, e178, hx178_0⟩ := Kd.at_int HR0_1.out x11_2 p178 q178
              cases e178
              replace hx178_0 := (HB.out.cell (World.block_lt_of_cell? w _ hx178_0)).trans hx178_0
              replace p178 := eq_true p178
              replace q178 := eq_true q178
              have hnb71 := NB169_170.out
              have hnc71 := NB170_169.out
              have hnb72 := NB169_177.out
              have hnc72 := NB177_169.out
              obtain ⟨hcz73_0, hcz73_1⟩ := c2 BK169
              have hfz73_0 := blk_frozen BK169.out 0
              have hfz73_1 := blk_frozen BK169.out 1
              have p179 : 0 ≤ (x11_2 : Int) := of_decide_eq_true (by first | (with_reducible assumption) | assumption)
              have q179 : x11_2 < (l2_1.length : Int) := of_decide_eq_true (by first | (with_reducible assumption) | assumption)
              obtain ⟨ad179, e179, hx179_0⟩ := Kd.at_int HR2_1.out x11_2 p179 q179
              cases e179
              replace hx179_0 := (HB.out.cell (World.block_lt_of_cell? w _ hx179_0)).trans hx179_0
              replace p179 := eq_true p179
              replace q179 := eq_true q179
              go_wp2_with (first | (go_at_call 130; (with_reducible refine (spec_l4Sum.calls (rd l0_1 x11_2) a1 (rd l2_1 x11_2) t180 t181 _ A52.out).mono ?_); rintro e w' ⟨rfl, ⟨nd, rfl⟩⟩; (try first | exact ⟨rfl, _, World.drewN_drewN _ _ _⟩ | exact ⟨rfl, _, Eq.trans (World.drewN_drewN _ _ _) (congrArg (World.drewN _) (Nat.add_assoc _ _ _))⟩); have hnb74 := NB177_170.out; have hnc74 := NB170_177.out; obtain ⟨hcz75_0, hcz75_1⟩ := c2 BK177; have hfz75_0 := blk_frozen BK177.out 0; have hfz75_1 := blk_frozen BK177.out 1; have p54 : 0 ≤ (x11_2 : Int) := of_decide_eq_true (by first | (with_reducible assumption) | assumption); have q54 : (x11_2 : Int) < ((x178001_2.length : Int) : Int) := of_decide_eq_true (by first | (with_reducible assumption) | assumption); obtain ⟨go54, co54, eo54, gb54, gl54, cl54, HG54⟩ := Kd.R_form HO_178001.out (by omega); (first | cases eo54 | (injection eo54 with ea_ en_ ec_; (first | subst ea_ | (injection ea_ with ea_; subst ea_)); subst ec_; clear en_)); have GB54 := Aside0.mk gb54; have GG54 := Aside0.mk HG54; clear gb54 gl54 HG54; obtain ⟨hx54_0, hf54_0⟩ := Kd.R_celln 0 HO_178001.out (x11_2 : Int) p54 q54; replace p54 := eq_true p54; replace q54 := eq_true q54; obtain ⟨hy76_, hz76_⟩ := Kd.R_celln 0 HO_178001.out (x11_2 : Int) (of_decide_eq_true (by first | (with_reducible assumption) | assumption)) (of_decide_eq_true (by first | (with_reducible assumption) | assumption)); have HP76 := Kd.R_putg HO_178001.out (x11_2 : Int) t180) | ((with_reducible refine gate_store (t := 3) (p := 62) rfl ?_); (try (rw [drewN_self wr]; generalize hq_ : World.drewN wr _ = wr; have n0_ := Aside0.mk (Kd.R_at hq_ HO_178001.out); have n1_ := Aside0.mk (blk_at hq_ BK168.out); have n2_ := Aside0.mk (blk_at hq_ BK169.out); have n3_ := Aside0.mk (blk_at hq_ BK170.out); have n4_ := Aside0.mk (blk_at hq_ BK177.out); have n5_ := Aside0.mk (below_at hq_ HB.out); clear hq_ HO_178001 BK168 BK169 BK170 BK177 HB; have HO_178001 := n0_; have BK168 := n1_; have BK169 := n2_; have BK170 := n3_; have BK177 := n4_; have HB := n5_; clear n0_ n1_ n2_ n3_ n4_ n5_; (try (obtain ⟨hy76_, hz76_⟩ := Kd.R_celln 0 HO_178001.out (x11_2 : Int) (of_decide_eq_true (by first | (with_reducible assumption) | assumption)) (of_decide_eq_true (by first | (with_reducible assumption) | assumption)))); (try (have HP76 := Kd.R_putg HO_178001.out (x11_2 : Int) t180)))); refine store_event (t := 3) (p := 62) (v := ?vo_w77) (w1 := (wr.setCell ⟨go54, (x11_2 : Int).toNat, none⟩ (.int .i64 t180))) ?hg ?ho ?hn ?hr ?_; (case ho => rfl); (case hg => rfl); (case hn => rfl); (case hr => first | (go_simp; done) | (go_simp; rfl)); intro w77 hw; have hg : wr.grownBy w77 (some go54) := (by rw [hw]; exact HP76.2); have hp_ : Kd.R (Kd.int .i64) 3 w77 w.heap.size (fun _ => True) (.slice (some ⟨go54, 0, none⟩) x178001_2.length co54) y182 := (by rw [hw, Ny182.out]; exact HP76.1); clear HP76; have n0_ := Aside0.mk (hp_); have n1_ := Aside0.mk (blk_grown (g := gb168) (o := .cells #[.int .i64 a0_0, .slice (some ad178) l0_1.length c0_1] 29 (0, 0)) (mb BK168) hg (Kd.R_ne HO_178001.out BK168.out (by decide))); have n2_ := Aside0.mk (blk_grown (g := gb169) (o := .cells #[.int .i64 a2_0, .slice (some ad179) l2_1.length c2_1] 29 (0, 0)) (mb BK169) hg (Kd.R_ne HO_178001.out BK169.out (by decide))); have n3_ := Aside0.mk (blk_grown (g := gb170) (o := .cells #[.int .i64 0, .slice none 0 0] 29 (0, 0)) (mb BK170) hg (Kd.R_ne HO_178001.out BK170.out (by decide))); have n4_ := Aside0.mk (blk_grown (g := gb177) (o := .cells #[.int .i64 0, .slice (some ⟨go54, 0, none⟩) x178001_2.length co54] 29 (0, 0)) (mb BK177) hg (Kd.R_ne HO_178001.out BK177.out (by decide))); have n5_ := Aside0.mk ((by rw [hw]; exact below_set (HB.out) GB54.out : Below w.heap.size w w77)); clear HO_178001 BK168 BK169 BK170 BK177 HB; have HO_178001 := n0_; have BK168 := n1_; have BK169 := n2_; have BK170 := n3_; have BK177 := n4_; have HB := n5_; clear n0_ n1_ n2_ n3_ n4_ n5_; clear hg hw hp_))
              repeat (go_quiet (first | (go_at_call 130; (with_reducible refine (spec_l4Sum.calls (rd l0_1 x11_2) a1 (rd l2_1 x11_2) t180 t181 _ A52.out).mono ?_); rintro e w' ⟨rfl, ⟨nd, rfl⟩⟩; (try first | exact ⟨rfl, _, World.drewN_drewN _ _ _⟩ | exact ⟨rfl, _, Eq.trans (World.drewN_drewN _ _ _) (congrArg (World.drewN _) (Nat.add_assoc _ _ _))⟩); have hnb74 := NB177_170.out; have hnc74 := NB170_177.out; obtain ⟨hcz75_0, hcz75_1⟩ := c2 BK177; have hfz75_0 := blk_frozen BK177.out 0; have hfz75_1 := blk_frozen BK177.out 1; have p54 : 0 ≤ (x11_2 : Int) := of_decide_eq_true (by first | (with_reducible assumption) | assumption); have q54 : (x11_2 : Int) < ((x178001_2.length : Int) : Int) := of_decide_eq_true (by first | (with_reducible assumption) | assumption); obtain ⟨go54, co54, eo54, gb54, gl54, cl54, HG54⟩ := Kd.R_form HO_178001.out (by omega); (first | cases eo54 | (injection eo54 with ea_ en_ ec_; (first | subst ea_ | (injection ea_ with ea_; subst ea_)); subst ec_; clear en_)); have GB54 := Aside0.mk gb54; have GG54 := Aside0.mk HG54; clear gb54 gl54 HG54; obtain ⟨hx54_0, hf54_0⟩ := Kd.R_celln 0 HO_178001.out (x11_2 : Int) p54 q54; replace p54 := eq_true p54; replace q54 := eq_true q54; obtain ⟨hy76_, hz76_⟩ := Kd.R_celln 0 HO_178001.out (x11_2 : Int) (of_decide_eq_true (by first | (with_reducible assumption) | assumption)) (of_decide_eq_true (by first | (with_reducible assumption) | assumption)); have HP76 := Kd.R_putg HO_178001.out (x11_2 : Int) t180) | ((with_reducible refine gate_store (t := 3) (p := 62) rfl ?_); (try (rw [drewN_self wr]; generalize hq_ : World.drewN wr _ = wr; have n0_ := Aside0.mk (Kd.R_at hq_ HO_178001.out); have n1_ := Aside0.mk (blk_at hq_ BK168.out); have n2_ := Aside0.mk (blk_at hq_ BK169.out); have n3_ := Aside0.mk (blk_at hq_ BK170.out); have n4_ := Aside0.mk (blk_at hq_ BK177.out); have n5_ := Aside0.mk (below_at hq_ HB.out); clear hq_ HO_178001 BK168 BK169 BK170 BK177 HB; have HO_178001 := n0_; have BK168 := n1_; have BK169 := n2_; have BK170 := n3_; have BK177 := n4_; have HB := n5_; clear n0_ n1_ n2_ n3_ n4_ n5_; (try (obtain ⟨hy76_, hz76_⟩ := Kd.R_celln 0 HO_178001.out (x11_2 : Int) (of_decide_eq_true (by first | (with_reducible assumption) | assumption)) (of_decide_eq_true (by first | (with_reducible assumption) | assumption)))); (try (have HP76 := Kd.R_putg HO_178001.out (x11_2 : Int) t180)))); refine store_event (t := 3) (p := 62) (v := ?vo_w77) (w1 := (wr.setCell ⟨go54, (x11_2 : Int).toNat, none⟩ (.int .i64 t180))) ?hg ?ho ?hn ?hr ?_; (case ho => rfl); (case hg => rfl); (case hn => rfl); (case hr => first | (go_simp; done) | (go_simp; rfl)); intro w77 hw; have hg : wr.grownBy w77 (some go54) := (by rw [hw]; exact HP76.2); have hp_ : Kd.R (Kd.int .i64) 3 w77 w.heap.size (fun _ => True) (.slice (some ⟨go54, 0, none⟩) x178001_2.length co54) y182 := (by rw [hw, Ny182.out]; exact HP76.1); clear HP76; have n0_ := Aside0.mk (hp_); have n1_ := Aside0.mk (blk_grown (g := gb168) (o := .cells #[.int .i64 a0_0, .slice (some ad178) l0_1.length c0_1] 29 (0, 0)) (mb BK168) hg (Kd.R_ne HO_178001.out BK168.out (by decide))); have n2_ := Aside0.mk (blk_grown (g := gb169) (o := .cells #[.int .i64 a2_0, .slice (some ad179) l2_1.length c2_1] 29 (0, 0)) (mb BK169) hg (Kd.R_ne HO_178001.out BK169.out (by decide))); have n3_ := Aside0.mk (blk_grown (g := gb170) (o := .cells #[.int .i64 0, .slice none 0 0] 29 (0, 0)) (mb BK170) hg (Kd.R_ne HO_178001.out BK170.out (by decide))); have n4_ := Aside0.mk (blk_grown (g := gb177) (o := .cells #[.int .i64 0, .slice (some ⟨go54, 0, none⟩) x178001_2.length co54] 29 (0, 0)) (mb BK177) hg (Kd.R_ne HO_178001.out BK177.out (by decide))); have n5_ := Aside0.mk ((by rw [hw]; exact below_set (HB.out) GB54.out : Below w.heap.size w w77)); clear HO_178001 BK168 BK169 BK170 BK177 HB; have HO_178001 := n0_; have BK168 := n1_; have BK169 := n2_; have BK170 := n3_; have BK177 := n4_; have HB := n5_; clear n0_ n1_ n2_ n3_ n4_ n5_; clear hg hw hp_)); try go_wp2_with (first | (go_at_call 130; (with_reducible refine (spec_l4Sum.calls (rd l0_1 x11_2) a1 (rd l2_1 x11_2) t180 t181 _ A52.out).mono ?_); rintro e w' ⟨rfl, ⟨nd, rfl⟩⟩; (try first | exact ⟨rfl, _, World.drewN_drewN _ _ _⟩ | exact ⟨rfl, _, Eq.trans (World.drewN_drewN _ _ _) (congrArg (World.drewN _) (Nat.add_assoc _ _ _))⟩); have hnb74 := NB177_170.out; have hnc74 := NB170_177.out; obtain ⟨hcz75_0, hcz75_1⟩ := c2 BK177; have hfz75_0 := blk_frozen BK177.out 0; have hfz75_1 := blk_frozen BK177.out 1; have p54 : 0 ≤ (x11_2 : Int) := of_decide_eq_true (by first | (with_reducible assumption) | assumption); have q54 : (x11_2 : Int) < ((x178001_2.length : Int) : Int) := of_decide_eq_true (by first | (with_reducible assumption) | assumption); obtain ⟨go54, co54, eo54, gb54, gl54, cl54, HG54⟩ := Kd.R_form HO_178001.out (by omega); (first | cases eo54 | (injection eo54 with ea_ en_ ec_; (first | subst ea_ | (injection ea_ with ea_; subst ea_)); subst ec_; clear en_)); have GB54 := Aside0.mk gb54; have GG54 := Aside0.mk HG54; clear gb54 gl54 HG54; obtain ⟨hx54_0, hf54_0⟩ := Kd.R_celln 0 HO_178001.out (x11_2 : Int) p54 q54; replace p54 := eq_true p54; replace q54 := eq_true q54; obtain ⟨hy76_, hz76_⟩ := Kd.R_celln 0 HO_178001.out (x11_2 : Int) (of_decide_eq_true (by first | (with_reducible assumption) | assumption)) (of_decide_eq_true (by first | (with_reducible assumption) | assumption)); have HP76 := Kd.R_putg HO_178001.out (x11_2 : Int) t180) | ((with_reducible refine gate_store (t := 3) (p := 62) rfl ?_); (try (rw [drewN_self wr]; generalize hq_ : World.drewN wr _ = wr; have n0_ := Aside0.mk (Kd.R_at hq_ HO_178001.out); have n1_ := Aside0.mk (blk_at hq_ BK168.out); have n2_ := Aside0.mk (blk_at hq_ BK169.out); have n3_ := Aside0.mk (blk_at hq_ BK170.out); have n4_ := Aside0.mk (blk_at hq_ BK177.out); have n5_ := Aside0.mk (below_at hq_ HB.out); clear hq_ HO_178001 BK168 BK169 BK170 BK177 HB; have HO_178001 := n0_; have BK168 := n1_; have BK169 := n2_; have BK170 := n3_; have BK177 := n4_; have HB := n5_; clear n0_ n1_ n2_ n3_ n4_ n5_; (try (obtain ⟨hy76_, hz76_⟩ := Kd.R_celln 0 HO_178001.out (x11_2 : Int) (of_decide_eq_true (by first | (with_reducible assumption) | assumption)) (of_decide_eq_true (by first | (with_reducible assumption) | assumption)))); (try (have HP76 := Kd.R_putg HO_178001.out (x11_2 : Int) t180)))); refine store_event (t := 3) (p := 62) (v := ?vo_w77) (w1 := (wr.setCell ⟨go54, (x11_2 : Int).toNat, none⟩ (.int .i64 t180))) ?hg ?ho ?hn ?hr ?_; (case ho => rfl); (case hg => rfl); (case hn => rfl); (case hr => first | (go_simp; done) | (go_simp; rfl)); intro w77 hw; have hg : wr.grownBy w77 (some go54) := (by rw [hw]; exact HP76.2); have hp_ : Kd.R (Kd.int .i64) 3 w77 w.heap.size (fun _ => True) (.slice (some ⟨go54, 0, none⟩) x178001_2.length co54) y182 := (by rw [hw, Ny182.out]; exact HP76.1); clear HP76; have n0_ := Aside0.mk (hp_); have n1_ := Aside0.mk (blk_grown (g := gb168) (o := .cells #[.int .i64 a0_0, .slice (some ad178) l0_1.length c0_1] 29 (0, 0)) (mb BK168) hg (Kd.R_ne HO_178001.out BK168.out (by decide))); have n2_ := Aside0.mk (blk_grown (g := gb169) (o := .cells #[.int .i64 a2_0, .slice (some ad179) l2_1.length c2_1] 29 (0, 0)) (mb BK169) hg (Kd.R_ne HO_178001.out BK169.out (by decide))); have n3_ := Aside0.mk (blk_grown (g := gb170) (o := .cells #[.int .i64 0, .slice none 0 0] 29 (0, 0)) (mb BK170) hg (Kd.R_ne HO_178001.out BK170.out (by decide))); have n4_ := Aside0.mk (blk_grown (g := gb177) (o := .cells #[.int .i64 0, .slice (some ⟨go54, 0, none⟩) x178001_2.length co54] 29 (0, 0)) (mb BK177) hg (Kd.R_ne HO_178001.out BK177.out (by decide))); have n5_ := Aside0.mk ((by rw [hw]; exact below_set (HB.out) GB54.out : Below w.heap.size w w77)); clear HO_178001 BK168 BK169 BK170 BK177 HB; have HO_178001 := n0_; have BK168 := n1_; have BK169 := n2_; have BK170 := n3_; have BK177 := n4_; have HB := n5_; clear n0_ n1_ n2_ n3_ n4_ n5_; clear hg hw hp_)))
              go_roundg k2
              case measure => have := HJ3.out; have := HK2.out; omega
              case rel => exact ⟨(false), (wrap64 (x11_2 + 1)), (y182), (.slice (some ⟨go54, 0, none⟩) x178001_2.length co54), (by first | rfl | (simp; done) | (simp [*]; done)), (by first | rfl | (simp; done) | (simp [*]; done)), H', ⟨by have := HJ3.out; have := HK2.out; omega⟩, ⟨by (with_reducible repeat (first | apply Kd.R_alloc | apply Kd.R_drewN | apply Kd.R_drew)); exact HO_178001.out⟩, ⟨mb BK168⟩, ⟨mb BK169⟩, ⟨mb BK170⟩, ⟨mb BK177⟩, ⟨ms HB⟩⟩
            ·rw [if_neg c53] at H
             exact absurd H (by simp)
           ·rw [if_neg c51] at H
            exact absurd H (by simp)
          ·rw [if_neg c50] at H
           exact absurd H (by simp)
         ·rw [if_neg c49] at H
          exact absurd H (by simp)
        ·rw [if_neg c48] at H
         have c48b0 : decide (x11_2 < (l0_1.length : Int)) = false := decide_eq_false c48
         clear c48
         replace H := Option.bind_eq_some_iff.mp H
         obtain ⟨⟨t183, t184⟩, A780, H⟩ := H
         replace H : (if x10_2 = true then (if t184 = true then (some (t183, x178001_2, true)) else (some (0, ([] : List Int), false))) else (some (0, ([] : List Int), false))) = some (r1, r2, r3) := H
         have A78 := Aside0.mk A780
         clear A780
         by_cases c79 : x10_2 = true
         ·subst c79
          have H1 : (if t184 = true then (some (t183, x178001_2, true)) else (some (0, ([] : List Int), false))) = some (r1, r2, r3) := by rw [if_pos rfl] at H; exact H
          clear H
          have H := H1
          clear H1
          by_cases c80 : t184 = true
          ·subst c80
           have H1 : (some (t183, x178001_2, true)) = some (r1, r2, r3) := by rw [if_pos rfl] at H; exact H
           clear H
           have H := H1
           clear H1
           simp only [Option.some.injEq, Prod.mk.injEq] at H
           obtain ⟨rfl, rfl, rfl⟩ := H
           have hnb81 := NB168_169.out
           have hnc81 := NB169_168.out
           have hnb82 := NB168_170.out
           have hnc82 := NB170_168.out
           have hnb83 := NB168_177.out
           have hnc83 := NB177_168.out
           obtain ⟨hcz84_0, hcz84_1⟩ := c2 BK168
           have hfz84_0 := blk_frozen BK168.out 0
           have hfz84_1 := blk_frozen BK168.out 1
           have hnb85 := NB169_170.out
           have hnc85 := NB170_169.out
           have hnb86 := NB169_177.out
           have hnc86 := NB177_169.out
           obtain ⟨hcz87_0, hcz87_1⟩ := c2 BK169
           have hfz87_0 := blk_frozen BK169.out 0
           have hfz87_1 := blk_frozen BK169.out 1
           go_wp2_with (first | (go_at_call 130; (with_reducible refine (spec_l4Sum.calls a0_0 a1 a2_0 t183 true _ A78.out).mono ?_); rintro e w' ⟨rfl, ⟨nd, rfl⟩⟩; (try first | exact ⟨rfl, _, World.drewN_drewN _ _ _⟩ | exact ⟨rfl, _, Eq.trans (World.drewN_drewN _ _ _) (congrArg (World.drewN _) (Nat.add_assoc _ _ _))⟩); have hnb88 := NB177_170.out; have hnc88 := NB170_177.out; obtain ⟨hcz89_0, hcz89_1⟩ := c2 BK177; have hfz89_0 := blk_frozen BK177.out 0; have hfz89_1 := blk_frozen BK177.out 1; obtain ⟨hcz90_0, hcz90_1⟩ := c2 BK170; have hfz90_0 := blk_frozen BK170.out 0; have hfz90_1 := blk_frozen BK170.out 1; obtain ⟨Ao91, co91, eo91⟩ := Kd.R_slice HO_178001.out; subst eo91))
           repeat (go_quiet (first | (go_at_call 130; (with_reducible refine (spec_l4Sum.calls a0_0 a1 a2_0 t183 true _ A78.out).mono ?_); rintro e w' ⟨rfl, ⟨nd, rfl⟩⟩; (try first | exact ⟨rfl, _, World.drewN_drewN _ _ _⟩ | exact ⟨rfl, _, Eq.trans (World.drewN_drewN _ _ _) (congrArg (World.drewN _) (Nat.add_assoc _ _ _))⟩); have hnb88 := NB177_170.out; have hnc88 := NB170_177.out; obtain ⟨hcz89_0, hcz89_1⟩ := c2 BK177; have hfz89_0 := blk_frozen BK177.out 0; have hfz89_1 := blk_frozen BK177.out 1; obtain ⟨hcz90_0, hcz90_1⟩ := c2 BK170; have hfz90_0 := blk_frozen BK170.out 0; have hfz90_1 := blk_frozen BK170.out 1; obtain ⟨Ao91, co91, eo91⟩ := Kd.R_slice HO_178001.out; subst eo91)); try go_wp2_with (first | (go_at_call 130; (with_reducible refine (spec_l4Sum.calls a0_0 a1 a2_0 t183 true _ A78.out).mono ?_); rintro e w' ⟨rfl, ⟨nd, rfl⟩⟩; (try first | exact ⟨rfl, _, World.drewN_drewN _ _ _⟩ | exact ⟨rfl, _, Eq.trans (World.drewN_drewN _ _ _) (congrArg (World.drewN _) (Nat.add_assoc _ _ _))⟩); have hnb88 := NB177_170.out; have hnc88 := NB170_177.out; obtain ⟨hcz89_0, hcz89_1⟩ := c2 BK177; have hfz89_0 := blk_frozen BK177.out 0; have hfz89_1 := blk_frozen BK177.out 1; obtain ⟨hcz90_0, hcz90_1⟩ := c2 BK170; have hfz90_0 := blk_frozen BK170.out 0; have hfz90_1 := blk_frozen BK170.out 1; obtain ⟨Ao91, co91, eo91⟩ := Kd.R_slice HO_178001.out; subst eo91)))
           refine bodyPost_ret (results_ct rfl _ _ gb170 29 #[.int .i64 t183, .slice Ao91 x178001_2.length co91] (0, 0) _ rfl (by (with_reducible repeat (first | refine blk_drewN ?_ _ | refine blk_drew ?_ | refine blk_alloc ?_ _)); refine blk_put (cs := #[.int .i64 t183, .slice none 0 0]) ?_ 1 _ rfl; (with_reducible repeat (first | refine blk_drewN ?_ _ | refine blk_drew ?_ | refine blk_alloc ?_ _)); refine blk_put (cs := #[.int .i64 0, .slice none 0 0]) ?_ 0 _ rfl; (with_reducible repeat (first | refine blk_drewN ?_ _ | refine blk_drew ?_ | refine blk_alloc ?_ _)); refine blk_far ?_ NB170_177.out _; (with_reducible repeat (first | refine blk_drewN ?_ _ | refine blk_drew ?_ | refine blk_alloc ?_ _)); exact BK170.out) Try.underlying29 rfl (by kernel_rfl)) rfl ?_
           exact ⟨_, by first | rfl | (simp [errW_none, errW_some] <;> rfl) | (simp [*, errW_none, errW_some] <;> rfl), by (with_reducible repeat (first | apply Kd.R_alloc | apply Kd.R_drewN | apply Kd.R_drew)); exact Kd.R_mono (Kd.R_far (p := ⟨gb170, 1, none⟩) (Kd.R_far (p := ⟨gb170, 0, none⟩) (Kd.R_far (p := ⟨gb177, 0, none⟩) (Kd.R_types (Kd.R_types HO_178001.out BK177.out (by decide)) BK170.out (by decide)) (fun _ hk => hk.1.2) (.int .i64 t183)) (fun _ hk => hk.2) (.int .i64 t183)) (fun _ hk => hk.2) (.slice Ao91 x178001_2.length co91)) (fun _ hk => trivial), ms HB⟩
          ·replace c80 := Bool.eq_false_iff.mpr c80
           subst c80
           have H1 : (some (0, ([] : List Int), false)) = some (r1, r2, r3) := by rw [if_neg (show ¬ (false = true) by decide)] at H; exact H
           clear H
           have H := H1
           clear H1
           simp only [Option.some.injEq, Prod.mk.injEq] at H
           obtain ⟨rfl, rfl, rfl⟩ := H
           have hnb92 := NB168_169.out
           have hnc92 := NB169_168.out
           have hnb93 := NB168_170.out
           have hnc93 := NB170_168.out
           have hnb94 := NB168_177.out
           have hnc94 := NB177_168.out
           obtain ⟨hcz95_0, hcz95_1⟩ := c2 BK168
           have hfz95_0 := blk_frozen BK168.out 0
           have hfz95_1 := blk_frozen BK168.out 1
           have hnb96 := NB169_170.out
           have hnc96 := NB170_169.out
           have hnb97 := NB169_177.out
           have hnc97 := NB177_169.out
           obtain ⟨hcz98_0, hcz98_1⟩ := c2 BK169
           have hfz98_0 := blk_frozen BK169.out 0
           have hfz98_1 := blk_frozen BK169.out 1
           go_wp2_with (first | (go_at_call 130; (with_reducible refine (spec_l4Sum.calls a0_0 a1 a2_0 t183 false _ A78.out).mono ?_); rintro e w' ⟨rfl, ⟨nd, rfl⟩⟩; (try first | exact ⟨rfl, _, World.drewN_drewN _ _ _⟩ | exact ⟨rfl, _, Eq.trans (World.drewN_drewN _ _ _) (congrArg (World.drewN _) (Nat.add_assoc _ _ _))⟩); have hnb99 := NB170_177.out; have hnc99 := NB177_170.out; obtain ⟨hcz100_0, hcz100_1⟩ := c2 BK170; have hfz100_0 := blk_frozen BK170.out 0; have hfz100_1 := blk_frozen BK170.out 1))
           repeat (go_quiet (first | (go_at_call 130; (with_reducible refine (spec_l4Sum.calls a0_0 a1 a2_0 t183 false _ A78.out).mono ?_); rintro e w' ⟨rfl, ⟨nd, rfl⟩⟩; (try first | exact ⟨rfl, _, World.drewN_drewN _ _ _⟩ | exact ⟨rfl, _, Eq.trans (World.drewN_drewN _ _ _) (congrArg (World.drewN _) (Nat.add_assoc _ _ _))⟩); have hnb99 := NB170_177.out; have hnc99 := NB177_170.out; obtain ⟨hcz100_0, hcz100_1⟩ := c2 BK170; have hfz100_0 := blk_frozen BK170.out 0; have hfz100_1 := blk_frozen BK170.out 1)); try go_wp2_with (first | (go_at_call 130; (with_reducible refine (spec_l4Sum.calls a0_0 a1 a2_0 t183 false _ A78.out).mono ?_); rintro e w' ⟨rfl, ⟨nd, rfl⟩⟩; (try first | exact ⟨rfl, _, World.drewN_drewN _ _ _⟩ | exact ⟨rfl, _, Eq.trans (World.drewN_drewN _ _ _) (congrArg (World.drewN _) (Nat.add_assoc _ _ _))⟩); have hnb99 := NB170_177.out; have hnc99 := NB177_170.out; obtain ⟨hcz100_0, hcz100_1⟩ := c2 BK170; have hfz100_0 := blk_frozen BK170.out 0; have hfz100_1 := blk_frozen BK170.out 1)))
           refine bodyPost_ret (results_ct rfl _ _ gb170 29 #[.int .i64 0, .slice none 0 0] (0, 0) _ rfl (by (with_reducible repeat (first | refine blk_drewN ?_ _ | refine blk_drew ?_ | refine blk_alloc ?_ _)); refine blk_put (cs := #[.int .i64 0, .slice none 0 0]) ?_ 1 _ rfl; (with_reducible repeat (first | refine blk_drewN ?_ _ | refine blk_drew ?_ | refine blk_alloc ?_ _)); refine blk_put (cs := #[.int .i64 0, .slice none 0 0]) ?_ 0 _ rfl; (with_reducible repeat (first | refine blk_drewN ?_ _ | refine blk_drew ?_ | refine blk_alloc ?_ _)); exact BK170.out) Try.underlying29 rfl (by kernel_rfl)) rfl ?_
           exact ⟨_, by first | rfl | (simp [errW_none, errW_some] <;> rfl) | (simp [*, errW_none, errW_some] <;> rfl), by first | exact Kd.R_nil _ _ _ _ _ | exact Kd.N_nil _ _ _ _ _ | exact Kd.V_nil _ _ _ _ _ | exact Kd.Q_nil _ _ _ _ _ | exact Kd.S_nil _ _ _ _ _, ms HB⟩
         ·replace c79 := Bool.eq_false_iff.mpr c79
          subst c79
          have H1 : (some (0, ([] : List Int), false)) = some (r1, r2, r3) := by rw [if_neg (show ¬ (false = true) by decide)] at H; exact H
          clear H
          have H := H1
          clear H1
          simp only [Option.some.injEq, Prod.mk.injEq] at H
          obtain ⟨rfl, rfl, rfl⟩ := H
          have hnb101 := NB168_169.out
          have hnc101 := NB169_168.out
          have hnb102 := NB168_170.out
          have hnc102 := NB170_168.out
          have hnb103 := NB168_177.out
          have hnc103 := NB177_168.out
          obtain ⟨hcz104_0, hcz104_1⟩ := c2 BK168
          have hfz104_0 := blk_frozen BK168.out 0
          have hfz104_1 := blk_frozen BK168.out 1
          have hnb105 := NB169_170.out
          have hnc105 := NB170_169.out
          have hnb106 := NB169_177.out
          have hnc106 := NB177_169.out
          obtain ⟨hcz107_0, hcz107_1⟩ := c2 BK169
          have hfz107_0 := blk_frozen BK169.out 0
          have hfz107_1 := blk_frozen BK169.out 1
          go_wp2_with (first | (go_at_call 130; (with_reducible refine (spec_l4Sum.calls a0_0 a1 a2_0 t183 t184 _ A78.out).mono ?_); rintro e w' ⟨rfl, ⟨nd, rfl⟩⟩; (try first | exact ⟨rfl, _, World.drewN_drewN _ _ _⟩ | exact ⟨rfl, _, Eq.trans (World.drewN_drewN _ _ _) (congrArg (World.drewN _) (Nat.add_assoc _ _ _))⟩); have hnb108 := NB170_177.out; have hnc108 := NB177_170.out; obtain ⟨hcz109_0, hcz109_1⟩ := c2 BK170; have hfz109_0 := blk_frozen BK170.out 0; have hfz109_1 := blk_frozen BK170.out 1))
          repeat (go_quiet (first | (go_at_call 130; (with_reducible refine (spec_l4Sum.calls a0_0 a1 a2_0 t183 t184 _ A78.out).mono ?_); rintro e w' ⟨rfl, ⟨nd, rfl⟩⟩; (try first | exact ⟨rfl, _, World.drewN_drewN _ _ _⟩ | exact ⟨rfl, _, Eq.trans (World.drewN_drewN _ _ _) (congrArg (World.drewN _) (Nat.add_assoc _ _ _))⟩); have hnb108 := NB170_177.out; have hnc108 := NB177_170.out; obtain ⟨hcz109_0, hcz109_1⟩ := c2 BK170; have hfz109_0 := blk_frozen BK170.out 0; have hfz109_1 := blk_frozen BK170.out 1)); try go_wp2_with (first | (go_at_call 130; (with_reducible refine (spec_l4Sum.calls a0_0 a1 a2_0 t183 t184 _ A78.out).mono ?_); rintro e w' ⟨rfl, ⟨nd, rfl⟩⟩; (try first | exact ⟨rfl, _, World.drewN_drewN _ _ _⟩ | exact ⟨rfl, _, Eq.trans (World.drewN_drewN _ _ _) (congrArg (World.drewN _) (Nat.add_assoc _ _ _))⟩); have hnb108 := NB170_177.out; have hnc108 := NB177_170.out; obtain ⟨hcz109_0, hcz109_1⟩ := c2 BK170; have hfz109_0 := blk_frozen BK170.out 0; have hfz109_1 := blk_frozen BK170.out 1)))
          refine bodyPost_ret (results_ct rfl _ _ gb170 29 #[.int .i64 0, .slice none 0 0] (0, 0) _ rfl (by (with_reducible repeat (first | refine blk_drewN ?_ _ | refine blk_drew ?_ | refine blk_alloc ?_ _)); refine blk_put (cs := #[.int .i64 0, .slice none 0 0]) ?_ 1 _ rfl; (with_reducible repeat (first | refine blk_drewN ?_ _ | refine blk_drew ?_ | refine blk_alloc ?_ _)); refine blk_put (cs := #[.int .i64 0, .slice none 0 0]) ?_ 0 _ rfl; (with_reducible repeat (first | refine blk_drewN ?_ _ | refine blk_drew ?_ | refine blk_alloc ?_ _)); exact BK170.out) Try.underlying29 rfl (by kernel_rfl)) rfl ?_
          exact ⟨_, by first | rfl | (simp [errW_none, errW_some] <;> rfl) | (simp [*, errW_none, errW_some] <;> rfl), by first | exact Kd.R_nil _ _ _ _ _ | exact Kd.N_nil _ _ _ _ _ | exact Kd.V_nil _ _ _ _ _ | exact Kd.Q_nil _ _ _ _ _ | exact Kd.S_nil _ _ _ _ _, ms HB⟩
     ·rw [if_neg c39] at H
      exact absurd H (by simp)
    ·rw [if_neg c38] at H
     exact absurd H (by simp)

/-! ### spec_ConstLin: function 82 -/
def spec_ConstLin.f (a0 : Int) (a1 : Int) : Option (Int × List Int) := (spec_l1In.f a1 0 8).bind fun t186 => (if t186 = true then ((spec_l3In.f a0).bind fun t187 => (if t187 = true then (if 0 ≤ a1 then (if (a1 : Int).toNat ≤ 35184372088832 then (some (a0, (List.replicate (a1 : Int).toNat 0))) else (none)) else (none)) else (some (0, ([] : List Int))))) else (some (0, ([] : List Int))))
set_option maxHeartbeats 8000000 in
set_option maxRecDepth 100000 in
theorem spec_ConstLin.calls (a0 : Int) (a1 : Int) (r1 : Int) (r2 : List Int) (w : World) (h : spec_ConstLin.f a0 a1 = some (r1, r2)) :
  Calls Try.prog 82 #[.int .i64 a0, .int .i64 a1] w fun e w' => ∃ v1_ : Value, e = .returned (.agg #[.int .i64 r1, v1_]) ∧ Kd.R (Kd.int .i64) 3 w' w.heap.size (fun _ => True) v1_ r2 ∧ Below w.heap.size w w' := by
 have hu29 := Try.underlying29
 have HB := Aside0.mk (Below.refl w.heap.size w)
 have H : ((spec_l1In.f a1 0 8).bind fun t186 => (if t186 = true then ((spec_l3In.f a0).bind fun t187 => (if t187 = true then (if 0 ≤ a1 then (if (a1 : Int).toNat ≤ 35184372088832 then (some (a0, (List.replicate (a1 : Int).toNat 0))) else (none)) else (none)) else (some (0, ([] : List Int))))) else (some (0, ([] : List Int))))) = some (r1, r2) := h
 clear h
 replace H := Option.bind_eq_some_iff.mp H
 obtain ⟨t186, A30, H⟩ := H
 replace H : (if t186 = true then ((spec_l3In.f a0).bind fun t187 => (if t187 = true then (if 0 ≤ a1 then (if (a1 : Int).toNat ≤ 35184372088832 then (some (a0, (List.replicate (a1 : Int).toNat 0))) else (none)) else (none)) else (some (0, ([] : List Int))))) else (some (0, ([] : List Int)))) = some (r1, r2) := H
 have A3 := Aside0.mk A30
 clear A30
 by_cases c4 : t186 = true
 ·subst c4
  have H1 : ((spec_l3In.f a0).bind fun t187 => (if t187 = true then (if 0 ≤ a1 then (if (a1 : Int).toNat ≤ 35184372088832 then (some (a0, (List.replicate (a1 : Int).toNat 0))) else (none)) else (none)) else (some (0, ([] : List Int))))) = some (r1, r2) := by rw [if_pos rfl] at H; exact H
  clear H
  have H := H1
  clear H1
  replace H := Option.bind_eq_some_iff.mp H
  obtain ⟨t187, A50, H⟩ := H
  replace H : (if t187 = true then (if 0 ≤ a1 then (if (a1 : Int).toNat ≤ 35184372088832 then (some (a0, (List.replicate (a1 : Int).toNat 0))) else (none)) else (none)) else (some (0, ([] : List Int)))) = some (r1, r2) := H
  have A5 := Aside0.mk A50
  clear A50
  by_cases c6 : t187 = true
  ·subst c6
   have H1 : (if 0 ≤ a1 then (if (a1 : Int).toNat ≤ 35184372088832 then (some (a0, (List.replicate (a1 : Int).toNat 0))) else (none)) else (none)) = some (r1, r2) := by rw [if_pos rfl] at H; exact H
   clear H
   have H := H1
   clear H1
   by_cases c7 : 0 ≤ a1
   ·rw [if_pos c7] at H
    have c7b0 := eq_true c7
    have c7b1 : decide (0 ≤ a1) = true := decide_eq_true c7
    clear c7
    by_cases c8 : (a1 : Int).toNat ≤ 35184372088832
    ·rw [if_pos c8] at H
     have c8b0 := eq_true c8
     have c8b1 : decide ((a1 : Int).toNat ≤ 35184372088832) = true := decide_eq_true c8
     clear c8
     obtain ⟨y188, hy188⟩ : ∃ y_ : List Int, y_ = (List.replicate (a1 : Int).toNat 0) := ⟨_, rfl⟩
     replace H : (some (a0, y188)) = some (r1, r2) := by first | (rw [hy188]; with_reducible exact H) | (have H2_ := (Option.bind_some _ _).symm.trans H; rw [hy188]; with_reducible exact H2_) | (have H2_ := (Option.bind_some _ _).symm.trans H; with_reducible exact H2_) | with_reducible exact H | (rw [hy188]; exact H) | exact H
     have Ny188 := Aside0.mk hy188
     clear hy188
     simp only [Option.some.injEq, Prod.mk.injEq] at H
     obtain ⟨rfl, rfl⟩ := H
     go_enter Try.func82, Try.ntmps82
     go_wp2_with (first | ((with_reducible refine gate_dst (N := 4) rfl ?_); refine box_event ?hg (N := 4) ?hd (cs := #[.int .i64 0, .slice none 0 0]) (t := 29) ?hr ?_; (case hd => rfl); (case hg => rfl); (case hr => first | (go_simp; done) | (go_simp; rfl)); intro gb185 hg w9 hbox hb; have BK185 := Aside0.mk (hbox); have GW185 := gw hg HB; have GE185 := gw hg HB; replace HB := bs HB hb; clear hb hbox hg) | ((with_reducible refine gate_callee (f := 85) rfl ?_); refine gl (some 6) rfl rfl Try.func85 (by kernel_rfl) rfl #[.int .i64 a1, .int .i64 0, .int .i64 8] rfl ?_; (with_reducible refine (spec_l1In.calls a1 0 8 true _ A3.out).mono ?_); rintro e w' ⟨rfl, ⟨nd, rfl⟩⟩; refine ⟨_, rfl, ?_⟩; (try (rw [drewN_self w9]; generalize hq_ : World.drewN w9 _ = w9; have n0_ : Aside0 (w9.heap[gb185]? = some (.cells #[.int .i64 0, .slice none 0 0] 29 (0, 0))) := ⟨by rw [← hq_]; exact (mb BK185)⟩; have n1_ : Aside0 (Below w.heap.size w w9) := ⟨by rw [← hq_]; exact (ms HB)⟩; clear BK185 HB hq_; have BK185 := n0_; have HB := n1_; clear n0_ n1_))) | (go_at_call 129; (with_reducible refine (spec_l3In.calls a0 true _ A5.out).mono ?_); rintro e w' ⟨rfl, ⟨nd, rfl⟩⟩; (try (rw [drewN_self w9]; generalize hq_ : World.drewN w9 _ = w9; have n0_ : Aside0 (w9.heap[gb185]? = some (.cells #[.int .i64 0, .slice none 0 0] 29 (0, 0))) := ⟨by rw [← hq_]; exact (mb BK185)⟩; have n1_ : Aside0 (Below w.heap.size w w9) := ⟨by rw [← hq_]; exact (ms HB)⟩; clear BK185 HB hq_; have BK185 := n0_; have HB := n1_; clear n0_ n1_))) | ((with_reducible refine gate_dst (N := 16) rfl ?_); refine Kd.R_make (Kd.int .i64) _ 3 rfl (N := 16) rfl 27 _ _ rfl a1 rfl rfl Try.underlying27 (.int .i64 0) 8 info3 rfl (by decide) (by omega) 0 (ok := fun _ => True) (okp := fun _ => True) rfl (fun _ hk => hk) trivial (of_decide_eq_true (by first | (with_reducible assumption) | assumption)) (Nat.le_trans (Nat.mul_le_mul_right _ (of_decide_eq_true (by first | (with_reducible assumption) | assumption) : a1.toNat ≤ 35184372088832)) (by omega)) (Below.refl _ _) (Nat.le_refl _) ?_; intro v189 w10 ho11 hb hg_ hnew_; clear hg_ hnew_; (first | rw [← Ny188.out] at ho11 | (simp only [Int.reduceToNat] at ho11; rw [← Ny188.out] at ho11)); have HO190 := Aside0.mk (Kd.R_lower ho11 (below_size (ms HB))); replace BK185 := bb BK185 hb; replace HB := bs HB hb; clear hb ho11; obtain ⟨Ao12, co12, eo12⟩ := Kd.R_slice HO190.out; subst eo12; obtain ⟨hcz13_0, hcz13_1⟩ := c2 BK185; have hfz13_0 := blk_frozen BK185.out 0; have hfz13_1 := blk_frozen BK185.out 1))
     refine bodyPost_ret (results_cell_row rfl _ _ gb185 29 #[.int .i64 a0, .slice Ao12 y188.length co12] (0, 0) _ rfl (by (with_reducible repeat (first | refine blk_drewN ?_ _ | refine blk_drew ?_ | refine blk_alloc ?_ _)); refine blk_put (cs := #[.int .i64 a0, .slice none 0 0]) ?_ 1 _ rfl; (with_reducible repeat (first | refine blk_drewN ?_ _ | refine blk_drew ?_ | refine blk_alloc ?_ _)); refine blk_put (cs := #[.int .i64 0, .slice none 0 0]) ?_ 0 _ rfl; (with_reducible repeat (first | refine blk_drewN ?_ _ | refine blk_drew ?_ | refine blk_alloc ?_ _)); exact BK185.out) Try.underlying29 rfl (by kernel_rfl)) rfl ?_
     exact ⟨_, by first | rfl | (simp [errW_none, errW_some] <;> rfl) | (simp [*, errW_none, errW_some] <;> rfl), by (with_reducible repeat (first | apply Kd.R_alloc | apply Kd.R_drewN | apply Kd.R_drew)); exact Kd.R_mono (Kd.R_far (p := ⟨gb185, 1, none⟩) (Kd.R_far (p := ⟨gb185, 0, none⟩) (Kd.R_types HO190.out BK185.out (by decide)) (fun _ hk => hk.2) (.int .i64 a0)) (fun _ hk => hk.2) (.slice Ao12 y188.length co12)) (fun _ hk => trivial), ms HB⟩
    ·rw [if_neg c8] at H
     exact absurd H (by simp)
   ·rw [if_neg c7] at H
    exact absurd H (by simp)
  ·replace c6 := Bool.eq_false_iff.mpr c6
   subst c6
   have H1 : (some (0, ([] : List Int))) = some (r1, r2) := by rw [if_neg (show ¬ (false = true) by decide)] at H; exact H
   clear H
   have H := H1
   clear H1
   simp only [Option.some.injEq, Prod.mk.injEq] at H
   obtain ⟨rfl, rfl⟩ := H
   go_enter Try.func82, Try.ntmps82
   go_wp2_with (first | ((with_reducible refine gate_dst (N := 4) rfl ?_); refine box_event ?hg (N := 4) ?hd (cs := #[.int .i64 0, .slice none 0 0]) (t := 29) ?hr ?_; (case hd => rfl); (case hg => rfl); (case hr => first | (go_simp; done) | (go_simp; rfl)); intro gb185 hg w14 hbox hb; have BK185 := Aside0.mk (hbox); have GW185 := gw hg HB; have GE185 := gw hg HB; replace HB := bs HB hb; clear hb hbox hg) | ((with_reducible refine gate_callee (f := 85) rfl ?_); refine gl (some 6) rfl rfl Try.func85 (by kernel_rfl) rfl #[.int .i64 a1, .int .i64 0, .int .i64 8] rfl ?_; (with_reducible refine (spec_l1In.calls a1 0 8 true _ A3.out).mono ?_); rintro e w' ⟨rfl, ⟨nd, rfl⟩⟩; refine ⟨_, rfl, ?_⟩; (try (rw [drewN_self w14]; generalize hq_ : World.drewN w14 _ = w14; have n0_ : Aside0 (w14.heap[gb185]? = some (.cells #[.int .i64 0, .slice none 0 0] 29 (0, 0))) := ⟨by rw [← hq_]; exact (mb BK185)⟩; have n1_ : Aside0 (Below w.heap.size w w14) := ⟨by rw [← hq_]; exact (ms HB)⟩; clear BK185 HB hq_; have BK185 := n0_; have HB := n1_; clear n0_ n1_))) | (go_at_call 129; (with_reducible refine (spec_l3In.calls a0 false _ A5.out).mono ?_); rintro e w' ⟨rfl, ⟨nd, rfl⟩⟩; (try (rw [drewN_self w14]; generalize hq_ : World.drewN w14 _ = w14; have n0_ : Aside0 (w14.heap[gb185]? = some (.cells #[.int .i64 0, .slice none 0 0] 29 (0, 0))) := ⟨by rw [← hq_]; exact (mb BK185)⟩; have n1_ : Aside0 (Below w.heap.size w w14) := ⟨by rw [← hq_]; exact (ms HB)⟩; clear BK185 HB hq_; have BK185 := n0_; have HB := n1_; clear n0_ n1_)); obtain ⟨hcz15_0, hcz15_1⟩ := c2 BK185; have hfz15_0 := blk_frozen BK185.out 0; have hfz15_1 := blk_frozen BK185.out 1))
   refine bodyPost_ret (results_cell_row rfl _ _ gb185 29 #[.int .i64 0, .slice none 0 0] (0, 0) _ rfl (by (with_reducible repeat (first | refine blk_drewN ?_ _ | refine blk_drew ?_ | refine blk_alloc ?_ _)); refine blk_put (cs := #[.int .i64 0, .slice none 0 0]) ?_ 1 _ rfl; (with_reducible repeat (first | refine blk_drewN ?_ _ | refine blk_drew ?_ | refine blk_alloc ?_ _)); refine blk_put (cs := #[.int .i64 0, .slice none 0 0]) ?_ 0 _ rfl; (with_reducible repeat (first | refine blk_drewN ?_ _ | refine blk_drew ?_ | refine blk_alloc ?_ _)); exact BK185.out) Try.underlying29 rfl (by kernel_rfl)) rfl ?_
   exact ⟨_, by first | rfl | (simp [errW_none, errW_some] <;> rfl) | (simp [*, errW_none, errW_some] <;> rfl), by first | exact Kd.R_nil _ _ _ _ _ | exact Kd.N_nil _ _ _ _ _ | exact Kd.V_nil _ _ _ _ _ | exact Kd.Q_nil _ _ _ _ _ | exact Kd.S_nil _ _ _ _ _, ms HB⟩
 ·replace c4 := Bool.eq_false_iff.mpr c4
  subst c4
  have H1 : (some (0, ([] : List Int))) = some (r1, r2) := by rw [if_neg (show ¬ (false = true) by decide)] at H; exact H
  clear H
  have H := H1
  clear H1
  simp only [Option.some.injEq, Prod.mk.injEq] at H
  obtain ⟨rfl, rfl⟩ := H
  go_enter Try.func82, Try.ntmps82
  go_wp2_with (first | ((with_reducible refine gate_dst (N := 4) rfl ?_); refine box_event ?hg (N := 4) ?hd (cs := #[.int .i64 0, .slice none 0 0]) (t := 29) ?hr ?_; (case hd => rfl); (case hg => rfl); (case hr => first | (go_simp; done) | (go_simp; rfl)); intro gb185 hg w16 hbox hb; have BK185 := Aside0.mk (hbox); have GW185 := gw hg HB; have GE185 := gw hg HB; replace HB := bs HB hb; clear hb hbox hg) | ((with_reducible refine gate_callee (f := 85) rfl ?_); refine gl (some 6) rfl rfl Try.func85 (by kernel_rfl) rfl #[.int .i64 a1, .int .i64 0, .int .i64 8] rfl ?_; (with_reducible refine (spec_l1In.calls a1 0 8 false _ A3.out).mono ?_); rintro e w' ⟨rfl, ⟨nd, rfl⟩⟩; refine ⟨_, rfl, ?_⟩; (try (rw [drewN_self w16]; generalize hq_ : World.drewN w16 _ = w16; have n0_ : Aside0 (w16.heap[gb185]? = some (.cells #[.int .i64 0, .slice none 0 0] 29 (0, 0))) := ⟨by rw [← hq_]; exact (mb BK185)⟩; have n1_ : Aside0 (Below w.heap.size w w16) := ⟨by rw [← hq_]; exact (ms HB)⟩; clear BK185 HB hq_; have BK185 := n0_; have HB := n1_; clear n0_ n1_)); obtain ⟨hcz17_0, hcz17_1⟩ := c2 BK185; have hfz17_0 := blk_frozen BK185.out 0; have hfz17_1 := blk_frozen BK185.out 1))
  refine bodyPost_ret (results_cell_row rfl _ _ gb185 29 #[.int .i64 0, .slice none 0 0] (0, 0) _ rfl (by (with_reducible repeat (first | refine blk_drewN ?_ _ | refine blk_drew ?_ | refine blk_alloc ?_ _)); refine blk_put (cs := #[.int .i64 0, .slice none 0 0]) ?_ 1 _ rfl; (with_reducible repeat (first | refine blk_drewN ?_ _ | refine blk_drew ?_ | refine blk_alloc ?_ _)); refine blk_put (cs := #[.int .i64 0, .slice none 0 0]) ?_ 0 _ rfl; (with_reducible repeat (first | refine blk_drewN ?_ _ | refine blk_drew ?_ | refine blk_alloc ?_ _)); exact BK185.out) Try.underlying29 rfl (by kernel_rfl)) rfl ?_
  exact ⟨_, by first | rfl | (simp [errW_none, errW_some] <;> rfl) | (simp [*, errW_none, errW_some] <;> rfl), by first | exact Kd.R_nil _ _ _ _ _ | exact Kd.N_nil _ _ _ _ _ | exact Kd.V_nil _ _ _ _ _ | exact Kd.Q_nil _ _ _ _ _ | exact Kd.S_nil _ _ _ _ _, ms HB⟩

end Go.Proofs.Ytlencemmlgkflaa.QFnExactCombineRows
