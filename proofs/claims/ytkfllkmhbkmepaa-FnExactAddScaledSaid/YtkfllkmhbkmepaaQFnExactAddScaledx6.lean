-- Made by a program of this claim's own (wip/print): not the kit's print as it stands.
import Derived.Test.YtkfllkmhbkmepaaUFnExactAddScaledTwo
import Derived.Test.YtkfllkmhbkmepaaQFnExactAddScaledx0
import Derived.Test.YtkfllkmhbkmepaaQFnExactAddScaledx1
import Derived.Test.YtkfllkmhbkmepaaQFnExactAddScaledx2
import Derived.Test.YtkfllkmhbkmepaaQFnExactAddScaledx4
import Derived.Test.YtkfllkmhbkmepaaQFnExactAddScaledx5
namespace Go.Proofs.Ytkfllkmhbkmepaa.QFnExactAddScaled
open Go.RowKit Go.Proofs.YtkfllkmhbkmepaaV.PrintWords Go.Proofs.YtkfllkmhbkmepaaV.PrintLast Go.Proofs.YtkfllkmhbkmepaaV.PrintMore
attribute [local go_sem] max2_int min2_int max_two min_two max_three min_three max_four min_four   -- for this text's walks alone
set_option linter.unusedVariables false
set_option linter.unusedSimpArgs false

/-! ### laws_FnExactAddScaled: function 7 -/
mutual
def laws_FnExactAddScaled.j0 : Nat → Int → Bool → Bool → Bool → Int → List Int → Int → List Int → Int → List Int → Int → List Int → Int → List Int → Int → List Int → Option (Bool)
 | 0, _, _, _, _, _, _, _, _, _, _, _, _, _, _, _, _ => none
 | k + 1, x1, x9, x13, x57, x203000, x203001, x204000, x204001, x220000, x220001, x225000, x225001, x230000, x230001, x236000, x236001 => if x57 = true then (some false) else ((laws_toLin.f k x203000 x203001).bind fun bt237 => ((laws_eqLin.f k x225000 x225001 bt237.1 bt237.2).bind fun t241 => (if t241 = true then ((laws_toLin.f k x204000 x204001).bind fun bt242 => ((laws_eqLin.f k x230000 x230001 bt242.1 bt242.2).bind fun t246 => (if t246 = true then ((laws_markLin.f k x225000 x225001 1).bind fun bt247 => ((laws_markLin.f k x230000 x230001 bt247.1).bind fun bt249 => (if bt249.1 < 0 then (laws_FnExactAddScaled.j1 k x1 x9 true x203000 x203001 x204000 x204001 x220000 x220001 x236000 x236001) else ((laws_eqLin.f k x236000 x236001 x220000 x220001).bind fun t251 => (if t251 = true then (laws_FnExactAddScaled.j1 k x1 x9 (x13 != x9) x203000 x203001 x204000 x204001 x220000 x220001 x236000 x236001) else (laws_FnExactAddScaled.j1 k x1 x9 true x203000 x203001 x204000 x204001 x220000 x220001 x236000 x236001)))))) else (some false)))) else (some false))))
def laws_FnExactAddScaled.j1 : Nat → Int → Bool → Bool → Int → List Int → Int → List Int → Int → List Int → Int → List Int → Option (Bool)
 | 0, _, _, _, _, _, _, _, _, _, _, _ => none
 | k + 1, x1, x9, x86, x203000, x203001, x204000, x204001, x220000, x220001, x236000, x236001 => if x86 = true then (some false) else ((laws_markLin.f k x236000 x236001 1).bind fun bt252 => ((laws_heldLin.f k x236000 bt252.2 1).bind fun t254 => (if t254 < 0 then (some false) else (if t254 = bt252.1 then ((laws_toLin.f k x203000 x203001).bind fun bt255 => ((laws_toLin.f k x204000 x204001).bind fun bt259 => ((impl_AddScaled.f k bt255.1 bt255.2 x1 bt259.1 bt259.2).bind fun bt263 => ((laws_eqLin.f k bt263.1 bt263.2.1 x220000 x220001).bind fun t269 => (if t269 = true then (laws_FnExactAddScaled.j2 k bt252.1 (bt263.2.2 != x9) x236000 bt252.2) else (laws_FnExactAddScaled.j2 k bt252.1 true x236000 bt252.2)))))) else (some false)))))
def laws_FnExactAddScaled.j2 : Nat → Int → Bool → Int → List Int → Option (Bool)
 | 0, _, _, _, _ => none
 | k + 1, x15, x115, x236000, x236001 => if x115 = true then (some false) else ((laws_heldLin.f k x236000 x236001 1).bind fun t270 => (if t270 < 0 then (some false) else (if t270 = x15 then (some true) else (some false))))
end
def laws_FnExactAddScaled.f (k : Nat) (a0_0 : Int) (l0_1 : List Int) (a1 : Int) (a2_0 : Int) (l2_1 : List Int) : Option (Bool) := (laws_szLin.f a0_0 l0_1 1048576).bind fun t204 => (if t204 < 0 then (some true) else ((laws_szLin.f a2_0 l2_1 t204).bind fun t205 => (if t205 < 0 then (some true) else ((laws_toLin.f k a0_0 l0_1).bind fun bt206 => ((laws_toLin.f k a2_0 l2_1).bind fun bt210 => ((spec_AddScaled.f k bt206.1 bt206.2 a1 bt210.1 bt210.2).bind fun bt214 => ((laws_toLin.f k a0_0 l0_1).bind fun bt220 => ((laws_toLin.f k a2_0 l2_1).bind fun bt225 => ((impl_AddScaled.f k bt220.1 bt220.2 a1 bt225.1 bt225.2).bind fun bt230 => ((laws_eqLin.f k bt230.1 bt230.2.1 bt214.1 bt214.2.1).bind fun t236 => (if t236 = true then (laws_FnExactAddScaled.j0 k a1 bt214.2.2 bt230.2.2 (bt230.2.2 != bt214.2.2) a0_0 l0_1 a2_0 l2_1 bt214.1 bt214.2.1 bt220.1 bt220.2 bt225.1 bt225.2 bt230.1 bt230.2.1) else (laws_FnExactAddScaled.j0 k a1 bt214.2.2 bt230.2.2 true a0_0 l0_1 a2_0 l2_1 bt214.1 bt214.2.1 bt220.1 bt220.2 bt225.1 bt225.2 bt230.1 bt230.2.1))))))))))))
theorem laws_FnExactAddScaled.mono_l : ∀ k, (∀ y0 y1 y2 y3 y4 y5 y6 y7 y8 y9 y10 y11 y12 y13 y14 y15, LeO (laws_FnExactAddScaled.j0 k y0 y1 y2 y3 y4 y5 y6 y7 y8 y9 y10 y11 y12 y13 y14 y15) (laws_FnExactAddScaled.j0 (k + 1) y0 y1 y2 y3 y4 y5 y6 y7 y8 y9 y10 y11 y12 y13 y14 y15)) ∧ (∀ y0 y1 y2 y3 y4 y5 y6 y7 y8 y9 y10, LeO (laws_FnExactAddScaled.j1 k y0 y1 y2 y3 y4 y5 y6 y7 y8 y9 y10) (laws_FnExactAddScaled.j1 (k + 1) y0 y1 y2 y3 y4 y5 y6 y7 y8 y9 y10)) ∧ (∀ y0 y1 y2 y3, LeO (laws_FnExactAddScaled.j2 k y0 y1 y2 y3) (laws_FnExactAddScaled.j2 (k + 1) y0 y1 y2 y3))
 | 0 => ⟨fun _ _ _ _ _ _ _ _ _ _ _ _ _ _ _ _ r h => by simp [laws_FnExactAddScaled.j0] at h, fun _ _ _ _ _ _ _ _ _ _ _ r h => by simp [laws_FnExactAddScaled.j1] at h, fun _ _ _ _ r h => by simp [laws_FnExactAddScaled.j2] at h⟩
 | k + 1 => by
  obtain ⟨ih0, ih1, ih2⟩ := laws_FnExactAddScaled.mono_l k
  refine ⟨?_, ?_, ?_⟩
  ·intro y0 y1 y2 y3 y4 y5 y6 y7 y8 y9 y10 y11 y12 y13 y14 y15
   unfold laws_FnExactAddScaled.j0
   repeat' first
   | (with_reducible exact ih0 _ _ _ _ _ _ _ _ _ _ _ _ _ _ _ _)
   | (with_reducible exact ih1 _ _ _ _ _ _ _ _ _ _ _)
   | (with_reducible exact ih2 _ _ _ _)
   | (with_reducible exact impl_AddScaled.mono _ _ _ _ _ _)
   | (with_reducible exact laws_eqLin.mono _ _ _ _ _)
   | (with_reducible exact laws_heldLin.mono _ _ _ _)
   | (with_reducible exact laws_markLin.mono _ _ _ _)
   | (with_reducible exact laws_toLin.mono _ _ _)
   | (with_reducible exact spec_AddScaled.mono _ _ _ _ _ _)
   | (with_reducible exact LeO.refl _)
   | (with_reducible exact LeO.none _)
   | (with_reducible refine LeO.ite ?_ ?_)
   | (with_reducible refine LeO.bind ?_ (fun _ => ?_))
   | exact ih0 _ _ _ _ _ _ _ _ _ _ _ _ _ _ _ _
   | exact ih1 _ _ _ _ _ _ _ _ _ _ _
   | exact ih2 _ _ _ _
   | exact impl_AddScaled.mono _ _ _ _ _ _
   | exact laws_eqLin.mono _ _ _ _ _
   | exact laws_heldLin.mono _ _ _ _
   | exact laws_markLin.mono _ _ _ _
   | exact laws_toLin.mono _ _ _
   | exact spec_AddScaled.mono _ _ _ _ _ _
   | exact LeO.none _
   | refine LeO.ite ?_ ?_
   | refine LeO.bind ?_ (fun _ => ?_)
  ·intro y0 y1 y2 y3 y4 y5 y6 y7 y8 y9 y10
   unfold laws_FnExactAddScaled.j1
   repeat' first
   | (with_reducible exact ih0 _ _ _ _ _ _ _ _ _ _ _ _ _ _ _ _)
   | (with_reducible exact ih1 _ _ _ _ _ _ _ _ _ _ _)
   | (with_reducible exact ih2 _ _ _ _)
   | (with_reducible exact impl_AddScaled.mono _ _ _ _ _ _)
   | (with_reducible exact laws_eqLin.mono _ _ _ _ _)
   | (with_reducible exact laws_heldLin.mono _ _ _ _)
   | (with_reducible exact laws_markLin.mono _ _ _ _)
   | (with_reducible exact laws_toLin.mono _ _ _)
   | (with_reducible exact spec_AddScaled.mono _ _ _ _ _ _)
   | (with_reducible exact LeO.refl _)
   | (with_reducible exact LeO.none _)
   | (with_reducible refine LeO.ite ?_ ?_)
   | (with_reducible refine LeO.bind ?_ (fun _ => ?_))
   | exact ih0 _ _ _ _ _ _ _ _ _ _ _ _ _ _ _ _
   | exact ih1 _ _ _ _ _ _ _ _ _ _ _
   | exact ih2 _ _ _ _
   | exact impl_AddScaled.mono _ _ _ _ _ _
   | exact laws_eqLin.mono _ _ _ _ _
   | exact laws_heldLin.mono _ _ _ _
   | exact laws_markLin.mono _ _ _ _
   | exact laws_toLin.mono _ _ _
   | exact spec_AddScaled.mono _ _ _ _ _ _
   | exact LeO.none _
   | refine LeO.ite ?_ ?_
   | refine LeO.bind ?_ (fun _ => ?_)
  ·intro y0 y1 y2 y3
   unfold laws_FnExactAddScaled.j2
   repeat' first
   | (with_reducible exact ih0 _ _ _ _ _ _ _ _ _ _ _ _ _ _ _ _)
   | (with_reducible exact ih1 _ _ _ _ _ _ _ _ _ _ _)
   | (with_reducible exact ih2 _ _ _ _)
   | (with_reducible exact impl_AddScaled.mono _ _ _ _ _ _)
   | (with_reducible exact laws_eqLin.mono _ _ _ _ _)
   | (with_reducible exact laws_heldLin.mono _ _ _ _)
   | (with_reducible exact laws_markLin.mono _ _ _ _)
   | (with_reducible exact laws_toLin.mono _ _ _)
   | (with_reducible exact spec_AddScaled.mono _ _ _ _ _ _)
   | (with_reducible exact LeO.refl _)
   | (with_reducible exact LeO.none _)
   | (with_reducible refine LeO.ite ?_ ?_)
   | (with_reducible refine LeO.bind ?_ (fun _ => ?_))
   | exact ih0 _ _ _ _ _ _ _ _ _ _ _ _ _ _ _ _
   | exact ih1 _ _ _ _ _ _ _ _ _ _ _
   | exact ih2 _ _ _ _
   | exact impl_AddScaled.mono _ _ _ _ _ _
   | exact laws_eqLin.mono _ _ _ _ _
   | exact laws_heldLin.mono _ _ _ _
   | exact laws_markLin.mono _ _ _ _
   | exact laws_toLin.mono _ _ _
   | exact spec_AddScaled.mono _ _ _ _ _ _
   | exact LeO.none _
   | refine LeO.ite ?_ ?_
   | refine LeO.bind ?_ (fun _ => ?_)
theorem laws_FnExactAddScaled.mono : ∀ a0 a1 a2 a3 a4 k, LeO (laws_FnExactAddScaled.f k a0 a1 a2 a3 a4) (laws_FnExactAddScaled.f (k + 1) a0 a1 a2 a3 a4) := by
 intro a0 a1 a2 a3 a4 k
 obtain ⟨ih0, ih1, ih2⟩ := laws_FnExactAddScaled.mono_l k
 unfold laws_FnExactAddScaled.f
 repeat' first
   | (with_reducible exact ih0 _ _ _ _ _ _ _ _ _ _ _ _ _ _ _ _)
   | (with_reducible exact ih1 _ _ _ _ _ _ _ _ _ _ _)
   | (with_reducible exact ih2 _ _ _ _)
   | (with_reducible exact impl_AddScaled.mono _ _ _ _ _ _)
   | (with_reducible exact laws_eqLin.mono _ _ _ _ _)
   | (with_reducible exact laws_heldLin.mono _ _ _ _)
   | (with_reducible exact laws_markLin.mono _ _ _ _)
   | (with_reducible exact laws_toLin.mono _ _ _)
   | (with_reducible exact spec_AddScaled.mono _ _ _ _ _ _)
   | (with_reducible exact LeO.refl _)
   | (with_reducible exact LeO.none _)
   | (with_reducible refine LeO.ite ?_ ?_)
   | (with_reducible refine LeO.bind ?_ (fun _ => ?_))
   | exact ih0 _ _ _ _ _ _ _ _ _ _ _ _ _ _ _ _
   | exact ih1 _ _ _ _ _ _ _ _ _ _ _
   | exact ih2 _ _ _ _
   | exact impl_AddScaled.mono _ _ _ _ _ _
   | exact laws_eqLin.mono _ _ _ _ _
   | exact laws_heldLin.mono _ _ _ _
   | exact laws_markLin.mono _ _ _ _
   | exact laws_toLin.mono _ _ _
   | exact spec_AddScaled.mono _ _ _ _ _ _
   | exact LeO.none _
   | refine LeO.ite ?_ ?_
   | refine LeO.bind ?_ (fun _ => ?_)
def laws_FnExactAddScaled.T8 : Bool × List (List Nat × List Nat) := (true, [([], []), ([0], [0]), ([], []), ([], []), ([3, 1], [3]), ([1, 2, 4, 4], [1, 2, 4]), ([5], [5]), ([6], [6]), ([6], [6]), ([], []), ([9, 7, 5, 0, 1, 2, 3, 4, 5, 6, 7, 9], [7, 9]), ([8, 10, 0, 1, 2, 3, 4, 5, 6, 7, 8, 9, 10], [8])])
def laws_FnExactAddScaled.B8 : List Nat := [0, 1, 0, 0, 11, 31, 63, 127, 127, 0, 767, 2047]
theorem laws_FnExactAddScaled.tab8 : rtab .any (opsOf Try.f7 8) = laws_FnExactAddScaled.T8 := by kernel_rfl
theorem laws_FnExactAddScaled.bits8 : waitsOk laws_FnExactAddScaled.T8.2 laws_FnExactAddScaled.B8 = true := by kernel_rfl
def laws_FnExactAddScaled.T31 : Bool × List (List Nat × List Nat) := (true, [([], []), ([0], [0]), ([], []), ([], []), ([3, 1], [3]), ([1, 2, 4, 4], [1, 2, 4]), ([5], [5]), ([6], [6]), ([6], [6]), ([], []), ([9, 7, 5, 0, 1, 2, 3, 4, 5, 6, 7, 9], [7, 9]), ([8, 10, 0, 1, 2, 3, 4, 5, 6, 7, 8, 9, 10], [8])])
def laws_FnExactAddScaled.B31 : List Nat := [0, 1, 0, 0, 11, 31, 63, 127, 127, 0, 767, 2047]
theorem laws_FnExactAddScaled.tab31 : rtab .any (opsOf Try.f7 31) = laws_FnExactAddScaled.T31 := by kernel_rfl
theorem laws_FnExactAddScaled.bits31 : waitsOk laws_FnExactAddScaled.T31.2 laws_FnExactAddScaled.B31 = true := by kernel_rfl
set_option maxHeartbeats 8000000 in
set_option maxRecDepth 100000 in
theorem laws_FnExactAddScaled.calls (k : Nat) (a0_0 : Int) (A0_1 : Option Addr) (c0_1 : Nat) (l0_1 : List Int) (a1 : Int) (a2_0 : Int) (A2_1 : Option Addr) (c2_1 : Nat) (l2_1 : List Int) (r : Bool) (w : World) (hr0_1 : Kd.C (Kd.int .i64) w A0_1 l0_1.length l0_1) (hc0_1 : l0_1.length ≤ c0_1) (hr2_1 : Kd.C (Kd.int .i64) w A2_1 l2_1.length l2_1) (hc2_1 : l2_1.length ≤ c2_1) (h : laws_FnExactAddScaled.f k a0_0 l0_1 a1 a2_0 l2_1 = some r) :
  Calls Try.prog 7 #[.agg #[.int .i64 a0_0, .slice A0_1 l0_1.length c0_1], .int .i64 a1, .agg #[.int .i64 a2_0, .slice A2_1 l2_1.length c2_1]] w fun e w' => e = .returned (.bool r) ∧ Below w.heap.size w w' := by
 have hu59 := Try.underlying59
 have hu51 := Try.underlying51
 have HR0_1 := Aside0.mk hr0_1
 have HC0_1 := Aside0.mk hc0_1
 clear hr0_1 hc0_1
 have HR2_1 := Aside0.mk hr2_1
 have HC2_1 := Aside0.mk hc2_1
 clear hr2_1 hc2_1
 have HB := Aside0.mk (Below.refl w.heap.size w)
 have H : ((laws_szLin.f a0_0 l0_1 1048576).bind fun t204 => (if t204 < 0 then (some true) else ((laws_szLin.f a2_0 l2_1 t204).bind fun t205 => (if t205 < 0 then (some true) else ((laws_toLin.f k a0_0 l0_1).bind fun bt206 => ((laws_toLin.f k a2_0 l2_1).bind fun bt210 => ((spec_AddScaled.f k bt206.1 bt206.2 a1 bt210.1 bt210.2).bind fun bt214 => ((laws_toLin.f k a0_0 l0_1).bind fun bt220 => ((laws_toLin.f k a2_0 l2_1).bind fun bt225 => ((impl_AddScaled.f k bt220.1 bt220.2 a1 bt225.1 bt225.2).bind fun bt230 => ((laws_eqLin.f k bt230.1 bt230.2.1 bt214.1 bt214.2.1).bind fun t236 => (if t236 = true then (laws_FnExactAddScaled.j0 k a1 bt214.2.2 bt230.2.2 (bt230.2.2 != bt214.2.2) a0_0 l0_1 a2_0 l2_1 bt214.1 bt214.2.1 bt220.1 bt220.2 bt225.1 bt225.2 bt230.1 bt230.2.1) else (laws_FnExactAddScaled.j0 k a1 bt214.2.2 bt230.2.2 true a0_0 l0_1 a2_0 l2_1 bt214.1 bt214.2.1 bt220.1 bt220.2 bt225.1 bt225.2 bt230.1 bt230.2.1))))))))))))) = some r := h
 clear h
 replace H := Option.bind_eq_some_iff.mp H
 obtain ⟨t204, A40, H⟩ := H
 replace H : (if t204 < 0 then (some true) else ((laws_szLin.f a2_0 l2_1 t204).bind fun t205 => (if t205 < 0 then (some true) else ((laws_toLin.f k a0_0 l0_1).bind fun bt206 => ((laws_toLin.f k a2_0 l2_1).bind fun bt210 => ((spec_AddScaled.f k bt206.1 bt206.2 a1 bt210.1 bt210.2).bind fun bt214 => ((laws_toLin.f k a0_0 l0_1).bind fun bt220 => ((laws_toLin.f k a2_0 l2_1).bind fun bt225 => ((impl_AddScaled.f k bt220.1 bt220.2 a1 bt225.1 bt225.2).bind fun bt230 => ((laws_eqLin.f k bt230.1 bt230.2.1 bt214.1 bt214.2.1).bind fun t236 => (if t236 = true then (laws_FnExactAddScaled.j0 k a1 bt214.2.2 bt230.2.2 (bt230.2.2 != bt214.2.2) a0_0 l0_1 a2_0 l2_1 bt214.1 bt214.2.1 bt220.1 bt220.2 bt225.1 bt225.2 bt230.1 bt230.2.1) else (laws_FnExactAddScaled.j0 k a1 bt214.2.2 bt230.2.2 true a0_0 l0_1 a2_0 l2_1 bt214.1 bt214.2.1 bt220.1 bt220.2 bt225.1 bt225.2 bt230.1 bt230.2.1)))))))))))) = some r := H
 have A4 := Aside0.mk A40
 clear A40
 by_cases c5 : t204 < 0
 ·rw [if_pos c5] at H
  have c5b0 : decide (t204 < 0) = true := decide_eq_true c5
  clear c5
  obtain rfl := Option.some.inj H
  go_enter Try.func7, Try.ntmps7
  go_wp2_with (first | ((with_reducible refine gate_dst (N := 3) rfl ?_); refine box_event ?hg (N := 3) ?hd (cs := #[.int .i64 a0_0, .slice A0_1 l0_1.length c0_1]) (t := 59) ?hr ?_; (case hd => rfl); (case hg => rfl); (case hr => first | (go_simp; done) | (go_simp; rfl)); intro gb202 hg w6 hbox hb; have BK202 := Aside0.mk (hbox); have GW202 := gw hg HB; have GE202 := gw hg HB; replace HB := bs HB hb; clear hb hbox hg) | ((with_reducible refine gate_dst (N := 5) rfl ?_); refine box_event ?hg (N := 5) ?hd (cs := #[.int .i64 a2_0, .slice A2_1 l2_1.length c2_1]) (t := 59) ?hr ?_; (case hd => rfl); (case hg => rfl); (case hr => first | (go_simp; done) | (go_simp; rfl)); intro gb203 hg w7 hbox hb; have BK203 := Aside0.mk (hbox); have GW203 := gw hg HB; have GE203 := gw hg HB; replace HB := bs HB hb; have NB202_203 := nl hg BK202; have NB203_202 := ng hg BK202; replace BK202 := bb BK202 hb; clear hb hbox hg; have hnb8 := NB202_203.out; have hnc8 := NB203_202.out; obtain ⟨hcz9_0, hcz9_1⟩ := c2 BK202; have hfz9_0 := blk_frozen BK202.out 0; have hfz9_1 := blk_frozen BK202.out 1) | ((with_reducible refine gate_callee (f := 38) rfl ?_); refine goesL_ (some 21) rfl rfl Try.func38 (by kernel_rfl) rfl #[.agg #[.int .i64 a0_0, .slice A0_1 l0_1.length c0_1], .int .i64 1048576] rfl (by (try simp only [List.map_toArray, List.map_cons, List.map_nil]); first | done | rfl | (simp only [List.length_drop, List.length_take]; rfl)) ?_; (with_reducible refine (laws_szLin.calls a0_0 _ _ l0_1 1048576 t204 _ ?side1 ?side2 A4.out).mono ?_); (case side1 => exact mc ((Kd.C_below HR0_1.out HB.out))); (case side2 => exact HC0_1.out); rintro e w10 ⟨rfl, hb⟩; refine ⟨_, rfl, ?_⟩; replace BK202 := bb BK202 hb; replace BK203 := bb BK203 hb; replace HB := bs HB hb; (try clear hb)))
  go_ret
  exact ⟨by first | rfl | (simp [errW_none, errW_some] <;> rfl) | (simp [*, errW_none, errW_some] <;> rfl), ms HB⟩
 ·rw [if_neg c5] at H
  have c5b0 : decide (t204 < 0) = false := decide_eq_false c5
  clear c5
  replace H := Option.bind_eq_some_iff.mp H
  obtain ⟨t205, A110, H⟩ := H
  replace H : (if t205 < 0 then (some true) else ((laws_toLin.f k a0_0 l0_1).bind fun bt206 => ((laws_toLin.f k a2_0 l2_1).bind fun bt210 => ((spec_AddScaled.f k bt206.1 bt206.2 a1 bt210.1 bt210.2).bind fun bt214 => ((laws_toLin.f k a0_0 l0_1).bind fun bt220 => ((laws_toLin.f k a2_0 l2_1).bind fun bt225 => ((impl_AddScaled.f k bt220.1 bt220.2 a1 bt225.1 bt225.2).bind fun bt230 => ((laws_eqLin.f k bt230.1 bt230.2.1 bt214.1 bt214.2.1).bind fun t236 => (if t236 = true then (laws_FnExactAddScaled.j0 k a1 bt214.2.2 bt230.2.2 (bt230.2.2 != bt214.2.2) a0_0 l0_1 a2_0 l2_1 bt214.1 bt214.2.1 bt220.1 bt220.2 bt225.1 bt225.2 bt230.1 bt230.2.1) else (laws_FnExactAddScaled.j0 k a1 bt214.2.2 bt230.2.2 true a0_0 l0_1 a2_0 l2_1 bt214.1 bt214.2.1 bt220.1 bt220.2 bt225.1 bt225.2 bt230.1 bt230.2.1)))))))))) = some r := H
  have A11 := Aside0.mk A110
  clear A110
  by_cases c12 : t205 < 0
  ·rw [if_pos c12] at H
   have c12b0 : decide (t205 < 0) = true := decide_eq_true c12
   clear c12
   obtain rfl := Option.some.inj H
   go_enter Try.func7, Try.ntmps7
   go_wp2_with (first | ((with_reducible refine gate_dst (N := 3) rfl ?_); refine box_event ?hg (N := 3) ?hd (cs := #[.int .i64 a0_0, .slice A0_1 l0_1.length c0_1]) (t := 59) ?hr ?_; (case hd => rfl); (case hg => rfl); (case hr => first | (go_simp; done) | (go_simp; rfl)); intro gb202 hg w13 hbox hb; have BK202 := Aside0.mk (hbox); have GW202 := gw hg HB; have GE202 := gw hg HB; replace HB := bs HB hb; clear hb hbox hg) | ((with_reducible refine gate_dst (N := 5) rfl ?_); refine box_event ?hg (N := 5) ?hd (cs := #[.int .i64 a2_0, .slice A2_1 l2_1.length c2_1]) (t := 59) ?hr ?_; (case hd => rfl); (case hg => rfl); (case hr => first | (go_simp; done) | (go_simp; rfl)); intro gb203 hg w14 hbox hb; have BK203 := Aside0.mk (hbox); have GW203 := gw hg HB; have GE203 := gw hg HB; replace HB := bs HB hb; have NB202_203 := nl hg BK202; have NB203_202 := ng hg BK202; replace BK202 := bb BK202 hb; clear hb hbox hg; have hnb15 := NB202_203.out; have hnc15 := NB203_202.out; obtain ⟨hcz16_0, hcz16_1⟩ := c2 BK202; have hfz16_0 := blk_frozen BK202.out 0; have hfz16_1 := blk_frozen BK202.out 1) | ((with_reducible refine gate_callee (f := 38) rfl ?_); refine goesL_ (some 21) rfl rfl Try.func38 (by kernel_rfl) rfl #[.agg #[.int .i64 a0_0, .slice A0_1 l0_1.length c0_1], .int .i64 1048576] rfl (by (try simp only [List.map_toArray, List.map_cons, List.map_nil]); first | done | rfl | (simp only [List.length_drop, List.length_take]; rfl)) ?_; (with_reducible refine (laws_szLin.calls a0_0 _ _ l0_1 1048576 t204 _ ?side1 ?side2 A4.out).mono ?_); (case side1 => exact mc ((Kd.C_below HR0_1.out HB.out))); (case side2 => exact HC0_1.out); rintro e w17 ⟨rfl, hb⟩; refine ⟨_, rfl, ?_⟩; replace BK202 := bb BK202 hb; replace BK203 := bb BK203 hb; replace HB := bs HB hb; (try clear hb); obtain ⟨hcz18_0, hcz18_1⟩ := c2 BK203; have hfz18_0 := blk_frozen BK203.out 0; have hfz18_1 := blk_frozen BK203.out 1) | ((with_reducible refine gate_callee (f := 38) rfl ?_); refine goesL_ (some 26) rfl rfl Try.func38 (by kernel_rfl) rfl #[.agg #[.int .i64 a2_0, .slice A2_1 l2_1.length c2_1], .int .i64 t204] rfl (by (try simp only [List.map_toArray, List.map_cons, List.map_nil]); first | done | rfl | (simp only [List.length_drop, List.length_take]; rfl)) ?_; (with_reducible refine (laws_szLin.calls a2_0 _ _ l2_1 t204 t205 _ ?side1 ?side2 A11.out).mono ?_); (case side1 => exact mc ((Kd.C_below HR2_1.out HB.out))); (case side2 => exact HC2_1.out); rintro e w19 ⟨rfl, hb⟩; refine ⟨_, rfl, ?_⟩; replace BK202 := bb BK202 hb; replace BK203 := bb BK203 hb; replace HB := bs HB hb; (try clear hb)))
   go_ret
   exact ⟨by first | rfl | (simp [errW_none, errW_some] <;> rfl) | (simp [*, errW_none, errW_some] <;> rfl), ms HB⟩
  ·rw [if_neg c12] at H
   have c12b0 : decide (t205 < 0) = false := decide_eq_false c12
   clear c12
   replace H := Option.bind_eq_some_iff.mp H
   obtain ⟨⟨t206, t207⟩, A200, H⟩ := H
   replace H : ((laws_toLin.f k a2_0 l2_1).bind fun bt210 => ((spec_AddScaled.f k t206 t207 a1 bt210.1 bt210.2).bind fun bt214 => ((laws_toLin.f k a0_0 l0_1).bind fun bt220 => ((laws_toLin.f k a2_0 l2_1).bind fun bt225 => ((impl_AddScaled.f k bt220.1 bt220.2 a1 bt225.1 bt225.2).bind fun bt230 => ((laws_eqLin.f k bt230.1 bt230.2.1 bt214.1 bt214.2.1).bind fun t236 => (if t236 = true then (laws_FnExactAddScaled.j0 k a1 bt214.2.2 bt230.2.2 (bt230.2.2 != bt214.2.2) a0_0 l0_1 a2_0 l2_1 bt214.1 bt214.2.1 bt220.1 bt220.2 bt225.1 bt225.2 bt230.1 bt230.2.1) else (laws_FnExactAddScaled.j0 k a1 bt214.2.2 bt230.2.2 true a0_0 l0_1 a2_0 l2_1 bt214.1 bt214.2.1 bt220.1 bt220.2 bt225.1 bt225.2 bt230.1 bt230.2.1)))))))) = some r := H
   have A20 := Aside0.mk A200
   clear A200
   replace H := Option.bind_eq_some_iff.mp H
   obtain ⟨⟨t210, t211⟩, A210, H⟩ := H
   replace H : ((spec_AddScaled.f k t206 t207 a1 t210 t211).bind fun bt214 => ((laws_toLin.f k a0_0 l0_1).bind fun bt220 => ((laws_toLin.f k a2_0 l2_1).bind fun bt225 => ((impl_AddScaled.f k bt220.1 bt220.2 a1 bt225.1 bt225.2).bind fun bt230 => ((laws_eqLin.f k bt230.1 bt230.2.1 bt214.1 bt214.2.1).bind fun t236 => (if t236 = true then (laws_FnExactAddScaled.j0 k a1 bt214.2.2 bt230.2.2 (bt230.2.2 != bt214.2.2) a0_0 l0_1 a2_0 l2_1 bt214.1 bt214.2.1 bt220.1 bt220.2 bt225.1 bt225.2 bt230.1 bt230.2.1) else (laws_FnExactAddScaled.j0 k a1 bt214.2.2 bt230.2.2 true a0_0 l0_1 a2_0 l2_1 bt214.1 bt214.2.1 bt220.1 bt220.2 bt225.1 bt225.2 bt230.1 bt230.2.1))))))) = some r := H
   have A21 := Aside0.mk A210
   clear A210
   replace H := Option.bind_eq_some_iff.mp H
   obtain ⟨⟨t214, t215, t218⟩, A220, H⟩ := H
   replace H : ((laws_toLin.f k a0_0 l0_1).bind fun bt220 => ((laws_toLin.f k a2_0 l2_1).bind fun bt225 => ((impl_AddScaled.f k bt220.1 bt220.2 a1 bt225.1 bt225.2).bind fun bt230 => ((laws_eqLin.f k bt230.1 bt230.2.1 t214 t215).bind fun t236 => (if t236 = true then (laws_FnExactAddScaled.j0 k a1 t218 bt230.2.2 (bt230.2.2 != t218) a0_0 l0_1 a2_0 l2_1 t214 t215 bt220.1 bt220.2 bt225.1 bt225.2 bt230.1 bt230.2.1) else (laws_FnExactAddScaled.j0 k a1 t218 bt230.2.2 true a0_0 l0_1 a2_0 l2_1 t214 t215 bt220.1 bt220.2 bt225.1 bt225.2 bt230.1 bt230.2.1)))))) = some r := H
   have A22 := Aside0.mk A220
   clear A220
   replace H := Option.bind_eq_some_iff.mp H
   obtain ⟨⟨t220, t221⟩, A230, H⟩ := H
   replace H : ((laws_toLin.f k a2_0 l2_1).bind fun bt225 => ((impl_AddScaled.f k t220 t221 a1 bt225.1 bt225.2).bind fun bt230 => ((laws_eqLin.f k bt230.1 bt230.2.1 t214 t215).bind fun t236 => (if t236 = true then (laws_FnExactAddScaled.j0 k a1 t218 bt230.2.2 (bt230.2.2 != t218) a0_0 l0_1 a2_0 l2_1 t214 t215 t220 t221 bt225.1 bt225.2 bt230.1 bt230.2.1) else (laws_FnExactAddScaled.j0 k a1 t218 bt230.2.2 true a0_0 l0_1 a2_0 l2_1 t214 t215 t220 t221 bt225.1 bt225.2 bt230.1 bt230.2.1))))) = some r := H
   have A23 := Aside0.mk A230
   clear A230
   replace H := Option.bind_eq_some_iff.mp H
   obtain ⟨⟨t225, t226⟩, A240, H⟩ := H
   replace H : ((impl_AddScaled.f k t220 t221 a1 t225 t226).bind fun bt230 => ((laws_eqLin.f k bt230.1 bt230.2.1 t214 t215).bind fun t236 => (if t236 = true then (laws_FnExactAddScaled.j0 k a1 t218 bt230.2.2 (bt230.2.2 != t218) a0_0 l0_1 a2_0 l2_1 t214 t215 t220 t221 t225 t226 bt230.1 bt230.2.1) else (laws_FnExactAddScaled.j0 k a1 t218 bt230.2.2 true a0_0 l0_1 a2_0 l2_1 t214 t215 t220 t221 t225 t226 bt230.1 bt230.2.1)))) = some r := H
   have A24 := Aside0.mk A240
   clear A240
   replace H := Option.bind_eq_some_iff.mp H
   obtain ⟨⟨t230, t231, t234⟩, A250, H⟩ := H
   replace H : ((laws_eqLin.f k t230 t231 t214 t215).bind fun t236 => (if t236 = true then (laws_FnExactAddScaled.j0 k a1 t218 t234 (t234 != t218) a0_0 l0_1 a2_0 l2_1 t214 t215 t220 t221 t225 t226 t230 t231) else (laws_FnExactAddScaled.j0 k a1 t218 t234 true a0_0 l0_1 a2_0 l2_1 t214 t215 t220 t221 t225 t226 t230 t231))) = some r := H
   have A25 := Aside0.mk A250
   clear A250
   have HC26 := Aside0.mk H
   clear H
   go_enter Try.func7, Try.ntmps7
   try go_wp2_with (first | ((with_reducible refine gate_dst (N := 3) rfl ?_); refine box_event ?hg (N := 3) ?hd (cs := #[.int .i64 a0_0, .slice A0_1 l0_1.length c0_1]) (t := 59) ?hr ?_; (case hd => rfl); (case hg => rfl); (case hr => first | (go_simp; done) | (go_simp; rfl)); intro gb202 hg w27 hbox hb; have BK202 := Aside0.mk (hbox); have GW202 := gw hg HB; have GE202 := gw hg HB; replace HB := bs HB hb; clear hb hbox hg) | ((with_reducible refine gate_dst (N := 5) rfl ?_); refine box_event ?hg (N := 5) ?hd (cs := #[.int .i64 a2_0, .slice A2_1 l2_1.length c2_1]) (t := 59) ?hr ?_; (case hd => rfl); (case hg => rfl); (case hr => first | (go_simp; done) | (go_simp; rfl)); intro gb203 hg w28 hbox hb; have BK203 := Aside0.mk (hbox); have GW203 := gw hg HB; have GE203 := gw hg HB; replace HB := bs HB hb; have NB202_203 := nl hg BK202; have NB203_202 := ng hg BK202; replace BK202 := bb BK202 hb; clear hb hbox hg; have hnb29 := NB202_203.out; have hnc29 := NB203_202.out; obtain ⟨hcz30_0, hcz30_1⟩ := c2 BK202; have hfz30_0 := blk_frozen BK202.out 0; have hfz30_1 := blk_frozen BK202.out 1) | ((with_reducible refine gate_callee (f := 38) rfl ?_); refine goesL_ (some 21) rfl rfl Try.func38 (by kernel_rfl) rfl #[.agg #[.int .i64 a0_0, .slice A0_1 l0_1.length c0_1], .int .i64 1048576] rfl (by (try simp only [List.map_toArray, List.map_cons, List.map_nil]); first | done | rfl | (simp only [List.length_drop, List.length_take]; rfl)) ?_; (with_reducible refine (laws_szLin.calls a0_0 _ _ l0_1 1048576 t204 _ ?side1 ?side2 A4.out).mono ?_); (case side1 => exact mc ((Kd.C_below HR0_1.out HB.out))); (case side2 => exact HC0_1.out); rintro e w31 ⟨rfl, hb⟩; refine ⟨_, rfl, ?_⟩; replace BK202 := bb BK202 hb; replace BK203 := bb BK203 hb; replace HB := bs HB hb; (try clear hb); obtain ⟨hcz32_0, hcz32_1⟩ := c2 BK203; have hfz32_0 := blk_frozen BK203.out 0; have hfz32_1 := blk_frozen BK203.out 1) | ((with_reducible refine gate_callee (f := 38) rfl ?_); refine goesL_ (some 26) rfl rfl Try.func38 (by kernel_rfl) rfl #[.agg #[.int .i64 a2_0, .slice A2_1 l2_1.length c2_1], .int .i64 t204] rfl (by (try simp only [List.map_toArray, List.map_cons, List.map_nil]); first | done | rfl | (simp only [List.length_drop, List.length_take]; rfl)) ?_; (with_reducible refine (laws_szLin.calls a2_0 _ _ l2_1 t204 t205 _ ?side1 ?side2 A11.out).mono ?_); (case side1 => exact mc ((Kd.C_below HR2_1.out HB.out))); (case side2 => exact HC2_1.out); rintro e w33 ⟨rfl, hb⟩; refine ⟨_, rfl, ?_⟩; replace BK202 := bb BK202 hb; replace BK203 := bb BK203 hb; replace HB := bs HB hb; (try clear hb)))
   replace BK202 := Aside0.mk (blk_drew BK202.out)
   replace BK203 := Aside0.mk (blk_drew BK203.out)
   replace HB := Aside0.mk (below_drew1 HB.out)
   refine start_ (n := 12) (S := fun w' => w'.cell? ⟨gb202, 0, none⟩ = some (.int .i64 a0_0) ∧ w'.cell? ⟨gb202, 1, none⟩ = some (.slice A0_1 l0_1.length c0_1) ∧ w'.cell? ⟨gb203, 0, none⟩ = some (.int .i64 a2_0) ∧ w'.cell? ⟨gb203, 1, none⟩ = some (.slice A2_1 l2_1.length c2_1)) (ds := []) #[false, false, false, false, false, false, false, false, false, false, false, false] (by kernel_rfl) rfl rfl ⟨(c2 BK202).1, (c2 BK202).2, (c2 BK203).1, (c2 BK203).2⟩ (fun hHeld => ?_); refine with_tabW laws_FnExactAddScaled.tab8 laws_FnExactAddScaled.bits8 (fun HT_ HW_ => ?_)
   generalize w33.drew = w34 at BK202 BK203 HB hHeld ⊢
   refine pure_ (i := 2) (N := some 32) (v := ?_) (a' := ?_) #[false, false, true, false, false, false, false, false, false, false, false, false] rfl rfl (any_of HT_.out (by kernel_rfl)) (fun _ _ _ h => h) (Or.inl ⟨by rfl, ?_⟩) ?_ ?_
   rotate_left
   ·intro w'
    go_simp
    with_reducible rfl
   rotate_left
   ·simp only [Act.put, List.setIfInBounds_toArray, List.set_cons_zero, List.set_cons_succ, i64_w, i32_w]
    rfl
   refine take_ (i := 0) (N := some 30) (v := ?_) (a' := ?_) #[true, false, true, false, false, false, false, false, false, false, false, false] rfl rfl (take_ofW HT_.out HW_.out (by kernel_rfl)) (fun _ _ _ h => h) (Or.inl ⟨by rfl, ?_⟩) hHeld ?_ ?_
   rotate_left
   ·rintro w' ⟨s0, s1, s2, s3⟩
    go_simp
    with_reducible rfl
   rotate_left
   ·simp only [Act.put, List.setIfInBounds_toArray, List.set_cons_zero, List.set_cons_succ, i64_w, i32_w]
    rfl
   refine take_ (i := 3) (N := some 33) (v := ?_) (a' := ?_) #[true, false, true, true, false, false, false, false, false, false, false, false] rfl rfl (take_ofW HT_.out HW_.out (by kernel_rfl)) (fun _ _ _ h => h) (Or.inl ⟨by rfl, ?_⟩) hHeld ?_ ?_
   rotate_left
   ·rintro w' ⟨s0, s1, s2, s3⟩
    go_simp
    with_reducible rfl
   rotate_left
   ·simp only [Act.put, List.setIfInBounds_toArray, List.set_cons_zero, List.set_cons_succ, i64_w, i32_w]
    rfl
   refine join_ (σ := Value × Value × Value × Nat) 2 #[true, true, true, true, true, true, true, true, true, true, false, false] (fun s_ => [(31, .agg #[.int .i64 t206, s_.1]), (34, .agg #[.int .i64 t210, s_.2.1]), (35, .tuple #[.agg #[.int .i64 t214, s_.2.2.1], .bool t218]), (8, .pointer (some ⟨s_.2.2.2, 0, none⟩)), (29, .tuple #[.agg #[.int .i64 t214, s_.2.2.1], .bool t218]), (36, .agg #[.int .i64 t214, s_.2.2.1]), (37, .bool t218)]) (fun s_ w' => (w'.cell? ⟨gb202, 0, none⟩ = some (.int .i64 a0_0) ∧ w'.cell? ⟨gb202, 1, none⟩ = some (.slice A0_1 l0_1.length c0_1) ∧ w'.cell? ⟨gb203, 0, none⟩ = some (.int .i64 a2_0) ∧ w'.cell? ⟨gb203, 1, none⟩ = some (.slice A2_1 l2_1.length c2_1)) ∧ (Kd.R (Kd.int .i64) 3 w' w.heap.size (fun k_ => some k_ ≠ (s_.2.1 : Value).ownBlock ∧ some k_ ≠ (s_.2.2.1 : Value).ownBlock) s_.1 t207) ∧ (Kd.R (Kd.int .i64) 3 w' w.heap.size (fun k_ => some k_ ≠ (s_.1 : Value).ownBlock ∧ some k_ ≠ (s_.2.2.1 : Value).ownBlock) s_.2.1 t211) ∧ (Kd.R (Kd.int .i64) 3 w' w.heap.size (fun k_ => some k_ ≠ (s_.1 : Value).ownBlock ∧ some k_ ≠ (s_.2.1 : Value).ownBlock) s_.2.2.1 t215) ∧ (w'.heap[gb202]? = some (.cells #[.int .i64 a0_0, .slice A0_1 l0_1.length c0_1] 59 (0, 0))) ∧ (w'.heap[gb203]? = some (.cells #[.int .i64 a2_0, .slice A2_1 l2_1.length c2_1] 59 (0, 0))) ∧ (w'.heap[s_.2.2.2]? = some (.cells #[.int .i64 0, .slice none 0 0] 51 (0, 0))) ∧ (w.heap.size ≤ s_.2.2.2) ∧ (w.heap.size ≤ s_.2.2.2) ∧ (gb202 ≠ s_.2.2.2) ∧ (s_.2.2.2 ≠ gb202) ∧ (gb203 ≠ s_.2.2.2) ∧ (s_.2.2.2 ≠ gb203) ∧ (Below w.heap.size w w')) ?_ ?_
   rotate_left
   ·intro hCont
    refine two_ (i := 1) (j := 9) (Ni := some 31) (Nj := some 8) #[true, true, true, true, false, false, false, false, false, false, false, false] #[true, false, true, true, false, false, false, false, false, true, false, false] rfl rfl rfl rfl (two_of HT_.out (by kernel_rfl)) (by decide) (by decide) (fun K hK => ?_) (fun K hK => ?_)
    ·skip
     refine goes_ Try.func40 (by kernel_rfl) rfl #[.agg #[.int .i64 a0_0, .slice A0_1 l0_1.length c0_1]] (by rfl) rfl rfl (by (try simp only [List.map_toArray, List.map_cons, List.map_nil]); first | done | rfl | (simp only [List.length_drop, List.length_take]; rfl)) ?_
     with_reducible refine (laws_toLin.calls k a0_0 _ _ l0_1 t206 t207 _ ?side1 ?side2 A20.out).mono ?_
     (case side1 => exact mc ((Kd.C_below HR0_1.out HB.out)))
     (case side2 => exact HC0_1.out)
     rintro e w35 ⟨v208, rfl, ho0, hb⟩
     refine ⟨_, rfl, ?_⟩
     have HO209 := Aside0.mk (Kd.R_lower ho0 (below_size (ms HB)))
     replace BK202 := bb BK202 hb
     replace BK203 := bb BK203 hb
     replace HB := bs HB hb
     (try clear hb)
     (try clear hb2)
     (try clear hk)
     (try clear hi)
     (try clear ho0)
     refine hK.out _ _ ⟨(c2 BK202).1, (c2 BK202).2, (c2 BK203).1, (c2 BK203).2⟩ (fun hHeld => ?_)
     clear hK K
     refine norm_ (a' := ?_) ?_ ?_
     rotate_left
     ·show Act.put _ (some 31) _ = _
      simp only [Act.put, List.setIfInBounds_toArray, List.set_cons_zero, List.set_cons_succ, i64_w, i32_w]
      rfl
     refine two_ (i := 4) (j := 9) (Ni := some 34) (Nj := some 8) #[true, true, true, true, true, false, false, false, false, false, false, false] #[true, true, true, true, false, false, false, false, false, true, false, false] rfl rfl rfl rfl (two_of HT_.out (by kernel_rfl)) (by decide) (by decide) (fun K hK => ?_) (fun K hK => ?_)
     ·skip
      refine goes_ Try.func40 (by kernel_rfl) rfl #[.agg #[.int .i64 a2_0, .slice A2_1 l2_1.length c2_1]] (by rfl) rfl rfl (by (try simp only [List.map_toArray, List.map_cons, List.map_nil]); first | done | rfl | (simp only [List.length_drop, List.length_take]; rfl)) ?_
      with_reducible refine (laws_toLin.calls k a2_0 _ _ l2_1 t210 t211 _ ?side1 ?side2 A21.out).mono ?_
      (case side1 => exact mc ((Kd.C_below HR2_1.out HB.out)))
      (case side2 => exact HC2_1.out)
      rintro e w36 ⟨v212, rfl, ho0, hb⟩
      refine ⟨_, rfl, ?_⟩
      have HO213 := Aside0.mk (Kd.R_lower (Kd.R_new' ho0 (Kd.R_lt (mr HO209))) (below_size (ms HB)))
      replace HO209 := rl HO209 ho0 hb
      replace BK202 := bb BK202 hb
      replace BK203 := bb BK203 hb
      replace HB := bs HB hb
      (try clear hb)
      (try clear hb2)
      (try clear hk)
      (try clear hi)
      (try clear ho0)
      obtain ⟨Ao37, co37, eo37⟩ := Kd.R_slice HO209.out
      (first | subst eo37 | (injection eo37 with f1_ f2_ f3_; have f4_ := f1_.symm; have f5_ := f3_.symm; clear f1_ f2_ f3_; subst f4_; subst f5_))
      obtain ⟨Ao38, co38, eo38⟩ := Kd.R_slice HO213.out
      (first | subst eo38 | (injection eo38 with f1_ f2_ f3_; have f4_ := f1_.symm; have f5_ := f3_.symm; clear f1_ f2_ f3_; subst f4_; subst f5_))
      refine hK.out _ _ ⟨(c2 BK202).1, (c2 BK202).2, (c2 BK203).1, (c2 BK203).2⟩ (fun hHeld => ?_)
      clear hK K
      refine norm_ (a' := ?_) ?_ ?_
      rotate_left
      ·show Act.put _ (some 34) _ = _
       simp only [Act.put, List.setIfInBounds_toArray, List.set_cons_zero, List.set_cons_succ, i64_w, i32_w]
       rfl
      refine two_ (i := 5) (j := 9) (Ni := some 35) (Nj := some 8) #[true, true, true, true, true, true, false, false, false, false, false, false] #[true, true, true, true, true, false, false, false, false, true, false, false] rfl rfl rfl rfl (two_of HT_.out (by kernel_rfl)) (by decide) (by decide) (fun K hK => ?_) (fun K hK => ?_)
      ·skip
       refine goes_ Try.func39 (by kernel_rfl) rfl #[.agg #[.int .i64 t206, .slice Ao37 t207.length co37], .int .i64 a1, .agg #[.int .i64 t210, .slice Ao38 t211.length co38]] (by rfl) rfl rfl (by (try simp only [List.map_toArray, List.map_cons, List.map_nil]); first | done | rfl | (simp only [List.length_drop, List.length_take]; rfl)) ?_
       with_reducible refine (spec_AddScaled.calls k t206 _ _ t207 a1 t210 _ _ t211 t214 t215 t218 _ ?side1 ?side2 ?side3 ?side4 A22.out).mono ?_
       (case side1 => exact mc ((Kd.R_reads' HO209.out).2.2))
       (case side2 => exact (Kd.R_reads' HO209.out).2.1)
       (case side3 => exact mc ((Kd.R_reads' HO213.out).2.2))
       (case side4 => exact (Kd.R_reads' HO213.out).2.1)
       rintro e w39 ⟨v216, rfl, ho0, hb⟩
       refine ⟨_, rfl, ?_⟩
       have HO217 := Aside0.mk (Kd.R_lower (Kd.R_new' (Kd.R_new' ho0 (Kd.R_lt (mr HO209))) (Kd.R_lt (mr HO213))) (below_size (ms HB)))
       replace HO209 := rl HO209 ho0 hb
       replace HO213 := rl HO213 ho0 hb
       replace BK202 := bb BK202 hb
       replace BK203 := bb BK203 hb
       replace HB := bs HB hb
       (try clear hb)
       (try clear hb2)
       (try clear hk)
       (try clear hi)
       (try clear ho0)
       refine hK.out _ _ ⟨(c2 BK202).1, (c2 BK202).2, (c2 BK203).1, (c2 BK203).2⟩ (fun hHeld => ?_)
       clear hK K
       refine norm_ (a' := ?_) ?_ ?_
       rotate_left
       ·show Act.put _ (some 35) _ = _
        simp only [Act.put, List.setIfInBounds_toArray, List.set_cons_zero, List.set_cons_succ, i64_w, i32_w]
        rfl
       refine pure_ (i := 6) (N := some 29) (v := ?_) (a' := ?_) #[true, true, true, true, true, true, true, false, false, false, false, false] rfl rfl (any_of HT_.out (by kernel_rfl)) (fun _ _ _ h => h) (Or.inl ⟨by rfl, ?_⟩) ?_ ?_
       rotate_left
       ·intro w'
        go_simp
        with_reducible rfl
       rotate_left
       ·simp only [Act.put, List.setIfInBounds_toArray, List.set_cons_zero, List.set_cons_succ, i64_w, i32_w]
        rfl
       refine pure_ (i := 7) (N := some 36) (v := ?_) (a' := ?_) #[true, true, true, true, true, true, true, true, false, false, false, false] rfl rfl (any_of HT_.out (by kernel_rfl)) (fun _ _ _ h => h) (Or.inl ⟨by rfl, ?_⟩) ?_ ?_
       rotate_left
       ·intro w'
        go_simp
        with_reducible rfl
       rotate_left
       ·simp only [Act.put, List.setIfInBounds_toArray, List.set_cons_zero, List.set_cons_succ, i64_w, i32_w]
        rfl
       refine pure_ (i := 8) (N := some 37) (v := ?_) (a' := ?_) #[true, true, true, true, true, true, true, true, true, false, false, false] rfl rfl (any_of HT_.out (by kernel_rfl)) (fun _ _ _ h => h) (Or.inl ⟨by rfl, ?_⟩) ?_ ?_
       rotate_left
       ·intro w'
        go_simp
        with_reducible rfl
       rotate_left
       ·simp only [Act.put, List.setIfInBounds_toArray, List.set_cons_zero, List.set_cons_succ, i64_w, i32_w]
        rfl
       refine one_ (i := 9) (N := some 8) #[true, true, true, true, true, true, true, true, true, true, false, false] rfl rfl (one_of HT_.out (by kernel_rfl)) (by decide) (fun K hK => ?_)
       refine box_step ?hg (N := 8) ?hd (cs := #[.int .i64 0, .slice none 0 0]) (t := 51) ?hr ?_; (case hd => rfl); (case hg => rfl); (case hr => first | (go_simp; done) | (go_simp; rfl))
       intro gb219 hg w40 hbox hb
       replace HO209 := rb HO209 hb
       replace HO213 := rb HO213 hb
       replace HO217 := rb HO217 hb
       have BK219 := Aside0.mk (hbox)
       have GW219 := gw hg HB
       have GE219 := gw hg HB
       replace HB := bs HB hb
       have NB202_219 := nl hg BK202
       have NB219_202 := ng hg BK202
       replace BK202 := bb BK202 hb
       have NB203_219 := nl hg BK203
       have NB219_203 := ng hg BK203
       replace BK203 := bb BK203 hb
       clear hb hbox hg
       refine hK.out _ _ ⟨(c2 BK202).1, (c2 BK202).2, (c2 BK203).1, (c2 BK203).2⟩ (fun hHeld => ?_)
       clear hK K
       refine norm_ (a' := ?_) ?_ ?_
       rotate_left
       ·show Act.put _ (some 8) _ = _
        simp only [Act.put, List.setIfInBounds_toArray, List.set_cons_zero, List.set_cons_succ, i64_w, i32_w]
        rfl
       exact norm_ (by simp only [putAll, Act.put, List.setIfInBounds_toArray, List.set_cons_zero, List.set_cons_succ]) (hCont (.slice Ao37 t207.length co37, .slice Ao38 t211.length co38, v216, gb219) _ ⟨hHeld, (by (with_reducible repeat (first | apply Kd.R_alloc | apply Kd.R_drewN | apply Kd.R_drew)); exact Kd.R_mono HO209.out (fun _ hk => ⟨hk.1.2, hk.2⟩)), (by (with_reducible repeat (first | apply Kd.R_alloc | apply Kd.R_drewN | apply Kd.R_drew)); exact Kd.R_mono HO213.out (fun _ hk => ⟨hk.1.2, hk.2⟩)), (by (with_reducible repeat (first | apply Kd.R_alloc | apply Kd.R_drewN | apply Kd.R_drew)); exact Kd.R_mono HO217.out (fun _ hk => ⟨hk.1.2, hk.2⟩)), (mb BK202), (mb BK203), (mb BK219), GW219.out, GE219.out, NB202_219.out, NB219_202.out, NB203_219.out, NB219_203.out, (ms HB)⟩)
      ·skip
       refine box_step ?hg (N := 8) ?hd (cs := #[.int .i64 0, .slice none 0 0]) (t := 51) ?hr ?_; (case hd => rfl); (case hg => rfl); (case hr => first | (go_simp; done) | (go_simp; rfl))
       intro gb219 hg w37 hbox hb
       replace HO209 := rb HO209 hb
       replace HO213 := rb HO213 hb
       have BK219 := Aside0.mk (hbox)
       have GW219 := gw hg HB
       have GE219 := gw hg HB
       replace HB := bs HB hb
       have NB202_219 := nl hg BK202
       have NB219_202 := ng hg BK202
       replace BK202 := bb BK202 hb
       have NB203_219 := nl hg BK203
       have NB219_203 := ng hg BK203
       replace BK203 := bb BK203 hb
       clear hb hbox hg
       obtain ⟨Ao38, co38, eo38⟩ := Kd.R_slice HO209.out
       (first | subst eo38 | (injection eo38 with f1_ f2_ f3_; have f4_ := f1_.symm; have f5_ := f3_.symm; clear f1_ f2_ f3_; subst f4_; subst f5_))
       obtain ⟨Ao39, co39, eo39⟩ := Kd.R_slice HO213.out
       (first | subst eo39 | (injection eo39 with f1_ f2_ f3_; have f4_ := f1_.symm; have f5_ := f3_.symm; clear f1_ f2_ f3_; subst f4_; subst f5_))
       refine hK.out _ _ ⟨(c2 BK202).1, (c2 BK202).2, (c2 BK203).1, (c2 BK203).2⟩ (fun hHeld => ?_)
       clear hK K
       refine norm_ (a' := ?_) ?_ ?_
       rotate_left
       ·show Act.put _ (some 8) _ = _
        simp only [Act.put, List.setIfInBounds_toArray, List.set_cons_zero, List.set_cons_succ, i64_w, i32_w]
        rfl
       refine one_ (i := 5) (N := some 35) #[true, true, true, true, true, true, false, false, false, true, false, false] rfl rfl (one_of HT_.out (by kernel_rfl)) (by decide) (fun K hK => ?_)
       refine goes_ Try.func39 (by kernel_rfl) rfl #[.agg #[.int .i64 t206, .slice Ao38 t207.length co38], .int .i64 a1, .agg #[.int .i64 t210, .slice Ao39 t211.length co39]] (by rfl) rfl rfl (by (try simp only [List.map_toArray, List.map_cons, List.map_nil]); first | done | rfl | (simp only [List.length_drop, List.length_take]; rfl)) ?_
       with_reducible refine (spec_AddScaled.calls k t206 _ _ t207 a1 t210 _ _ t211 t214 t215 t218 _ ?side1 ?side2 ?side3 ?side4 A22.out).mono ?_
       (case side1 => exact mc ((Kd.R_reads' HO209.out).2.2))
       (case side2 => exact (Kd.R_reads' HO209.out).2.1)
       (case side3 => exact mc ((Kd.R_reads' HO213.out).2.2))
       (case side4 => exact (Kd.R_reads' HO213.out).2.1)
       rintro e w40 ⟨v216, rfl, ho0, hb⟩
       refine ⟨_, rfl, ?_⟩
       have HO217 := Aside0.mk (Kd.R_lower (Kd.R_new' (Kd.R_new' ho0 (Kd.R_lt (mr HO209))) (Kd.R_lt (mr HO213))) (below_size (ms HB)))
       replace HO209 := rl HO209 ho0 hb
       replace HO213 := rl HO213 ho0 hb
       replace BK202 := bb BK202 hb
       replace BK203 := bb BK203 hb
       replace BK219 := bb BK219 hb
       replace HB := bs HB hb
       (try clear hb)
       (try clear hb2)
       (try clear hk)
       (try clear hi)
       (try clear ho0)
       refine hK.out _ _ ⟨(c2 BK202).1, (c2 BK202).2, (c2 BK203).1, (c2 BK203).2⟩ (fun hHeld => ?_)
       clear hK K
       refine norm_ (a' := ?_) ?_ ?_
       rotate_left
       ·show Act.put _ (some 35) _ = _
        simp only [Act.put, List.setIfInBounds_toArray, List.set_cons_zero, List.set_cons_succ, i64_w, i32_w]
        rfl
       refine pure_ (i := 6) (N := some 29) (v := ?_) (a' := ?_) #[true, true, true, true, true, true, true, false, false, true, false, false] rfl rfl (any_of HT_.out (by kernel_rfl)) (fun _ _ _ h => h) (Or.inl ⟨by rfl, ?_⟩) ?_ ?_
       rotate_left
       ·intro w'
        go_simp
        with_reducible rfl
       rotate_left
       ·simp only [Act.put, List.setIfInBounds_toArray, List.set_cons_zero, List.set_cons_succ, i64_w, i32_w]
        rfl
       refine pure_ (i := 7) (N := some 36) (v := ?_) (a' := ?_) #[true, true, true, true, true, true, true, true, false, true, false, false] rfl rfl (any_of HT_.out (by kernel_rfl)) (fun _ _ _ h => h) (Or.inl ⟨by rfl, ?_⟩) ?_ ?_
       rotate_left
       ·intro w'
        go_simp
        with_reducible rfl
       rotate_left
       ·simp only [Act.put, List.setIfInBounds_toArray, List.set_cons_zero, List.set_cons_succ, i64_w, i32_w]
        rfl
       refine pure_ (i := 8) (N := some 37) (v := ?_) (a' := ?_) #[true, true, true, true, true, true, true, true, true, true, false, false] rfl rfl (any_of HT_.out (by kernel_rfl)) (fun _ _ _ h => h) (Or.inl ⟨by rfl, ?_⟩) ?_ ?_
       rotate_left
       ·intro w'
        go_simp
        with_reducible rfl
       rotate_left
       ·simp only [Act.put, List.setIfInBounds_toArray, List.set_cons_zero, List.set_cons_succ, i64_w, i32_w]
        rfl
       exact norm_ (by simp only [putAll, Act.put, List.setIfInBounds_toArray, List.set_cons_zero, List.set_cons_succ]) (hCont (.slice Ao38 t207.length co38, .slice Ao39 t211.length co39, v216, gb219) _ ⟨hHeld, (by (with_reducible repeat (first | apply Kd.R_alloc | apply Kd.R_drewN | apply Kd.R_drew)); exact Kd.R_mono HO209.out (fun _ hk => ⟨hk.1.2, hk.2⟩)), (by (with_reducible repeat (first | apply Kd.R_alloc | apply Kd.R_drewN | apply Kd.R_drew)); exact Kd.R_mono HO213.out (fun _ hk => ⟨hk.1.2, hk.2⟩)), (by (with_reducible repeat (first | apply Kd.R_alloc | apply Kd.R_drewN | apply Kd.R_drew)); exact Kd.R_mono HO217.out (fun _ hk => ⟨hk.1.2, hk.2⟩)), (mb BK202), (mb BK203), (mb BK219), GW219.out, GE219.out, NB202_219.out, NB219_202.out, NB203_219.out, NB219_203.out, (ms HB)⟩)
     ·skip
      refine box_step ?hg (N := 8) ?hd (cs := #[.int .i64 0, .slice none 0 0]) (t := 51) ?hr ?_; (case hd => rfl); (case hg => rfl); (case hr => first | (go_simp; done) | (go_simp; rfl))
      intro gb219 hg w36 hbox hb
      replace HO209 := rb HO209 hb
      have BK219 := Aside0.mk (hbox)
      have GW219 := gw hg HB
      have GE219 := gw hg HB
      replace HB := bs HB hb
      have NB202_219 := nl hg BK202
      have NB219_202 := ng hg BK202
      replace BK202 := bb BK202 hb
      have NB203_219 := nl hg BK203
      have NB219_203 := ng hg BK203
      replace BK203 := bb BK203 hb
      clear hb hbox hg
      refine hK.out _ _ ⟨(c2 BK202).1, (c2 BK202).2, (c2 BK203).1, (c2 BK203).2⟩ (fun hHeld => ?_)
      clear hK K
      refine norm_ (a' := ?_) ?_ ?_
      rotate_left
      ·show Act.put _ (some 8) _ = _
       simp only [Act.put, List.setIfInBounds_toArray, List.set_cons_zero, List.set_cons_succ, i64_w, i32_w]
       rfl
      refine one_ (i := 4) (N := some 34) #[true, true, true, true, true, false, false, false, false, true, false, false] rfl rfl (one_of HT_.out (by kernel_rfl)) (by decide) (fun K hK => ?_)
      refine goes_ Try.func40 (by kernel_rfl) rfl #[.agg #[.int .i64 a2_0, .slice A2_1 l2_1.length c2_1]] (by rfl) rfl rfl (by (try simp only [List.map_toArray, List.map_cons, List.map_nil]); first | done | rfl | (simp only [List.length_drop, List.length_take]; rfl)) ?_
      with_reducible refine (laws_toLin.calls k a2_0 _ _ l2_1 t210 t211 _ ?side1 ?side2 A21.out).mono ?_
      (case side1 => exact mc ((Kd.C_below HR2_1.out HB.out)))
      (case side2 => exact HC2_1.out)
      rintro e w37 ⟨v212, rfl, ho0, hb⟩
      refine ⟨_, rfl, ?_⟩
      have HO213 := Aside0.mk (Kd.R_lower (Kd.R_new' ho0 (Kd.R_lt (mr HO209))) (below_size (ms HB)))
      replace HO209 := rl HO209 ho0 hb
      replace BK202 := bb BK202 hb
      replace BK203 := bb BK203 hb
      replace BK219 := bb BK219 hb
      replace HB := bs HB hb
      (try clear hb)
      (try clear hb2)
      (try clear hk)
      (try clear hi)
      (try clear ho0)
      obtain ⟨Ao38, co38, eo38⟩ := Kd.R_slice HO209.out
      (first | subst eo38 | (injection eo38 with f1_ f2_ f3_; have f4_ := f1_.symm; have f5_ := f3_.symm; clear f1_ f2_ f3_; subst f4_; subst f5_))
      obtain ⟨Ao39, co39, eo39⟩ := Kd.R_slice HO213.out
      (first | subst eo39 | (injection eo39 with f1_ f2_ f3_; have f4_ := f1_.symm; have f5_ := f3_.symm; clear f1_ f2_ f3_; subst f4_; subst f5_))
      refine hK.out _ _ ⟨(c2 BK202).1, (c2 BK202).2, (c2 BK203).1, (c2 BK203).2⟩ (fun hHeld => ?_)
      clear hK K
      refine norm_ (a' := ?_) ?_ ?_
      rotate_left
      ·show Act.put _ (some 34) _ = _
       simp only [Act.put, List.setIfInBounds_toArray, List.set_cons_zero, List.set_cons_succ, i64_w, i32_w]
       rfl
      refine one_ (i := 5) (N := some 35) #[true, true, true, true, true, true, false, false, false, true, false, false] rfl rfl (one_of HT_.out (by kernel_rfl)) (by decide) (fun K hK => ?_)
      refine goes_ Try.func39 (by kernel_rfl) rfl #[.agg #[.int .i64 t206, .slice Ao38 t207.length co38], .int .i64 a1, .agg #[.int .i64 t210, .slice Ao39 t211.length co39]] (by rfl) rfl rfl (by (try simp only [List.map_toArray, List.map_cons, List.map_nil]); first | done | rfl | (simp only [List.length_drop, List.length_take]; rfl)) ?_
      with_reducible refine (spec_AddScaled.calls k t206 _ _ t207 a1 t210 _ _ t211 t214 t215 t218 _ ?side1 ?side2 ?side3 ?side4 A22.out).mono ?_
      (case side1 => exact mc ((Kd.R_reads' HO209.out).2.2))
      (case side2 => exact (Kd.R_reads' HO209.out).2.1)
      (case side3 => exact mc ((Kd.R_reads' HO213.out).2.2))
      (case side4 => exact (Kd.R_reads' HO213.out).2.1)
      rintro e w40 ⟨v216, rfl, ho0, hb⟩
      refine ⟨_, rfl, ?_⟩
      have HO217 := Aside0.mk (Kd.R_lower (Kd.R_new' (Kd.R_new' ho0 (Kd.R_lt (mr HO209))) (Kd.R_lt (mr HO213))) (below_size (ms HB)))
      replace HO209 := rl HO209 ho0 hb
      replace HO213 := rl HO213 ho0 hb
      replace BK202 := bb BK202 hb
      replace BK203 := bb BK203 hb
      replace BK219 := bb BK219 hb
      replace HB := bs HB hb
      (try clear hb)
      (try clear hb2)
      (try clear hk)
      (try clear hi)
      (try clear ho0)
      refine hK.out _ _ ⟨(c2 BK202).1, (c2 BK202).2, (c2 BK203).1, (c2 BK203).2⟩ (fun hHeld => ?_)
      clear hK K
      refine norm_ (a' := ?_) ?_ ?_
      rotate_left
      ·show Act.put _ (some 35) _ = _
       simp only [Act.put, List.setIfInBounds_toArray, List.set_cons_zero, List.set_cons_succ, i64_w, i32_w]
       rfl
      refine pure_ (i := 6) (N := some 29) (v := ?_) (a' := ?_) #[true, true, true, true, true, true, true, false, false, true, false, false] rfl rfl (any_of HT_.out (by kernel_rfl)) (fun _ _ _ h => h) (Or.inl ⟨by rfl, ?_⟩) ?_ ?_
      rotate_left
      ·intro w'
       go_simp
       with_reducible rfl
      rotate_left
      ·simp only [Act.put, List.setIfInBounds_toArray, List.set_cons_zero, List.set_cons_succ, i64_w, i32_w]
       rfl
      refine pure_ (i := 7) (N := some 36) (v := ?_) (a' := ?_) #[true, true, true, true, true, true, true, true, false, true, false, false] rfl rfl (any_of HT_.out (by kernel_rfl)) (fun _ _ _ h => h) (Or.inl ⟨by rfl, ?_⟩) ?_ ?_
      rotate_left
      ·intro w'
       go_simp
       with_reducible rfl
      rotate_left
      ·simp only [Act.put, List.setIfInBounds_toArray, List.set_cons_zero, List.set_cons_succ, i64_w, i32_w]
       rfl
      refine pure_ (i := 8) (N := some 37) (v := ?_) (a' := ?_) #[true, true, true, true, true, true, true, true, true, true, false, false] rfl rfl (any_of HT_.out (by kernel_rfl)) (fun _ _ _ h => h) (Or.inl ⟨by rfl, ?_⟩) ?_ ?_
      rotate_left
      ·intro w'
       go_simp
       with_reducible rfl
      rotate_left
      ·simp only [Act.put, List.setIfInBounds_toArray, List.set_cons_zero, List.set_cons_succ, i64_w, i32_w]
       rfl
      exact norm_ (by simp only [putAll, Act.put, List.setIfInBounds_toArray, List.set_cons_zero, List.set_cons_succ]) (hCont (.slice Ao38 t207.length co38, .slice Ao39 t211.length co39, v216, gb219) _ ⟨hHeld, (by (with_reducible repeat (first | apply Kd.R_alloc | apply Kd.R_drewN | apply Kd.R_drew)); exact Kd.R_mono HO209.out (fun _ hk => ⟨hk.1.2, hk.2⟩)), (by (with_reducible repeat (first | apply Kd.R_alloc | apply Kd.R_drewN | apply Kd.R_drew)); exact Kd.R_mono HO213.out (fun _ hk => ⟨hk.1.2, hk.2⟩)), (by (with_reducible repeat (first | apply Kd.R_alloc | apply Kd.R_drewN | apply Kd.R_drew)); exact Kd.R_mono HO217.out (fun _ hk => ⟨hk.1.2, hk.2⟩)), (mb BK202), (mb BK203), (mb BK219), GW219.out, GE219.out, NB202_219.out, NB219_202.out, NB203_219.out, NB219_203.out, (ms HB)⟩)
    ·skip
     refine box_step ?hg (N := 8) ?hd (cs := #[.int .i64 0, .slice none 0 0]) (t := 51) ?hr ?_; (case hd => rfl); (case hg => rfl); (case hr => first | (go_simp; done) | (go_simp; rfl))
     intro gb219 hg w35 hbox hb
     have BK219 := Aside0.mk (hbox)
     have GW219 := gw hg HB
     have GE219 := gw hg HB
     replace HB := bs HB hb
     have NB202_219 := nl hg BK202
     have NB219_202 := ng hg BK202
     replace BK202 := bb BK202 hb
     have NB203_219 := nl hg BK203
     have NB219_203 := ng hg BK203
     replace BK203 := bb BK203 hb
     clear hb hbox hg
     refine hK.out _ _ ⟨(c2 BK202).1, (c2 BK202).2, (c2 BK203).1, (c2 BK203).2⟩ (fun hHeld => ?_)
     clear hK K
     refine norm_ (a' := ?_) ?_ ?_
     rotate_left
     ·show Act.put _ (some 8) _ = _
      simp only [Act.put, List.setIfInBounds_toArray, List.set_cons_zero, List.set_cons_succ, i64_w, i32_w]
      rfl
     refine one_ (i := 1) (N := some 31) #[true, true, true, true, false, false, false, false, false, true, false, false] rfl rfl (one_of HT_.out (by kernel_rfl)) (by decide) (fun K hK => ?_)
     refine goes_ Try.func40 (by kernel_rfl) rfl #[.agg #[.int .i64 a0_0, .slice A0_1 l0_1.length c0_1]] (by rfl) rfl rfl (by (try simp only [List.map_toArray, List.map_cons, List.map_nil]); first | done | rfl | (simp only [List.length_drop, List.length_take]; rfl)) ?_
     with_reducible refine (laws_toLin.calls k a0_0 _ _ l0_1 t206 t207 _ ?side1 ?side2 A20.out).mono ?_
     (case side1 => exact mc ((Kd.C_below HR0_1.out HB.out)))
     (case side2 => exact HC0_1.out)
     rintro e w36 ⟨v208, rfl, ho0, hb⟩
     refine ⟨_, rfl, ?_⟩
     have HO209 := Aside0.mk (Kd.R_lower ho0 (below_size (ms HB)))
     replace BK202 := bb BK202 hb
     replace BK203 := bb BK203 hb
     replace BK219 := bb BK219 hb
     replace HB := bs HB hb
     (try clear hb)
     (try clear hb2)
     (try clear hk)
     (try clear hi)
     (try clear ho0)
     refine hK.out _ _ ⟨(c2 BK202).1, (c2 BK202).2, (c2 BK203).1, (c2 BK203).2⟩ (fun hHeld => ?_)
     clear hK K
     refine norm_ (a' := ?_) ?_ ?_
     rotate_left
     ·show Act.put _ (some 31) _ = _
      simp only [Act.put, List.setIfInBounds_toArray, List.set_cons_zero, List.set_cons_succ, i64_w, i32_w]
      rfl
     refine one_ (i := 4) (N := some 34) #[true, true, true, true, true, false, false, false, false, true, false, false] rfl rfl (one_of HT_.out (by kernel_rfl)) (by decide) (fun K hK => ?_)
     refine goes_ Try.func40 (by kernel_rfl) rfl #[.agg #[.int .i64 a2_0, .slice A2_1 l2_1.length c2_1]] (by rfl) rfl rfl (by (try simp only [List.map_toArray, List.map_cons, List.map_nil]); first | done | rfl | (simp only [List.length_drop, List.length_take]; rfl)) ?_
     with_reducible refine (laws_toLin.calls k a2_0 _ _ l2_1 t210 t211 _ ?side1 ?side2 A21.out).mono ?_
     (case side1 => exact mc ((Kd.C_below HR2_1.out HB.out)))
     (case side2 => exact HC2_1.out)
     rintro e w37 ⟨v212, rfl, ho0, hb⟩
     refine ⟨_, rfl, ?_⟩
     have HO213 := Aside0.mk (Kd.R_lower (Kd.R_new' ho0 (Kd.R_lt (mr HO209))) (below_size (ms HB)))
     replace HO209 := rl HO209 ho0 hb
     replace BK202 := bb BK202 hb
     replace BK203 := bb BK203 hb
     replace BK219 := bb BK219 hb
     replace HB := bs HB hb
     (try clear hb)
     (try clear hb2)
     (try clear hk)
     (try clear hi)
     (try clear ho0)
     obtain ⟨Ao38, co38, eo38⟩ := Kd.R_slice HO209.out
     (first | subst eo38 | (injection eo38 with f1_ f2_ f3_; have f4_ := f1_.symm; have f5_ := f3_.symm; clear f1_ f2_ f3_; subst f4_; subst f5_))
     obtain ⟨Ao39, co39, eo39⟩ := Kd.R_slice HO213.out
     (first | subst eo39 | (injection eo39 with f1_ f2_ f3_; have f4_ := f1_.symm; have f5_ := f3_.symm; clear f1_ f2_ f3_; subst f4_; subst f5_))
     refine hK.out _ _ ⟨(c2 BK202).1, (c2 BK202).2, (c2 BK203).1, (c2 BK203).2⟩ (fun hHeld => ?_)
     clear hK K
     refine norm_ (a' := ?_) ?_ ?_
     rotate_left
     ·show Act.put _ (some 34) _ = _
      simp only [Act.put, List.setIfInBounds_toArray, List.set_cons_zero, List.set_cons_succ, i64_w, i32_w]
      rfl
     refine one_ (i := 5) (N := some 35) #[true, true, true, true, true, true, false, false, false, true, false, false] rfl rfl (one_of HT_.out (by kernel_rfl)) (by decide) (fun K hK => ?_)
     refine goes_ Try.func39 (by kernel_rfl) rfl #[.agg #[.int .i64 t206, .slice Ao38 t207.length co38], .int .i64 a1, .agg #[.int .i64 t210, .slice Ao39 t211.length co39]] (by rfl) rfl rfl (by (try simp only [List.map_toArray, List.map_cons, List.map_nil]); first | done | rfl | (simp only [List.length_drop, List.length_take]; rfl)) ?_
     with_reducible refine (spec_AddScaled.calls k t206 _ _ t207 a1 t210 _ _ t211 t214 t215 t218 _ ?side1 ?side2 ?side3 ?side4 A22.out).mono ?_
     (case side1 => exact mc ((Kd.R_reads' HO209.out).2.2))
     (case side2 => exact (Kd.R_reads' HO209.out).2.1)
     (case side3 => exact mc ((Kd.R_reads' HO213.out).2.2))
     (case side4 => exact (Kd.R_reads' HO213.out).2.1)
     rintro e w40 ⟨v216, rfl, ho0, hb⟩
     refine ⟨_, rfl, ?_⟩
     have HO217 := Aside0.mk (Kd.R_lower (Kd.R_new' (Kd.R_new' ho0 (Kd.R_lt (mr HO209))) (Kd.R_lt (mr HO213))) (below_size (ms HB)))
     replace HO209 := rl HO209 ho0 hb
     replace HO213 := rl HO213 ho0 hb
     replace BK202 := bb BK202 hb
     replace BK203 := bb BK203 hb
     replace BK219 := bb BK219 hb
     replace HB := bs HB hb
     (try clear hb)
     (try clear hb2)
     (try clear hk)
     (try clear hi)
     (try clear ho0)
     refine hK.out _ _ ⟨(c2 BK202).1, (c2 BK202).2, (c2 BK203).1, (c2 BK203).2⟩ (fun hHeld => ?_)
     clear hK K
     refine norm_ (a' := ?_) ?_ ?_
     rotate_left
     ·show Act.put _ (some 35) _ = _
      simp only [Act.put, List.setIfInBounds_toArray, List.set_cons_zero, List.set_cons_succ, i64_w, i32_w]
      rfl
     refine pure_ (i := 6) (N := some 29) (v := ?_) (a' := ?_) #[true, true, true, true, true, true, true, false, false, true, false, false] rfl rfl (any_of HT_.out (by kernel_rfl)) (fun _ _ _ h => h) (Or.inl ⟨by rfl, ?_⟩) ?_ ?_
     rotate_left
     ·intro w'
      go_simp
      with_reducible rfl
     rotate_left
     ·simp only [Act.put, List.setIfInBounds_toArray, List.set_cons_zero, List.set_cons_succ, i64_w, i32_w]
      rfl
     refine pure_ (i := 7) (N := some 36) (v := ?_) (a' := ?_) #[true, true, true, true, true, true, true, true, false, true, false, false] rfl rfl (any_of HT_.out (by kernel_rfl)) (fun _ _ _ h => h) (Or.inl ⟨by rfl, ?_⟩) ?_ ?_
     rotate_left
     ·intro w'
      go_simp
      with_reducible rfl
     rotate_left
     ·simp only [Act.put, List.setIfInBounds_toArray, List.set_cons_zero, List.set_cons_succ, i64_w, i32_w]
      rfl
     refine pure_ (i := 8) (N := some 37) (v := ?_) (a' := ?_) #[true, true, true, true, true, true, true, true, true, true, false, false] rfl rfl (any_of HT_.out (by kernel_rfl)) (fun _ _ _ h => h) (Or.inl ⟨by rfl, ?_⟩) ?_ ?_
     rotate_left
     ·intro w'
      go_simp
      with_reducible rfl
     rotate_left
     ·simp only [Act.put, List.setIfInBounds_toArray, List.set_cons_zero, List.set_cons_succ, i64_w, i32_w]
      rfl
     exact norm_ (by simp only [putAll, Act.put, List.setIfInBounds_toArray, List.set_cons_zero, List.set_cons_succ]) (hCont (.slice Ao38 t207.length co38, .slice Ao39 t211.length co39, v216, gb219) _ ⟨hHeld, (by (with_reducible repeat (first | apply Kd.R_alloc | apply Kd.R_drewN | apply Kd.R_drew)); exact Kd.R_mono HO209.out (fun _ hk => ⟨hk.1.2, hk.2⟩)), (by (with_reducible repeat (first | apply Kd.R_alloc | apply Kd.R_drewN | apply Kd.R_drew)); exact Kd.R_mono HO213.out (fun _ hk => ⟨hk.1.2, hk.2⟩)), (by (with_reducible repeat (first | apply Kd.R_alloc | apply Kd.R_drewN | apply Kd.R_drew)); exact Kd.R_mono HO217.out (fun _ hk => ⟨hk.1.2, hk.2⟩)), (mb BK202), (mb BK203), (mb BK219), GW219.out, GE219.out, NB202_219.out, NB219_202.out, NB203_219.out, NB219_203.out, (ms HB)⟩)
   rintro ⟨v208, v212, v216, gb219⟩ w41 ⟨hS_, h0_, h1_, h2_, h3_, h4_, h5_, h6_, h7_, h8_, h9_, h10_, h11_, h12_⟩
   have n0_ : Aside0 (Kd.R (Kd.int .i64) 3 w41 w.heap.size (fun k_ => some k_ ≠ (v212 : Value).ownBlock ∧ some k_ ≠ (v216 : Value).ownBlock) v208 t207) := ⟨h0_⟩
   have n1_ : Aside0 (Kd.R (Kd.int .i64) 3 w41 w.heap.size (fun k_ => some k_ ≠ (v208 : Value).ownBlock ∧ some k_ ≠ (v216 : Value).ownBlock) v212 t211) := ⟨h1_⟩
   have n2_ : Aside0 (Kd.R (Kd.int .i64) 3 w41 w.heap.size (fun k_ => some k_ ≠ (v208 : Value).ownBlock ∧ some k_ ≠ (v212 : Value).ownBlock) v216 t215) := ⟨h2_⟩
   have n3_ : Aside0 (w41.heap[gb202]? = some (.cells #[.int .i64 a0_0, .slice A0_1 l0_1.length c0_1] 59 (0, 0))) := ⟨h3_⟩
   have n4_ : Aside0 (w41.heap[gb203]? = some (.cells #[.int .i64 a2_0, .slice A2_1 l2_1.length c2_1] 59 (0, 0))) := ⟨h4_⟩
   have n5_ : Aside0 (w41.heap[gb219]? = some (.cells #[.int .i64 0, .slice none 0 0] 51 (0, 0))) := ⟨h5_⟩
   have n6_ : Aside0 (w.heap.size ≤ gb219) := ⟨h6_⟩
   have n7_ : Aside0 (w.heap.size ≤ gb219) := ⟨h7_⟩
   have n8_ : Aside0 (gb202 ≠ gb219) := ⟨h8_⟩
   have n9_ : Aside0 (gb219 ≠ gb202) := ⟨h9_⟩
   have n10_ : Aside0 (gb203 ≠ gb219) := ⟨h10_⟩
   have n11_ : Aside0 (gb219 ≠ gb203) := ⟨h11_⟩
   have n12_ : Aside0 (Below w.heap.size w w41) := ⟨h12_⟩
   clear BK202
   clear BK203
   clear HB
   clear h0_ h1_ h2_ h3_ h4_ h5_ h6_ h7_ h8_ h9_ h10_ h11_ h12_
   have HO209 := n0_
   have HO213 := n1_
   have HO217 := n2_
   have BK202 := n3_
   have BK203 := n4_
   have BK219 := n5_
   have GW219 := n6_
   have GE219 := n7_
   have NB202_219 := n8_
   have NB219_202 := n9_
   have NB203_219 := n10_
   have NB219_203 := n11_
   have HB := n12_
   clear n0_ n1_ n2_ n3_ n4_ n5_ n6_ n7_ n8_ n9_ n10_ n11_ n12_
   have hHeld : w41.cell? ⟨gb202, 0, none⟩ = some (.int .i64 a0_0) ∧ w41.cell? ⟨gb202, 1, none⟩ = some (.slice A0_1 l0_1.length c0_1) ∧ w41.cell? ⟨gb203, 0, none⟩ = some (.int .i64 a2_0) ∧ w41.cell? ⟨gb203, 1, none⟩ = some (.slice A2_1 l2_1.length c2_1) := hS_
   obtain ⟨Ao43, co43, eo43⟩ := Kd.R_slice HO217.out
   (first | subst eo43 | (injection eo43 with f1_ f2_ f3_; have f4_ := f1_.symm; have f5_ := f3_.symm; clear f1_ f2_ f3_; subst f4_; subst f5_))
   refine norm_ (a' := ?_) ?_ ?_
   rotate_left
   ·simp only [putAll, Act.put, List.setIfInBounds_toArray, List.set_cons_zero, List.set_cons_succ]
    rfl
   refine one_ (i := 10) (N := none) #[true, true, true, true, true, true, true, true, true, true, true, false] rfl rfl (one_of HT_.out (by kernel_rfl)) (by decide) (fun K hK => ?_)
   have hs42 : w41.cell? ⟨gb219, 0, none⟩ = some (.int .i64 0) := (blk_cell BK219.out 0).trans rfl
   have hfs42 := blk_frozen BK219.out 0
   have hns42_0 := NB202_219.out
   have hns42_1 := NB203_219.out
   have hms42_0 := NB219_202.out
   have hms42_1 := NB219_203.out
   have hs44 : w41.cell? ⟨gb219, 1, none⟩ = some (.slice none 0 0) := (blk_cell BK219.out 1).trans rfl
   have hfs44 := blk_frozen BK219.out 1
   have hns44_0 := NB202_219.out
   have hns44_1 := NB203_219.out
   have hms44_0 := NB219_202.out
   have hms44_1 := NB219_203.out
   refine skip_ (w1 := ?_) (by rfl) rfl ?_ ?_
   rotate_left
   ·go_simp
    rfl
   refine hK.out _ _ ⟨((cell_far (p := ⟨gb219, _, none⟩) NB202_219.out _).trans (((cell_far (p := ⟨gb219, _, none⟩) NB202_219.out _).trans (hHeld.1)))), ((cell_far (p := ⟨gb219, _, none⟩) NB202_219.out _).trans (((cell_far (p := ⟨gb219, _, none⟩) NB202_219.out _).trans (hHeld.2.1)))), ((cell_far (p := ⟨gb219, _, none⟩) NB203_219.out _).trans (((cell_far (p := ⟨gb219, _, none⟩) NB203_219.out _).trans (hHeld.2.2.1)))), ((cell_far (p := ⟨gb219, _, none⟩) NB203_219.out _).trans (((cell_far (p := ⟨gb219, _, none⟩) NB203_219.out _).trans (hHeld.2.2.2))))⟩ (fun hHeld => ?_)
   clear hK K
   refine pure_ (i := 11) (N := some 9) (v := ?_) (a' := ?_) #[true, true, true, true, true, true, true, true, true, true, true, true] rfl rfl (any_of HT_.out (by kernel_rfl)) (fun _ _ _ h => h) (Or.inl ⟨by rfl, ?_⟩) ?_ ?_
   rotate_left
   ·intro w'
    go_simp
    with_reducible rfl
   rotate_left
   ·simp only [Act.put, List.setIfInBounds_toArray, List.set_cons_zero, List.set_cons_succ, i64_w, i32_w]
    rfl
   refine done_ (done_of HT_.out (by kernel_rfl)) ?_
   have hnb45 := NB202_219.out
   have hnc45 := NB219_202.out
   obtain ⟨hcz46_0, hcz46_1⟩ := c2 BK202
   have hfz46_0 := blk_frozen BK202.out 0
   have hfz46_1 := blk_frozen BK202.out 1
   go_upto_region 12 with (first | ((with_reducible refine gate_callee (f := 40) rfl ?_); refine goesL_ (some 39) rfl rfl Try.func40 (by kernel_rfl) rfl #[.agg #[.int .i64 a0_0, .slice A0_1 l0_1.length c0_1]] rfl (by (try simp only [List.map_toArray, List.map_cons, List.map_nil]); first | done | rfl | (simp only [List.length_drop, List.length_take]; rfl)) ?_; (with_reducible refine (laws_toLin.calls k a0_0 _ _ l0_1 t220 t221 _ ?side1 ?side2 A23.out).mono ?_); (case side1 => exact Kd.C_below HR0_1.out (ms HB)); (case side2 => exact HC0_1.out); rintro e w47 ⟨v222, rfl, ho0, hb⟩; refine ⟨_, rfl, ?_⟩; have n0_ := Aside0.mk (Kd.R_elder' (by (with_reducible repeat (first | apply Kd.R_alloc | apply Kd.R_drewN | apply Kd.R_drew)); exact (Kd.R_mono (Kd.R_far (p := ⟨gb219, 1, none⟩) (Kd.R_far (p := ⟨gb219, 0, none⟩) (Kd.R_types HO209.out BK219.out (by decide)) (fun _ hk => hk.2) (.int .i64 t214)) (fun _ hk => hk.2) (.slice Ao43 t215.length co43)) (fun _ h_ => h_.1))) (Kd.R_base ho0) hb); have n1_ := Aside0.mk (Kd.R_elder' (by (with_reducible repeat (first | apply Kd.R_alloc | apply Kd.R_drewN | apply Kd.R_drew)); exact (Kd.R_mono (Kd.R_far (p := ⟨gb219, 1, none⟩) (Kd.R_far (p := ⟨gb219, 0, none⟩) (Kd.R_types HO213.out BK219.out (by decide)) (fun _ hk => hk.2) (.int .i64 t214)) (fun _ hk => hk.2) (.slice Ao43 t215.length co43)) (fun _ h_ => h_.1))) (Kd.R_base ho0) hb); have n2_ := Aside0.mk (Kd.R_elder' (by (with_reducible repeat (first | apply Kd.R_alloc | apply Kd.R_drewN | apply Kd.R_drew)); exact (Kd.R_mono (Kd.R_far (p := ⟨gb219, 1, none⟩) (Kd.R_far (p := ⟨gb219, 0, none⟩) (Kd.R_types HO217.out BK219.out (by decide)) (fun _ hk => hk.2) (.int .i64 t214)) (fun _ hk => hk.2) (.slice Ao43 t215.length co43)) (fun _ h_ => h_.1))) (Kd.R_base ho0) hb); have n3_ := Aside0.mk (Kd.R_lower (Kd.R_new' (Kd.R_new' (Kd.R_new' ho0 (Kd.R_lt (by (with_reducible repeat (first | apply Kd.R_alloc | apply Kd.R_drewN | apply Kd.R_drew)); exact (Kd.R_mono (Kd.R_far (p := ⟨gb219, 1, none⟩) (Kd.R_far (p := ⟨gb219, 0, none⟩) (Kd.R_types HO209.out BK219.out (by decide)) (fun _ hk => hk.2) (.int .i64 t214)) (fun _ hk => hk.2) (.slice Ao43 t215.length co43)) (fun _ h_ => h_.1))))) (Kd.R_lt (by (with_reducible repeat (first | apply Kd.R_alloc | apply Kd.R_drewN | apply Kd.R_drew)); exact (Kd.R_mono (Kd.R_far (p := ⟨gb219, 1, none⟩) (Kd.R_far (p := ⟨gb219, 0, none⟩) (Kd.R_types HO213.out BK219.out (by decide)) (fun _ hk => hk.2) (.int .i64 t214)) (fun _ hk => hk.2) (.slice Ao43 t215.length co43)) (fun _ h_ => h_.1))))) (Kd.R_lt (by (with_reducible repeat (first | apply Kd.R_alloc | apply Kd.R_drewN | apply Kd.R_drew)); exact (Kd.R_mono (Kd.R_far (p := ⟨gb219, 1, none⟩) (Kd.R_far (p := ⟨gb219, 0, none⟩) (Kd.R_types HO217.out BK219.out (by decide)) (fun _ hk => hk.2) (.int .i64 t214)) (fun _ hk => hk.2) (.slice Ao43 t215.length co43)) (fun _ h_ => h_.1))))) (below_size (ms HB))); have n4_ := bf BK202 hb; have n5_ := bf BK203 hb; have n6_ := Aside0.mk (blk_below (g := gb219) (o := .cells #[.int .i64 t214, .slice Ao43 t215.length co43] 51 (0, 0)) (by (with_reducible repeat (first | refine blk_drewN ?_ _ | refine blk_drew ?_ | refine blk_alloc ?_ _)); refine blk_put (cs := #[.int .i64 t214, .slice none 0 0]) ?_ 1 _ rfl; (with_reducible repeat (first | refine blk_drewN ?_ _ | refine blk_drew ?_ | refine blk_alloc ?_ _)); refine blk_put (cs := #[.int .i64 0, .slice none 0 0]) ?_ 0 _ rfl; (with_reducible repeat (first | refine blk_drewN ?_ _ | refine blk_drew ?_ | refine blk_alloc ?_ _)); exact BK219.out) hb); have n7_ := bs HB hb; clear HO209 HO213 HO217 BK202 BK203 BK219 HB; have HO209 := n0_; have HO213 := n1_; have HO217 := n2_; have HO223 := n3_; have BK202 := n4_; have BK203 := n5_; have BK219 := n6_; have HB := n7_; clear n0_ n1_ n2_ n3_ n4_ n5_ n6_ n7_; (try clear hb); (try clear ho0)) | ((with_reducible refine gate_dst (N := 10) rfl ?_); refine box_event ?hg (N := 10) ?hd (cs := #[.int .i64 0, .slice none 0 0]) (t := 51) ?hr ?_; (case hd => rfl); (case hg => rfl); (case hr => first | (go_simp; done) | (go_simp; rfl)); intro gb224 hg w48 hbox hb; replace HO209 := rb HO209 hb; replace HO213 := rb HO213 hb; replace HO217 := rb HO217 hb; replace HO223 := rb HO223 hb; have BK224 := Aside0.mk (hbox); have GW224 := gw hg HB; have GE224 := gw hg HB; replace HB := bs HB hb; have NB202_224 := nl hg BK202; have NB224_202 := ng hg BK202; replace BK202 := bb BK202 hb; have NB203_224 := nl hg BK203; have NB224_203 := ng hg BK203; replace BK203 := bb BK203 hb; have NB219_224 := nl hg BK219; have NB224_219 := ng hg BK219; replace BK219 := bb BK219 hb; clear hb hbox hg; have hnb49 := NB224_202.out; have hnc49 := NB202_224.out; have hnb50 := NB224_203.out; have hnc50 := NB203_224.out; have hnb51 := NB224_219.out; have hnc51 := NB219_224.out; obtain ⟨hcz52_0, hcz52_1⟩ := c2 BK224; have hfz52_0 := blk_frozen BK224.out 0; have hfz52_1 := blk_frozen BK224.out 1; obtain ⟨Ao53, co53, eo53⟩ := Kd.R_slice HO223.out; subst eo53; have hnb54 := NB203_219.out; have hnc54 := NB219_203.out; obtain ⟨hcz55_0, hcz55_1⟩ := c2 BK203; have hfz55_0 := blk_frozen BK203.out 0; have hfz55_1 := blk_frozen BK203.out 1) | ((with_reducible refine gate_callee (f := 40) rfl ?_); refine goesL_ (some 41) rfl rfl Try.func40 (by kernel_rfl) rfl #[.agg #[.int .i64 a2_0, .slice A2_1 l2_1.length c2_1]] rfl (by (try simp only [List.map_toArray, List.map_cons, List.map_nil]); first | done | rfl | (simp only [List.length_drop, List.length_take]; rfl)) ?_; (with_reducible refine (laws_toLin.calls k a2_0 _ _ l2_1 t225 t226 _ ?side1 ?side2 A24.out).mono ?_); (case side1 => exact Kd.C_below HR2_1.out (ms HB)); (case side2 => exact HC2_1.out); rintro e w56 ⟨v227, rfl, ho0, hb⟩; refine ⟨_, rfl, ?_⟩; have n0_ := Aside0.mk (Kd.R_elder' (by (with_reducible repeat (first | apply Kd.R_alloc | apply Kd.R_drewN | apply Kd.R_drew)); exact (Kd.R_mono (Kd.R_far (p := ⟨gb224, 1, none⟩) (Kd.R_far (p := ⟨gb224, 0, none⟩) (Kd.R_types HO209.out BK224.out (by decide)) (fun _ hk => hk.2) (.int .i64 t220)) (fun _ hk => hk.2) (.slice Ao53 t221.length co53)) (fun _ h_ => h_.1))) (Kd.R_base ho0) hb); have n1_ := Aside0.mk (Kd.R_elder' (by (with_reducible repeat (first | apply Kd.R_alloc | apply Kd.R_drewN | apply Kd.R_drew)); exact (Kd.R_mono (Kd.R_far (p := ⟨gb224, 1, none⟩) (Kd.R_far (p := ⟨gb224, 0, none⟩) (Kd.R_types HO213.out BK224.out (by decide)) (fun _ hk => hk.2) (.int .i64 t220)) (fun _ hk => hk.2) (.slice Ao53 t221.length co53)) (fun _ h_ => h_.1))) (Kd.R_base ho0) hb); have n2_ := Aside0.mk (Kd.R_elder' (by (with_reducible repeat (first | apply Kd.R_alloc | apply Kd.R_drewN | apply Kd.R_drew)); exact (Kd.R_mono (Kd.R_far (p := ⟨gb224, 1, none⟩) (Kd.R_far (p := ⟨gb224, 0, none⟩) (Kd.R_types HO217.out BK224.out (by decide)) (fun _ hk => hk.2) (.int .i64 t220)) (fun _ hk => hk.2) (.slice Ao53 t221.length co53)) (fun _ h_ => h_.1))) (Kd.R_base ho0) hb); have n3_ := Aside0.mk (Kd.R_elder' (by (with_reducible repeat (first | apply Kd.R_alloc | apply Kd.R_drewN | apply Kd.R_drew)); exact (Kd.R_mono (Kd.R_far (p := ⟨gb224, 1, none⟩) (Kd.R_far (p := ⟨gb224, 0, none⟩) (Kd.R_types HO223.out BK224.out (by decide)) (fun _ hk => hk.2) (.int .i64 t220)) (fun _ hk => hk.2) (.slice Ao53 t221.length co53)) (fun _ h_ => h_.1))) (Kd.R_base ho0) hb); have n4_ := Aside0.mk (Kd.R_lower (Kd.R_new' (Kd.R_new' (Kd.R_new' (Kd.R_new' ho0 (Kd.R_lt (by (with_reducible repeat (first | apply Kd.R_alloc | apply Kd.R_drewN | apply Kd.R_drew)); exact (Kd.R_mono (Kd.R_far (p := ⟨gb224, 1, none⟩) (Kd.R_far (p := ⟨gb224, 0, none⟩) (Kd.R_types HO209.out BK224.out (by decide)) (fun _ hk => hk.2) (.int .i64 t220)) (fun _ hk => hk.2) (.slice Ao53 t221.length co53)) (fun _ h_ => h_.1))))) (Kd.R_lt (by (with_reducible repeat (first | apply Kd.R_alloc | apply Kd.R_drewN | apply Kd.R_drew)); exact (Kd.R_mono (Kd.R_far (p := ⟨gb224, 1, none⟩) (Kd.R_far (p := ⟨gb224, 0, none⟩) (Kd.R_types HO213.out BK224.out (by decide)) (fun _ hk => hk.2) (.int .i64 t220)) (fun _ hk => hk.2) (.slice Ao53 t221.length co53)) (fun _ h_ => h_.1))))) (Kd.R_lt (by (with_reducible repeat (first | apply Kd.R_alloc | apply Kd.R_drewN | apply Kd.R_drew)); exact (Kd.R_mono (Kd.R_far (p := ⟨gb224, 1, none⟩) (Kd.R_far (p := ⟨gb224, 0, none⟩) (Kd.R_types HO217.out BK224.out (by decide)) (fun _ hk => hk.2) (.int .i64 t220)) (fun _ hk => hk.2) (.slice Ao53 t221.length co53)) (fun _ h_ => h_.1))))) (Kd.R_lt (by (with_reducible repeat (first | apply Kd.R_alloc | apply Kd.R_drewN | apply Kd.R_drew)); exact (Kd.R_mono (Kd.R_far (p := ⟨gb224, 1, none⟩) (Kd.R_far (p := ⟨gb224, 0, none⟩) (Kd.R_types HO223.out BK224.out (by decide)) (fun _ hk => hk.2) (.int .i64 t220)) (fun _ hk => hk.2) (.slice Ao53 t221.length co53)) (fun _ h_ => h_.1))))) (below_size (ms HB))); have n5_ := bf BK202 hb; have n6_ := bf BK203 hb; have n7_ := bf BK219 hb; have n8_ := Aside0.mk (blk_below (g := gb224) (o := .cells #[.int .i64 t220, .slice Ao53 t221.length co53] 51 (0, 0)) (by (with_reducible repeat (first | refine blk_drewN ?_ _ | refine blk_drew ?_ | refine blk_alloc ?_ _)); refine blk_put (cs := #[.int .i64 t220, .slice none 0 0]) ?_ 1 _ rfl; (with_reducible repeat (first | refine blk_drewN ?_ _ | refine blk_drew ?_ | refine blk_alloc ?_ _)); refine blk_put (cs := #[.int .i64 0, .slice none 0 0]) ?_ 0 _ rfl; (with_reducible repeat (first | refine blk_drewN ?_ _ | refine blk_drew ?_ | refine blk_alloc ?_ _)); exact BK224.out) hb); have n9_ := bs HB hb; clear HO209 HO213 HO217 HO223 BK202 BK203 BK219 BK224 HB; have HO209 := n0_; have HO213 := n1_; have HO217 := n2_; have HO223 := n3_; have HO228 := n4_; have BK202 := n5_; have BK203 := n6_; have BK219 := n7_; have BK224 := n8_; have HB := n9_; clear n0_ n1_ n2_ n3_ n4_ n5_ n6_ n7_ n8_ n9_; (try clear hb); (try clear ho0)) | ((with_reducible refine gate_dst (N := 11) rfl ?_); refine box_event ?hg (N := 11) ?hd (cs := #[.int .i64 0, .slice none 0 0]) (t := 51) ?hr ?_; (case hd => rfl); (case hg => rfl); (case hr => first | (go_simp; done) | (go_simp; rfl)); intro gb229 hg w57 hbox hb; replace HO209 := rb HO209 hb; replace HO213 := rb HO213 hb; replace HO217 := rb HO217 hb; replace HO223 := rb HO223 hb; replace HO228 := rb HO228 hb; have BK229 := Aside0.mk (hbox); have GW229 := gw hg HB; have GE229 := gw hg HB; replace HB := bs HB hb; have NB202_229 := nl hg BK202; have NB229_202 := ng hg BK202; replace BK202 := bb BK202 hb; have NB203_229 := nl hg BK203; have NB229_203 := ng hg BK203; replace BK203 := bb BK203 hb; have NB219_229 := nl hg BK219; have NB229_219 := ng hg BK219; replace BK219 := bb BK219 hb; have NB224_229 := nl hg BK224; have NB229_224 := ng hg BK224; replace BK224 := bb BK224 hb; clear hb hbox hg; have hnb58 := NB229_202.out; have hnc58 := NB202_229.out; have hnb59 := NB229_203.out; have hnc59 := NB203_229.out; have hnb60 := NB229_219.out; have hnc60 := NB219_229.out; have hnb61 := NB229_224.out; have hnc61 := NB224_229.out; obtain ⟨hcz62_0, hcz62_1⟩ := c2 BK229; have hfz62_0 := blk_frozen BK229.out 0; have hfz62_1 := blk_frozen BK229.out 1; obtain ⟨Ao63, co63, eo63⟩ := Kd.R_slice HO228.out; subst eo63; obtain ⟨hcz64_0, hcz64_1⟩ := c2 BK224; have hfz64_0 := blk_frozen BK224.out 0; have hfz64_1 := blk_frozen BK224.out 1) | ((with_reducible refine gate_callee (f := 41) rfl ?_); refine goesL_ (some 46) rfl rfl Try.func41 (by kernel_rfl) rfl #[.agg #[.int .i64 t220, .slice Ao53 t221.length co53], .int .i64 a1, .agg #[.int .i64 t225, .slice Ao63 t226.length co63]] rfl (by (try simp only [List.map_toArray, List.map_cons, List.map_nil]); first | done | rfl | (simp only [List.length_drop, List.length_take]; rfl)) ?_; (with_reducible refine (impl_AddScaled.calls k t220 _ _ t221 a1 t225 _ _ t226 t230 t231 t234 _ ?side1 ?side2 ?side3 ?side4 A25.out).mono ?_); (case side1 => refine (Kd.R_reads' (e := 3) (base := w.heap.size) (ok := fun k_ => ((((True ∧ some k_ ≠ (v208 : Value).ownBlock) ∧ some k_ ≠ (v212 : Value).ownBlock) ∧ some k_ ≠ (.slice Ao43 t215.length co43 : Value).ownBlock) ∧ some k_ ≠ (.slice Ao63 t226.length co63 : Value).ownBlock)) (n := t221.length) (c := co53) ?_).2.2; exact (by (with_reducible repeat (first | apply Kd.R_alloc | apply Kd.R_drewN | apply Kd.R_drew)); exact (Kd.R_mono (Kd.R_far (p := ⟨gb229, 1, none⟩) (Kd.R_far (p := ⟨gb229, 0, none⟩) (Kd.R_types HO223.out BK229.out (by decide)) (fun _ hk => hk.2) (.int .i64 t225)) (fun _ hk => hk.2) (.slice Ao63 t226.length co63)) (fun _ h_ => h_.1)))); (case side2 => exact (Kd.R_reads' HO223.out).2.1); (case side3 => refine (Kd.R_reads' (e := 3) (base := w.heap.size) (ok := fun k_ => ((((True ∧ some k_ ≠ (v208 : Value).ownBlock) ∧ some k_ ≠ (v212 : Value).ownBlock) ∧ some k_ ≠ (.slice Ao43 t215.length co43 : Value).ownBlock) ∧ some k_ ≠ (.slice Ao53 t221.length co53 : Value).ownBlock)) (n := t226.length) (c := co63) ?_).2.2; exact (by (with_reducible repeat (first | apply Kd.R_alloc | apply Kd.R_drewN | apply Kd.R_drew)); exact (Kd.R_mono (Kd.R_far (p := ⟨gb229, 1, none⟩) (Kd.R_far (p := ⟨gb229, 0, none⟩) (Kd.R_types HO228.out BK229.out (by decide)) (fun _ hk => hk.2) (.int .i64 t225)) (fun _ hk => hk.2) (.slice Ao63 t226.length co63)) (fun _ h_ => h_.1)))); (case side4 => exact (Kd.R_reads' HO228.out).2.1); rintro e w65 ⟨v232, rfl, ho0, hb⟩; refine ⟨_, rfl, ?_⟩; have n0_ := Aside0.mk (Kd.R_elder' (by (with_reducible repeat (first | apply Kd.R_alloc | apply Kd.R_drewN | apply Kd.R_drew)); exact (Kd.R_mono (Kd.R_far (p := ⟨gb229, 1, none⟩) (Kd.R_far (p := ⟨gb229, 0, none⟩) (Kd.R_types HO209.out BK229.out (by decide)) (fun _ hk => hk.2) (.int .i64 t225)) (fun _ hk => hk.2) (.slice Ao63 t226.length co63)) (fun _ h_ => h_.1))) (Kd.R_base ho0) hb); have n1_ := Aside0.mk (Kd.R_elder' (by (with_reducible repeat (first | apply Kd.R_alloc | apply Kd.R_drewN | apply Kd.R_drew)); exact (Kd.R_mono (Kd.R_far (p := ⟨gb229, 1, none⟩) (Kd.R_far (p := ⟨gb229, 0, none⟩) (Kd.R_types HO213.out BK229.out (by decide)) (fun _ hk => hk.2) (.int .i64 t225)) (fun _ hk => hk.2) (.slice Ao63 t226.length co63)) (fun _ h_ => h_.1))) (Kd.R_base ho0) hb); have n2_ := Aside0.mk (Kd.R_elder' (by (with_reducible repeat (first | apply Kd.R_alloc | apply Kd.R_drewN | apply Kd.R_drew)); exact (Kd.R_mono (Kd.R_far (p := ⟨gb229, 1, none⟩) (Kd.R_far (p := ⟨gb229, 0, none⟩) (Kd.R_types HO217.out BK229.out (by decide)) (fun _ hk => hk.2) (.int .i64 t225)) (fun _ hk => hk.2) (.slice Ao63 t226.length co63)) (fun _ h_ => h_.1))) (Kd.R_base ho0) hb); have n3_ := Aside0.mk (Kd.R_elder' (by (with_reducible repeat (first | apply Kd.R_alloc | apply Kd.R_drewN | apply Kd.R_drew)); exact (Kd.R_mono (Kd.R_far (p := ⟨gb229, 1, none⟩) (Kd.R_far (p := ⟨gb229, 0, none⟩) (Kd.R_types HO223.out BK229.out (by decide)) (fun _ hk => hk.2) (.int .i64 t225)) (fun _ hk => hk.2) (.slice Ao63 t226.length co63)) (fun _ h_ => h_.1))) (Kd.R_base ho0) hb); have n4_ := Aside0.mk (Kd.R_elder' (by (with_reducible repeat (first | apply Kd.R_alloc | apply Kd.R_drewN | apply Kd.R_drew)); exact (Kd.R_mono (Kd.R_far (p := ⟨gb229, 1, none⟩) (Kd.R_far (p := ⟨gb229, 0, none⟩) (Kd.R_types HO228.out BK229.out (by decide)) (fun _ hk => hk.2) (.int .i64 t225)) (fun _ hk => hk.2) (.slice Ao63 t226.length co63)) (fun _ h_ => h_.1))) (Kd.R_base ho0) hb); have n5_ := Aside0.mk (Kd.R_lower (Kd.R_new' (Kd.R_new' (Kd.R_new' (Kd.R_new' (Kd.R_new' ho0 (Kd.R_lt (by (with_reducible repeat (first | apply Kd.R_alloc | apply Kd.R_drewN | apply Kd.R_drew)); exact (Kd.R_mono (Kd.R_far (p := ⟨gb229, 1, none⟩) (Kd.R_far (p := ⟨gb229, 0, none⟩) (Kd.R_types HO209.out BK229.out (by decide)) (fun _ hk => hk.2) (.int .i64 t225)) (fun _ hk => hk.2) (.slice Ao63 t226.length co63)) (fun _ h_ => h_.1))))) (Kd.R_lt (by (with_reducible repeat (first | apply Kd.R_alloc | apply Kd.R_drewN | apply Kd.R_drew)); exact (Kd.R_mono (Kd.R_far (p := ⟨gb229, 1, none⟩) (Kd.R_far (p := ⟨gb229, 0, none⟩) (Kd.R_types HO213.out BK229.out (by decide)) (fun _ hk => hk.2) (.int .i64 t225)) (fun _ hk => hk.2) (.slice Ao63 t226.length co63)) (fun _ h_ => h_.1))))) (Kd.R_lt (by (with_reducible repeat (first | apply Kd.R_alloc | apply Kd.R_drewN | apply Kd.R_drew)); exact (Kd.R_mono (Kd.R_far (p := ⟨gb229, 1, none⟩) (Kd.R_far (p := ⟨gb229, 0, none⟩) (Kd.R_types HO217.out BK229.out (by decide)) (fun _ hk => hk.2) (.int .i64 t225)) (fun _ hk => hk.2) (.slice Ao63 t226.length co63)) (fun _ h_ => h_.1))))) (Kd.R_lt (by (with_reducible repeat (first | apply Kd.R_alloc | apply Kd.R_drewN | apply Kd.R_drew)); exact (Kd.R_mono (Kd.R_far (p := ⟨gb229, 1, none⟩) (Kd.R_far (p := ⟨gb229, 0, none⟩) (Kd.R_types HO223.out BK229.out (by decide)) (fun _ hk => hk.2) (.int .i64 t225)) (fun _ hk => hk.2) (.slice Ao63 t226.length co63)) (fun _ h_ => h_.1))))) (Kd.R_lt (by (with_reducible repeat (first | apply Kd.R_alloc | apply Kd.R_drewN | apply Kd.R_drew)); exact (Kd.R_mono (Kd.R_far (p := ⟨gb229, 1, none⟩) (Kd.R_far (p := ⟨gb229, 0, none⟩) (Kd.R_types HO228.out BK229.out (by decide)) (fun _ hk => hk.2) (.int .i64 t225)) (fun _ hk => hk.2) (.slice Ao63 t226.length co63)) (fun _ h_ => h_.1))))) (below_size (ms HB))); have n6_ := bf BK202 hb; have n7_ := bf BK203 hb; have n8_ := bf BK219 hb; have n9_ := bf BK224 hb; have n10_ := Aside0.mk (blk_below (g := gb229) (o := .cells #[.int .i64 t225, .slice Ao63 t226.length co63] 51 (0, 0)) (by (with_reducible repeat (first | refine blk_drewN ?_ _ | refine blk_drew ?_ | refine blk_alloc ?_ _)); refine blk_put (cs := #[.int .i64 t225, .slice none 0 0]) ?_ 1 _ rfl; (with_reducible repeat (first | refine blk_drewN ?_ _ | refine blk_drew ?_ | refine blk_alloc ?_ _)); refine blk_put (cs := #[.int .i64 0, .slice none 0 0]) ?_ 0 _ rfl; (with_reducible repeat (first | refine blk_drewN ?_ _ | refine blk_drew ?_ | refine blk_alloc ?_ _)); exact BK229.out) hb); have n11_ := bs HB hb; clear HO209 HO213 HO217 HO223 HO228 BK202 BK203 BK219 BK224 BK229 HB; have HO209 := n0_; have HO213 := n1_; have HO217 := n2_; have HO223 := n3_; have HO228 := n4_; have HO233 := n5_; have BK202 := n6_; have BK203 := n7_; have BK219 := n8_; have BK224 := n9_; have BK229 := n10_; have HB := n11_; clear n0_ n1_ n2_ n3_ n4_ n5_ n6_ n7_ n8_ n9_ n10_ n11_; (try clear hb); (try clear ho0)) | ((with_reducible refine gate_dst (N := 12) rfl ?_); refine box_event ?hg (N := 12) ?hd (cs := #[.int .i64 0, .slice none 0 0]) (t := 51) ?hr ?_; (case hd => rfl); (case hg => rfl); (case hr => first | (go_simp; done) | (go_simp; rfl)); intro gb235 hg w66 hbox hb; replace HO209 := rb HO209 hb; replace HO213 := rb HO213 hb; replace HO217 := rb HO217 hb; replace HO223 := rb HO223 hb; replace HO228 := rb HO228 hb; replace HO233 := rb HO233 hb; have BK235 := Aside0.mk (hbox); have GW235 := gw hg HB; have GE235 := gw hg HB; replace HB := bs HB hb; have NB202_235 := nl hg BK202; have NB235_202 := ng hg BK202; replace BK202 := bb BK202 hb; have NB203_235 := nl hg BK203; have NB235_203 := ng hg BK203; replace BK203 := bb BK203 hb; have NB219_235 := nl hg BK219; have NB235_219 := ng hg BK219; replace BK219 := bb BK219 hb; have NB224_235 := nl hg BK224; have NB235_224 := ng hg BK224; replace BK224 := bb BK224 hb; have NB229_235 := nl hg BK229; have NB235_229 := ng hg BK229; replace BK229 := bb BK229 hb; clear hb hbox hg; have hnb67 := NB235_202.out; have hnc67 := NB202_235.out; have hnb68 := NB235_203.out; have hnc68 := NB203_235.out; have hnb69 := NB235_219.out; have hnc69 := NB219_235.out; have hnb70 := NB235_224.out; have hnc70 := NB224_235.out; have hnb71 := NB235_229.out; have hnc71 := NB229_235.out; obtain ⟨hcz72_0, hcz72_1⟩ := c2 BK235; have hfz72_0 := blk_frozen BK235.out 0; have hfz72_1 := blk_frozen BK235.out 1; obtain ⟨Ao73, co73, eo73⟩ := Kd.R_slice HO233.out; subst eo73))
   (try simp only [Act.put, List.setIfInBounds_toArray, List.set_cons_zero, List.set_cons_succ])
   go_cut [57] (fun v57 wc => ∃ (kq : Nat) (x57_25 : Bool), v57 = .bool x57_25 ∧ Aside0 (laws_FnExactAddScaled.j0 kq a1 t218 t234 x57_25 a0_0 l0_1 a2_0 l2_1 t214 t215 t220 t221 t225 t226 t230 t231 = some r) ∧ Aside0 (kq ≤ k) ∧ Aside0 (Kd.R (Kd.int .i64) 3 wc w.heap.size (fun k_ => some k_ ≠ ((.slice Ao53 t221.length co53) : Value).ownBlock ∧ some k_ ≠ ((.slice Ao63 t226.length co63) : Value).ownBlock ∧ some k_ ≠ ((.slice Ao73 t231.length co73) : Value).ownBlock) (.slice Ao43 t215.length co43) t215) ∧ Aside0 (Kd.R (Kd.int .i64) 3 wc w.heap.size (fun k_ => some k_ ≠ ((.slice Ao43 t215.length co43) : Value).ownBlock ∧ some k_ ≠ ((.slice Ao63 t226.length co63) : Value).ownBlock ∧ some k_ ≠ ((.slice Ao73 t231.length co73) : Value).ownBlock) (.slice Ao53 t221.length co53) t221) ∧ Aside0 (Kd.R (Kd.int .i64) 3 wc w.heap.size (fun k_ => some k_ ≠ ((.slice Ao43 t215.length co43) : Value).ownBlock ∧ some k_ ≠ ((.slice Ao53 t221.length co53) : Value).ownBlock ∧ some k_ ≠ ((.slice Ao73 t231.length co73) : Value).ownBlock) (.slice Ao63 t226.length co63) t226) ∧ Aside0 (Kd.R (Kd.int .i64) 3 wc w.heap.size (fun k_ => some k_ ≠ ((.slice Ao43 t215.length co43) : Value).ownBlock ∧ some k_ ≠ ((.slice Ao53 t221.length co53) : Value).ownBlock ∧ some k_ ≠ ((.slice Ao63 t226.length co63) : Value).ownBlock) (.slice Ao73 t231.length co73) t231) ∧ Aside0 (wc.heap[gb202]? = some (.cells #[.int .i64 a0_0, (.slice A0_1 l0_1.length c0_1)] 59 (0, 0))) ∧ Aside0 (wc.heap[gb203]? = some (.cells #[.int .i64 a2_0, (.slice A2_1 l2_1.length c2_1)] 59 (0, 0))) ∧ Aside0 (wc.heap[gb219]? = some (.cells #[.int .i64 t214, (.slice Ao43 t215.length co43)] 51 (0, 0))) ∧ Aside0 (wc.heap[gb224]? = some (.cells #[.int .i64 t220, (.slice Ao53 t221.length co53)] 51 (0, 0))) ∧ Aside0 (wc.heap[gb229]? = some (.cells #[.int .i64 t225, (.slice Ao63 t226.length co63)] 51 (0, 0))) ∧ Aside0 (wc.heap[gb235]? = some (.cells #[.int .i64 t230, (.slice Ao73 t231.length co73)] 51 (0, 0))) ∧ Aside0 (Below w.heap.size w wc))
   case first =>
    have H := HC26.out
    clear HC26
    replace H := Option.bind_eq_some_iff.mp H
    obtain ⟨t236, A740, H⟩ := H
    replace H : (if t236 = true then (laws_FnExactAddScaled.j0 k a1 t218 t234 (t234 != t218) a0_0 l0_1 a2_0 l2_1 t214 t215 t220 t221 t225 t226 t230 t231) else (laws_FnExactAddScaled.j0 k a1 t218 t234 true a0_0 l0_1 a2_0 l2_1 t214 t215 t220 t221 t225 t226 t230 t231)) = some r := H
    have A74 := Aside0.mk A740
    clear A740
    by_cases c75 : t236 = true
    ·subst c75
     have H1 : (laws_FnExactAddScaled.j0 k a1 t218 t234 (t234 != t218) a0_0 l0_1 a2_0 l2_1 t214 t215 t220 t221 t225 t226 t230 t231) = some r := by rw [if_pos rfl] at H; exact H
     clear H
     have H := H1
     clear H1
     have H' := Aside0.mk H
     clear H
     have hnb76 := NB235_202.out
     have hnc76 := NB202_235.out
     have hnb77 := NB235_203.out
     have hnc77 := NB203_235.out
     have hnb78 := NB235_219.out
     have hnc78 := NB219_235.out
     have hnb79 := NB235_224.out
     have hnc79 := NB224_235.out
     have hnb80 := NB235_229.out
     have hnc80 := NB229_235.out
     obtain ⟨hcz81_0, hcz81_1⟩ := c2 BK235
     have hfz81_0 := blk_frozen BK235.out 0
     have hfz81_1 := blk_frozen BK235.out 1
     have hnb82 := NB219_202.out
     have hnc82 := NB202_219.out
     have hnb83 := NB219_203.out
     have hnc83 := NB203_219.out
     have hnb84 := NB219_224.out
     have hnc84 := NB224_219.out
     have hnb85 := NB219_229.out
     have hnc85 := NB229_219.out
     obtain ⟨hcz86_0, hcz86_1⟩ := c2 BK219
     have hfz86_0 := blk_frozen BK219.out 0
     have hfz86_1 := blk_frozen BK219.out 1
     go_wp2_with (first | ((with_reducible refine gate_callee (f := 42) rfl ?_); refine goesL_ (some 51) rfl rfl Try.func42 (by kernel_rfl) rfl #[.agg #[.int .i64 t230, .slice Ao73 t231.length co73], .agg #[.int .i64 t214, .slice Ao43 t215.length co43]] rfl (by (try simp only [List.map_toArray, List.map_cons, List.map_nil]); first | done | rfl | (simp only [List.length_drop, List.length_take]; rfl)) ?_; (with_reducible refine (laws_eqLin.calls k t230 _ _ t231 t214 _ _ t215 true _ ?side1 ?side2 ?side3 ?side4 A74.out).mono ?_); (case side1 => refine (Kd.R_reads' (e := 3) (base := w.heap.size) (ok := fun k_ => (((((True ∧ some k_ ≠ (v208 : Value).ownBlock) ∧ some k_ ≠ (v212 : Value).ownBlock) ∧ some k_ ≠ (.slice Ao43 t215.length co43 : Value).ownBlock) ∧ some k_ ≠ (.slice Ao53 t221.length co53 : Value).ownBlock) ∧ some k_ ≠ (.slice Ao63 t226.length co63 : Value).ownBlock)) (n := t231.length) (c := co73) ?_).2.2; exact (by (with_reducible repeat (first | apply Kd.R_alloc | apply Kd.R_drewN | apply Kd.R_drew)); exact (Kd.R_mono (Kd.R_far (p := ⟨gb235, 1, none⟩) (Kd.R_far (p := ⟨gb235, 0, none⟩) (Kd.R_types HO233.out BK235.out (by decide)) (fun _ hk => hk.2) (.int .i64 t230)) (fun _ hk => hk.2) (.slice Ao73 t231.length co73)) (fun _ h_ => h_.1)))); (case side2 => exact (Kd.R_reads' HO233.out).2.1); (case side3 => refine (Kd.R_reads' (e := 3) (base := w.heap.size) (ok := fun k_ => ((((some k_ ≠ (v208 : Value).ownBlock ∧ some k_ ≠ (v212 : Value).ownBlock) ∧ some k_ ≠ (.slice Ao53 t221.length co53 : Value).ownBlock) ∧ some k_ ≠ (.slice Ao63 t226.length co63 : Value).ownBlock) ∧ some k_ ≠ (.slice Ao73 t231.length co73 : Value).ownBlock)) (n := t215.length) (c := co43) ?_).2.2; exact (by (with_reducible repeat (first | apply Kd.R_alloc | apply Kd.R_drewN | apply Kd.R_drew)); exact (Kd.R_mono (Kd.R_far (p := ⟨gb235, 1, none⟩) (Kd.R_far (p := ⟨gb235, 0, none⟩) (Kd.R_types HO217.out BK235.out (by decide)) (fun _ hk => hk.2) (.int .i64 t230)) (fun _ hk => hk.2) (.slice Ao73 t231.length co73)) (fun _ h_ => h_.1)))); (case side4 => exact (Kd.R_reads' HO217.out).2.1); rintro e w87 ⟨rfl, hb⟩; refine ⟨_, rfl, ?_⟩; have n0_ := Aside0.mk (Kd.R_below (by (with_reducible repeat (first | apply Kd.R_alloc | apply Kd.R_drewN | apply Kd.R_drew)); exact (Kd.R_mono (Kd.R_far (p := ⟨gb235, 1, none⟩) (Kd.R_far (p := ⟨gb235, 0, none⟩) (Kd.R_types HO209.out BK235.out (by decide)) (fun _ hk => hk.2) (.int .i64 t230)) (fun _ hk => hk.2) (.slice Ao73 t231.length co73)) (fun _ h_ => h_.1))) hb); have n1_ := Aside0.mk (Kd.R_below (by (with_reducible repeat (first | apply Kd.R_alloc | apply Kd.R_drewN | apply Kd.R_drew)); exact (Kd.R_mono (Kd.R_far (p := ⟨gb235, 1, none⟩) (Kd.R_far (p := ⟨gb235, 0, none⟩) (Kd.R_types HO213.out BK235.out (by decide)) (fun _ hk => hk.2) (.int .i64 t230)) (fun _ hk => hk.2) (.slice Ao73 t231.length co73)) (fun _ h_ => h_.1))) hb); have n2_ := Aside0.mk (Kd.R_below (by (with_reducible repeat (first | apply Kd.R_alloc | apply Kd.R_drewN | apply Kd.R_drew)); exact (Kd.R_mono (Kd.R_far (p := ⟨gb235, 1, none⟩) (Kd.R_far (p := ⟨gb235, 0, none⟩) (Kd.R_types HO217.out BK235.out (by decide)) (fun _ hk => hk.2) (.int .i64 t230)) (fun _ hk => hk.2) (.slice Ao73 t231.length co73)) (fun _ h_ => h_.1))) hb); have n3_ := Aside0.mk (Kd.R_below (by (with_reducible repeat (first | apply Kd.R_alloc | apply Kd.R_drewN | apply Kd.R_drew)); exact (Kd.R_mono (Kd.R_far (p := ⟨gb235, 1, none⟩) (Kd.R_far (p := ⟨gb235, 0, none⟩) (Kd.R_types HO223.out BK235.out (by decide)) (fun _ hk => hk.2) (.int .i64 t230)) (fun _ hk => hk.2) (.slice Ao73 t231.length co73)) (fun _ h_ => h_.1))) hb); have n4_ := Aside0.mk (Kd.R_below (by (with_reducible repeat (first | apply Kd.R_alloc | apply Kd.R_drewN | apply Kd.R_drew)); exact (Kd.R_mono (Kd.R_far (p := ⟨gb235, 1, none⟩) (Kd.R_far (p := ⟨gb235, 0, none⟩) (Kd.R_types HO228.out BK235.out (by decide)) (fun _ hk => hk.2) (.int .i64 t230)) (fun _ hk => hk.2) (.slice Ao73 t231.length co73)) (fun _ h_ => h_.1))) hb); have n5_ := Aside0.mk (Kd.R_below (by (with_reducible repeat (first | apply Kd.R_alloc | apply Kd.R_drewN | apply Kd.R_drew)); exact (Kd.R_mono (Kd.R_far (p := ⟨gb235, 1, none⟩) (Kd.R_far (p := ⟨gb235, 0, none⟩) (Kd.R_types HO233.out BK235.out (by decide)) (fun _ hk => hk.2) (.int .i64 t230)) (fun _ hk => hk.2) (.slice Ao73 t231.length co73)) (fun _ h_ => h_.1))) hb); have n6_ := bf BK202 hb; have n7_ := bf BK203 hb; have n8_ := bf BK219 hb; have n9_ := bf BK224 hb; have n10_ := bf BK229 hb; have n11_ := Aside0.mk (blk_below (g := gb235) (o := .cells #[.int .i64 t230, .slice Ao73 t231.length co73] 51 (0, 0)) (by (with_reducible repeat (first | refine blk_drewN ?_ _ | refine blk_drew ?_ | refine blk_alloc ?_ _)); refine blk_put (cs := #[.int .i64 t230, .slice none 0 0]) ?_ 1 _ rfl; (with_reducible repeat (first | refine blk_drewN ?_ _ | refine blk_drew ?_ | refine blk_alloc ?_ _)); refine blk_put (cs := #[.int .i64 0, .slice none 0 0]) ?_ 0 _ rfl; (with_reducible repeat (first | refine blk_drewN ?_ _ | refine blk_drew ?_ | refine blk_alloc ?_ _)); exact BK235.out) hb); have n12_ := bs HB hb; clear HO209 HO213 HO217 HO223 HO228 HO233 BK202 BK203 BK219 BK224 BK229 BK235 HB; have HO209 := n0_; have HO213 := n1_; have HO217 := n2_; have HO223 := n3_; have HO228 := n4_; have HO233 := n5_; have BK202 := n6_; have BK203 := n7_; have BK219 := n8_; have BK224 := n9_; have BK229 := n10_; have BK235 := n11_; have HB := n12_; clear n0_ n1_ n2_ n3_ n4_ n5_ n6_ n7_ n8_ n9_ n10_ n11_ n12_; (try clear hb)))
     go_meet
     case rel => exact ⟨_, ((t234 != t218)), (by first | rfl | (simp; done) | (simp [*]; done)), H', ⟨by first | omega | exact Nat.le_refl _⟩, ⟨by (with_reducible repeat (first | apply Kd.R_alloc | apply Kd.R_drewN | apply Kd.R_drew)); exact Kd.R_mono HO217.out (fun _ hk => ⟨hk.1.1.2, ⟨hk.1.2, hk.2⟩⟩)⟩, ⟨by (with_reducible repeat (first | apply Kd.R_alloc | apply Kd.R_drewN | apply Kd.R_drew)); exact Kd.R_mono HO223.out (fun _ hk => ⟨hk.1.1.2, ⟨hk.1.2, hk.2⟩⟩)⟩, ⟨by (with_reducible repeat (first | apply Kd.R_alloc | apply Kd.R_drewN | apply Kd.R_drew)); exact Kd.R_mono HO228.out (fun _ hk => ⟨hk.1.1.2, ⟨hk.1.2, hk.2⟩⟩)⟩, ⟨by (with_reducible repeat (first | apply Kd.R_alloc | apply Kd.R_drewN | apply Kd.R_drew)); exact Kd.R_mono HO233.out (fun _ hk => ⟨hk.1.1.2, ⟨hk.1.2, hk.2⟩⟩)⟩, ⟨by (with_reducible repeat (first | refine blk_drewN ?_ _ | refine blk_drew ?_ | refine blk_alloc ?_ _)); exact BK202.out⟩, ⟨by (with_reducible repeat (first | refine blk_drewN ?_ _ | refine blk_drew ?_ | refine blk_alloc ?_ _)); exact BK203.out⟩, ⟨by (with_reducible repeat (first | refine blk_drewN ?_ _ | refine blk_drew ?_ | refine blk_alloc ?_ _)); exact BK219.out⟩, ⟨by (with_reducible repeat (first | refine blk_drewN ?_ _ | refine blk_drew ?_ | refine blk_alloc ?_ _)); exact BK224.out⟩, ⟨by (with_reducible repeat (first | refine blk_drewN ?_ _ | refine blk_drew ?_ | refine blk_alloc ?_ _)); exact BK229.out⟩, ⟨by (with_reducible repeat (first | refine blk_drewN ?_ _ | refine blk_drew ?_ | refine blk_alloc ?_ _)); exact BK235.out⟩, ⟨ms HB⟩⟩
    ·replace c75 := Bool.eq_false_iff.mpr c75
     subst c75
     have H1 : (laws_FnExactAddScaled.j0 k a1 t218 t234 true a0_0 l0_1 a2_0 l2_1 t214 t215 t220 t221 t225 t226 t230 t231) = some r := by rw [if_neg (show ¬ (false = true) by decide)] at H; exact H
     clear H
     have H := H1
     clear H1
     have H' := Aside0.mk H
     clear H
     have hnb88 := NB235_202.out
     have hnc88 := NB202_235.out
     have hnb89 := NB235_203.out
     have hnc89 := NB203_235.out
     have hnb90 := NB235_219.out
     have hnc90 := NB219_235.out
     have hnb91 := NB235_224.out
     have hnc91 := NB224_235.out
     have hnb92 := NB235_229.out
     have hnc92 := NB229_235.out
     obtain ⟨hcz93_0, hcz93_1⟩ := c2 BK235
     have hfz93_0 := blk_frozen BK235.out 0
     have hfz93_1 := blk_frozen BK235.out 1
     have hnb94 := NB219_202.out
     have hnc94 := NB202_219.out
     have hnb95 := NB219_203.out
     have hnc95 := NB203_219.out
     have hnb96 := NB219_224.out
     have hnc96 := NB224_219.out
     have hnb97 := NB219_229.out
     have hnc97 := NB229_219.out
     obtain ⟨hcz98_0, hcz98_1⟩ := c2 BK219
     have hfz98_0 := blk_frozen BK219.out 0
     have hfz98_1 := blk_frozen BK219.out 1
     go_wp2_with (first | ((with_reducible refine gate_callee (f := 42) rfl ?_); refine goesL_ (some 51) rfl rfl Try.func42 (by kernel_rfl) rfl #[.agg #[.int .i64 t230, .slice Ao73 t231.length co73], .agg #[.int .i64 t214, .slice Ao43 t215.length co43]] rfl (by (try simp only [List.map_toArray, List.map_cons, List.map_nil]); first | done | rfl | (simp only [List.length_drop, List.length_take]; rfl)) ?_; (with_reducible refine (laws_eqLin.calls k t230 _ _ t231 t214 _ _ t215 false _ ?side1 ?side2 ?side3 ?side4 A74.out).mono ?_); (case side1 => refine (Kd.R_reads' (e := 3) (base := w.heap.size) (ok := fun k_ => (((((True ∧ some k_ ≠ (v208 : Value).ownBlock) ∧ some k_ ≠ (v212 : Value).ownBlock) ∧ some k_ ≠ (.slice Ao43 t215.length co43 : Value).ownBlock) ∧ some k_ ≠ (.slice Ao53 t221.length co53 : Value).ownBlock) ∧ some k_ ≠ (.slice Ao63 t226.length co63 : Value).ownBlock)) (n := t231.length) (c := co73) ?_).2.2; exact (by (with_reducible repeat (first | apply Kd.R_alloc | apply Kd.R_drewN | apply Kd.R_drew)); exact (Kd.R_mono (Kd.R_far (p := ⟨gb235, 1, none⟩) (Kd.R_far (p := ⟨gb235, 0, none⟩) (Kd.R_types HO233.out BK235.out (by decide)) (fun _ hk => hk.2) (.int .i64 t230)) (fun _ hk => hk.2) (.slice Ao73 t231.length co73)) (fun _ h_ => h_.1)))); (case side2 => exact (Kd.R_reads' HO233.out).2.1); (case side3 => refine (Kd.R_reads' (e := 3) (base := w.heap.size) (ok := fun k_ => ((((some k_ ≠ (v208 : Value).ownBlock ∧ some k_ ≠ (v212 : Value).ownBlock) ∧ some k_ ≠ (.slice Ao53 t221.length co53 : Value).ownBlock) ∧ some k_ ≠ (.slice Ao63 t226.length co63 : Value).ownBlock) ∧ some k_ ≠ (.slice Ao73 t231.length co73 : Value).ownBlock)) (n := t215.length) (c := co43) ?_).2.2; exact (by (with_reducible repeat (first | apply Kd.R_alloc | apply Kd.R_drewN | apply Kd.R_drew)); exact (Kd.R_mono (Kd.R_far (p := ⟨gb235, 1, none⟩) (Kd.R_far (p := ⟨gb235, 0, none⟩) (Kd.R_types HO217.out BK235.out (by decide)) (fun _ hk => hk.2) (.int .i64 t230)) (fun _ hk => hk.2) (.slice Ao73 t231.length co73)) (fun _ h_ => h_.1)))); (case side4 => exact (Kd.R_reads' HO217.out).2.1); rintro e w99 ⟨rfl, hb⟩; refine ⟨_, rfl, ?_⟩; have n0_ := Aside0.mk (Kd.R_below (by (with_reducible repeat (first | apply Kd.R_alloc | apply Kd.R_drewN | apply Kd.R_drew)); exact (Kd.R_mono (Kd.R_far (p := ⟨gb235, 1, none⟩) (Kd.R_far (p := ⟨gb235, 0, none⟩) (Kd.R_types HO209.out BK235.out (by decide)) (fun _ hk => hk.2) (.int .i64 t230)) (fun _ hk => hk.2) (.slice Ao73 t231.length co73)) (fun _ h_ => h_.1))) hb); have n1_ := Aside0.mk (Kd.R_below (by (with_reducible repeat (first | apply Kd.R_alloc | apply Kd.R_drewN | apply Kd.R_drew)); exact (Kd.R_mono (Kd.R_far (p := ⟨gb235, 1, none⟩) (Kd.R_far (p := ⟨gb235, 0, none⟩) (Kd.R_types HO213.out BK235.out (by decide)) (fun _ hk => hk.2) (.int .i64 t230)) (fun _ hk => hk.2) (.slice Ao73 t231.length co73)) (fun _ h_ => h_.1))) hb); have n2_ := Aside0.mk (Kd.R_below (by (with_reducible repeat (first | apply Kd.R_alloc | apply Kd.R_drewN | apply Kd.R_drew)); exact (Kd.R_mono (Kd.R_far (p := ⟨gb235, 1, none⟩) (Kd.R_far (p := ⟨gb235, 0, none⟩) (Kd.R_types HO217.out BK235.out (by decide)) (fun _ hk => hk.2) (.int .i64 t230)) (fun _ hk => hk.2) (.slice Ao73 t231.length co73)) (fun _ h_ => h_.1))) hb); have n3_ := Aside0.mk (Kd.R_below (by (with_reducible repeat (first | apply Kd.R_alloc | apply Kd.R_drewN | apply Kd.R_drew)); exact (Kd.R_mono (Kd.R_far (p := ⟨gb235, 1, none⟩) (Kd.R_far (p := ⟨gb235, 0, none⟩) (Kd.R_types HO223.out BK235.out (by decide)) (fun _ hk => hk.2) (.int .i64 t230)) (fun _ hk => hk.2) (.slice Ao73 t231.length co73)) (fun _ h_ => h_.1))) hb); have n4_ := Aside0.mk (Kd.R_below (by (with_reducible repeat (first | apply Kd.R_alloc | apply Kd.R_drewN | apply Kd.R_drew)); exact (Kd.R_mono (Kd.R_far (p := ⟨gb235, 1, none⟩) (Kd.R_far (p := ⟨gb235, 0, none⟩) (Kd.R_types HO228.out BK235.out (by decide)) (fun _ hk => hk.2) (.int .i64 t230)) (fun _ hk => hk.2) (.slice Ao73 t231.length co73)) (fun _ h_ => h_.1))) hb); have n5_ := Aside0.mk (Kd.R_below (by (with_reducible repeat (first | apply Kd.R_alloc | apply Kd.R_drewN | apply Kd.R_drew)); exact (Kd.R_mono (Kd.R_far (p := ⟨gb235, 1, none⟩) (Kd.R_far (p := ⟨gb235, 0, none⟩) (Kd.R_types HO233.out BK235.out (by decide)) (fun _ hk => hk.2) (.int .i64 t230)) (fun _ hk => hk.2) (.slice Ao73 t231.length co73)) (fun _ h_ => h_.1))) hb); have n6_ := bf BK202 hb; have n7_ := bf BK203 hb; have n8_ := bf BK219 hb; have n9_ := bf BK224 hb; have n10_ := bf BK229 hb; have n11_ := Aside0.mk (blk_below (g := gb235) (o := .cells #[.int .i64 t230, .slice Ao73 t231.length co73] 51 (0, 0)) (by (with_reducible repeat (first | refine blk_drewN ?_ _ | refine blk_drew ?_ | refine blk_alloc ?_ _)); refine blk_put (cs := #[.int .i64 t230, .slice none 0 0]) ?_ 1 _ rfl; (with_reducible repeat (first | refine blk_drewN ?_ _ | refine blk_drew ?_ | refine blk_alloc ?_ _)); refine blk_put (cs := #[.int .i64 0, .slice none 0 0]) ?_ 0 _ rfl; (with_reducible repeat (first | refine blk_drewN ?_ _ | refine blk_drew ?_ | refine blk_alloc ?_ _)); exact BK235.out) hb); have n12_ := bs HB hb; clear HO209 HO213 HO217 HO223 HO228 HO233 BK202 BK203 BK219 BK224 BK229 BK235 HB; have HO209 := n0_; have HO213 := n1_; have HO217 := n2_; have HO223 := n3_; have HO228 := n4_; have HO233 := n5_; have BK202 := n6_; have BK203 := n7_; have BK219 := n8_; have BK224 := n9_; have BK229 := n10_; have BK235 := n11_; have HB := n12_; clear n0_ n1_ n2_ n3_ n4_ n5_ n6_ n7_ n8_ n9_ n10_ n11_ n12_; (try clear hb)))
     go_meet
     case rel => exact ⟨_, (true), (by first | rfl | (simp; done) | (simp [*]; done)), H', ⟨by first | omega | exact Nat.le_refl _⟩, ⟨by (with_reducible repeat (first | apply Kd.R_alloc | apply Kd.R_drewN | apply Kd.R_drew)); exact Kd.R_mono HO217.out (fun _ hk => ⟨hk.1.1.2, ⟨hk.1.2, hk.2⟩⟩)⟩, ⟨by (with_reducible repeat (first | apply Kd.R_alloc | apply Kd.R_drewN | apply Kd.R_drew)); exact Kd.R_mono HO223.out (fun _ hk => ⟨hk.1.1.2, ⟨hk.1.2, hk.2⟩⟩)⟩, ⟨by (with_reducible repeat (first | apply Kd.R_alloc | apply Kd.R_drewN | apply Kd.R_drew)); exact Kd.R_mono HO228.out (fun _ hk => ⟨hk.1.1.2, ⟨hk.1.2, hk.2⟩⟩)⟩, ⟨by (with_reducible repeat (first | apply Kd.R_alloc | apply Kd.R_drewN | apply Kd.R_drew)); exact Kd.R_mono HO233.out (fun _ hk => ⟨hk.1.1.2, ⟨hk.1.2, hk.2⟩⟩)⟩, ⟨by (with_reducible repeat (first | refine blk_drewN ?_ _ | refine blk_drew ?_ | refine blk_alloc ?_ _)); exact BK202.out⟩, ⟨by (with_reducible repeat (first | refine blk_drewN ?_ _ | refine blk_drew ?_ | refine blk_alloc ?_ _)); exact BK203.out⟩, ⟨by (with_reducible repeat (first | refine blk_drewN ?_ _ | refine blk_drew ?_ | refine blk_alloc ?_ _)); exact BK219.out⟩, ⟨by (with_reducible repeat (first | refine blk_drewN ?_ _ | refine blk_drew ?_ | refine blk_alloc ?_ _)); exact BK224.out⟩, ⟨by (with_reducible repeat (first | refine blk_drewN ?_ _ | refine blk_drew ?_ | refine blk_alloc ?_ _)); exact BK229.out⟩, ⟨by (with_reducible repeat (first | refine blk_drewN ?_ _ | refine blk_drew ?_ | refine blk_alloc ?_ _)); exact BK235.out⟩, ⟨ms HB⟩⟩
   case rest =>
    clear HC26
    try clear c2
    try clear p2
    try clear c3
    try clear c4
    try clear c5
    try clear c6
    try clear c7
    try clear c8
    try clear c9
    try clear c39
    try clear c40
    try clear c41
    try clear c42
    try clear c45
    try clear c49
    try clear c50
    try clear c51
    try clear c54
    try clear c58
    try clear c59
    try clear c60
    try clear c61
    try clear c67
    try clear c68
    try clear c69
    try clear c70
    try clear c71
    try clear c75
    try clear c76
    try clear c77
    try clear c78
    try clear c79
    try clear c80
    try clear c82
    try clear c83
    try clear c84
    try clear c85
    try clear c88
    try clear c89
    try clear c90
    try clear c91
    try clear c92
    try clear c94
    try clear c95
    try clear c96
    try clear c97
    try clear hcz46_0
    try clear hcz46_1
    try clear hcz52_0
    try clear hcz52_1
    try clear hcz55_0
    try clear hcz55_1
    try clear hcz62_0
    try clear hcz62_1
    try clear hcz64_0
    try clear hcz64_1
    try clear hcz72_0
    try clear hcz72_1
    try clear hcz81_0
    try clear hcz81_1
    try clear hcz86_0
    try clear hcz86_1
    try clear hcz93_0
    try clear hcz93_1
    try clear hcz98_0
    try clear hcz98_1
    try clear hfz46_0
    try clear hfz46_1
    try clear hfz52_0
    try clear hfz52_1
    try clear hfz55_0
    try clear hfz55_1
    try clear hfz62_0
    try clear hfz62_1
    try clear hfz64_0
    try clear hfz64_1
    try clear hfz72_0
    try clear hfz72_1
    try clear hfz81_0
    try clear hfz81_1
    try clear hfz86_0
    try clear hfz86_1
    try clear hfz93_0
    try clear hfz93_1
    try clear hfz98_0
    try clear hfz98_1
    obtain ⟨kq, x57_25, rfl, HA, HJ25, HO_220001, HO_225001, HO_230001, HO_236001, BK202, BK203, BK219, BK224, BK229, BK235, HB⟩ := hcut
    cases kq with
    | zero => exact absurd HA.out (by simp [laws_FnExactAddScaled.j0])
    | succ kj25 =>
     have H := HA.out
     clear HA
     simp only [laws_FnExactAddScaled.j0] at H
     by_cases c100 : x57_25 = true
     ·subst c100
      have H1 : (some false) = some r := by rw [if_pos rfl] at H; exact H
      clear H
      have H := H1
      clear H1
      obtain rfl := Option.some.inj H
      go_wp2
      go_ret
      exact ⟨by first | rfl | (simp [errW_none, errW_some] <;> rfl) | (simp [*, errW_none, errW_some] <;> rfl), ms HB⟩
     ·replace c100 := Bool.eq_false_iff.mpr c100
      subst c100
      have H1 : ((laws_toLin.f kj25 a0_0 l0_1).bind fun bt237 => ((laws_eqLin.f kj25 t220 t221 bt237.1 bt237.2).bind fun t241 => (if t241 = true then ((laws_toLin.f kj25 a2_0 l2_1).bind fun bt242 => ((laws_eqLin.f kj25 t225 t226 bt242.1 bt242.2).bind fun t246 => (if t246 = true then ((laws_markLin.f kj25 t220 t221 1).bind fun bt247 => ((laws_markLin.f kj25 t225 t226 bt247.1).bind fun bt249 => (if bt249.1 < 0 then (laws_FnExactAddScaled.j1 kj25 a1 t218 true a0_0 l0_1 a2_0 l2_1 t214 t215 t230 t231) else ((laws_eqLin.f kj25 t230 t231 t214 t215).bind fun t251 => (if t251 = true then (laws_FnExactAddScaled.j1 kj25 a1 t218 (t234 != t218) a0_0 l0_1 a2_0 l2_1 t214 t215 t230 t231) else (laws_FnExactAddScaled.j1 kj25 a1 t218 true a0_0 l0_1 a2_0 l2_1 t214 t215 t230 t231)))))) else (some false)))) else (some false)))) = some r := by rw [if_neg (show ¬ (false = true) by decide)] at H; exact H
      clear H
      have H := H1
      clear H1
      replace H := Option.bind_eq_some_iff.mp H
      obtain ⟨⟨t237, t238⟩, A1010, H⟩ := H
      replace H : ((laws_eqLin.f kj25 t220 t221 t237 t238).bind fun t241 => (if t241 = true then ((laws_toLin.f kj25 a2_0 l2_1).bind fun bt242 => ((laws_eqLin.f kj25 t225 t226 bt242.1 bt242.2).bind fun t246 => (if t246 = true then ((laws_markLin.f kj25 t220 t221 1).bind fun bt247 => ((laws_markLin.f kj25 t225 t226 bt247.1).bind fun bt249 => (if bt249.1 < 0 then (laws_FnExactAddScaled.j1 kj25 a1 t218 true a0_0 l0_1 a2_0 l2_1 t214 t215 t230 t231) else ((laws_eqLin.f kj25 t230 t231 t214 t215).bind fun t251 => (if t251 = true then (laws_FnExactAddScaled.j1 kj25 a1 t218 (t234 != t218) a0_0 l0_1 a2_0 l2_1 t214 t215 t230 t231) else (laws_FnExactAddScaled.j1 kj25 a1 t218 true a0_0 l0_1 a2_0 l2_1 t214 t215 t230 t231)))))) else (some false)))) else (some false))) = some r := H
      have A101 := Aside0.mk A1010
      clear A1010
      replace H := Option.bind_eq_some_iff.mp H
      obtain ⟨t241, A1020, H⟩ := H
      replace H : (if t241 = true then ((laws_toLin.f kj25 a2_0 l2_1).bind fun bt242 => ((laws_eqLin.f kj25 t225 t226 bt242.1 bt242.2).bind fun t246 => (if t246 = true then ((laws_markLin.f kj25 t220 t221 1).bind fun bt247 => ((laws_markLin.f kj25 t225 t226 bt247.1).bind fun bt249 => (if bt249.1 < 0 then (laws_FnExactAddScaled.j1 kj25 a1 t218 true a0_0 l0_1 a2_0 l2_1 t214 t215 t230 t231) else ((laws_eqLin.f kj25 t230 t231 t214 t215).bind fun t251 => (if t251 = true then (laws_FnExactAddScaled.j1 kj25 a1 t218 (t234 != t218) a0_0 l0_1 a2_0 l2_1 t214 t215 t230 t231) else (laws_FnExactAddScaled.j1 kj25 a1 t218 true a0_0 l0_1 a2_0 l2_1 t214 t215 t230 t231)))))) else (some false)))) else (some false)) = some r := H
      have A102 := Aside0.mk A1020
      clear A1020
      by_cases c103 : t241 = true
      ·subst c103
       have H1 : ((laws_toLin.f kj25 a2_0 l2_1).bind fun bt242 => ((laws_eqLin.f kj25 t225 t226 bt242.1 bt242.2).bind fun t246 => (if t246 = true then ((laws_markLin.f kj25 t220 t221 1).bind fun bt247 => ((laws_markLin.f kj25 t225 t226 bt247.1).bind fun bt249 => (if bt249.1 < 0 then (laws_FnExactAddScaled.j1 kj25 a1 t218 true a0_0 l0_1 a2_0 l2_1 t214 t215 t230 t231) else ((laws_eqLin.f kj25 t230 t231 t214 t215).bind fun t251 => (if t251 = true then (laws_FnExactAddScaled.j1 kj25 a1 t218 (t234 != t218) a0_0 l0_1 a2_0 l2_1 t214 t215 t230 t231) else (laws_FnExactAddScaled.j1 kj25 a1 t218 true a0_0 l0_1 a2_0 l2_1 t214 t215 t230 t231)))))) else (some false)))) = some r := by rw [if_pos rfl] at H; exact H
       clear H
       have H := H1
       clear H1
       replace H := Option.bind_eq_some_iff.mp H
       obtain ⟨⟨t242, t243⟩, A1040, H⟩ := H
       replace H : ((laws_eqLin.f kj25 t225 t226 t242 t243).bind fun t246 => (if t246 = true then ((laws_markLin.f kj25 t220 t221 1).bind fun bt247 => ((laws_markLin.f kj25 t225 t226 bt247.1).bind fun bt249 => (if bt249.1 < 0 then (laws_FnExactAddScaled.j1 kj25 a1 t218 true a0_0 l0_1 a2_0 l2_1 t214 t215 t230 t231) else ((laws_eqLin.f kj25 t230 t231 t214 t215).bind fun t251 => (if t251 = true then (laws_FnExactAddScaled.j1 kj25 a1 t218 (t234 != t218) a0_0 l0_1 a2_0 l2_1 t214 t215 t230 t231) else (laws_FnExactAddScaled.j1 kj25 a1 t218 true a0_0 l0_1 a2_0 l2_1 t214 t215 t230 t231)))))) else (some false))) = some r := H
       have A104 := Aside0.mk A1040
       clear A1040
       replace H := Option.bind_eq_some_iff.mp H
       obtain ⟨t246, A1050, H⟩ := H
       replace H : (if t246 = true then ((laws_markLin.f kj25 t220 t221 1).bind fun bt247 => ((laws_markLin.f kj25 t225 t226 bt247.1).bind fun bt249 => (if bt249.1 < 0 then (laws_FnExactAddScaled.j1 kj25 a1 t218 true a0_0 l0_1 a2_0 l2_1 t214 t215 t230 t231) else ((laws_eqLin.f kj25 t230 t231 t214 t215).bind fun t251 => (if t251 = true then (laws_FnExactAddScaled.j1 kj25 a1 t218 (t234 != t218) a0_0 l0_1 a2_0 l2_1 t214 t215 t230 t231) else (laws_FnExactAddScaled.j1 kj25 a1 t218 true a0_0 l0_1 a2_0 l2_1 t214 t215 t230 t231)))))) else (some false)) = some r := H
       have A105 := Aside0.mk A1050
       clear A1050
       by_cases c106 : t246 = true
       ·subst c106
        have H1 : ((laws_markLin.f kj25 t220 t221 1).bind fun bt247 => ((laws_markLin.f kj25 t225 t226 bt247.1).bind fun bt249 => (if bt249.1 < 0 then (laws_FnExactAddScaled.j1 kj25 a1 t218 true a0_0 l0_1 a2_0 l2_1 t214 t215 t230 t231) else ((laws_eqLin.f kj25 t230 t231 t214 t215).bind fun t251 => (if t251 = true then (laws_FnExactAddScaled.j1 kj25 a1 t218 (t234 != t218) a0_0 l0_1 a2_0 l2_1 t214 t215 t230 t231) else (laws_FnExactAddScaled.j1 kj25 a1 t218 true a0_0 l0_1 a2_0 l2_1 t214 t215 t230 t231)))))) = some r := by rw [if_pos rfl] at H; exact H
        clear H
        have H := H1
        clear H1
        replace H := Option.bind_eq_some_iff.mp H
        obtain ⟨⟨t247, t248⟩, A1070, H⟩ := H
        replace H : ((laws_markLin.f kj25 t225 t226 t247).bind fun bt249 => (if bt249.1 < 0 then (laws_FnExactAddScaled.j1 kj25 a1 t218 true a0_0 l0_1 a2_0 l2_1 t214 t215 t230 t231) else ((laws_eqLin.f kj25 t230 t231 t214 t215).bind fun t251 => (if t251 = true then (laws_FnExactAddScaled.j1 kj25 a1 t218 (t234 != t218) a0_0 l0_1 a2_0 l2_1 t214 t215 t230 t231) else (laws_FnExactAddScaled.j1 kj25 a1 t218 true a0_0 l0_1 a2_0 l2_1 t214 t215 t230 t231))))) = some r := H
        have A107 := Aside0.mk A1070
        clear A1070
        replace H := Option.bind_eq_some_iff.mp H
        obtain ⟨⟨t249, t250⟩, A1080, H⟩ := H
        replace H : (if t249 < 0 then (laws_FnExactAddScaled.j1 kj25 a1 t218 true a0_0 l0_1 a2_0 l2_1 t214 t215 t230 t231) else ((laws_eqLin.f kj25 t230 t231 t214 t215).bind fun t251 => (if t251 = true then (laws_FnExactAddScaled.j1 kj25 a1 t218 (t234 != t218) a0_0 l0_1 a2_0 l2_1 t214 t215 t230 t231) else (laws_FnExactAddScaled.j1 kj25 a1 t218 true a0_0 l0_1 a2_0 l2_1 t214 t215 t230 t231)))) = some r := H
        have A108 := Aside0.mk A1080
        clear A1080
        have HC109 := Aside0.mk H
        clear H
        try go_wp2
        replace HO_220001 := Aside0.mk (Kd.R_drew HO_220001.out)
        replace HO_225001 := Aside0.mk (Kd.R_drew HO_225001.out)
        replace HO_230001 := Aside0.mk (Kd.R_drew HO_230001.out)
        replace HO_236001 := Aside0.mk (Kd.R_drew HO_236001.out)
        replace BK202 := Aside0.mk (blk_drew BK202.out)
        replace BK203 := Aside0.mk (blk_drew BK203.out)
        replace BK219 := Aside0.mk (blk_drew BK219.out)
        replace BK224 := Aside0.mk (blk_drew BK224.out)
        replace BK229 := Aside0.mk (blk_drew BK229.out)
        replace BK235 := Aside0.mk (blk_drew BK235.out)
        replace HB := Aside0.mk (below_drew1 HB.out)
        refine start_ (n := 5) (S := fun w' => w'.cell? ⟨gb224, 0, none⟩ = some (.int .i64 t220) ∧ w'.cell? ⟨gb224, 1, none⟩ = some (.slice Ao53 t221.length co53) ∧ w'.cell? ⟨gb202, 0, none⟩ = some (.int .i64 a0_0) ∧ w'.cell? ⟨gb202, 1, none⟩ = some (.slice A0_1 l0_1.length c0_1)) (ds := []) #[false, false, false, false, false] (by kernel_rfl) rfl rfl ⟨(c2 BK224).1, (c2 BK224).2, (c2 BK202).1, (c2 BK202).2⟩ (fun hHeld => ?_)
        generalize wc.drew = w110 at HO_220001 HO_225001 HO_230001 HO_236001 BK202 BK203 BK219 BK224 BK229 BK235 HB hHeld ⊢
        refine take_ (i := 0) (N := some 58) (v := ?_) (a' := ?_) #[true, false, false, false, false] rfl rfl (by kernel_rfl) (fun _ _ _ h => h) (Or.inl ⟨by rfl, ?_⟩) hHeld ?_ ?_
        rotate_left
        ·rintro w' ⟨s0, s1, s2, s3⟩
         go_simp
         with_reducible rfl
        rotate_left
        ·simp only [Act.put, List.setIfInBounds_toArray, List.set_cons_zero, List.set_cons_succ, i64_w, i32_w]
         rfl
        refine take_ (i := 1) (N := some 59) (v := ?_) (a' := ?_) #[true, true, false, false, false] rfl rfl (by kernel_rfl) (fun _ _ _ h => h) (Or.inl ⟨by rfl, ?_⟩) hHeld ?_ ?_
        rotate_left
        ·rintro w' ⟨s0, s1, s2, s3⟩
         go_simp
         with_reducible rfl
        rotate_left
        ·simp only [Act.put, List.setIfInBounds_toArray, List.set_cons_zero, List.set_cons_succ, i64_w, i32_w]
         rfl
        refine one_ (i := 2) (N := some 60) #[true, true, true, false, false] rfl rfl (by kernel_rfl) (by decide) (fun K hK => ?_)
        refine goes_ Try.func40 (by kernel_rfl) rfl #[.agg #[.int .i64 a0_0, .slice A0_1 l0_1.length c0_1]] (by rfl) rfl rfl (by (try simp only [List.map_toArray, List.map_cons, List.map_nil]); first | done | rfl | (simp only [List.length_drop, List.length_take]; rfl)) ?_
        with_reducible refine (laws_toLin.calls kj25 a0_0 _ _ l0_1 t237 t238 _ ?side1 ?side2 A101.out).mono ?_
        (case side1 => exact mc ((Kd.C_below HR0_1.out HB.out)))
        (case side2 => exact HC0_1.out)
        rintro e w111 ⟨v239, rfl, ho0, hb⟩
        refine ⟨_, rfl, ?_⟩
        have HO240 := Aside0.mk (Kd.R_lower (Kd.R_new' (Kd.R_new' (Kd.R_new' (Kd.R_new' ho0 (Kd.R_lt (mr HO_220001))) (Kd.R_lt (mr HO_225001))) (Kd.R_lt (mr HO_230001))) (Kd.R_lt (mr HO_236001))) (below_size (ms HB)))
        replace HO_220001 := rl HO_220001 ho0 hb
        replace HO_225001 := rl HO_225001 ho0 hb
        replace HO_230001 := rl HO_230001 ho0 hb
        replace HO_236001 := rl HO_236001 ho0 hb
        replace BK202 := bb BK202 hb
        replace BK203 := bb BK203 hb
        replace BK219 := bb BK219 hb
        replace BK224 := bb BK224 hb
        replace BK229 := bb BK229 hb
        replace BK235 := bb BK235 hb
        replace HB := bs HB hb
        (try clear hb)
        (try clear hb2)
        (try clear hk)
        (try clear hi)
        (try clear ho0)
        obtain ⟨Ao112, co112, eo112⟩ := Kd.R_slice HO240.out
        (first | subst eo112 | (injection eo112 with f1_ f2_ f3_; have f4_ := f1_.symm; have f5_ := f3_.symm; clear f1_ f2_ f3_; subst f4_; subst f5_))
        refine hK.out _ _ ⟨(c2 BK224).1, (c2 BK224).2, (c2 BK202).1, (c2 BK202).2⟩ (fun hHeld => ?_)
        clear hK K
        refine norm_ (a' := ?_) ?_ ?_
        rotate_left
        ·show Act.put _ (some 60) _ = _
         simp only [Act.put, List.setIfInBounds_toArray, List.set_cons_zero, List.set_cons_succ, i64_w, i32_w]
         rfl
        refine one_ (i := 3) (N := some 61) #[true, true, true, true, false] rfl rfl (by kernel_rfl) (by decide) (fun K hK => ?_)
        refine goes_ Try.func42 (by kernel_rfl) rfl #[.agg #[.int .i64 t220, .slice Ao53 t221.length co53], .agg #[.int .i64 t237, .slice Ao112 t238.length co112]] (by rfl) rfl rfl (by (try simp only [List.map_toArray, List.map_cons, List.map_nil]); first | done | rfl | (simp only [List.length_drop, List.length_take]; rfl)) ?_
        with_reducible refine (laws_eqLin.calls kj25 t220 _ _ t221 t237 _ _ t238 true _ ?side1 ?side2 ?side3 ?side4 A102.out).mono ?_
        (case side1 => exact mc ((Kd.R_reads' HO_225001.out).2.2))
        (case side2 => exact (Kd.R_reads' HO_225001.out).2.1)
        (case side3 => exact mc ((Kd.R_reads' HO240.out).2.2))
        (case side4 => exact (Kd.R_reads' HO240.out).2.1)
        rintro e w113 ⟨rfl, hb⟩
        refine ⟨_, rfl, ?_⟩
        replace HO_220001 := rb HO_220001 hb
        replace HO_225001 := rb HO_225001 hb
        replace HO_230001 := rb HO_230001 hb
        replace HO_236001 := rb HO_236001 hb
        replace HO240 := rb HO240 hb
        replace BK202 := bb BK202 hb
        replace BK203 := bb BK203 hb
        replace BK219 := bb BK219 hb
        replace BK224 := bb BK224 hb
        replace BK229 := bb BK229 hb
        replace BK235 := bb BK235 hb
        replace HB := bs HB hb
        (try clear hb)
        (try clear hb2)
        (try clear hk)
        (try clear hi)
        refine hK.out _ _ ⟨(c2 BK224).1, (c2 BK224).2, (c2 BK202).1, (c2 BK202).2⟩ (fun hHeld => ?_)
        clear hK K
        refine norm_ (a' := ?_) ?_ ?_
        rotate_left
        ·show Act.put _ (some 61) _ = _
         simp only [Act.put, List.setIfInBounds_toArray, List.set_cons_zero, List.set_cons_succ, i64_w, i32_w]
         rfl
        refine pure_ (i := 4) (N := some 62) (v := ?_) (a' := ?_) #[true, true, true, true, true] rfl rfl (by kernel_rfl) (fun _ _ _ h => h) (Or.inl ⟨by rfl, ?_⟩) ?_ ?_
        rotate_left
        ·intro w'
         go_simp
         with_reducible rfl
        rotate_left
        ·simp only [Act.put, List.setIfInBounds_toArray, List.set_cons_zero, List.set_cons_succ, i64_w, i32_w]
         rfl
        refine done_ (by kernel_rfl) ?_
        try go_wp2
        replace HO_220001 := Aside0.mk (Kd.R_drew HO_220001.out)
        replace HO_225001 := Aside0.mk (Kd.R_drew HO_225001.out)
        replace HO_230001 := Aside0.mk (Kd.R_drew HO_230001.out)
        replace HO_236001 := Aside0.mk (Kd.R_drew HO_236001.out)
        replace HO240 := Aside0.mk (Kd.R_drew HO240.out)
        replace BK202 := Aside0.mk (blk_drew BK202.out)
        replace BK203 := Aside0.mk (blk_drew BK203.out)
        replace BK219 := Aside0.mk (blk_drew BK219.out)
        replace BK224 := Aside0.mk (blk_drew BK224.out)
        replace BK229 := Aside0.mk (blk_drew BK229.out)
        replace BK235 := Aside0.mk (blk_drew BK235.out)
        replace HB := Aside0.mk (below_drew1 HB.out)
        refine start_ (n := 5) (S := fun w' => w'.cell? ⟨gb229, 0, none⟩ = some (.int .i64 t225) ∧ w'.cell? ⟨gb229, 1, none⟩ = some (.slice Ao63 t226.length co63) ∧ w'.cell? ⟨gb203, 0, none⟩ = some (.int .i64 a2_0) ∧ w'.cell? ⟨gb203, 1, none⟩ = some (.slice A2_1 l2_1.length c2_1)) (ds := []) #[false, false, false, false, false] (by kernel_rfl) rfl rfl ⟨(c2 BK229).1, (c2 BK229).2, (c2 BK203).1, (c2 BK203).2⟩ (fun hHeld => ?_)
        generalize w113.drew = w114 at HO_220001 HO_225001 HO_230001 HO_236001 HO240 BK202 BK203 BK219 BK224 BK229 BK235 HB hHeld ⊢
        refine take_ (i := 0) (N := some 63) (v := ?_) (a' := ?_) #[true, false, false, false, false] rfl rfl (by kernel_rfl) (fun _ _ _ h => h) (Or.inl ⟨by rfl, ?_⟩) hHeld ?_ ?_
        rotate_left
        ·rintro w' ⟨s0, s1, s2, s3⟩
         go_simp
         with_reducible rfl
        rotate_left
        ·simp only [Act.put, List.setIfInBounds_toArray, List.set_cons_zero, List.set_cons_succ, i64_w, i32_w]
         rfl
        refine take_ (i := 1) (N := some 64) (v := ?_) (a' := ?_) #[true, true, false, false, false] rfl rfl (by kernel_rfl) (fun _ _ _ h => h) (Or.inl ⟨by rfl, ?_⟩) hHeld ?_ ?_
        rotate_left
        ·rintro w' ⟨s0, s1, s2, s3⟩
         go_simp
         with_reducible rfl
        rotate_left
        ·simp only [Act.put, List.setIfInBounds_toArray, List.set_cons_zero, List.set_cons_succ, i64_w, i32_w]
         rfl
        refine one_ (i := 2) (N := some 65) #[true, true, true, false, false] rfl rfl (by kernel_rfl) (by decide) (fun K hK => ?_)
        refine goes_ Try.func40 (by kernel_rfl) rfl #[.agg #[.int .i64 a2_0, .slice A2_1 l2_1.length c2_1]] (by rfl) rfl rfl (by (try simp only [List.map_toArray, List.map_cons, List.map_nil]); first | done | rfl | (simp only [List.length_drop, List.length_take]; rfl)) ?_
        with_reducible refine (laws_toLin.calls kj25 a2_0 _ _ l2_1 t242 t243 _ ?side1 ?side2 A104.out).mono ?_
        (case side1 => exact mc ((Kd.C_below HR2_1.out HB.out)))
        (case side2 => exact HC2_1.out)
        rintro e w115 ⟨v244, rfl, ho0, hb⟩
        refine ⟨_, rfl, ?_⟩
        have HO245 := Aside0.mk (Kd.R_lower (Kd.R_new' (Kd.R_new' (Kd.R_new' (Kd.R_new' (Kd.R_new' ho0 (Kd.R_lt (mr HO_220001))) (Kd.R_lt (mr HO_225001))) (Kd.R_lt (mr HO_230001))) (Kd.R_lt (mr HO_236001))) (Kd.R_lt (mr HO240))) (below_size (ms HB)))
        replace HO_220001 := rl HO_220001 ho0 hb
        replace HO_225001 := rl HO_225001 ho0 hb
        replace HO_230001 := rl HO_230001 ho0 hb
        replace HO_236001 := rl HO_236001 ho0 hb
        replace HO240 := rl HO240 ho0 hb
        replace BK202 := bb BK202 hb
        replace BK203 := bb BK203 hb
        replace BK219 := bb BK219 hb
        replace BK224 := bb BK224 hb
        replace BK229 := bb BK229 hb
        replace BK235 := bb BK235 hb
        replace HB := bs HB hb
        (try clear hb)
        (try clear hb2)
        (try clear hk)
        (try clear hi)
        (try clear ho0)
        obtain ⟨Ao116, co116, eo116⟩ := Kd.R_slice HO245.out
        (first | subst eo116 | (injection eo116 with f1_ f2_ f3_; have f4_ := f1_.symm; have f5_ := f3_.symm; clear f1_ f2_ f3_; subst f4_; subst f5_))
        refine hK.out _ _ ⟨(c2 BK229).1, (c2 BK229).2, (c2 BK203).1, (c2 BK203).2⟩ (fun hHeld => ?_)
        clear hK K
        refine norm_ (a' := ?_) ?_ ?_
        rotate_left
        ·show Act.put _ (some 65) _ = _
         simp only [Act.put, List.setIfInBounds_toArray, List.set_cons_zero, List.set_cons_succ, i64_w, i32_w]
         rfl
        refine one_ (i := 3) (N := some 66) #[true, true, true, true, false] rfl rfl (by kernel_rfl) (by decide) (fun K hK => ?_)
        refine goes_ Try.func42 (by kernel_rfl) rfl #[.agg #[.int .i64 t225, .slice Ao63 t226.length co63], .agg #[.int .i64 t242, .slice Ao116 t243.length co116]] (by rfl) rfl rfl (by (try simp only [List.map_toArray, List.map_cons, List.map_nil]); first | done | rfl | (simp only [List.length_drop, List.length_take]; rfl)) ?_
        with_reducible refine (laws_eqLin.calls kj25 t225 _ _ t226 t242 _ _ t243 true _ ?side1 ?side2 ?side3 ?side4 A105.out).mono ?_
        (case side1 => exact mc ((Kd.R_reads' HO_230001.out).2.2))
        (case side2 => exact (Kd.R_reads' HO_230001.out).2.1)
        (case side3 => exact mc ((Kd.R_reads' HO245.out).2.2))
        (case side4 => exact (Kd.R_reads' HO245.out).2.1)
        rintro e w117 ⟨rfl, hb⟩
        refine ⟨_, rfl, ?_⟩
        replace HO_220001 := rb HO_220001 hb
        replace HO_225001 := rb HO_225001 hb
        replace HO_230001 := rb HO_230001 hb
        replace HO_236001 := rb HO_236001 hb
        replace HO240 := rb HO240 hb
        replace HO245 := rb HO245 hb
        replace BK202 := bb BK202 hb
        replace BK203 := bb BK203 hb
        replace BK219 := bb BK219 hb
        replace BK224 := bb BK224 hb
        replace BK229 := bb BK229 hb
        replace BK235 := bb BK235 hb
        replace HB := bs HB hb
        (try clear hb)
        (try clear hb2)
        (try clear hk)
        (try clear hi)
        refine hK.out _ _ ⟨(c2 BK229).1, (c2 BK229).2, (c2 BK203).1, (c2 BK203).2⟩ (fun hHeld => ?_)
        clear hK K
        refine norm_ (a' := ?_) ?_ ?_
        rotate_left
        ·show Act.put _ (some 66) _ = _
         simp only [Act.put, List.setIfInBounds_toArray, List.set_cons_zero, List.set_cons_succ, i64_w, i32_w]
         rfl
        refine pure_ (i := 4) (N := some 67) (v := ?_) (a' := ?_) #[true, true, true, true, true] rfl rfl (by kernel_rfl) (fun _ _ _ h => h) (Or.inl ⟨by rfl, ?_⟩) ?_ ?_
        rotate_left
        ·intro w'
         go_simp
         with_reducible rfl
        rotate_left
        ·simp only [Act.put, List.setIfInBounds_toArray, List.set_cons_zero, List.set_cons_succ, i64_w, i32_w]
         rfl
        refine done_ (by kernel_rfl) ?_
        have hnb118 := NB224_202.out
        have hnc118 := NB202_224.out
        have hnb119 := NB224_203.out
        have hnc119 := NB203_224.out
        have hnb120 := NB224_219.out
        have hnc120 := NB219_224.out
        have hnb121 := NB224_229.out
        have hnc121 := NB229_224.out
        have hnb122 := NB224_235.out
        have hnc122 := NB235_224.out
        obtain ⟨hcz123_0, hcz123_1⟩ := c2 BK224
        have hfz123_0 := blk_frozen BK224.out 0
        have hfz123_1 := blk_frozen BK224.out 1
        go_upto_region 21 with (first | ((with_reducible refine gate_callee (f := 43) rfl ?_); refine goesL_ (some 70) rfl rfl Try.func43 (by kernel_rfl) rfl #[.agg #[.int .i64 t220, .slice Ao53 t221.length co53], .int .i64 1] rfl (by (try simp only [List.map_toArray, List.map_cons, List.map_nil]); first | done | rfl | (simp only [List.length_drop, List.length_take]; rfl)) ?_; (with_reducible refine (laws_markLin.calls kj25 t220 (fun k_ => some k_ = (.slice Ao53 t221.length co53 : Value).ownBlock) (.slice Ao53 t221.length co53) t221 1 t247 t248 w _ ?side1 ?side2 A107.out).mono ?_); (case side1 => repeat (first | (with_reducible first | exact HB.out | apply below_alloc | apply pw_below_drewN | apply below_drew1 | refine below_set ?_ GE202.out | refine below_set ?_ GE203.out | refine below_set ?_ GE219.out | refine below_set ?_ GE224.out | refine below_set ?_ GE229.out | refine below_set ?_ GE235.out) | exact HB.out)); (case side2 => exact Kd.R_tight rfl HO_225001.out); rintro e w124 ⟨rfl, hy0, hb, hkp⟩; refine ⟨_, rfl, ?_⟩; replace HO_220001 := Aside0.mk (Kd.R_mono (ok' := fun k_ => some k_ ≠ (.slice Ao53 t221.length co53 : Value).ownBlock ∧ some k_ ≠ (.slice Ao63 t226.length co63 : Value).ownBlock ∧ some k_ ≠ (.slice Ao73 t231.length co73 : Value).ownBlock ∧ some k_ ≠ (.slice Ao112 t238.length co112 : Value).ownBlock ∧ some k_ ≠ (.slice Ao116 t243.length co116 : Value).ownBlock) (Kd.R_keptB (HO_220001.out) hkp (fun k_ hk_ hs_ => (hk_.1.1.1) hs_)) (fun k_ hk_ => ⟨hk_.1.1.1.1, hk_.1.1.1.2.1, hk_.1.1.1.2.2, hk_.1.1.2, hk_.1.2⟩)); replace HO_230001 := Aside0.mk (Kd.R_mono (ok' := fun k_ => some k_ ≠ (.slice Ao43 t215.length co43 : Value).ownBlock ∧ some k_ ≠ (.slice Ao53 t221.length co53 : Value).ownBlock ∧ some k_ ≠ (.slice Ao73 t231.length co73 : Value).ownBlock ∧ some k_ ≠ (.slice Ao112 t238.length co112 : Value).ownBlock ∧ some k_ ≠ (.slice Ao116 t243.length co116 : Value).ownBlock) (Kd.R_keptB (HO_230001.out) hkp (fun k_ hk_ hs_ => (hk_.1.1.2.1) hs_)) (fun k_ hk_ => ⟨hk_.1.1.1.1, hk_.1.1.1.2.1, hk_.1.1.1.2.2, hk_.1.1.2, hk_.1.2⟩)); replace HO_236001 := Aside0.mk (Kd.R_mono (ok' := fun k_ => some k_ ≠ (.slice Ao43 t215.length co43 : Value).ownBlock ∧ some k_ ≠ (.slice Ao53 t221.length co53 : Value).ownBlock ∧ some k_ ≠ (.slice Ao63 t226.length co63 : Value).ownBlock ∧ some k_ ≠ (.slice Ao112 t238.length co112 : Value).ownBlock ∧ some k_ ≠ (.slice Ao116 t243.length co116 : Value).ownBlock) (Kd.R_keptB (HO_236001.out) hkp (fun k_ hk_ hs_ => (hk_.1.1.2.1) hs_)) (fun k_ hk_ => ⟨hk_.1.1.1.1, hk_.1.1.1.2.1, hk_.1.1.1.2.2, hk_.1.1.2, hk_.1.2⟩)); replace BK202 := Aside0.mk (blk_kept (mb BK202) hkp (fun hs_ => (fun e_ => (Kd.R_ne HO_225001.out BK202.out (by decide)) e_) hs_)); replace BK203 := Aside0.mk (blk_kept (mb BK203) hkp (fun hs_ => (fun e_ => (Kd.R_ne HO_225001.out BK203.out (by decide)) e_) hs_)); replace BK219 := Aside0.mk (blk_kept (mb BK219) hkp (fun hs_ => (fun e_ => (Kd.R_ne HO_225001.out BK219.out (by decide)) e_) hs_)); replace BK224 := Aside0.mk (blk_kept (mb BK224) hkp (fun hs_ => (fun e_ => (Kd.R_ne HO_225001.out BK224.out (by decide)) e_) hs_)); replace BK229 := Aside0.mk (blk_kept (mb BK229) hkp (fun hs_ => (fun e_ => (Kd.R_ne HO_225001.out BK229.out (by decide)) e_) hs_)); replace BK235 := Aside0.mk (blk_kept (mb BK235) hkp (fun hs_ => (fun e_ => (Kd.R_ne HO_225001.out BK235.out (by decide)) e_) hs_)); replace HO_225001 := Aside0.mk (Kd.R_reok rfl hy0 (fun k_ e_ => HO_225001.out.1 k_ e_)); replace HO240 := Aside0.mk (Kd.R_mono (ok' := fun k_ => some k_ ≠ (.slice Ao43 t215.length co43 : Value).ownBlock ∧ some k_ ≠ (.slice Ao53 t221.length co53 : Value).ownBlock ∧ some k_ ≠ (.slice Ao63 t226.length co63 : Value).ownBlock ∧ some k_ ≠ (.slice Ao73 t231.length co73 : Value).ownBlock ∧ some k_ ≠ (.slice Ao116 t243.length co116 : Value).ownBlock) (Kd.R_keptB (HO240.out) hkp (fun k_ hk_ hs_ => (hk_.1.1.1.2) hs_)) (fun k_ hk_ => ⟨hk_.1.1.1.1.1.2, hk_.1.1.1.1.2, hk_.1.1.1.2, hk_.1.1.2, hk_.1.2⟩)); replace HO245 := Aside0.mk (Kd.R_mono (ok' := fun k_ => some k_ ≠ (.slice Ao43 t215.length co43 : Value).ownBlock ∧ some k_ ≠ (.slice Ao53 t221.length co53 : Value).ownBlock ∧ some k_ ≠ (.slice Ao63 t226.length co63 : Value).ownBlock ∧ some k_ ≠ (.slice Ao73 t231.length co73 : Value).ownBlock ∧ some k_ ≠ (.slice Ao112 t238.length co112 : Value).ownBlock) (Kd.R_keptB (HO245.out) hkp (fun k_ hk_ hs_ => (hk_.1.1.1.2) hs_)) (fun k_ hk_ => ⟨hk_.1.1.1.1.1.2, hk_.1.1.1.1.2, hk_.1.1.1.2, hk_.1.1.2, hk_.1.2⟩)); replace HB := Aside0.mk (hb); (try clear hb); (try clear hkp); (try clear hy0); have hnb125 := NB229_202.out; have hnc125 := NB202_229.out; have hnb126 := NB229_203.out; have hnc126 := NB203_229.out; have hnb127 := NB229_219.out; have hnc127 := NB219_229.out; have hnb128 := NB229_235.out; have hnc128 := NB235_229.out; obtain ⟨hcz129_0, hcz129_1⟩ := c2 BK229; have hfz129_0 := blk_frozen BK229.out 0; have hfz129_1 := blk_frozen BK229.out 1) | ((with_reducible refine gate_callee (f := 43) rfl ?_); refine goesL_ (some 73) rfl rfl Try.func43 (by kernel_rfl) rfl #[.agg #[.int .i64 t225, .slice Ao63 t226.length co63], .int .i64 t247] rfl (by (try simp only [List.map_toArray, List.map_cons, List.map_nil]); first | done | rfl | (simp only [List.length_drop, List.length_take]; rfl)) ?_; (with_reducible refine (laws_markLin.calls kj25 t225 (fun k_ => some k_ = (.slice Ao63 t226.length co63 : Value).ownBlock) (.slice Ao63 t226.length co63) t226 t247 t249 t250 w _ ?side1 ?side2 A108.out).mono ?_); (case side1 => repeat (first | (with_reducible first | exact HB.out | apply below_alloc | apply pw_below_drewN | apply below_drew1 | refine below_set ?_ GE202.out | refine below_set ?_ GE203.out | refine below_set ?_ GE219.out | refine below_set ?_ GE224.out | refine below_set ?_ GE229.out | refine below_set ?_ GE235.out) | exact HB.out)); (case side2 => exact Kd.R_tight rfl HO_230001.out); rintro e w130 ⟨rfl, hy0, hb, hkp⟩; refine ⟨_, rfl, ?_⟩; replace HO_220001 := Aside0.mk (Kd.R_mono (ok' := fun k_ => some k_ ≠ (.slice Ao53 t221.length co53 : Value).ownBlock ∧ some k_ ≠ (.slice Ao63 t226.length co63 : Value).ownBlock ∧ some k_ ≠ (.slice Ao73 t231.length co73 : Value).ownBlock ∧ some k_ ≠ (.slice Ao112 t238.length co112 : Value).ownBlock ∧ some k_ ≠ (.slice Ao116 t243.length co116 : Value).ownBlock) (Kd.R_keptB (HO_220001.out) hkp (fun k_ hk_ hs_ => (hk_.2.1) hs_)) (fun k_ hk_ => ⟨hk_.1.1, hk_.1.2.1, hk_.1.2.2.1, hk_.1.2.2.2.1, hk_.1.2.2.2.2⟩)); replace HO_225001 := Aside0.mk (Kd.R_mono (ok' := fun k_ => some k_ ≠ (.slice Ao43 t215.length co43 : Value).ownBlock ∧ some k_ ≠ (.slice Ao63 t226.length co63 : Value).ownBlock ∧ some k_ ≠ (.slice Ao73 t231.length co73 : Value).ownBlock ∧ some k_ ≠ (.slice Ao112 t238.length co112 : Value).ownBlock ∧ some k_ ≠ (.slice Ao116 t243.length co116 : Value).ownBlock) (Kd.R_keptB (HO_225001.out) hkp (fun k_ hk_ hs_ => (hk_.1.1.2.1) hs_)) (fun k_ hk_ => ⟨hk_.1.1.1.1, hk_.1.1.1.2.1, hk_.1.1.1.2.2, hk_.1.1.2, hk_.1.2⟩)); replace HO_236001 := Aside0.mk (Kd.R_mono (ok' := fun k_ => some k_ ≠ (.slice Ao43 t215.length co43 : Value).ownBlock ∧ some k_ ≠ (.slice Ao53 t221.length co53 : Value).ownBlock ∧ some k_ ≠ (.slice Ao63 t226.length co63 : Value).ownBlock ∧ some k_ ≠ (.slice Ao112 t238.length co112 : Value).ownBlock ∧ some k_ ≠ (.slice Ao116 t243.length co116 : Value).ownBlock) (Kd.R_keptB (HO_236001.out) hkp (fun k_ hk_ hs_ => (hk_.2.2.1) hs_)) (fun k_ hk_ => ⟨hk_.1.1, hk_.1.2.1, hk_.1.2.2.1, hk_.1.2.2.2.1, hk_.1.2.2.2.2⟩)); replace BK202 := Aside0.mk (blk_kept (mb BK202) hkp (fun hs_ => (fun e_ => (Kd.R_ne HO_230001.out BK202.out (by decide)) e_) hs_)); replace BK203 := Aside0.mk (blk_kept (mb BK203) hkp (fun hs_ => (fun e_ => (Kd.R_ne HO_230001.out BK203.out (by decide)) e_) hs_)); replace BK219 := Aside0.mk (blk_kept (mb BK219) hkp (fun hs_ => (fun e_ => (Kd.R_ne HO_230001.out BK219.out (by decide)) e_) hs_)); replace BK224 := Aside0.mk (blk_kept (mb BK224) hkp (fun hs_ => (fun e_ => (Kd.R_ne HO_230001.out BK224.out (by decide)) e_) hs_)); replace BK229 := Aside0.mk (blk_kept (mb BK229) hkp (fun hs_ => (fun e_ => (Kd.R_ne HO_230001.out BK229.out (by decide)) e_) hs_)); replace BK235 := Aside0.mk (blk_kept (mb BK235) hkp (fun hs_ => (fun e_ => (Kd.R_ne HO_230001.out BK235.out (by decide)) e_) hs_)); replace HO_230001 := Aside0.mk (Kd.R_reok rfl hy0 (fun k_ e_ => HO_230001.out.1 k_ e_)); replace HO240 := Aside0.mk (Kd.R_mono (ok' := fun k_ => some k_ ≠ (.slice Ao43 t215.length co43 : Value).ownBlock ∧ some k_ ≠ (.slice Ao53 t221.length co53 : Value).ownBlock ∧ some k_ ≠ (.slice Ao63 t226.length co63 : Value).ownBlock ∧ some k_ ≠ (.slice Ao73 t231.length co73 : Value).ownBlock ∧ some k_ ≠ (.slice Ao116 t243.length co116 : Value).ownBlock) (Kd.R_keptB (HO240.out) hkp (fun k_ hk_ hs_ => (hk_.2.2.1) hs_)) (fun k_ hk_ => ⟨hk_.1.1, hk_.1.2.1, hk_.1.2.2.1, hk_.1.2.2.2.1, hk_.1.2.2.2.2⟩)); replace HO245 := Aside0.mk (Kd.R_mono (ok' := fun k_ => some k_ ≠ (.slice Ao43 t215.length co43 : Value).ownBlock ∧ some k_ ≠ (.slice Ao53 t221.length co53 : Value).ownBlock ∧ some k_ ≠ (.slice Ao63 t226.length co63 : Value).ownBlock ∧ some k_ ≠ (.slice Ao73 t231.length co73 : Value).ownBlock ∧ some k_ ≠ (.slice Ao112 t238.length co112 : Value).ownBlock) (Kd.R_keptB (HO245.out) hkp (fun k_ hk_ hs_ => (hk_.2.2.1) hs_)) (fun k_ hk_ => ⟨hk_.1.1, hk_.1.2.1, hk_.1.2.2.1, hk_.1.2.2.2.1, hk_.1.2.2.2.2⟩)); replace HB := Aside0.mk (hb); (try clear hb); (try clear hkp); (try clear hy0)))
        (try simp only [Act.put, List.setIfInBounds_toArray, List.set_cons_zero, List.set_cons_succ])
        go_cut [86] (fun v86 wc => ∃ (kq : Nat) (x86_108 : Bool), v86 = .bool x86_108 ∧ Aside0 (laws_FnExactAddScaled.j1 kq a1 t218 x86_108 a0_0 l0_1 a2_0 l2_1 t214 t215 t230 t231 = some r) ∧ Aside0 (kq ≤ kj25) ∧ Aside0 (Kd.R (Kd.int .i64) 3 wc w.heap.size (fun k_ => some k_ ≠ ((.slice Ao53 t221.length co53) : Value).ownBlock ∧ some k_ ≠ ((.slice Ao63 t226.length co63) : Value).ownBlock ∧ some k_ ≠ ((.slice Ao73 t231.length co73) : Value).ownBlock) (.slice Ao43 t215.length co43) t215) ∧ Aside0 (Kd.R (Kd.int .i64) 3 wc w.heap.size (fun k_ => some k_ ≠ ((.slice Ao43 t215.length co43) : Value).ownBlock ∧ some k_ ≠ ((.slice Ao63 t226.length co63) : Value).ownBlock ∧ some k_ ≠ ((.slice Ao73 t231.length co73) : Value).ownBlock) (.slice Ao53 t221.length co53) t248) ∧ Aside0 (Kd.R (Kd.int .i64) 3 wc w.heap.size (fun k_ => some k_ ≠ ((.slice Ao43 t215.length co43) : Value).ownBlock ∧ some k_ ≠ ((.slice Ao53 t221.length co53) : Value).ownBlock ∧ some k_ ≠ ((.slice Ao73 t231.length co73) : Value).ownBlock) (.slice Ao63 t226.length co63) t250) ∧ Aside0 (Kd.R (Kd.int .i64) 3 wc w.heap.size (fun k_ => some k_ ≠ ((.slice Ao43 t215.length co43) : Value).ownBlock ∧ some k_ ≠ ((.slice Ao53 t221.length co53) : Value).ownBlock ∧ some k_ ≠ ((.slice Ao63 t226.length co63) : Value).ownBlock) (.slice Ao73 t231.length co73) t231) ∧ Aside0 (wc.heap[gb202]? = some (.cells #[.int .i64 a0_0, (.slice A0_1 l0_1.length c0_1)] 59 (0, 0))) ∧ Aside0 (wc.heap[gb203]? = some (.cells #[.int .i64 a2_0, (.slice A2_1 l2_1.length c2_1)] 59 (0, 0))) ∧ Aside0 (wc.heap[gb219]? = some (.cells #[.int .i64 t214, (.slice Ao43 t215.length co43)] 51 (0, 0))) ∧ Aside0 (wc.heap[gb224]? = some (.cells #[.int .i64 t220, (.slice Ao53 t221.length co53)] 51 (0, 0))) ∧ Aside0 (wc.heap[gb229]? = some (.cells #[.int .i64 t225, (.slice Ao63 t226.length co63)] 51 (0, 0))) ∧ Aside0 (wc.heap[gb235]? = some (.cells #[.int .i64 t230, (.slice Ao73 t231.length co73)] 51 (0, 0))) ∧ Aside0 (Below w.heap.size w wc))
        case first =>
         have H := HC109.out
         clear HC109
         by_cases c131 : t249 < 0
         ·rw [if_pos c131] at H
          have c131b0 : decide (t249 < 0) = true := decide_eq_true c131
          clear c131
          (first | rw [c131b0] | (simp only [i64_w, i32_w]; rw [c131b0]) | skip)
          have H' := Aside0.mk H
          clear H
          go_wp2
          go_meet
          case rel => exact ⟨_, (true), (by first | rfl | (simp; done) | (simp [*]; done)), H', ⟨by have := HJ25.out; first | omega | exact Nat.le_refl _⟩, ⟨by (with_reducible repeat (first | apply Kd.R_alloc | apply Kd.R_drewN | apply Kd.R_drew)); exact Kd.R_mono HO_220001.out (fun _ hk => ⟨hk.1, ⟨hk.2.1, hk.2.2.1⟩⟩)⟩, ⟨by (with_reducible repeat (first | apply Kd.R_alloc | apply Kd.R_drewN | apply Kd.R_drew)); exact Kd.R_mono HO_225001.out (fun _ hk => ⟨hk.1, ⟨hk.2.1, hk.2.2.1⟩⟩)⟩, ⟨by (with_reducible repeat (first | apply Kd.R_alloc | apply Kd.R_drewN | apply Kd.R_drew)); exact Kd.R_mono HO_230001.out (fun _ hk => ⟨hk.1, ⟨hk.2.1, hk.2.2.1⟩⟩)⟩, ⟨by (with_reducible repeat (first | apply Kd.R_alloc | apply Kd.R_drewN | apply Kd.R_drew)); exact Kd.R_mono HO_236001.out (fun _ hk => ⟨hk.1, ⟨hk.2.1, hk.2.2.1⟩⟩)⟩, ⟨by (with_reducible repeat (first | refine blk_drewN ?_ _ | refine blk_drew ?_ | refine blk_alloc ?_ _)); exact BK202.out⟩, ⟨by (with_reducible repeat (first | refine blk_drewN ?_ _ | refine blk_drew ?_ | refine blk_alloc ?_ _)); exact BK203.out⟩, ⟨by (with_reducible repeat (first | refine blk_drewN ?_ _ | refine blk_drew ?_ | refine blk_alloc ?_ _)); exact BK219.out⟩, ⟨by (with_reducible repeat (first | refine blk_drewN ?_ _ | refine blk_drew ?_ | refine blk_alloc ?_ _)); exact BK224.out⟩, ⟨by (with_reducible repeat (first | refine blk_drewN ?_ _ | refine blk_drew ?_ | refine blk_alloc ?_ _)); exact BK229.out⟩, ⟨by (with_reducible repeat (first | refine blk_drewN ?_ _ | refine blk_drew ?_ | refine blk_alloc ?_ _)); exact BK235.out⟩, ⟨ms HB⟩⟩
         ·rw [if_neg c131] at H
          have c131b0 : decide (t249 < 0) = false := decide_eq_false c131
          clear c131
          (first | rw [c131b0] | (simp only [i64_w, i32_w]; rw [c131b0]) | skip)
          replace H := Option.bind_eq_some_iff.mp H
          obtain ⟨t251, A1320, H⟩ := H
          replace H : (if t251 = true then (laws_FnExactAddScaled.j1 kj25 a1 t218 (t234 != t218) a0_0 l0_1 a2_0 l2_1 t214 t215 t230 t231) else (laws_FnExactAddScaled.j1 kj25 a1 t218 true a0_0 l0_1 a2_0 l2_1 t214 t215 t230 t231)) = some r := H
          have A132 := Aside0.mk A1320
          clear A1320
          by_cases c133 : t251 = true
          ·subst c133
           have H1 : (laws_FnExactAddScaled.j1 kj25 a1 t218 (t234 != t218) a0_0 l0_1 a2_0 l2_1 t214 t215 t230 t231) = some r := by rw [if_pos rfl] at H; exact H
           clear H
           have H := H1
           clear H1
           have H' := Aside0.mk H
           clear H
           have hnb134 := NB235_202.out
           have hnc134 := NB202_235.out
           have hnb135 := NB235_203.out
           have hnc135 := NB203_235.out
           have hnb136 := NB235_219.out
           have hnc136 := NB219_235.out
           have hnb137 := NB235_224.out
           have hnc137 := NB224_235.out
           have hnb138 := NB235_229.out
           have hnc138 := NB229_235.out
           obtain ⟨hcz139_0, hcz139_1⟩ := c2 BK235
           have hfz139_0 := blk_frozen BK235.out 0
           have hfz139_1 := blk_frozen BK235.out 1
           have hnb140 := NB219_202.out
           have hnc140 := NB202_219.out
           have hnb141 := NB219_203.out
           have hnc141 := NB203_219.out
           have hnb142 := NB219_224.out
           have hnc142 := NB224_219.out
           have hnb143 := NB219_229.out
           have hnc143 := NB229_219.out
           obtain ⟨hcz144_0, hcz144_1⟩ := c2 BK219
           have hfz144_0 := blk_frozen BK219.out 0
           have hfz144_1 := blk_frozen BK219.out 1
           go_wp2_with (first | (go_at_call 42; (with_reducible refine (laws_eqLin.calls kj25 t230 _ _ t231 t214 _ _ t215 true _ ?side1 ?side2 ?side3 ?side4 A132.out).mono ?_); (case side1 => exact mc ((Kd.R_reads' HO_236001.out).2.2)); (case side2 => exact (Kd.R_reads' HO_236001.out).2.1); (case side3 => exact mc ((Kd.R_reads' HO_220001.out).2.2)); (case side4 => exact (Kd.R_reads' HO_220001.out).2.1); rintro e w145 ⟨rfl, hb⟩; replace HO_220001 := rb HO_220001 hb; replace HO_225001 := rb HO_225001 hb; replace HO_230001 := rb HO_230001 hb; replace HO_236001 := rb HO_236001 hb; replace HO240 := rb HO240 hb; replace HO245 := rb HO245 hb; replace BK202 := bb BK202 hb; replace BK203 := bb BK203 hb; replace BK219 := bb BK219 hb; replace BK224 := bb BK224 hb; replace BK229 := bb BK229 hb; replace BK235 := bb BK235 hb; replace HB := bs HB hb; (try clear hb)))
           go_meet
           case rel => exact ⟨_, ((t234 != t218)), (by first | rfl | (simp; done) | (simp [*]; done)), H', ⟨by have := HJ25.out; first | omega | exact Nat.le_refl _⟩, ⟨by (with_reducible repeat (first | apply Kd.R_alloc | apply Kd.R_drewN | apply Kd.R_drew)); exact Kd.R_mono HO_220001.out (fun _ hk => ⟨hk.1, ⟨hk.2.1, hk.2.2.1⟩⟩)⟩, ⟨by (with_reducible repeat (first | apply Kd.R_alloc | apply Kd.R_drewN | apply Kd.R_drew)); exact Kd.R_mono HO_225001.out (fun _ hk => ⟨hk.1, ⟨hk.2.1, hk.2.2.1⟩⟩)⟩, ⟨by (with_reducible repeat (first | apply Kd.R_alloc | apply Kd.R_drewN | apply Kd.R_drew)); exact Kd.R_mono HO_230001.out (fun _ hk => ⟨hk.1, ⟨hk.2.1, hk.2.2.1⟩⟩)⟩, ⟨by (with_reducible repeat (first | apply Kd.R_alloc | apply Kd.R_drewN | apply Kd.R_drew)); exact Kd.R_mono HO_236001.out (fun _ hk => ⟨hk.1, ⟨hk.2.1, hk.2.2.1⟩⟩)⟩, ⟨by (with_reducible repeat (first | refine blk_drewN ?_ _ | refine blk_drew ?_ | refine blk_alloc ?_ _)); exact BK202.out⟩, ⟨by (with_reducible repeat (first | refine blk_drewN ?_ _ | refine blk_drew ?_ | refine blk_alloc ?_ _)); exact BK203.out⟩, ⟨by (with_reducible repeat (first | refine blk_drewN ?_ _ | refine blk_drew ?_ | refine blk_alloc ?_ _)); exact BK219.out⟩, ⟨by (with_reducible repeat (first | refine blk_drewN ?_ _ | refine blk_drew ?_ | refine blk_alloc ?_ _)); exact BK224.out⟩, ⟨by (with_reducible repeat (first | refine blk_drewN ?_ _ | refine blk_drew ?_ | refine blk_alloc ?_ _)); exact BK229.out⟩, ⟨by (with_reducible repeat (first | refine blk_drewN ?_ _ | refine blk_drew ?_ | refine blk_alloc ?_ _)); exact BK235.out⟩, ⟨ms HB⟩⟩
          ·replace c133 := Bool.eq_false_iff.mpr c133
           subst c133
           have H1 : (laws_FnExactAddScaled.j1 kj25 a1 t218 true a0_0 l0_1 a2_0 l2_1 t214 t215 t230 t231) = some r := by rw [if_neg (show ¬ (false = true) by decide)] at H; exact H
           clear H
           have H := H1
           clear H1
           have H' := Aside0.mk H
           clear H
           have hnb146 := NB235_202.out
           have hnc146 := NB202_235.out
           have hnb147 := NB235_203.out
           have hnc147 := NB203_235.out
           have hnb148 := NB235_219.out
           have hnc148 := NB219_235.out
           have hnb149 := NB235_224.out
           have hnc149 := NB224_235.out
           have hnb150 := NB235_229.out
           have hnc150 := NB229_235.out
           obtain ⟨hcz151_0, hcz151_1⟩ := c2 BK235
           have hfz151_0 := blk_frozen BK235.out 0
           have hfz151_1 := blk_frozen BK235.out 1
           have hnb152 := NB219_202.out
           have hnc152 := NB202_219.out
           have hnb153 := NB219_203.out
           have hnc153 := NB203_219.out
           have hnb154 := NB219_224.out
           have hnc154 := NB224_219.out
           have hnb155 := NB219_229.out
           have hnc155 := NB229_219.out
           obtain ⟨hcz156_0, hcz156_1⟩ := c2 BK219
           have hfz156_0 := blk_frozen BK219.out 0
           have hfz156_1 := blk_frozen BK219.out 1
           go_wp2_with (first | (go_at_call 42; (with_reducible refine (laws_eqLin.calls kj25 t230 _ _ t231 t214 _ _ t215 false _ ?side1 ?side2 ?side3 ?side4 A132.out).mono ?_); (case side1 => exact mc ((Kd.R_reads' HO_236001.out).2.2)); (case side2 => exact (Kd.R_reads' HO_236001.out).2.1); (case side3 => exact mc ((Kd.R_reads' HO_220001.out).2.2)); (case side4 => exact (Kd.R_reads' HO_220001.out).2.1); rintro e w157 ⟨rfl, hb⟩; replace HO_220001 := rb HO_220001 hb; replace HO_225001 := rb HO_225001 hb; replace HO_230001 := rb HO_230001 hb; replace HO_236001 := rb HO_236001 hb; replace HO240 := rb HO240 hb; replace HO245 := rb HO245 hb; replace BK202 := bb BK202 hb; replace BK203 := bb BK203 hb; replace BK219 := bb BK219 hb; replace BK224 := bb BK224 hb; replace BK229 := bb BK229 hb; replace BK235 := bb BK235 hb; replace HB := bs HB hb; (try clear hb)))
           go_meet
           case rel => exact ⟨_, (true), (by first | rfl | (simp; done) | (simp [*]; done)), H', ⟨by have := HJ25.out; first | omega | exact Nat.le_refl _⟩, ⟨by (with_reducible repeat (first | apply Kd.R_alloc | apply Kd.R_drewN | apply Kd.R_drew)); exact Kd.R_mono HO_220001.out (fun _ hk => ⟨hk.1, ⟨hk.2.1, hk.2.2.1⟩⟩)⟩, ⟨by (with_reducible repeat (first | apply Kd.R_alloc | apply Kd.R_drewN | apply Kd.R_drew)); exact Kd.R_mono HO_225001.out (fun _ hk => ⟨hk.1, ⟨hk.2.1, hk.2.2.1⟩⟩)⟩, ⟨by (with_reducible repeat (first | apply Kd.R_alloc | apply Kd.R_drewN | apply Kd.R_drew)); exact Kd.R_mono HO_230001.out (fun _ hk => ⟨hk.1, ⟨hk.2.1, hk.2.2.1⟩⟩)⟩, ⟨by (with_reducible repeat (first | apply Kd.R_alloc | apply Kd.R_drewN | apply Kd.R_drew)); exact Kd.R_mono HO_236001.out (fun _ hk => ⟨hk.1, ⟨hk.2.1, hk.2.2.1⟩⟩)⟩, ⟨by (with_reducible repeat (first | refine blk_drewN ?_ _ | refine blk_drew ?_ | refine blk_alloc ?_ _)); exact BK202.out⟩, ⟨by (with_reducible repeat (first | refine blk_drewN ?_ _ | refine blk_drew ?_ | refine blk_alloc ?_ _)); exact BK203.out⟩, ⟨by (with_reducible repeat (first | refine blk_drewN ?_ _ | refine blk_drew ?_ | refine blk_alloc ?_ _)); exact BK219.out⟩, ⟨by (with_reducible repeat (first | refine blk_drewN ?_ _ | refine blk_drew ?_ | refine blk_alloc ?_ _)); exact BK224.out⟩, ⟨by (with_reducible repeat (first | refine blk_drewN ?_ _ | refine blk_drew ?_ | refine blk_alloc ?_ _)); exact BK229.out⟩, ⟨by (with_reducible repeat (first | refine blk_drewN ?_ _ | refine blk_drew ?_ | refine blk_alloc ?_ _)); exact BK235.out⟩, ⟨ms HB⟩⟩
        case rest =>
         clear HC109
         try clear c1
         try clear c2
         try clear p2
         try clear c4
         try clear c7
         try clear c8
         try clear c9
         try clear c10
         try clear c11
         try clear c12
         try clear c13
         try clear c14
         try clear c15
         try clear c40
         try clear c42
         try clear c43
         try clear c77
         try clear c78
         try clear c79
         try clear c80
         try clear c82
         try clear c83
         try clear c84
         try clear c85
         try clear c88
         try clear c89
         try clear c90
         try clear c91
         try clear c92
         try clear c94
         try clear c95
         try clear c96
         try clear c97
         try clear c100
         try clear c103
         try clear c106
         try clear c118
         try clear c119
         try clear c120
         try clear c121
         try clear c122
         try clear c125
         try clear c126
         try clear c127
         try clear c128
         try clear c131
         try clear c131b0
         try clear c133
         try clear c134
         try clear c135
         try clear c136
         try clear c137
         try clear c138
         try clear c140
         try clear c141
         try clear c142
         try clear c143
         try clear c146
         try clear c147
         try clear c148
         try clear c149
         try clear c150
         try clear c152
         try clear c153
         try clear c154
         try clear c155
         try clear hcz123_0
         try clear hcz123_1
         try clear hcz129_0
         try clear hcz129_1
         try clear hcz139_0
         try clear hcz139_1
         try clear hcz144_0
         try clear hcz144_1
         try clear hcz151_0
         try clear hcz151_1
         try clear hcz156_0
         try clear hcz156_1
         try clear hcz46_0
         try clear hcz46_1
         try clear hcz52_0
         try clear hcz52_1
         try clear hcz55_0
         try clear hcz55_1
         try clear hcz62_0
         try clear hcz62_1
         try clear hcz64_0
         try clear hcz64_1
         try clear hcz72_0
         try clear hcz72_1
         try clear hcz81_0
         try clear hcz81_1
         try clear hcz86_0
         try clear hcz86_1
         try clear hcz93_0
         try clear hcz93_1
         try clear hcz98_0
         try clear hcz98_1
         try clear hfz123_0
         try clear hfz123_1
         try clear hfz129_0
         try clear hfz129_1
         try clear hfz139_0
         try clear hfz139_1
         try clear hfz144_0
         try clear hfz144_1
         try clear hfz151_0
         try clear hfz151_1
         try clear hfz156_0
         try clear hfz156_1
         try clear hfz46_0
         try clear hfz46_1
         try clear hfz52_0
         try clear hfz52_1
         try clear hfz55_0
         try clear hfz55_1
         try clear hfz62_0
         try clear hfz62_1
         try clear hfz64_0
         try clear hfz64_1
         try clear hfz72_0
         try clear hfz72_1
         try clear hfz81_0
         try clear hfz81_1
         try clear hfz86_0
         try clear hfz86_1
         try clear hfz93_0
         try clear hfz93_1
         try clear hfz98_0
         try clear hfz98_1
         obtain ⟨kq, x86_108, rfl, HA, HJ108, HO_220001, HO_225001, HO_230001, HO_236001, BK202, BK203, BK219, BK224, BK229, BK235, HB⟩ := hcut
         have hl225001_108 := (Kd.R_reads' HO_225001.out).1
         rw [hl225001_108] at HO_225001
         (try simp only [hl225001_108])
         (try simp only [hl225001_108] at BK202)
         (try simp only [hl225001_108] at BK203)
         (try simp only [hl225001_108] at BK219)
         (try simp only [hl225001_108] at BK224)
         (try simp only [hl225001_108] at BK229)
         (try simp only [hl225001_108] at BK235)
         (try simp only [hl225001_108] at HO_220001)
         (try simp only [hl225001_108] at HO_230001)
         (try simp only [hl225001_108] at HO_236001)
         have hl230001_108 := (Kd.R_reads' HO_230001.out).1
         rw [hl230001_108] at HO_230001
         (try simp only [hl230001_108])
         (try simp only [hl230001_108] at BK202)
         (try simp only [hl230001_108] at BK203)
         (try simp only [hl230001_108] at BK219)
         (try simp only [hl230001_108] at BK224)
         (try simp only [hl230001_108] at BK229)
         (try simp only [hl230001_108] at BK235)
         (try simp only [hl230001_108] at HO_220001)
         (try simp only [hl230001_108] at HO_225001)
         (try simp only [hl230001_108] at HO_236001)
         cases kq with
         | zero => exact absurd HA.out (by simp [laws_FnExactAddScaled.j1])
         | succ kj108 =>
          have H := HA.out
          clear HA
          simp only [laws_FnExactAddScaled.j1] at H
          by_cases c158 : x86_108 = true
          ·subst c158
           have H1 : (some false) = some r := by rw [if_pos rfl] at H; exact H
           clear H
           have H := H1
           clear H1
           obtain rfl := Option.some.inj H
           go_wp2
           go_ret
           exact ⟨by first | rfl | (simp [errW_none, errW_some] <;> rfl) | (simp [*, errW_none, errW_some] <;> rfl), ms HB⟩
          ·replace c158 := Bool.eq_false_iff.mpr c158
           subst c158
           have H1 : ((laws_markLin.f kj108 t230 t231 1).bind fun bt252 => ((laws_heldLin.f kj108 t230 bt252.2 1).bind fun t254 => (if t254 < 0 then (some false) else (if t254 = bt252.1 then ((laws_toLin.f kj108 a0_0 l0_1).bind fun bt255 => ((laws_toLin.f kj108 a2_0 l2_1).bind fun bt259 => ((impl_AddScaled.f kj108 bt255.1 bt255.2 a1 bt259.1 bt259.2).bind fun bt263 => ((laws_eqLin.f kj108 bt263.1 bt263.2.1 t214 t215).bind fun t269 => (if t269 = true then (laws_FnExactAddScaled.j2 kj108 bt252.1 (bt263.2.2 != t218) t230 bt252.2) else (laws_FnExactAddScaled.j2 kj108 bt252.1 true t230 bt252.2)))))) else (some false))))) = some r := by rw [if_neg (show ¬ (false = true) by decide)] at H; exact H
           clear H
           have H := H1
           clear H1
           replace H := Option.bind_eq_some_iff.mp H
           obtain ⟨⟨t252, t253⟩, A1590, H⟩ := H
           replace H : ((laws_heldLin.f kj108 t230 t253 1).bind fun t254 => (if t254 < 0 then (some false) else (if t254 = t252 then ((laws_toLin.f kj108 a0_0 l0_1).bind fun bt255 => ((laws_toLin.f kj108 a2_0 l2_1).bind fun bt259 => ((impl_AddScaled.f kj108 bt255.1 bt255.2 a1 bt259.1 bt259.2).bind fun bt263 => ((laws_eqLin.f kj108 bt263.1 bt263.2.1 t214 t215).bind fun t269 => (if t269 = true then (laws_FnExactAddScaled.j2 kj108 t252 (bt263.2.2 != t218) t230 t253) else (laws_FnExactAddScaled.j2 kj108 t252 true t230 t253)))))) else (some false)))) = some r := H
           have A159 := Aside0.mk A1590
           clear A1590
           replace H := Option.bind_eq_some_iff.mp H
           obtain ⟨t254, A1600, H⟩ := H
           replace H : (if t254 < 0 then (some false) else (if t254 = t252 then ((laws_toLin.f kj108 a0_0 l0_1).bind fun bt255 => ((laws_toLin.f kj108 a2_0 l2_1).bind fun bt259 => ((impl_AddScaled.f kj108 bt255.1 bt255.2 a1 bt259.1 bt259.2).bind fun bt263 => ((laws_eqLin.f kj108 bt263.1 bt263.2.1 t214 t215).bind fun t269 => (if t269 = true then (laws_FnExactAddScaled.j2 kj108 t252 (bt263.2.2 != t218) t230 t253) else (laws_FnExactAddScaled.j2 kj108 t252 true t230 t253)))))) else (some false))) = some r := H
           have A160 := Aside0.mk A1600
           clear A1600
           by_cases c161 : t254 < 0
           ·rw [if_pos c161] at H
            have c161b0 : decide (t254 < 0) = true := decide_eq_true c161
            clear c161
            obtain rfl := Option.some.inj H
            have hnb162 := NB235_202.out
            have hnc162 := NB202_235.out
            have hnb163 := NB235_203.out
            have hnc163 := NB203_235.out
            have hnb164 := NB235_219.out
            have hnc164 := NB219_235.out
            have hnb165 := NB235_224.out
            have hnc165 := NB224_235.out
            have hnb166 := NB235_229.out
            have hnc166 := NB229_235.out
            obtain ⟨hcz167_0, hcz167_1⟩ := c2 BK235
            have hfz167_0 := blk_frozen BK235.out 0
            have hfz167_1 := blk_frozen BK235.out 1
            go_wp2_with (first | ((with_reducible refine gate_callee (f := 43) rfl ?_); refine goesL_ (some 89) rfl rfl Try.func43 (by kernel_rfl) rfl #[.agg #[.int .i64 t230, .slice Ao73 t231.length co73], .int .i64 1] rfl (by (try simp only [List.map_toArray, List.map_cons, List.map_nil]); first | done | rfl | (simp only [List.length_drop, List.length_take]; rfl)) ?_; (with_reducible refine (laws_markLin.calls kj108 t230 (fun k_ => some k_ = (.slice Ao73 t231.length co73 : Value).ownBlock) (.slice Ao73 t231.length co73) t231 1 t252 t253 w _ ?side1 ?side2 A159.out).mono ?_); (case side1 => repeat (first | (with_reducible first | exact HB.out | apply below_alloc | apply pw_below_drewN | apply below_drew1 | refine below_set ?_ GE202.out | refine below_set ?_ GE203.out | refine below_set ?_ GE219.out | refine below_set ?_ GE224.out | refine below_set ?_ GE229.out | refine below_set ?_ GE235.out) | exact HB.out)); (case side2 => exact Kd.R_tight rfl HO_236001.out); rintro e w168 ⟨rfl, hy0, hb, hkp⟩; refine ⟨_, rfl, ?_⟩; replace HO_220001 := Aside0.mk (Kd.R_mono (ok' := fun k_ => some k_ ≠ (.slice Ao53 t248.length co53 : Value).ownBlock ∧ some k_ ≠ (.slice Ao63 t250.length co63 : Value).ownBlock ∧ some k_ ≠ (.slice Ao73 t231.length co73 : Value).ownBlock) (Kd.R_keptB (HO_220001.out) hkp (fun k_ hk_ hs_ => (hk_.2.2) hs_)) (fun k_ hk_ => ⟨hk_.1.1, hk_.1.2.1, hk_.1.2.2⟩)); replace HO_225001 := Aside0.mk (Kd.R_mono (ok' := fun k_ => some k_ ≠ (.slice Ao43 t215.length co43 : Value).ownBlock ∧ some k_ ≠ (.slice Ao63 t250.length co63 : Value).ownBlock ∧ some k_ ≠ (.slice Ao73 t231.length co73 : Value).ownBlock) (Kd.R_keptB (HO_225001.out) hkp (fun k_ hk_ hs_ => (hk_.2.2) hs_)) (fun k_ hk_ => ⟨hk_.1.1, hk_.1.2.1, hk_.1.2.2⟩)); replace HO_230001 := Aside0.mk (Kd.R_mono (ok' := fun k_ => some k_ ≠ (.slice Ao43 t215.length co43 : Value).ownBlock ∧ some k_ ≠ (.slice Ao53 t248.length co53 : Value).ownBlock ∧ some k_ ≠ (.slice Ao73 t231.length co73 : Value).ownBlock) (Kd.R_keptB (HO_230001.out) hkp (fun k_ hk_ hs_ => (hk_.2.2) hs_)) (fun k_ hk_ => ⟨hk_.1.1, hk_.1.2.1, hk_.1.2.2⟩)); replace BK202 := Aside0.mk (blk_kept (mb BK202) hkp (fun hs_ => (fun e_ => (Kd.R_ne HO_236001.out BK202.out (by decide)) e_) hs_)); replace BK203 := Aside0.mk (blk_kept (mb BK203) hkp (fun hs_ => (fun e_ => (Kd.R_ne HO_236001.out BK203.out (by decide)) e_) hs_)); replace BK219 := Aside0.mk (blk_kept (mb BK219) hkp (fun hs_ => (fun e_ => (Kd.R_ne HO_236001.out BK219.out (by decide)) e_) hs_)); replace BK224 := Aside0.mk (blk_kept (mb BK224) hkp (fun hs_ => (fun e_ => (Kd.R_ne HO_236001.out BK224.out (by decide)) e_) hs_)); replace BK229 := Aside0.mk (blk_kept (mb BK229) hkp (fun hs_ => (fun e_ => (Kd.R_ne HO_236001.out BK229.out (by decide)) e_) hs_)); replace BK235 := Aside0.mk (blk_kept (mb BK235) hkp (fun hs_ => (fun e_ => (Kd.R_ne HO_236001.out BK235.out (by decide)) e_) hs_)); replace HO_236001 := Aside0.mk (Kd.R_reok rfl hy0 (fun k_ e_ => HO_236001.out.1 k_ e_)); replace HB := Aside0.mk (hb); (try clear hb); (try clear hkp); (try clear hy0); obtain ⟨hcz169_0, hcz169_1⟩ := c2 BK235; have hfz169_0 := blk_frozen BK235.out 0; have hfz169_1 := blk_frozen BK235.out 1) | ((with_reducible refine gate_callee (f := 44) rfl ?_); refine goesL_ (some 92) rfl rfl Try.func44 (by kernel_rfl) rfl #[.agg #[.int .i64 t230, .slice Ao73 t253.length co73], .int .i64 1] rfl (by (try simp only [List.map_toArray, List.map_cons, List.map_nil]); first | done | (rw [show t253.length = t231.length from (Kd.R_reads' HO_236001.out).1.symm] <;> rfl) | rfl | (simp only [List.length_drop, List.length_take]; rfl)) ?_; (with_reducible refine (laws_heldLin.calls kj108 t230 _ _ t253 1 t254 _ ?side1 ?side2 A160.out).mono ?_); (case side1 => exact mc ((Kd.R_reads' HO_236001.out).2.2)); (case side2 => rw [show t253.length = t231.length from (Kd.R_reads' HO_236001.out).1.symm]; exact (Kd.R_reads' HO_236001.out).2.1); rintro e w170 ⟨rfl, hb⟩; refine ⟨_, rfl, ?_⟩; replace HO_220001 := rb HO_220001 hb; replace HO_225001 := rb HO_225001 hb; replace HO_230001 := rb HO_230001 hb; replace HO_236001 := rb HO_236001 hb; replace BK202 := bb BK202 hb; replace BK203 := bb BK203 hb; replace BK219 := bb BK219 hb; replace BK224 := bb BK224 hb; replace BK229 := bb BK229 hb; replace BK235 := bb BK235 hb; replace HB := bs HB hb; (try clear hb)))
            go_ret
            exact ⟨by first | rfl | (simp [errW_none, errW_some] <;> rfl) | (simp [*, errW_none, errW_some] <;> rfl), ms HB⟩
           ·rw [if_neg c161] at H
            have c161b0 : decide (t254 < 0) = false := decide_eq_false c161
            clear c161
            by_cases c171 : t254 = t252
            ·rw [if_pos c171] at H
             have c171b0 : (t254 == t252) = true := beq_iff_eq.mpr c171
             have c171b1 : (t254 != t252) = false := bne_eq_false_iff_eq.mpr c171
             clear c171
             replace H := Option.bind_eq_some_iff.mp H
             obtain ⟨⟨t255, t256⟩, A1720, H⟩ := H
             replace H : ((laws_toLin.f kj108 a2_0 l2_1).bind fun bt259 => ((impl_AddScaled.f kj108 t255 t256 a1 bt259.1 bt259.2).bind fun bt263 => ((laws_eqLin.f kj108 bt263.1 bt263.2.1 t214 t215).bind fun t269 => (if t269 = true then (laws_FnExactAddScaled.j2 kj108 t252 (bt263.2.2 != t218) t230 t253) else (laws_FnExactAddScaled.j2 kj108 t252 true t230 t253))))) = some r := H
             have A172 := Aside0.mk A1720
             clear A1720
             replace H := Option.bind_eq_some_iff.mp H
             obtain ⟨⟨t259, t260⟩, A1730, H⟩ := H
             replace H : ((impl_AddScaled.f kj108 t255 t256 a1 t259 t260).bind fun bt263 => ((laws_eqLin.f kj108 bt263.1 bt263.2.1 t214 t215).bind fun t269 => (if t269 = true then (laws_FnExactAddScaled.j2 kj108 t252 (bt263.2.2 != t218) t230 t253) else (laws_FnExactAddScaled.j2 kj108 t252 true t230 t253)))) = some r := H
             have A173 := Aside0.mk A1730
             clear A1730
             replace H := Option.bind_eq_some_iff.mp H
             obtain ⟨⟨t263, t264, t267⟩, A1740, H⟩ := H
             replace H : ((laws_eqLin.f kj108 t263 t264 t214 t215).bind fun t269 => (if t269 = true then (laws_FnExactAddScaled.j2 kj108 t252 (t267 != t218) t230 t253) else (laws_FnExactAddScaled.j2 kj108 t252 true t230 t253))) = some r := H
             have A174 := Aside0.mk A1740
             clear A1740
             have HC175 := Aside0.mk H
             clear H
             have hnb176 := NB235_202.out
             have hnc176 := NB202_235.out
             have hnb177 := NB235_203.out
             have hnc177 := NB203_235.out
             have hnb178 := NB235_219.out
             have hnc178 := NB219_235.out
             have hnb179 := NB235_224.out
             have hnc179 := NB224_235.out
             have hnb180 := NB235_229.out
             have hnc180 := NB229_235.out
             obtain ⟨hcz181_0, hcz181_1⟩ := c2 BK235
             have hfz181_0 := blk_frozen BK235.out 0
             have hfz181_1 := blk_frozen BK235.out 1
             try go_wp2_with (first | ((with_reducible refine gate_callee (f := 43) rfl ?_); refine goesL_ (some 89) rfl rfl Try.func43 (by kernel_rfl) rfl #[.agg #[.int .i64 t230, .slice Ao73 t231.length co73], .int .i64 1] rfl (by (try simp only [List.map_toArray, List.map_cons, List.map_nil]); first | done | rfl | (simp only [List.length_drop, List.length_take]; rfl)) ?_; (with_reducible refine (laws_markLin.calls kj108 t230 (fun k_ => some k_ = (.slice Ao73 t231.length co73 : Value).ownBlock) (.slice Ao73 t231.length co73) t231 1 t252 t253 w _ ?side1 ?side2 A159.out).mono ?_); (case side1 => repeat (first | (with_reducible first | exact HB.out | apply below_alloc | apply pw_below_drewN | apply below_drew1 | refine below_set ?_ GE202.out | refine below_set ?_ GE203.out | refine below_set ?_ GE219.out | refine below_set ?_ GE224.out | refine below_set ?_ GE229.out | refine below_set ?_ GE235.out) | exact HB.out)); (case side2 => exact Kd.R_tight rfl HO_236001.out); rintro e w182 ⟨rfl, hy0, hb, hkp⟩; refine ⟨_, rfl, ?_⟩; replace HO_220001 := Aside0.mk (Kd.R_mono (ok' := fun k_ => some k_ ≠ (.slice Ao53 t248.length co53 : Value).ownBlock ∧ some k_ ≠ (.slice Ao63 t250.length co63 : Value).ownBlock ∧ some k_ ≠ (.slice Ao73 t231.length co73 : Value).ownBlock) (Kd.R_keptB (HO_220001.out) hkp (fun k_ hk_ hs_ => (hk_.2.2) hs_)) (fun k_ hk_ => ⟨hk_.1.1, hk_.1.2.1, hk_.1.2.2⟩)); replace HO_225001 := Aside0.mk (Kd.R_mono (ok' := fun k_ => some k_ ≠ (.slice Ao43 t215.length co43 : Value).ownBlock ∧ some k_ ≠ (.slice Ao63 t250.length co63 : Value).ownBlock ∧ some k_ ≠ (.slice Ao73 t231.length co73 : Value).ownBlock) (Kd.R_keptB (HO_225001.out) hkp (fun k_ hk_ hs_ => (hk_.2.2) hs_)) (fun k_ hk_ => ⟨hk_.1.1, hk_.1.2.1, hk_.1.2.2⟩)); replace HO_230001 := Aside0.mk (Kd.R_mono (ok' := fun k_ => some k_ ≠ (.slice Ao43 t215.length co43 : Value).ownBlock ∧ some k_ ≠ (.slice Ao53 t248.length co53 : Value).ownBlock ∧ some k_ ≠ (.slice Ao73 t231.length co73 : Value).ownBlock) (Kd.R_keptB (HO_230001.out) hkp (fun k_ hk_ hs_ => (hk_.2.2) hs_)) (fun k_ hk_ => ⟨hk_.1.1, hk_.1.2.1, hk_.1.2.2⟩)); replace BK202 := Aside0.mk (blk_kept (mb BK202) hkp (fun hs_ => (fun e_ => (Kd.R_ne HO_236001.out BK202.out (by decide)) e_) hs_)); replace BK203 := Aside0.mk (blk_kept (mb BK203) hkp (fun hs_ => (fun e_ => (Kd.R_ne HO_236001.out BK203.out (by decide)) e_) hs_)); replace BK219 := Aside0.mk (blk_kept (mb BK219) hkp (fun hs_ => (fun e_ => (Kd.R_ne HO_236001.out BK219.out (by decide)) e_) hs_)); replace BK224 := Aside0.mk (blk_kept (mb BK224) hkp (fun hs_ => (fun e_ => (Kd.R_ne HO_236001.out BK224.out (by decide)) e_) hs_)); replace BK229 := Aside0.mk (blk_kept (mb BK229) hkp (fun hs_ => (fun e_ => (Kd.R_ne HO_236001.out BK229.out (by decide)) e_) hs_)); replace BK235 := Aside0.mk (blk_kept (mb BK235) hkp (fun hs_ => (fun e_ => (Kd.R_ne HO_236001.out BK235.out (by decide)) e_) hs_)); replace HO_236001 := Aside0.mk (Kd.R_reok rfl hy0 (fun k_ e_ => HO_236001.out.1 k_ e_)); replace HB := Aside0.mk (hb); (try clear hb); (try clear hkp); (try clear hy0); obtain ⟨hcz183_0, hcz183_1⟩ := c2 BK235; have hfz183_0 := blk_frozen BK235.out 0; have hfz183_1 := blk_frozen BK235.out 1) | ((with_reducible refine gate_callee (f := 44) rfl ?_); refine goesL_ (some 92) rfl rfl Try.func44 (by kernel_rfl) rfl #[.agg #[.int .i64 t230, .slice Ao73 t253.length co73], .int .i64 1] rfl (by (try simp only [List.map_toArray, List.map_cons, List.map_nil]); first | done | (rw [show t253.length = t231.length from (Kd.R_reads' HO_236001.out).1.symm] <;> rfl) | rfl | (simp only [List.length_drop, List.length_take]; rfl)) ?_; (with_reducible refine (laws_heldLin.calls kj108 t230 _ _ t253 1 t254 _ ?side1 ?side2 A160.out).mono ?_); (case side1 => exact mc ((Kd.R_reads' HO_236001.out).2.2)); (case side2 => rw [show t253.length = t231.length from (Kd.R_reads' HO_236001.out).1.symm]; exact (Kd.R_reads' HO_236001.out).2.1); rintro e w184 ⟨rfl, hb⟩; refine ⟨_, rfl, ?_⟩; replace HO_220001 := rb HO_220001 hb; replace HO_225001 := rb HO_225001 hb; replace HO_230001 := rb HO_230001 hb; replace HO_236001 := rb HO_236001 hb; replace BK202 := bb BK202 hb; replace BK203 := bb BK203 hb; replace BK219 := bb BK219 hb; replace BK224 := bb BK224 hb; replace BK229 := bb BK229 hb; replace BK235 := bb BK235 hb; replace HB := bs HB hb; (try clear hb)))
             replace HO_220001 := Aside0.mk (Kd.R_drew HO_220001.out)
             replace HO_225001 := Aside0.mk (Kd.R_drew HO_225001.out)
             replace HO_230001 := Aside0.mk (Kd.R_drew HO_230001.out)
             replace HO_236001 := Aside0.mk (Kd.R_drew HO_236001.out)
             replace BK202 := Aside0.mk (blk_drew BK202.out)
             replace BK203 := Aside0.mk (blk_drew BK203.out)
             replace BK219 := Aside0.mk (blk_drew BK219.out)
             replace BK224 := Aside0.mk (blk_drew BK224.out)
             replace BK229 := Aside0.mk (blk_drew BK229.out)
             replace BK235 := Aside0.mk (blk_drew BK235.out)
             replace HB := Aside0.mk (below_drew1 HB.out)
             refine start_ (n := 12) (S := fun w' => w'.cell? ⟨gb202, 0, none⟩ = some (.int .i64 a0_0) ∧ w'.cell? ⟨gb202, 1, none⟩ = some (.slice A0_1 l0_1.length c0_1) ∧ w'.cell? ⟨gb203, 0, none⟩ = some (.int .i64 a2_0) ∧ w'.cell? ⟨gb203, 1, none⟩ = some (.slice A2_1 l2_1.length c2_1)) (ds := []) #[false, false, false, false, false, false, false, false, false, false, false, false] (by kernel_rfl) rfl rfl ⟨(c2 BK202).1, (c2 BK202).2, (c2 BK203).1, (c2 BK203).2⟩ (fun hHeld => ?_); refine with_tabW laws_FnExactAddScaled.tab31 laws_FnExactAddScaled.bits31 (fun HT_ HW_ => ?_)
             generalize w184.drew = w185 at HO_220001 HO_225001 HO_230001 HO_236001 BK202 BK203 BK219 BK224 BK229 BK235 HB hHeld ⊢
             refine pure_ (i := 2) (N := some 101) (v := ?_) (a' := ?_) #[false, false, true, false, false, false, false, false, false, false, false, false] rfl rfl (any_of HT_.out (by kernel_rfl)) (fun _ _ _ h => h) (Or.inl ⟨by rfl, ?_⟩) ?_ ?_
             rotate_left
             ·intro w'
              go_simp
              with_reducible rfl
             rotate_left
             ·simp only [Act.put, List.setIfInBounds_toArray, List.set_cons_zero, List.set_cons_succ, i64_w, i32_w]
              rfl
             refine take_ (i := 0) (N := some 99) (v := ?_) (a' := ?_) #[true, false, true, false, false, false, false, false, false, false, false, false] rfl rfl (take_ofW HT_.out HW_.out (by kernel_rfl)) (fun _ _ _ h => h) (Or.inl ⟨by rfl, ?_⟩) hHeld ?_ ?_
             rotate_left
             ·rintro w' ⟨s0, s1, s2, s3⟩
              go_simp
              with_reducible rfl
             rotate_left
             ·simp only [Act.put, List.setIfInBounds_toArray, List.set_cons_zero, List.set_cons_succ, i64_w, i32_w]
              rfl
             refine take_ (i := 3) (N := some 102) (v := ?_) (a' := ?_) #[true, false, true, true, false, false, false, false, false, false, false, false] rfl rfl (take_ofW HT_.out HW_.out (by kernel_rfl)) (fun _ _ _ h => h) (Or.inl ⟨by rfl, ?_⟩) hHeld ?_ ?_
             rotate_left
             ·rintro w' ⟨s0, s1, s2, s3⟩
              go_simp
              with_reducible rfl
             rotate_left
             ·simp only [Act.put, List.setIfInBounds_toArray, List.set_cons_zero, List.set_cons_succ, i64_w, i32_w]
              rfl
             refine join_ (σ := Value × Value × Value × Nat) 2 #[true, true, true, true, true, true, true, true, true, true, false, false] (fun s_ => [(100, .agg #[.int .i64 t255, s_.1]), (103, .agg #[.int .i64 t259, s_.2.1]), (104, .tuple #[.agg #[.int .i64 t263, s_.2.2.1], .bool t267]), (17, .pointer (some ⟨s_.2.2.2, 0, none⟩)), (98, .tuple #[.agg #[.int .i64 t263, s_.2.2.1], .bool t267]), (105, .agg #[.int .i64 t263, s_.2.2.1]), (106, .bool t267)]) (fun s_ w' => (w'.cell? ⟨gb202, 0, none⟩ = some (.int .i64 a0_0) ∧ w'.cell? ⟨gb202, 1, none⟩ = some (.slice A0_1 l0_1.length c0_1) ∧ w'.cell? ⟨gb203, 0, none⟩ = some (.int .i64 a2_0) ∧ w'.cell? ⟨gb203, 1, none⟩ = some (.slice A2_1 l2_1.length c2_1)) ∧ (Kd.R (Kd.int .i64) 3 w' w.heap.size (fun k_ => some k_ ≠ (s_.2.1 : Value).ownBlock ∧ some k_ ≠ (s_.2.2.1 : Value).ownBlock ∧ some k_ ≠ (.slice Ao43 t215.length co43 : Value).ownBlock ∧ some k_ ≠ (.slice Ao53 t248.length co53 : Value).ownBlock ∧ some k_ ≠ (.slice Ao63 t250.length co63 : Value).ownBlock ∧ some k_ ≠ (.slice Ao73 t231.length co73 : Value).ownBlock) s_.1 t256) ∧ (Kd.R (Kd.int .i64) 3 w' w.heap.size (fun k_ => some k_ ≠ (s_.1 : Value).ownBlock ∧ some k_ ≠ (s_.2.2.1 : Value).ownBlock ∧ some k_ ≠ (.slice Ao43 t215.length co43 : Value).ownBlock ∧ some k_ ≠ (.slice Ao53 t248.length co53 : Value).ownBlock ∧ some k_ ≠ (.slice Ao63 t250.length co63 : Value).ownBlock ∧ some k_ ≠ (.slice Ao73 t231.length co73 : Value).ownBlock) s_.2.1 t260) ∧ (Kd.R (Kd.int .i64) 3 w' w.heap.size (fun k_ => some k_ ≠ (s_.1 : Value).ownBlock ∧ some k_ ≠ (s_.2.1 : Value).ownBlock ∧ some k_ ≠ (.slice Ao43 t215.length co43 : Value).ownBlock ∧ some k_ ≠ (.slice Ao53 t248.length co53 : Value).ownBlock ∧ some k_ ≠ (.slice Ao63 t250.length co63 : Value).ownBlock ∧ some k_ ≠ (.slice Ao73 t231.length co73 : Value).ownBlock) s_.2.2.1 t264) ∧ (Kd.R (Kd.int .i64) 3 w' w.heap.size (fun k_ => some k_ ≠ (s_.1 : Value).ownBlock ∧ some k_ ≠ (s_.2.1 : Value).ownBlock ∧ some k_ ≠ (s_.2.2.1 : Value).ownBlock ∧ some k_ ≠ (.slice Ao53 t248.length co53 : Value).ownBlock ∧ some k_ ≠ (.slice Ao63 t250.length co63 : Value).ownBlock ∧ some k_ ≠ (.slice Ao73 t231.length co73 : Value).ownBlock) (.slice Ao43 t215.length co43) t215) ∧ (Kd.R (Kd.int .i64) 3 w' w.heap.size (fun k_ => some k_ ≠ (s_.1 : Value).ownBlock ∧ some k_ ≠ (s_.2.1 : Value).ownBlock ∧ some k_ ≠ (s_.2.2.1 : Value).ownBlock ∧ some k_ ≠ (.slice Ao43 t215.length co43 : Value).ownBlock ∧ some k_ ≠ (.slice Ao63 t250.length co63 : Value).ownBlock ∧ some k_ ≠ (.slice Ao73 t231.length co73 : Value).ownBlock) (.slice Ao53 t248.length co53) t248) ∧ (Kd.R (Kd.int .i64) 3 w' w.heap.size (fun k_ => some k_ ≠ (s_.1 : Value).ownBlock ∧ some k_ ≠ (s_.2.1 : Value).ownBlock ∧ some k_ ≠ (s_.2.2.1 : Value).ownBlock ∧ some k_ ≠ (.slice Ao43 t215.length co43 : Value).ownBlock ∧ some k_ ≠ (.slice Ao53 t248.length co53 : Value).ownBlock ∧ some k_ ≠ (.slice Ao73 t231.length co73 : Value).ownBlock) (.slice Ao63 t250.length co63) t250) ∧ (Kd.R (Kd.int .i64) 3 w' w.heap.size (fun k_ => some k_ ≠ (s_.1 : Value).ownBlock ∧ some k_ ≠ (s_.2.1 : Value).ownBlock ∧ some k_ ≠ (s_.2.2.1 : Value).ownBlock ∧ some k_ ≠ (.slice Ao43 t215.length co43 : Value).ownBlock ∧ some k_ ≠ (.slice Ao53 t248.length co53 : Value).ownBlock ∧ some k_ ≠ (.slice Ao63 t250.length co63 : Value).ownBlock) (.slice Ao73 t231.length co73) t253) ∧ (w'.heap[gb202]? = some (.cells #[.int .i64 a0_0, .slice A0_1 l0_1.length c0_1] 59 (0, 0))) ∧ (w'.heap[gb203]? = some (.cells #[.int .i64 a2_0, .slice A2_1 l2_1.length c2_1] 59 (0, 0))) ∧ (w'.heap[gb219]? = some (.cells #[.int .i64 t214, .slice Ao43 t215.length co43] 51 (0, 0))) ∧ (w'.heap[gb224]? = some (.cells #[.int .i64 t220, .slice Ao53 t248.length co53] 51 (0, 0))) ∧ (w'.heap[gb229]? = some (.cells #[.int .i64 t225, .slice Ao63 t250.length co63] 51 (0, 0))) ∧ (w'.heap[gb235]? = some (.cells #[.int .i64 t230, .slice Ao73 t231.length co73] 51 (0, 0))) ∧ (w'.heap[s_.2.2.2]? = some (.cells #[.int .i64 0, .slice none 0 0] 51 (0, 0))) ∧ (w.heap.size ≤ s_.2.2.2) ∧ (w.heap.size ≤ s_.2.2.2) ∧ (gb202 ≠ s_.2.2.2) ∧ (s_.2.2.2 ≠ gb202) ∧ (gb203 ≠ s_.2.2.2) ∧ (s_.2.2.2 ≠ gb203) ∧ (gb219 ≠ s_.2.2.2) ∧ (s_.2.2.2 ≠ gb219) ∧ (gb224 ≠ s_.2.2.2) ∧ (s_.2.2.2 ≠ gb224) ∧ (gb229 ≠ s_.2.2.2) ∧ (s_.2.2.2 ≠ gb229) ∧ (gb235 ≠ s_.2.2.2) ∧ (s_.2.2.2 ≠ gb235) ∧ (Below w.heap.size w w')) ?_ ?_
             rotate_left
             ·intro hCont
              refine two_ (i := 1) (j := 9) (Ni := some 100) (Nj := some 17) #[true, true, true, true, false, false, false, false, false, false, false, false] #[true, false, true, true, false, false, false, false, false, true, false, false] rfl rfl rfl rfl (two_of HT_.out (by kernel_rfl)) (by decide) (by decide) (fun K hK => ?_) (fun K hK => ?_)
              ·skip
               refine goes_ Try.func40 (by kernel_rfl) rfl #[.agg #[.int .i64 a0_0, .slice A0_1 l0_1.length c0_1]] (by rfl) rfl rfl (by (try simp only [List.map_toArray, List.map_cons, List.map_nil]); first | done | rfl | (simp only [List.length_drop, List.length_take]; rfl)) ?_
               with_reducible refine (laws_toLin.calls kj108 a0_0 _ _ l0_1 t255 t256 _ ?side1 ?side2 A172.out).mono ?_
               (case side1 => exact mc ((Kd.C_below HR0_1.out HB.out)))
               (case side2 => exact HC0_1.out)
               rintro e w186 ⟨v257, rfl, ho0, hb⟩
               refine ⟨_, rfl, ?_⟩
               have HO258 := Aside0.mk (Kd.R_lower (Kd.R_new' (Kd.R_new' (Kd.R_new' (Kd.R_new' ho0 (Kd.R_lt (mr HO_220001))) (Kd.R_lt (mr HO_225001))) (Kd.R_lt (mr HO_230001))) (Kd.R_lt (mr HO_236001))) (below_size (ms HB)))
               replace HO_220001 := rl HO_220001 ho0 hb
               replace HO_225001 := rl HO_225001 ho0 hb
               replace HO_230001 := rl HO_230001 ho0 hb
               replace HO_236001 := rl HO_236001 ho0 hb
               replace BK202 := bb BK202 hb
               replace BK203 := bb BK203 hb
               replace BK219 := bb BK219 hb
               replace BK224 := bb BK224 hb
               replace BK229 := bb BK229 hb
               replace BK235 := bb BK235 hb
               replace HB := bs HB hb
               (try clear hb)
               (try clear hb2)
               (try clear hk)
               (try clear hi)
               (try clear ho0)
               refine hK.out _ _ ⟨(c2 BK202).1, (c2 BK202).2, (c2 BK203).1, (c2 BK203).2⟩ (fun hHeld => ?_)
               clear hK K
               refine norm_ (a' := ?_) ?_ ?_
               rotate_left
               ·show Act.put _ (some 100) _ = _
                simp only [Act.put, List.setIfInBounds_toArray, List.set_cons_zero, List.set_cons_succ, i64_w, i32_w]
                rfl
               refine two_ (i := 4) (j := 9) (Ni := some 103) (Nj := some 17) #[true, true, true, true, true, false, false, false, false, false, false, false] #[true, true, true, true, false, false, false, false, false, true, false, false] rfl rfl rfl rfl (two_of HT_.out (by kernel_rfl)) (by decide) (by decide) (fun K hK => ?_) (fun K hK => ?_)
               ·skip
                refine goes_ Try.func40 (by kernel_rfl) rfl #[.agg #[.int .i64 a2_0, .slice A2_1 l2_1.length c2_1]] (by rfl) rfl rfl (by (try simp only [List.map_toArray, List.map_cons, List.map_nil]); first | done | rfl | (simp only [List.length_drop, List.length_take]; rfl)) ?_
                with_reducible refine (laws_toLin.calls kj108 a2_0 _ _ l2_1 t259 t260 _ ?side1 ?side2 A173.out).mono ?_
                (case side1 => exact mc ((Kd.C_below HR2_1.out HB.out)))
                (case side2 => exact HC2_1.out)
                rintro e w187 ⟨v261, rfl, ho0, hb⟩
                refine ⟨_, rfl, ?_⟩
                have HO262 := Aside0.mk (Kd.R_lower (Kd.R_new' (Kd.R_new' (Kd.R_new' (Kd.R_new' (Kd.R_new' ho0 (Kd.R_lt (mr HO_220001))) (Kd.R_lt (mr HO_225001))) (Kd.R_lt (mr HO_230001))) (Kd.R_lt (mr HO_236001))) (Kd.R_lt (mr HO258))) (below_size (ms HB)))
                replace HO_220001 := rl HO_220001 ho0 hb
                replace HO_225001 := rl HO_225001 ho0 hb
                replace HO_230001 := rl HO_230001 ho0 hb
                replace HO_236001 := rl HO_236001 ho0 hb
                replace HO258 := rl HO258 ho0 hb
                replace BK202 := bb BK202 hb
                replace BK203 := bb BK203 hb
                replace BK219 := bb BK219 hb
                replace BK224 := bb BK224 hb
                replace BK229 := bb BK229 hb
                replace BK235 := bb BK235 hb
                replace HB := bs HB hb
                (try clear hb)
                (try clear hb2)
                (try clear hk)
                (try clear hi)
                (try clear ho0)
                obtain ⟨Ao188, co188, eo188⟩ := Kd.R_slice HO258.out
                (first | subst eo188 | (injection eo188 with f1_ f2_ f3_; have f4_ := f1_.symm; have f5_ := f3_.symm; clear f1_ f2_ f3_; subst f4_; subst f5_))
                obtain ⟨Ao189, co189, eo189⟩ := Kd.R_slice HO262.out
                (first | subst eo189 | (injection eo189 with f1_ f2_ f3_; have f4_ := f1_.symm; have f5_ := f3_.symm; clear f1_ f2_ f3_; subst f4_; subst f5_))
                refine hK.out _ _ ⟨(c2 BK202).1, (c2 BK202).2, (c2 BK203).1, (c2 BK203).2⟩ (fun hHeld => ?_)
                clear hK K
                refine norm_ (a' := ?_) ?_ ?_
                rotate_left
                ·show Act.put _ (some 103) _ = _
                 simp only [Act.put, List.setIfInBounds_toArray, List.set_cons_zero, List.set_cons_succ, i64_w, i32_w]
                 rfl
                refine two_ (i := 5) (j := 9) (Ni := some 104) (Nj := some 17) #[true, true, true, true, true, true, false, false, false, false, false, false] #[true, true, true, true, true, false, false, false, false, true, false, false] rfl rfl rfl rfl (two_of HT_.out (by kernel_rfl)) (by decide) (by decide) (fun K hK => ?_) (fun K hK => ?_)
                ·skip
                 refine goes_ Try.func41 (by kernel_rfl) rfl #[.agg #[.int .i64 t255, .slice Ao188 t256.length co188], .int .i64 a1, .agg #[.int .i64 t259, .slice Ao189 t260.length co189]] (by rfl) rfl rfl (by (try simp only [List.map_toArray, List.map_cons, List.map_nil]); first | done | rfl | (simp only [List.length_drop, List.length_take]; rfl)) ?_
                 with_reducible refine (impl_AddScaled.calls kj108 t255 _ _ t256 a1 t259 _ _ t260 t263 t264 t267 _ ?side1 ?side2 ?side3 ?side4 A174.out).mono ?_
                 (case side1 => exact mc ((Kd.R_reads' HO258.out).2.2))
                 (case side2 => exact (Kd.R_reads' HO258.out).2.1)
                 (case side3 => exact mc ((Kd.R_reads' HO262.out).2.2))
                 (case side4 => exact (Kd.R_reads' HO262.out).2.1)
                 rintro e w190 ⟨v265, rfl, ho0, hb⟩
                 refine ⟨_, rfl, ?_⟩
                 have HO266 := Aside0.mk (Kd.R_lower (Kd.R_new' (Kd.R_new' (Kd.R_new' (Kd.R_new' (Kd.R_new' (Kd.R_new' ho0 (Kd.R_lt (mr HO_220001))) (Kd.R_lt (mr HO_225001))) (Kd.R_lt (mr HO_230001))) (Kd.R_lt (mr HO_236001))) (Kd.R_lt (mr HO258))) (Kd.R_lt (mr HO262))) (below_size (ms HB)))
                 replace HO_220001 := rl HO_220001 ho0 hb
                 replace HO_225001 := rl HO_225001 ho0 hb
                 replace HO_230001 := rl HO_230001 ho0 hb
                 replace HO_236001 := rl HO_236001 ho0 hb
                 replace HO258 := rl HO258 ho0 hb
                 replace HO262 := rl HO262 ho0 hb
                 replace BK202 := bb BK202 hb
                 replace BK203 := bb BK203 hb
                 replace BK219 := bb BK219 hb
                 replace BK224 := bb BK224 hb
                 replace BK229 := bb BK229 hb
                 replace BK235 := bb BK235 hb
                 replace HB := bs HB hb
                 (try clear hb)
                 (try clear hb2)
                 (try clear hk)
                 (try clear hi)
                 (try clear ho0)
                 refine hK.out _ _ ⟨(c2 BK202).1, (c2 BK202).2, (c2 BK203).1, (c2 BK203).2⟩ (fun hHeld => ?_)
                 clear hK K
                 refine norm_ (a' := ?_) ?_ ?_
                 rotate_left
                 ·show Act.put _ (some 104) _ = _
                  simp only [Act.put, List.setIfInBounds_toArray, List.set_cons_zero, List.set_cons_succ, i64_w, i32_w]
                  rfl
                 refine pure_ (i := 6) (N := some 98) (v := ?_) (a' := ?_) #[true, true, true, true, true, true, true, false, false, false, false, false] rfl rfl (any_of HT_.out (by kernel_rfl)) (fun _ _ _ h => h) (Or.inl ⟨by rfl, ?_⟩) ?_ ?_
                 rotate_left
                 ·intro w'
                  go_simp
                  with_reducible rfl
                 rotate_left
                 ·simp only [Act.put, List.setIfInBounds_toArray, List.set_cons_zero, List.set_cons_succ, i64_w, i32_w]
                  rfl
                 refine pure_ (i := 7) (N := some 105) (v := ?_) (a' := ?_) #[true, true, true, true, true, true, true, true, false, false, false, false] rfl rfl (any_of HT_.out (by kernel_rfl)) (fun _ _ _ h => h) (Or.inl ⟨by rfl, ?_⟩) ?_ ?_
                 rotate_left
                 ·intro w'
                  go_simp
                  with_reducible rfl
                 rotate_left
                 ·simp only [Act.put, List.setIfInBounds_toArray, List.set_cons_zero, List.set_cons_succ, i64_w, i32_w]
                  rfl
                 refine pure_ (i := 8) (N := some 106) (v := ?_) (a' := ?_) #[true, true, true, true, true, true, true, true, true, false, false, false] rfl rfl (any_of HT_.out (by kernel_rfl)) (fun _ _ _ h => h) (Or.inl ⟨by rfl, ?_⟩) ?_ ?_
                 rotate_left
                 ·intro w'
                  go_simp
                  with_reducible rfl
                 rotate_left
                 ·simp only [Act.put, List.setIfInBounds_toArray, List.set_cons_zero, List.set_cons_succ, i64_w, i32_w]
                  rfl
                 refine one_ (i := 9) (N := some 17) #[true, true, true, true, true, true, true, true, true, true, false, false] rfl rfl (one_of HT_.out (by kernel_rfl)) (by decide) (fun K hK => ?_)
                 refine box_step ?hg (N := 17) ?hd (cs := #[.int .i64 0, .slice none 0 0]) (t := 51) ?hr ?_; (case hd => rfl); (case hg => rfl); (case hr => first | (go_simp; done) | (go_simp; rfl))
                 intro gb268 hg w191 hbox hb
                 replace HO_220001 := rb HO_220001 hb
                 replace HO_225001 := rb HO_225001 hb
                 replace HO_230001 := rb HO_230001 hb
                 replace HO_236001 := rb HO_236001 hb
                 replace HO258 := rb HO258 hb
                 replace HO262 := rb HO262 hb
                 replace HO266 := rb HO266 hb
                 have BK268 := Aside0.mk (hbox)
                 have GW268 := gw hg HB
                 have GE268 := gw hg HB
                 replace HB := bs HB hb
                 have NB202_268 := nl hg BK202
                 have NB268_202 := ng hg BK202
                 replace BK202 := bb BK202 hb
                 have NB203_268 := nl hg BK203
                 have NB268_203 := ng hg BK203
                 replace BK203 := bb BK203 hb
                 have NB219_268 := nl hg BK219
                 have NB268_219 := ng hg BK219
                 replace BK219 := bb BK219 hb
                 have NB224_268 := nl hg BK224
                 have NB268_224 := ng hg BK224
                 replace BK224 := bb BK224 hb
                 have NB229_268 := nl hg BK229
                 have NB268_229 := ng hg BK229
                 replace BK229 := bb BK229 hb
                 have NB235_268 := nl hg BK235
                 have NB268_235 := ng hg BK235
                 replace BK235 := bb BK235 hb
                 clear hb hbox hg
                 refine hK.out _ _ ⟨(c2 BK202).1, (c2 BK202).2, (c2 BK203).1, (c2 BK203).2⟩ (fun hHeld => ?_)
                 clear hK K
                 refine norm_ (a' := ?_) ?_ ?_
                 rotate_left
                 ·show Act.put _ (some 17) _ = _
                  simp only [Act.put, List.setIfInBounds_toArray, List.set_cons_zero, List.set_cons_succ, i64_w, i32_w]
                  rfl
                 exact norm_ (by simp only [putAll, Act.put, List.setIfInBounds_toArray, List.set_cons_zero, List.set_cons_succ]) (hCont (.slice Ao188 t256.length co188, .slice Ao189 t260.length co189, v265, gb268) _ ⟨hHeld, (by (with_reducible repeat (first | apply Kd.R_alloc | apply Kd.R_drewN | apply Kd.R_drew)); exact Kd.R_mono HO258.out (fun _ hk => ⟨hk.1.2, ⟨hk.2, ⟨hk.1.1.1.1.1.2, ⟨hk.1.1.1.1.2, ⟨hk.1.1.1.2, hk.1.1.2⟩⟩⟩⟩⟩)), (by (with_reducible repeat (first | apply Kd.R_alloc | apply Kd.R_drewN | apply Kd.R_drew)); exact Kd.R_mono HO262.out (fun _ hk => ⟨hk.1.2, ⟨hk.2, ⟨hk.1.1.1.1.1.2, ⟨hk.1.1.1.1.2, ⟨hk.1.1.1.2, hk.1.1.2⟩⟩⟩⟩⟩)), (by (with_reducible repeat (first | apply Kd.R_alloc | apply Kd.R_drewN | apply Kd.R_drew)); exact Kd.R_mono HO266.out (fun _ hk => ⟨hk.1.2, ⟨hk.2, ⟨hk.1.1.1.1.1.2, ⟨hk.1.1.1.1.2, ⟨hk.1.1.1.2, hk.1.1.2⟩⟩⟩⟩⟩)), (by (with_reducible repeat (first | apply Kd.R_alloc | apply Kd.R_drewN | apply Kd.R_drew)); exact Kd.R_mono HO_220001.out (fun _ hk => ⟨hk.1.1.2, ⟨hk.1.2, ⟨hk.2, ⟨hk.1.1.1.1, ⟨hk.1.1.1.2.1, hk.1.1.1.2.2⟩⟩⟩⟩⟩)), (by (with_reducible repeat (first | apply Kd.R_alloc | apply Kd.R_drewN | apply Kd.R_drew)); exact Kd.R_mono HO_225001.out (fun _ hk => ⟨hk.1.1.2, ⟨hk.1.2, ⟨hk.2, ⟨hk.1.1.1.1, ⟨hk.1.1.1.2.1, hk.1.1.1.2.2⟩⟩⟩⟩⟩)), (by (with_reducible repeat (first | apply Kd.R_alloc | apply Kd.R_drewN | apply Kd.R_drew)); exact Kd.R_mono HO_230001.out (fun _ hk => ⟨hk.1.1.2, ⟨hk.1.2, ⟨hk.2, ⟨hk.1.1.1.1, ⟨hk.1.1.1.2.1, hk.1.1.1.2.2⟩⟩⟩⟩⟩)), (by (with_reducible repeat (first | apply Kd.R_alloc | apply Kd.R_drewN | apply Kd.R_drew)); exact Kd.R_mono HO_236001.out (fun _ hk => ⟨hk.1.1.2, ⟨hk.1.2, ⟨hk.2, ⟨hk.1.1.1.1, ⟨hk.1.1.1.2.1, hk.1.1.1.2.2⟩⟩⟩⟩⟩)), (mb BK202), (mb BK203), (mb BK219), (mb BK224), (mb BK229), (mb BK235), (mb BK268), GW268.out, GE268.out, NB202_268.out, NB268_202.out, NB203_268.out, NB268_203.out, NB219_268.out, NB268_219.out, NB224_268.out, NB268_224.out, NB229_268.out, NB268_229.out, NB235_268.out, NB268_235.out, (ms HB)⟩)
                ·skip
                 refine box_step ?hg (N := 17) ?hd (cs := #[.int .i64 0, .slice none 0 0]) (t := 51) ?hr ?_; (case hd => rfl); (case hg => rfl); (case hr => first | (go_simp; done) | (go_simp; rfl))
                 intro gb268 hg w188 hbox hb
                 replace HO_220001 := rb HO_220001 hb
                 replace HO_225001 := rb HO_225001 hb
                 replace HO_230001 := rb HO_230001 hb
                 replace HO_236001 := rb HO_236001 hb
                 replace HO258 := rb HO258 hb
                 replace HO262 := rb HO262 hb
                 have BK268 := Aside0.mk (hbox)
                 have GW268 := gw hg HB
                 have GE268 := gw hg HB
                 replace HB := bs HB hb
                 have NB202_268 := nl hg BK202
                 have NB268_202 := ng hg BK202
                 replace BK202 := bb BK202 hb
                 have NB203_268 := nl hg BK203
                 have NB268_203 := ng hg BK203
                 replace BK203 := bb BK203 hb
                 have NB219_268 := nl hg BK219
                 have NB268_219 := ng hg BK219
                 replace BK219 := bb BK219 hb
                 have NB224_268 := nl hg BK224
                 have NB268_224 := ng hg BK224
                 replace BK224 := bb BK224 hb
                 have NB229_268 := nl hg BK229
                 have NB268_229 := ng hg BK229
                 replace BK229 := bb BK229 hb
                 have NB235_268 := nl hg BK235
                 have NB268_235 := ng hg BK235
                 replace BK235 := bb BK235 hb
                 clear hb hbox hg
                 obtain ⟨Ao189, co189, eo189⟩ := Kd.R_slice HO258.out
                 (first | subst eo189 | (injection eo189 with f1_ f2_ f3_; have f4_ := f1_.symm; have f5_ := f3_.symm; clear f1_ f2_ f3_; subst f4_; subst f5_))
                 obtain ⟨Ao190, co190, eo190⟩ := Kd.R_slice HO262.out
                 (first | subst eo190 | (injection eo190 with f1_ f2_ f3_; have f4_ := f1_.symm; have f5_ := f3_.symm; clear f1_ f2_ f3_; subst f4_; subst f5_))
                 refine hK.out _ _ ⟨(c2 BK202).1, (c2 BK202).2, (c2 BK203).1, (c2 BK203).2⟩ (fun hHeld => ?_)
                 clear hK K
                 refine norm_ (a' := ?_) ?_ ?_
                 rotate_left
                 ·show Act.put _ (some 17) _ = _
                  simp only [Act.put, List.setIfInBounds_toArray, List.set_cons_zero, List.set_cons_succ, i64_w, i32_w]
                  rfl
                 refine one_ (i := 5) (N := some 104) #[true, true, true, true, true, true, false, false, false, true, false, false] rfl rfl (one_of HT_.out (by kernel_rfl)) (by decide) (fun K hK => ?_)
                 refine goes_ Try.func41 (by kernel_rfl) rfl #[.agg #[.int .i64 t255, .slice Ao189 t256.length co189], .int .i64 a1, .agg #[.int .i64 t259, .slice Ao190 t260.length co190]] (by rfl) rfl rfl (by (try simp only [List.map_toArray, List.map_cons, List.map_nil]); first | done | rfl | (simp only [List.length_drop, List.length_take]; rfl)) ?_
                 with_reducible refine (impl_AddScaled.calls kj108 t255 _ _ t256 a1 t259 _ _ t260 t263 t264 t267 _ ?side1 ?side2 ?side3 ?side4 A174.out).mono ?_
                 (case side1 => exact mc ((Kd.R_reads' HO258.out).2.2))
                 (case side2 => exact (Kd.R_reads' HO258.out).2.1)
                 (case side3 => exact mc ((Kd.R_reads' HO262.out).2.2))
                 (case side4 => exact (Kd.R_reads' HO262.out).2.1)
                 rintro e w191 ⟨v265, rfl, ho0, hb⟩
                 refine ⟨_, rfl, ?_⟩
                 have HO266 := Aside0.mk (Kd.R_lower (Kd.R_new' (Kd.R_new' (Kd.R_new' (Kd.R_new' (Kd.R_new' (Kd.R_new' ho0 (Kd.R_lt (mr HO_220001))) (Kd.R_lt (mr HO_225001))) (Kd.R_lt (mr HO_230001))) (Kd.R_lt (mr HO_236001))) (Kd.R_lt (mr HO258))) (Kd.R_lt (mr HO262))) (below_size (ms HB)))
                 replace HO_220001 := rl HO_220001 ho0 hb
                 replace HO_225001 := rl HO_225001 ho0 hb
                 replace HO_230001 := rl HO_230001 ho0 hb
                 replace HO_236001 := rl HO_236001 ho0 hb
                 replace HO258 := rl HO258 ho0 hb
                 replace HO262 := rl HO262 ho0 hb
                 replace BK202 := bb BK202 hb
                 replace BK203 := bb BK203 hb
                 replace BK219 := bb BK219 hb
                 replace BK224 := bb BK224 hb
                 replace BK229 := bb BK229 hb
                 replace BK235 := bb BK235 hb
                 replace BK268 := bb BK268 hb
                 replace HB := bs HB hb
                 (try clear hb)
                 (try clear hb2)
                 (try clear hk)
                 (try clear hi)
                 (try clear ho0)
                 refine hK.out _ _ ⟨(c2 BK202).1, (c2 BK202).2, (c2 BK203).1, (c2 BK203).2⟩ (fun hHeld => ?_)
                 clear hK K
                 refine norm_ (a' := ?_) ?_ ?_
                 rotate_left
                 ·show Act.put _ (some 104) _ = _
                  simp only [Act.put, List.setIfInBounds_toArray, List.set_cons_zero, List.set_cons_succ, i64_w, i32_w]
                  rfl
                 refine pure_ (i := 6) (N := some 98) (v := ?_) (a' := ?_) #[true, true, true, true, true, true, true, false, false, true, false, false] rfl rfl (any_of HT_.out (by kernel_rfl)) (fun _ _ _ h => h) (Or.inl ⟨by rfl, ?_⟩) ?_ ?_
                 rotate_left
                 ·intro w'
                  go_simp
                  with_reducible rfl
                 rotate_left
                 ·simp only [Act.put, List.setIfInBounds_toArray, List.set_cons_zero, List.set_cons_succ, i64_w, i32_w]
                  rfl
                 refine pure_ (i := 7) (N := some 105) (v := ?_) (a' := ?_) #[true, true, true, true, true, true, true, true, false, true, false, false] rfl rfl (any_of HT_.out (by kernel_rfl)) (fun _ _ _ h => h) (Or.inl ⟨by rfl, ?_⟩) ?_ ?_
                 rotate_left
                 ·intro w'
                  go_simp
                  with_reducible rfl
                 rotate_left
                 ·simp only [Act.put, List.setIfInBounds_toArray, List.set_cons_zero, List.set_cons_succ, i64_w, i32_w]
                  rfl
                 refine pure_ (i := 8) (N := some 106) (v := ?_) (a' := ?_) #[true, true, true, true, true, true, true, true, true, true, false, false] rfl rfl (any_of HT_.out (by kernel_rfl)) (fun _ _ _ h => h) (Or.inl ⟨by rfl, ?_⟩) ?_ ?_
                 rotate_left
                 ·intro w'
                  go_simp
                  with_reducible rfl
                 rotate_left
                 ·simp only [Act.put, List.setIfInBounds_toArray, List.set_cons_zero, List.set_cons_succ, i64_w, i32_w]
                  rfl
                 exact norm_ (by simp only [putAll, Act.put, List.setIfInBounds_toArray, List.set_cons_zero, List.set_cons_succ]) (hCont (.slice Ao189 t256.length co189, .slice Ao190 t260.length co190, v265, gb268) _ ⟨hHeld, (by (with_reducible repeat (first | apply Kd.R_alloc | apply Kd.R_drewN | apply Kd.R_drew)); exact Kd.R_mono HO258.out (fun _ hk => ⟨hk.1.2, ⟨hk.2, ⟨hk.1.1.1.1.1.2, ⟨hk.1.1.1.1.2, ⟨hk.1.1.1.2, hk.1.1.2⟩⟩⟩⟩⟩)), (by (with_reducible repeat (first | apply Kd.R_alloc | apply Kd.R_drewN | apply Kd.R_drew)); exact Kd.R_mono HO262.out (fun _ hk => ⟨hk.1.2, ⟨hk.2, ⟨hk.1.1.1.1.1.2, ⟨hk.1.1.1.1.2, ⟨hk.1.1.1.2, hk.1.1.2⟩⟩⟩⟩⟩)), (by (with_reducible repeat (first | apply Kd.R_alloc | apply Kd.R_drewN | apply Kd.R_drew)); exact Kd.R_mono HO266.out (fun _ hk => ⟨hk.1.2, ⟨hk.2, ⟨hk.1.1.1.1.1.2, ⟨hk.1.1.1.1.2, ⟨hk.1.1.1.2, hk.1.1.2⟩⟩⟩⟩⟩)), (by (with_reducible repeat (first | apply Kd.R_alloc | apply Kd.R_drewN | apply Kd.R_drew)); exact Kd.R_mono HO_220001.out (fun _ hk => ⟨hk.1.1.2, ⟨hk.1.2, ⟨hk.2, ⟨hk.1.1.1.1, ⟨hk.1.1.1.2.1, hk.1.1.1.2.2⟩⟩⟩⟩⟩)), (by (with_reducible repeat (first | apply Kd.R_alloc | apply Kd.R_drewN | apply Kd.R_drew)); exact Kd.R_mono HO_225001.out (fun _ hk => ⟨hk.1.1.2, ⟨hk.1.2, ⟨hk.2, ⟨hk.1.1.1.1, ⟨hk.1.1.1.2.1, hk.1.1.1.2.2⟩⟩⟩⟩⟩)), (by (with_reducible repeat (first | apply Kd.R_alloc | apply Kd.R_drewN | apply Kd.R_drew)); exact Kd.R_mono HO_230001.out (fun _ hk => ⟨hk.1.1.2, ⟨hk.1.2, ⟨hk.2, ⟨hk.1.1.1.1, ⟨hk.1.1.1.2.1, hk.1.1.1.2.2⟩⟩⟩⟩⟩)), (by (with_reducible repeat (first | apply Kd.R_alloc | apply Kd.R_drewN | apply Kd.R_drew)); exact Kd.R_mono HO_236001.out (fun _ hk => ⟨hk.1.1.2, ⟨hk.1.2, ⟨hk.2, ⟨hk.1.1.1.1, ⟨hk.1.1.1.2.1, hk.1.1.1.2.2⟩⟩⟩⟩⟩)), (mb BK202), (mb BK203), (mb BK219), (mb BK224), (mb BK229), (mb BK235), (mb BK268), GW268.out, GE268.out, NB202_268.out, NB268_202.out, NB203_268.out, NB268_203.out, NB219_268.out, NB268_219.out, NB224_268.out, NB268_224.out, NB229_268.out, NB268_229.out, NB235_268.out, NB268_235.out, (ms HB)⟩)
               ·skip
                refine box_step ?hg (N := 17) ?hd (cs := #[.int .i64 0, .slice none 0 0]) (t := 51) ?hr ?_; (case hd => rfl); (case hg => rfl); (case hr => first | (go_simp; done) | (go_simp; rfl))
                intro gb268 hg w187 hbox hb
                replace HO_220001 := rb HO_220001 hb
                replace HO_225001 := rb HO_225001 hb
                replace HO_230001 := rb HO_230001 hb
                replace HO_236001 := rb HO_236001 hb
                replace HO258 := rb HO258 hb
                have BK268 := Aside0.mk (hbox)
                have GW268 := gw hg HB
                have GE268 := gw hg HB
                replace HB := bs HB hb
                have NB202_268 := nl hg BK202
                have NB268_202 := ng hg BK202
                replace BK202 := bb BK202 hb
                have NB203_268 := nl hg BK203
                have NB268_203 := ng hg BK203
                replace BK203 := bb BK203 hb
                have NB219_268 := nl hg BK219
                have NB268_219 := ng hg BK219
                replace BK219 := bb BK219 hb
                have NB224_268 := nl hg BK224
                have NB268_224 := ng hg BK224
                replace BK224 := bb BK224 hb
                have NB229_268 := nl hg BK229
                have NB268_229 := ng hg BK229
                replace BK229 := bb BK229 hb
                have NB235_268 := nl hg BK235
                have NB268_235 := ng hg BK235
                replace BK235 := bb BK235 hb
                clear hb hbox hg
                refine hK.out _ _ ⟨(c2 BK202).1, (c2 BK202).2, (c2 BK203).1, (c2 BK203).2⟩ (fun hHeld => ?_)
                clear hK K
                refine norm_ (a' := ?_) ?_ ?_
                rotate_left
                ·show Act.put _ (some 17) _ = _
                 simp only [Act.put, List.setIfInBounds_toArray, List.set_cons_zero, List.set_cons_succ, i64_w, i32_w]
                 rfl
                refine one_ (i := 4) (N := some 103) #[true, true, true, true, true, false, false, false, false, true, false, false] rfl rfl (one_of HT_.out (by kernel_rfl)) (by decide) (fun K hK => ?_)
                refine goes_ Try.func40 (by kernel_rfl) rfl #[.agg #[.int .i64 a2_0, .slice A2_1 l2_1.length c2_1]] (by rfl) rfl rfl (by (try simp only [List.map_toArray, List.map_cons, List.map_nil]); first | done | rfl | (simp only [List.length_drop, List.length_take]; rfl)) ?_
                with_reducible refine (laws_toLin.calls kj108 a2_0 _ _ l2_1 t259 t260 _ ?side1 ?side2 A173.out).mono ?_
                (case side1 => exact mc ((Kd.C_below HR2_1.out HB.out)))
                (case side2 => exact HC2_1.out)
                rintro e w188 ⟨v261, rfl, ho0, hb⟩
                refine ⟨_, rfl, ?_⟩
                have HO262 := Aside0.mk (Kd.R_lower (Kd.R_new' (Kd.R_new' (Kd.R_new' (Kd.R_new' (Kd.R_new' ho0 (Kd.R_lt (mr HO_220001))) (Kd.R_lt (mr HO_225001))) (Kd.R_lt (mr HO_230001))) (Kd.R_lt (mr HO_236001))) (Kd.R_lt (mr HO258))) (below_size (ms HB)))
                replace HO_220001 := rl HO_220001 ho0 hb
                replace HO_225001 := rl HO_225001 ho0 hb
                replace HO_230001 := rl HO_230001 ho0 hb
                replace HO_236001 := rl HO_236001 ho0 hb
                replace HO258 := rl HO258 ho0 hb
                replace BK202 := bb BK202 hb
                replace BK203 := bb BK203 hb
                replace BK219 := bb BK219 hb
                replace BK224 := bb BK224 hb
                replace BK229 := bb BK229 hb
                replace BK235 := bb BK235 hb
                replace BK268 := bb BK268 hb
                replace HB := bs HB hb
                (try clear hb)
                (try clear hb2)
                (try clear hk)
                (try clear hi)
                (try clear ho0)
                obtain ⟨Ao189, co189, eo189⟩ := Kd.R_slice HO258.out
                (first | subst eo189 | (injection eo189 with f1_ f2_ f3_; have f4_ := f1_.symm; have f5_ := f3_.symm; clear f1_ f2_ f3_; subst f4_; subst f5_))
                obtain ⟨Ao190, co190, eo190⟩ := Kd.R_slice HO262.out
                (first | subst eo190 | (injection eo190 with f1_ f2_ f3_; have f4_ := f1_.symm; have f5_ := f3_.symm; clear f1_ f2_ f3_; subst f4_; subst f5_))
                refine hK.out _ _ ⟨(c2 BK202).1, (c2 BK202).2, (c2 BK203).1, (c2 BK203).2⟩ (fun hHeld => ?_)
                clear hK K
                refine norm_ (a' := ?_) ?_ ?_
                rotate_left
                ·show Act.put _ (some 103) _ = _
                 simp only [Act.put, List.setIfInBounds_toArray, List.set_cons_zero, List.set_cons_succ, i64_w, i32_w]
                 rfl
                refine one_ (i := 5) (N := some 104) #[true, true, true, true, true, true, false, false, false, true, false, false] rfl rfl (one_of HT_.out (by kernel_rfl)) (by decide) (fun K hK => ?_)
                refine goes_ Try.func41 (by kernel_rfl) rfl #[.agg #[.int .i64 t255, .slice Ao189 t256.length co189], .int .i64 a1, .agg #[.int .i64 t259, .slice Ao190 t260.length co190]] (by rfl) rfl rfl (by (try simp only [List.map_toArray, List.map_cons, List.map_nil]); first | done | rfl | (simp only [List.length_drop, List.length_take]; rfl)) ?_
                with_reducible refine (impl_AddScaled.calls kj108 t255 _ _ t256 a1 t259 _ _ t260 t263 t264 t267 _ ?side1 ?side2 ?side3 ?side4 A174.out).mono ?_
                (case side1 => exact mc ((Kd.R_reads' HO258.out).2.2))
                (case side2 => exact (Kd.R_reads' HO258.out).2.1)
                (case side3 => exact mc ((Kd.R_reads' HO262.out).2.2))
                (case side4 => exact (Kd.R_reads' HO262.out).2.1)
                rintro e w191 ⟨v265, rfl, ho0, hb⟩
                refine ⟨_, rfl, ?_⟩
                have HO266 := Aside0.mk (Kd.R_lower (Kd.R_new' (Kd.R_new' (Kd.R_new' (Kd.R_new' (Kd.R_new' (Kd.R_new' ho0 (Kd.R_lt (mr HO_220001))) (Kd.R_lt (mr HO_225001))) (Kd.R_lt (mr HO_230001))) (Kd.R_lt (mr HO_236001))) (Kd.R_lt (mr HO258))) (Kd.R_lt (mr HO262))) (below_size (ms HB)))
                replace HO_220001 := rl HO_220001 ho0 hb
                replace HO_225001 := rl HO_225001 ho0 hb
                replace HO_230001 := rl HO_230001 ho0 hb
                replace HO_236001 := rl HO_236001 ho0 hb
                replace HO258 := rl HO258 ho0 hb
                replace HO262 := rl HO262 ho0 hb
                replace BK202 := bb BK202 hb
                replace BK203 := bb BK203 hb
                replace BK219 := bb BK219 hb
                replace BK224 := bb BK224 hb
                replace BK229 := bb BK229 hb
                replace BK235 := bb BK235 hb
                replace BK268 := bb BK268 hb
                replace HB := bs HB hb
                (try clear hb)
                (try clear hb2)
                (try clear hk)
                (try clear hi)
                (try clear ho0)
                refine hK.out _ _ ⟨(c2 BK202).1, (c2 BK202).2, (c2 BK203).1, (c2 BK203).2⟩ (fun hHeld => ?_)
                clear hK K
                refine norm_ (a' := ?_) ?_ ?_
                rotate_left
                ·show Act.put _ (some 104) _ = _
                 simp only [Act.put, List.setIfInBounds_toArray, List.set_cons_zero, List.set_cons_succ, i64_w, i32_w]
                 rfl
                refine pure_ (i := 6) (N := some 98) (v := ?_) (a' := ?_) #[true, true, true, true, true, true, true, false, false, true, false, false] rfl rfl (any_of HT_.out (by kernel_rfl)) (fun _ _ _ h => h) (Or.inl ⟨by rfl, ?_⟩) ?_ ?_
                rotate_left
                ·intro w'
                 go_simp
                 with_reducible rfl
                rotate_left
                ·simp only [Act.put, List.setIfInBounds_toArray, List.set_cons_zero, List.set_cons_succ, i64_w, i32_w]
                 rfl
                refine pure_ (i := 7) (N := some 105) (v := ?_) (a' := ?_) #[true, true, true, true, true, true, true, true, false, true, false, false] rfl rfl (any_of HT_.out (by kernel_rfl)) (fun _ _ _ h => h) (Or.inl ⟨by rfl, ?_⟩) ?_ ?_
                rotate_left
                ·intro w'
                 go_simp
                 with_reducible rfl
                rotate_left
                ·simp only [Act.put, List.setIfInBounds_toArray, List.set_cons_zero, List.set_cons_succ, i64_w, i32_w]
                 rfl
                refine pure_ (i := 8) (N := some 106) (v := ?_) (a' := ?_) #[true, true, true, true, true, true, true, true, true, true, false, false] rfl rfl (any_of HT_.out (by kernel_rfl)) (fun _ _ _ h => h) (Or.inl ⟨by rfl, ?_⟩) ?_ ?_
                rotate_left
                ·intro w'
                 go_simp
                 with_reducible rfl
                rotate_left
                ·simp only [Act.put, List.setIfInBounds_toArray, List.set_cons_zero, List.set_cons_succ, i64_w, i32_w]
                 rfl
                exact norm_ (by simp only [putAll, Act.put, List.setIfInBounds_toArray, List.set_cons_zero, List.set_cons_succ]) (hCont (.slice Ao189 t256.length co189, .slice Ao190 t260.length co190, v265, gb268) _ ⟨hHeld, (by (with_reducible repeat (first | apply Kd.R_alloc | apply Kd.R_drewN | apply Kd.R_drew)); exact Kd.R_mono HO258.out (fun _ hk => ⟨hk.1.2, ⟨hk.2, ⟨hk.1.1.1.1.1.2, ⟨hk.1.1.1.1.2, ⟨hk.1.1.1.2, hk.1.1.2⟩⟩⟩⟩⟩)), (by (with_reducible repeat (first | apply Kd.R_alloc | apply Kd.R_drewN | apply Kd.R_drew)); exact Kd.R_mono HO262.out (fun _ hk => ⟨hk.1.2, ⟨hk.2, ⟨hk.1.1.1.1.1.2, ⟨hk.1.1.1.1.2, ⟨hk.1.1.1.2, hk.1.1.2⟩⟩⟩⟩⟩)), (by (with_reducible repeat (first | apply Kd.R_alloc | apply Kd.R_drewN | apply Kd.R_drew)); exact Kd.R_mono HO266.out (fun _ hk => ⟨hk.1.2, ⟨hk.2, ⟨hk.1.1.1.1.1.2, ⟨hk.1.1.1.1.2, ⟨hk.1.1.1.2, hk.1.1.2⟩⟩⟩⟩⟩)), (by (with_reducible repeat (first | apply Kd.R_alloc | apply Kd.R_drewN | apply Kd.R_drew)); exact Kd.R_mono HO_220001.out (fun _ hk => ⟨hk.1.1.2, ⟨hk.1.2, ⟨hk.2, ⟨hk.1.1.1.1, ⟨hk.1.1.1.2.1, hk.1.1.1.2.2⟩⟩⟩⟩⟩)), (by (with_reducible repeat (first | apply Kd.R_alloc | apply Kd.R_drewN | apply Kd.R_drew)); exact Kd.R_mono HO_225001.out (fun _ hk => ⟨hk.1.1.2, ⟨hk.1.2, ⟨hk.2, ⟨hk.1.1.1.1, ⟨hk.1.1.1.2.1, hk.1.1.1.2.2⟩⟩⟩⟩⟩)), (by (with_reducible repeat (first | apply Kd.R_alloc | apply Kd.R_drewN | apply Kd.R_drew)); exact Kd.R_mono HO_230001.out (fun _ hk => ⟨hk.1.1.2, ⟨hk.1.2, ⟨hk.2, ⟨hk.1.1.1.1, ⟨hk.1.1.1.2.1, hk.1.1.1.2.2⟩⟩⟩⟩⟩)), (by (with_reducible repeat (first | apply Kd.R_alloc | apply Kd.R_drewN | apply Kd.R_drew)); exact Kd.R_mono HO_236001.out (fun _ hk => ⟨hk.1.1.2, ⟨hk.1.2, ⟨hk.2, ⟨hk.1.1.1.1, ⟨hk.1.1.1.2.1, hk.1.1.1.2.2⟩⟩⟩⟩⟩)), (mb BK202), (mb BK203), (mb BK219), (mb BK224), (mb BK229), (mb BK235), (mb BK268), GW268.out, GE268.out, NB202_268.out, NB268_202.out, NB203_268.out, NB268_203.out, NB219_268.out, NB268_219.out, NB224_268.out, NB268_224.out, NB229_268.out, NB268_229.out, NB235_268.out, NB268_235.out, (ms HB)⟩)
              ·skip
               refine box_step ?hg (N := 17) ?hd (cs := #[.int .i64 0, .slice none 0 0]) (t := 51) ?hr ?_; (case hd => rfl); (case hg => rfl); (case hr => first | (go_simp; done) | (go_simp; rfl))
               intro gb268 hg w186 hbox hb
               replace HO_220001 := rb HO_220001 hb
               replace HO_225001 := rb HO_225001 hb
               replace HO_230001 := rb HO_230001 hb
               replace HO_236001 := rb HO_236001 hb
               have BK268 := Aside0.mk (hbox)
               have GW268 := gw hg HB
               have GE268 := gw hg HB
               replace HB := bs HB hb
               have NB202_268 := nl hg BK202
               have NB268_202 := ng hg BK202
               replace BK202 := bb BK202 hb
               have NB203_268 := nl hg BK203
               have NB268_203 := ng hg BK203
               replace BK203 := bb BK203 hb
               have NB219_268 := nl hg BK219
               have NB268_219 := ng hg BK219
               replace BK219 := bb BK219 hb
               have NB224_268 := nl hg BK224
               have NB268_224 := ng hg BK224
               replace BK224 := bb BK224 hb
               have NB229_268 := nl hg BK229
               have NB268_229 := ng hg BK229
               replace BK229 := bb BK229 hb
               have NB235_268 := nl hg BK235
               have NB268_235 := ng hg BK235
               replace BK235 := bb BK235 hb
               clear hb hbox hg
               refine hK.out _ _ ⟨(c2 BK202).1, (c2 BK202).2, (c2 BK203).1, (c2 BK203).2⟩ (fun hHeld => ?_)
               clear hK K
               refine norm_ (a' := ?_) ?_ ?_
               rotate_left
               ·show Act.put _ (some 17) _ = _
                simp only [Act.put, List.setIfInBounds_toArray, List.set_cons_zero, List.set_cons_succ, i64_w, i32_w]
                rfl
               refine one_ (i := 1) (N := some 100) #[true, true, true, true, false, false, false, false, false, true, false, false] rfl rfl (one_of HT_.out (by kernel_rfl)) (by decide) (fun K hK => ?_)
               refine goes_ Try.func40 (by kernel_rfl) rfl #[.agg #[.int .i64 a0_0, .slice A0_1 l0_1.length c0_1]] (by rfl) rfl rfl (by (try simp only [List.map_toArray, List.map_cons, List.map_nil]); first | done | rfl | (simp only [List.length_drop, List.length_take]; rfl)) ?_
               with_reducible refine (laws_toLin.calls kj108 a0_0 _ _ l0_1 t255 t256 _ ?side1 ?side2 A172.out).mono ?_
               (case side1 => exact mc ((Kd.C_below HR0_1.out HB.out)))
               (case side2 => exact HC0_1.out)
               rintro e w187 ⟨v257, rfl, ho0, hb⟩
               refine ⟨_, rfl, ?_⟩
               have HO258 := Aside0.mk (Kd.R_lower (Kd.R_new' (Kd.R_new' (Kd.R_new' (Kd.R_new' ho0 (Kd.R_lt (mr HO_220001))) (Kd.R_lt (mr HO_225001))) (Kd.R_lt (mr HO_230001))) (Kd.R_lt (mr HO_236001))) (below_size (ms HB)))
               replace HO_220001 := rl HO_220001 ho0 hb
               replace HO_225001 := rl HO_225001 ho0 hb
               replace HO_230001 := rl HO_230001 ho0 hb
               replace HO_236001 := rl HO_236001 ho0 hb
               replace BK202 := bb BK202 hb
               replace BK203 := bb BK203 hb
               replace BK219 := bb BK219 hb
               replace BK224 := bb BK224 hb
               replace BK229 := bb BK229 hb
               replace BK235 := bb BK235 hb
               replace BK268 := bb BK268 hb
               replace HB := bs HB hb
               (try clear hb)
               (try clear hb2)
               (try clear hk)
               (try clear hi)
               (try clear ho0)
               refine hK.out _ _ ⟨(c2 BK202).1, (c2 BK202).2, (c2 BK203).1, (c2 BK203).2⟩ (fun hHeld => ?_)
               clear hK K
               refine norm_ (a' := ?_) ?_ ?_
               rotate_left
               ·show Act.put _ (some 100) _ = _
                simp only [Act.put, List.setIfInBounds_toArray, List.set_cons_zero, List.set_cons_succ, i64_w, i32_w]
                rfl
               refine one_ (i := 4) (N := some 103) #[true, true, true, true, true, false, false, false, false, true, false, false] rfl rfl (one_of HT_.out (by kernel_rfl)) (by decide) (fun K hK => ?_)
               refine goes_ Try.func40 (by kernel_rfl) rfl #[.agg #[.int .i64 a2_0, .slice A2_1 l2_1.length c2_1]] (by rfl) rfl rfl (by (try simp only [List.map_toArray, List.map_cons, List.map_nil]); first | done | rfl | (simp only [List.length_drop, List.length_take]; rfl)) ?_
               with_reducible refine (laws_toLin.calls kj108 a2_0 _ _ l2_1 t259 t260 _ ?side1 ?side2 A173.out).mono ?_
               (case side1 => exact mc ((Kd.C_below HR2_1.out HB.out)))
               (case side2 => exact HC2_1.out)
               rintro e w188 ⟨v261, rfl, ho0, hb⟩
               refine ⟨_, rfl, ?_⟩
               have HO262 := Aside0.mk (Kd.R_lower (Kd.R_new' (Kd.R_new' (Kd.R_new' (Kd.R_new' (Kd.R_new' ho0 (Kd.R_lt (mr HO_220001))) (Kd.R_lt (mr HO_225001))) (Kd.R_lt (mr HO_230001))) (Kd.R_lt (mr HO_236001))) (Kd.R_lt (mr HO258))) (below_size (ms HB)))
               replace HO_220001 := rl HO_220001 ho0 hb
               replace HO_225001 := rl HO_225001 ho0 hb
               replace HO_230001 := rl HO_230001 ho0 hb
               replace HO_236001 := rl HO_236001 ho0 hb
               replace HO258 := rl HO258 ho0 hb
               replace BK202 := bb BK202 hb
               replace BK203 := bb BK203 hb
               replace BK219 := bb BK219 hb
               replace BK224 := bb BK224 hb
               replace BK229 := bb BK229 hb
               replace BK235 := bb BK235 hb
               replace BK268 := bb BK268 hb
               replace HB := bs HB hb
               (try clear hb)
               (try clear hb2)
               (try clear hk)
               (try clear hi)
               (try clear ho0)
               obtain ⟨Ao189, co189, eo189⟩ := Kd.R_slice HO258.out
               (first | subst eo189 | (injection eo189 with f1_ f2_ f3_; have f4_ := f1_.symm; have f5_ := f3_.symm; clear f1_ f2_ f3_; subst f4_; subst f5_))
               obtain ⟨Ao190, co190, eo190⟩ := Kd.R_slice HO262.out
               (first | subst eo190 | (injection eo190 with f1_ f2_ f3_; have f4_ := f1_.symm; have f5_ := f3_.symm; clear f1_ f2_ f3_; subst f4_; subst f5_))
               refine hK.out _ _ ⟨(c2 BK202).1, (c2 BK202).2, (c2 BK203).1, (c2 BK203).2⟩ (fun hHeld => ?_)
               clear hK K
               refine norm_ (a' := ?_) ?_ ?_
               rotate_left
               ·show Act.put _ (some 103) _ = _
                simp only [Act.put, List.setIfInBounds_toArray, List.set_cons_zero, List.set_cons_succ, i64_w, i32_w]
                rfl
               refine one_ (i := 5) (N := some 104) #[true, true, true, true, true, true, false, false, false, true, false, false] rfl rfl (one_of HT_.out (by kernel_rfl)) (by decide) (fun K hK => ?_)
               refine goes_ Try.func41 (by kernel_rfl) rfl #[.agg #[.int .i64 t255, .slice Ao189 t256.length co189], .int .i64 a1, .agg #[.int .i64 t259, .slice Ao190 t260.length co190]] (by rfl) rfl rfl (by (try simp only [List.map_toArray, List.map_cons, List.map_nil]); first | done | rfl | (simp only [List.length_drop, List.length_take]; rfl)) ?_
               with_reducible refine (impl_AddScaled.calls kj108 t255 _ _ t256 a1 t259 _ _ t260 t263 t264 t267 _ ?side1 ?side2 ?side3 ?side4 A174.out).mono ?_
               (case side1 => exact mc ((Kd.R_reads' HO258.out).2.2))
               (case side2 => exact (Kd.R_reads' HO258.out).2.1)
               (case side3 => exact mc ((Kd.R_reads' HO262.out).2.2))
               (case side4 => exact (Kd.R_reads' HO262.out).2.1)
               rintro e w191 ⟨v265, rfl, ho0, hb⟩
               refine ⟨_, rfl, ?_⟩
               have HO266 := Aside0.mk (Kd.R_lower (Kd.R_new' (Kd.R_new' (Kd.R_new' (Kd.R_new' (Kd.R_new' (Kd.R_new' ho0 (Kd.R_lt (mr HO_220001))) (Kd.R_lt (mr HO_225001))) (Kd.R_lt (mr HO_230001))) (Kd.R_lt (mr HO_236001))) (Kd.R_lt (mr HO258))) (Kd.R_lt (mr HO262))) (below_size (ms HB)))
               replace HO_220001 := rl HO_220001 ho0 hb
               replace HO_225001 := rl HO_225001 ho0 hb
               replace HO_230001 := rl HO_230001 ho0 hb
               replace HO_236001 := rl HO_236001 ho0 hb
               replace HO258 := rl HO258 ho0 hb
               replace HO262 := rl HO262 ho0 hb
               replace BK202 := bb BK202 hb
               replace BK203 := bb BK203 hb
               replace BK219 := bb BK219 hb
               replace BK224 := bb BK224 hb
               replace BK229 := bb BK229 hb
               replace BK235 := bb BK235 hb
               replace BK268 := bb BK268 hb
               replace HB := bs HB hb
               (try clear hb)
               (try clear hb2)
               (try clear hk)
               (try clear hi)
               (try clear ho0)
               refine hK.out _ _ ⟨(c2 BK202).1, (c2 BK202).2, (c2 BK203).1, (c2 BK203).2⟩ (fun hHeld => ?_)
               clear hK K
               refine norm_ (a' := ?_) ?_ ?_
               rotate_left
               ·show Act.put _ (some 104) _ = _
                simp only [Act.put, List.setIfInBounds_toArray, List.set_cons_zero, List.set_cons_succ, i64_w, i32_w]
                rfl
               refine pure_ (i := 6) (N := some 98) (v := ?_) (a' := ?_) #[true, true, true, true, true, true, true, false, false, true, false, false] rfl rfl (any_of HT_.out (by kernel_rfl)) (fun _ _ _ h => h) (Or.inl ⟨by rfl, ?_⟩) ?_ ?_
               rotate_left
               ·intro w'
                go_simp
                with_reducible rfl
               rotate_left
               ·simp only [Act.put, List.setIfInBounds_toArray, List.set_cons_zero, List.set_cons_succ, i64_w, i32_w]
                rfl
               refine pure_ (i := 7) (N := some 105) (v := ?_) (a' := ?_) #[true, true, true, true, true, true, true, true, false, true, false, false] rfl rfl (any_of HT_.out (by kernel_rfl)) (fun _ _ _ h => h) (Or.inl ⟨by rfl, ?_⟩) ?_ ?_
               rotate_left
               ·intro w'
                go_simp
                with_reducible rfl
               rotate_left
               ·simp only [Act.put, List.setIfInBounds_toArray, List.set_cons_zero, List.set_cons_succ, i64_w, i32_w]
                rfl
               refine pure_ (i := 8) (N := some 106) (v := ?_) (a' := ?_) #[true, true, true, true, true, true, true, true, true, true, false, false] rfl rfl (any_of HT_.out (by kernel_rfl)) (fun _ _ _ h => h) (Or.inl ⟨by rfl, ?_⟩) ?_ ?_
               rotate_left
               ·intro w'
                go_simp
                with_reducible rfl
               rotate_left
               ·simp only [Act.put, List.setIfInBounds_toArray, List.set_cons_zero, List.set_cons_succ, i64_w, i32_w]
                rfl
               exact norm_ (by simp only [putAll, Act.put, List.setIfInBounds_toArray, List.set_cons_zero, List.set_cons_succ]) (hCont (.slice Ao189 t256.length co189, .slice Ao190 t260.length co190, v265, gb268) _ ⟨hHeld, (by (with_reducible repeat (first | apply Kd.R_alloc | apply Kd.R_drewN | apply Kd.R_drew)); exact Kd.R_mono HO258.out (fun _ hk => ⟨hk.1.2, ⟨hk.2, ⟨hk.1.1.1.1.1.2, ⟨hk.1.1.1.1.2, ⟨hk.1.1.1.2, hk.1.1.2⟩⟩⟩⟩⟩)), (by (with_reducible repeat (first | apply Kd.R_alloc | apply Kd.R_drewN | apply Kd.R_drew)); exact Kd.R_mono HO262.out (fun _ hk => ⟨hk.1.2, ⟨hk.2, ⟨hk.1.1.1.1.1.2, ⟨hk.1.1.1.1.2, ⟨hk.1.1.1.2, hk.1.1.2⟩⟩⟩⟩⟩)), (by (with_reducible repeat (first | apply Kd.R_alloc | apply Kd.R_drewN | apply Kd.R_drew)); exact Kd.R_mono HO266.out (fun _ hk => ⟨hk.1.2, ⟨hk.2, ⟨hk.1.1.1.1.1.2, ⟨hk.1.1.1.1.2, ⟨hk.1.1.1.2, hk.1.1.2⟩⟩⟩⟩⟩)), (by (with_reducible repeat (first | apply Kd.R_alloc | apply Kd.R_drewN | apply Kd.R_drew)); exact Kd.R_mono HO_220001.out (fun _ hk => ⟨hk.1.1.2, ⟨hk.1.2, ⟨hk.2, ⟨hk.1.1.1.1, ⟨hk.1.1.1.2.1, hk.1.1.1.2.2⟩⟩⟩⟩⟩)), (by (with_reducible repeat (first | apply Kd.R_alloc | apply Kd.R_drewN | apply Kd.R_drew)); exact Kd.R_mono HO_225001.out (fun _ hk => ⟨hk.1.1.2, ⟨hk.1.2, ⟨hk.2, ⟨hk.1.1.1.1, ⟨hk.1.1.1.2.1, hk.1.1.1.2.2⟩⟩⟩⟩⟩)), (by (with_reducible repeat (first | apply Kd.R_alloc | apply Kd.R_drewN | apply Kd.R_drew)); exact Kd.R_mono HO_230001.out (fun _ hk => ⟨hk.1.1.2, ⟨hk.1.2, ⟨hk.2, ⟨hk.1.1.1.1, ⟨hk.1.1.1.2.1, hk.1.1.1.2.2⟩⟩⟩⟩⟩)), (by (with_reducible repeat (first | apply Kd.R_alloc | apply Kd.R_drewN | apply Kd.R_drew)); exact Kd.R_mono HO_236001.out (fun _ hk => ⟨hk.1.1.2, ⟨hk.1.2, ⟨hk.2, ⟨hk.1.1.1.1, ⟨hk.1.1.1.2.1, hk.1.1.1.2.2⟩⟩⟩⟩⟩)), (mb BK202), (mb BK203), (mb BK219), (mb BK224), (mb BK229), (mb BK235), (mb BK268), GW268.out, GE268.out, NB202_268.out, NB268_202.out, NB203_268.out, NB268_203.out, NB219_268.out, NB268_219.out, NB224_268.out, NB268_224.out, NB229_268.out, NB268_229.out, NB235_268.out, NB268_235.out, (ms HB)⟩)
             rintro ⟨v257, v261, v265, gb268⟩ w192 ⟨hS_, h0_, h1_, h2_, h3_, h4_, h5_, h6_, h7_, h8_, h9_, h10_, h11_, h12_, h13_, h14_, h15_, h16_, h17_, h18_, h19_, h20_, h21_, h22_, h23_, h24_, h25_, h26_, h27_, h28_⟩
             have n0_ : Aside0 (Kd.R (Kd.int .i64) 3 w192 w.heap.size (fun k_ => some k_ ≠ (v261 : Value).ownBlock ∧ some k_ ≠ (v265 : Value).ownBlock ∧ some k_ ≠ (.slice Ao43 t215.length co43 : Value).ownBlock ∧ some k_ ≠ (.slice Ao53 t248.length co53 : Value).ownBlock ∧ some k_ ≠ (.slice Ao63 t250.length co63 : Value).ownBlock ∧ some k_ ≠ (.slice Ao73 t231.length co73 : Value).ownBlock) v257 t256) := ⟨h0_⟩
             have n1_ : Aside0 (Kd.R (Kd.int .i64) 3 w192 w.heap.size (fun k_ => some k_ ≠ (v257 : Value).ownBlock ∧ some k_ ≠ (v265 : Value).ownBlock ∧ some k_ ≠ (.slice Ao43 t215.length co43 : Value).ownBlock ∧ some k_ ≠ (.slice Ao53 t248.length co53 : Value).ownBlock ∧ some k_ ≠ (.slice Ao63 t250.length co63 : Value).ownBlock ∧ some k_ ≠ (.slice Ao73 t231.length co73 : Value).ownBlock) v261 t260) := ⟨h1_⟩
             have n2_ : Aside0 (Kd.R (Kd.int .i64) 3 w192 w.heap.size (fun k_ => some k_ ≠ (v257 : Value).ownBlock ∧ some k_ ≠ (v261 : Value).ownBlock ∧ some k_ ≠ (.slice Ao43 t215.length co43 : Value).ownBlock ∧ some k_ ≠ (.slice Ao53 t248.length co53 : Value).ownBlock ∧ some k_ ≠ (.slice Ao63 t250.length co63 : Value).ownBlock ∧ some k_ ≠ (.slice Ao73 t231.length co73 : Value).ownBlock) v265 t264) := ⟨h2_⟩
             have n3_ : Aside0 (Kd.R (Kd.int .i64) 3 w192 w.heap.size (fun k_ => some k_ ≠ (v257 : Value).ownBlock ∧ some k_ ≠ (v261 : Value).ownBlock ∧ some k_ ≠ (v265 : Value).ownBlock ∧ some k_ ≠ (.slice Ao53 t248.length co53 : Value).ownBlock ∧ some k_ ≠ (.slice Ao63 t250.length co63 : Value).ownBlock ∧ some k_ ≠ (.slice Ao73 t231.length co73 : Value).ownBlock) (.slice Ao43 t215.length co43) t215) := ⟨h3_⟩
             have n4_ : Aside0 (Kd.R (Kd.int .i64) 3 w192 w.heap.size (fun k_ => some k_ ≠ (v257 : Value).ownBlock ∧ some k_ ≠ (v261 : Value).ownBlock ∧ some k_ ≠ (v265 : Value).ownBlock ∧ some k_ ≠ (.slice Ao43 t215.length co43 : Value).ownBlock ∧ some k_ ≠ (.slice Ao63 t250.length co63 : Value).ownBlock ∧ some k_ ≠ (.slice Ao73 t231.length co73 : Value).ownBlock) (.slice Ao53 t248.length co53) t248) := ⟨h4_⟩
             have n5_ : Aside0 (Kd.R (Kd.int .i64) 3 w192 w.heap.size (fun k_ => some k_ ≠ (v257 : Value).ownBlock ∧ some k_ ≠ (v261 : Value).ownBlock ∧ some k_ ≠ (v265 : Value).ownBlock ∧ some k_ ≠ (.slice Ao43 t215.length co43 : Value).ownBlock ∧ some k_ ≠ (.slice Ao53 t248.length co53 : Value).ownBlock ∧ some k_ ≠ (.slice Ao73 t231.length co73 : Value).ownBlock) (.slice Ao63 t250.length co63) t250) := ⟨h5_⟩
             have n6_ : Aside0 (Kd.R (Kd.int .i64) 3 w192 w.heap.size (fun k_ => some k_ ≠ (v257 : Value).ownBlock ∧ some k_ ≠ (v261 : Value).ownBlock ∧ some k_ ≠ (v265 : Value).ownBlock ∧ some k_ ≠ (.slice Ao43 t215.length co43 : Value).ownBlock ∧ some k_ ≠ (.slice Ao53 t248.length co53 : Value).ownBlock ∧ some k_ ≠ (.slice Ao63 t250.length co63 : Value).ownBlock) (.slice Ao73 t231.length co73) t253) := ⟨h6_⟩
             have n7_ : Aside0 (w192.heap[gb202]? = some (.cells #[.int .i64 a0_0, .slice A0_1 l0_1.length c0_1] 59 (0, 0))) := ⟨h7_⟩
             have n8_ : Aside0 (w192.heap[gb203]? = some (.cells #[.int .i64 a2_0, .slice A2_1 l2_1.length c2_1] 59 (0, 0))) := ⟨h8_⟩
             have n9_ : Aside0 (w192.heap[gb219]? = some (.cells #[.int .i64 t214, .slice Ao43 t215.length co43] 51 (0, 0))) := ⟨h9_⟩
             have n10_ : Aside0 (w192.heap[gb224]? = some (.cells #[.int .i64 t220, .slice Ao53 t248.length co53] 51 (0, 0))) := ⟨h10_⟩
             have n11_ : Aside0 (w192.heap[gb229]? = some (.cells #[.int .i64 t225, .slice Ao63 t250.length co63] 51 (0, 0))) := ⟨h11_⟩
             have n12_ : Aside0 (w192.heap[gb235]? = some (.cells #[.int .i64 t230, .slice Ao73 t231.length co73] 51 (0, 0))) := ⟨h12_⟩
             have n13_ : Aside0 (w192.heap[gb268]? = some (.cells #[.int .i64 0, .slice none 0 0] 51 (0, 0))) := ⟨h13_⟩
             have n14_ : Aside0 (w.heap.size ≤ gb268) := ⟨h14_⟩
             have n15_ : Aside0 (w.heap.size ≤ gb268) := ⟨h15_⟩
             have n16_ : Aside0 (gb202 ≠ gb268) := ⟨h16_⟩
             have n17_ : Aside0 (gb268 ≠ gb202) := ⟨h17_⟩
             have n18_ : Aside0 (gb203 ≠ gb268) := ⟨h18_⟩
             have n19_ : Aside0 (gb268 ≠ gb203) := ⟨h19_⟩
             have n20_ : Aside0 (gb219 ≠ gb268) := ⟨h20_⟩
             have n21_ : Aside0 (gb268 ≠ gb219) := ⟨h21_⟩
             have n22_ : Aside0 (gb224 ≠ gb268) := ⟨h22_⟩
             have n23_ : Aside0 (gb268 ≠ gb224) := ⟨h23_⟩
             have n24_ : Aside0 (gb229 ≠ gb268) := ⟨h24_⟩
             have n25_ : Aside0 (gb268 ≠ gb229) := ⟨h25_⟩
             have n26_ : Aside0 (gb235 ≠ gb268) := ⟨h26_⟩
             have n27_ : Aside0 (gb268 ≠ gb235) := ⟨h27_⟩
             have n28_ : Aside0 (Below w.heap.size w w192) := ⟨h28_⟩
             clear HO_220001
             clear HO_225001
             clear HO_230001
             clear HO_236001
             clear BK202
             clear BK203
             clear BK219
             clear BK224
             clear BK229
             clear BK235
             clear HB
             clear h0_ h1_ h2_ h3_ h4_ h5_ h6_ h7_ h8_ h9_ h10_ h11_ h12_ h13_ h14_ h15_ h16_ h17_ h18_ h19_ h20_ h21_ h22_ h23_ h24_ h25_ h26_ h27_ h28_
             have HO258 := n0_
             have HO262 := n1_
             have HO266 := n2_
             have HO_220001 := n3_
             have HO_225001 := n4_
             have HO_230001 := n5_
             have HO_236001 := n6_
             have BK202 := n7_
             have BK203 := n8_
             have BK219 := n9_
             have BK224 := n10_
             have BK229 := n11_
             have BK235 := n12_
             have BK268 := n13_
             have GW268 := n14_
             have GE268 := n15_
             have NB202_268 := n16_
             have NB268_202 := n17_
             have NB203_268 := n18_
             have NB268_203 := n19_
             have NB219_268 := n20_
             have NB268_219 := n21_
             have NB224_268 := n22_
             have NB268_224 := n23_
             have NB229_268 := n24_
             have NB268_229 := n25_
             have NB235_268 := n26_
             have NB268_235 := n27_
             have HB := n28_
             clear n0_ n1_ n2_ n3_ n4_ n5_ n6_ n7_ n8_ n9_ n10_ n11_ n12_ n13_ n14_ n15_ n16_ n17_ n18_ n19_ n20_ n21_ n22_ n23_ n24_ n25_ n26_ n27_ n28_
             have hHeld : w192.cell? ⟨gb202, 0, none⟩ = some (.int .i64 a0_0) ∧ w192.cell? ⟨gb202, 1, none⟩ = some (.slice A0_1 l0_1.length c0_1) ∧ w192.cell? ⟨gb203, 0, none⟩ = some (.int .i64 a2_0) ∧ w192.cell? ⟨gb203, 1, none⟩ = some (.slice A2_1 l2_1.length c2_1) := hS_
             obtain ⟨Ao194, co194, eo194⟩ := Kd.R_slice HO266.out
             (first | subst eo194 | (injection eo194 with f1_ f2_ f3_; have f4_ := f1_.symm; have f5_ := f3_.symm; clear f1_ f2_ f3_; subst f4_; subst f5_))
             refine norm_ (a' := ?_) ?_ ?_
             rotate_left
             ·simp only [putAll, Act.put, List.setIfInBounds_toArray, List.set_cons_zero, List.set_cons_succ]
              rfl
             refine one_ (i := 10) (N := none) #[true, true, true, true, true, true, true, true, true, true, true, false] rfl rfl (one_of HT_.out (by kernel_rfl)) (by decide) (fun K hK => ?_)
             have hs193 : w192.cell? ⟨gb268, 0, none⟩ = some (.int .i64 0) := (blk_cell BK268.out 0).trans rfl
             have hfs193 := blk_frozen BK268.out 0
             have hns193_0 := NB202_268.out
             have hns193_1 := NB203_268.out
             have hns193_2 := NB219_268.out
             have hns193_3 := NB224_268.out
             have hns193_4 := NB229_268.out
             have hns193_5 := NB235_268.out
             have hms193_0 := NB268_202.out
             have hms193_1 := NB268_203.out
             have hms193_2 := NB268_219.out
             have hms193_3 := NB268_224.out
             have hms193_4 := NB268_229.out
             have hms193_5 := NB268_235.out
             have hs195 : w192.cell? ⟨gb268, 1, none⟩ = some (.slice none 0 0) := (blk_cell BK268.out 1).trans rfl
             have hfs195 := blk_frozen BK268.out 1
             have hns195_0 := NB202_268.out
             have hns195_1 := NB203_268.out
             have hns195_2 := NB219_268.out
             have hns195_3 := NB224_268.out
             have hns195_4 := NB229_268.out
             have hns195_5 := NB235_268.out
             have hms195_0 := NB268_202.out
             have hms195_1 := NB268_203.out
             have hms195_2 := NB268_219.out
             have hms195_3 := NB268_224.out
             have hms195_4 := NB268_229.out
             have hms195_5 := NB268_235.out
             refine skip_ (w1 := ?_) (by rfl) rfl ?_ ?_
             rotate_left
             ·go_simp
              rfl
             refine hK.out _ _ ⟨((cell_far (p := ⟨gb268, _, none⟩) NB202_268.out _).trans (((cell_far (p := ⟨gb268, _, none⟩) NB202_268.out _).trans (hHeld.1)))), ((cell_far (p := ⟨gb268, _, none⟩) NB202_268.out _).trans (((cell_far (p := ⟨gb268, _, none⟩) NB202_268.out _).trans (hHeld.2.1)))), ((cell_far (p := ⟨gb268, _, none⟩) NB203_268.out _).trans (((cell_far (p := ⟨gb268, _, none⟩) NB203_268.out _).trans (hHeld.2.2.1)))), ((cell_far (p := ⟨gb268, _, none⟩) NB203_268.out _).trans (((cell_far (p := ⟨gb268, _, none⟩) NB203_268.out _).trans (hHeld.2.2.2))))⟩ (fun hHeld => ?_)
             clear hK K
             refine pure_ (i := 11) (N := some 18) (v := ?_) (a' := ?_) #[true, true, true, true, true, true, true, true, true, true, true, true] rfl rfl (any_of HT_.out (by kernel_rfl)) (fun _ _ _ h => h) (Or.inl ⟨by rfl, ?_⟩) ?_ ?_
             rotate_left
             ·intro w'
              go_simp
              with_reducible rfl
             rotate_left
             ·simp only [Act.put, List.setIfInBounds_toArray, List.set_cons_zero, List.set_cons_succ, i64_w, i32_w]
              rfl
             refine done_ (done_of HT_.out (by kernel_rfl)) ?_
             go_upto_region 32 with (fail)
             go_cut [115] (fun v115 wc => ∃ (kq : Nat) (x115_174 : Bool), v115 = .bool x115_174 ∧ Aside0 (laws_FnExactAddScaled.j2 kq t252 x115_174 t230 t253 = some r) ∧ Aside0 (kq ≤ kj108) ∧ Aside0 (Kd.R (Kd.int .i64) 3 wc w.heap.size (fun k_ => some k_ ≠ ((.slice Ao53 t248.length co53) : Value).ownBlock ∧ some k_ ≠ ((.slice Ao63 t250.length co63) : Value).ownBlock ∧ some k_ ≠ ((.slice Ao73 t231.length co73) : Value).ownBlock ∧ some k_ ≠ ((.slice Ao194 t264.length co194) : Value).ownBlock) (.slice Ao43 t215.length co43) t215) ∧ Aside0 (Kd.R (Kd.int .i64) 3 wc w.heap.size (fun k_ => some k_ ≠ ((.slice Ao43 t215.length co43) : Value).ownBlock ∧ some k_ ≠ ((.slice Ao63 t250.length co63) : Value).ownBlock ∧ some k_ ≠ ((.slice Ao73 t231.length co73) : Value).ownBlock ∧ some k_ ≠ ((.slice Ao194 t264.length co194) : Value).ownBlock) (.slice Ao53 t248.length co53) t248) ∧ Aside0 (Kd.R (Kd.int .i64) 3 wc w.heap.size (fun k_ => some k_ ≠ ((.slice Ao43 t215.length co43) : Value).ownBlock ∧ some k_ ≠ ((.slice Ao53 t248.length co53) : Value).ownBlock ∧ some k_ ≠ ((.slice Ao73 t231.length co73) : Value).ownBlock ∧ some k_ ≠ ((.slice Ao194 t264.length co194) : Value).ownBlock) (.slice Ao63 t250.length co63) t250) ∧ Aside0 (Kd.R (Kd.int .i64) 3 wc w.heap.size (fun k_ => some k_ ≠ ((.slice Ao43 t215.length co43) : Value).ownBlock ∧ some k_ ≠ ((.slice Ao53 t248.length co53) : Value).ownBlock ∧ some k_ ≠ ((.slice Ao63 t250.length co63) : Value).ownBlock ∧ some k_ ≠ ((.slice Ao194 t264.length co194) : Value).ownBlock) (.slice Ao73 t231.length co73) t253) ∧ Aside0 (Kd.R (Kd.int .i64) 3 wc w.heap.size (fun k_ => some k_ ≠ ((.slice Ao43 t215.length co43) : Value).ownBlock ∧ some k_ ≠ ((.slice Ao53 t248.length co53) : Value).ownBlock ∧ some k_ ≠ ((.slice Ao63 t250.length co63) : Value).ownBlock ∧ some k_ ≠ ((.slice Ao73 t231.length co73) : Value).ownBlock) (.slice Ao194 t264.length co194) t264) ∧ Aside0 (wc.heap[gb202]? = some (.cells #[.int .i64 a0_0, (.slice A0_1 l0_1.length c0_1)] 59 (0, 0))) ∧ Aside0 (wc.heap[gb203]? = some (.cells #[.int .i64 a2_0, (.slice A2_1 l2_1.length c2_1)] 59 (0, 0))) ∧ Aside0 (wc.heap[gb219]? = some (.cells #[.int .i64 t214, (.slice Ao43 t215.length co43)] 51 (0, 0))) ∧ Aside0 (wc.heap[gb224]? = some (.cells #[.int .i64 t220, (.slice Ao53 t248.length co53)] 51 (0, 0))) ∧ Aside0 (wc.heap[gb229]? = some (.cells #[.int .i64 t225, (.slice Ao63 t250.length co63)] 51 (0, 0))) ∧ Aside0 (wc.heap[gb235]? = some (.cells #[.int .i64 t230, (.slice Ao73 t231.length co73)] 51 (0, 0))) ∧ Aside0 (wc.heap[gb268]? = some (.cells #[.int .i64 t263, (.slice Ao194 t264.length co194)] 51 (0, 0))) ∧ Aside0 (Below w.heap.size w wc))
             case first =>
              have H := HC175.out
              clear HC175
              replace H := Option.bind_eq_some_iff.mp H
              obtain ⟨t269, A1960, H⟩ := H
              replace H : (if t269 = true then (laws_FnExactAddScaled.j2 kj108 t252 (t267 != t218) t230 t253) else (laws_FnExactAddScaled.j2 kj108 t252 true t230 t253)) = some r := H
              have A196 := Aside0.mk A1960
              clear A1960
              by_cases c197 : t269 = true
              ·subst c197
               have H1 : (laws_FnExactAddScaled.j2 kj108 t252 (t267 != t218) t230 t253) = some r := by rw [if_pos rfl] at H; exact H
               clear H
               have H := H1
               clear H1
               have H' := Aside0.mk H
               clear H
               have hnb198 := NB268_202.out
               have hnc198 := NB202_268.out
               have hnb199 := NB268_203.out
               have hnc199 := NB203_268.out
               have hnb200 := NB268_219.out
               have hnc200 := NB219_268.out
               have hnb201 := NB268_224.out
               have hnc201 := NB224_268.out
               have hnb202 := NB268_229.out
               have hnc202 := NB229_268.out
               have hnb203 := NB268_235.out
               have hnc203 := NB235_268.out
               obtain ⟨hcz204_0, hcz204_1⟩ := c2 BK268
               have hfz204_0 := blk_frozen BK268.out 0
               have hfz204_1 := blk_frozen BK268.out 1
               have hnb205 := NB219_202.out
               have hnc205 := NB202_219.out
               have hnb206 := NB219_203.out
               have hnc206 := NB203_219.out
               have hnb207 := NB219_224.out
               have hnc207 := NB224_219.out
               have hnb208 := NB219_229.out
               have hnc208 := NB229_219.out
               have hnb209 := NB219_235.out
               have hnc209 := NB235_219.out
               obtain ⟨hcz210_0, hcz210_1⟩ := c2 BK219
               have hfz210_0 := blk_frozen BK219.out 0
               have hfz210_1 := blk_frozen BK219.out 1
               go_wp2_with (first | ((with_reducible refine gate_callee (f := 42) rfl ?_); refine goesL_ (some 109) rfl rfl Try.func42 (by kernel_rfl) rfl #[.agg #[.int .i64 t263, .slice Ao194 t264.length co194], .agg #[.int .i64 t214, .slice Ao43 t215.length co43]] rfl (by (try simp only [List.map_toArray, List.map_cons, List.map_nil]); first | done | rfl | (simp only [List.length_drop, List.length_take]; rfl)) ?_; (with_reducible refine (laws_eqLin.calls kj108 t263 _ _ t264 t214 _ _ t215 true _ ?side1 ?side2 ?side3 ?side4 A196.out).mono ?_); (case side1 => refine (Kd.R_reads' (e := 3) (base := w.heap.size) (ok := fun k_ => (some k_ ≠ (v257 : Value).ownBlock ∧ (some k_ ≠ (v261 : Value).ownBlock ∧ (some k_ ≠ (.slice Ao43 t215.length co43 : Value).ownBlock ∧ (some k_ ≠ (.slice Ao53 t248.length co53 : Value).ownBlock ∧ (some k_ ≠ (.slice Ao63 t250.length co63 : Value).ownBlock ∧ some k_ ≠ (.slice Ao73 t231.length co73 : Value).ownBlock)))))) (n := t264.length) (c := co194) ?_).2.2; exact (by (with_reducible repeat (first | apply Kd.R_alloc | apply Kd.R_drewN | apply Kd.R_drew)); exact (Kd.R_mono (Kd.R_far (p := ⟨gb268, 1, none⟩) (Kd.R_far (p := ⟨gb268, 0, none⟩) (Kd.R_types HO266.out BK268.out (by decide)) (fun _ hk => hk.2) (.int .i64 t263)) (fun _ hk => hk.2) (.slice Ao194 t264.length co194)) (fun _ h_ => h_.1)))); (case side2 => exact (Kd.R_reads' HO266.out).2.1); (case side3 => refine (Kd.R_reads' (e := 3) (base := w.heap.size) (ok := fun k_ => (some k_ ≠ (v257 : Value).ownBlock ∧ (some k_ ≠ (v261 : Value).ownBlock ∧ (some k_ ≠ (.slice Ao194 t264.length co194 : Value).ownBlock ∧ (some k_ ≠ (.slice Ao53 t248.length co53 : Value).ownBlock ∧ (some k_ ≠ (.slice Ao63 t250.length co63 : Value).ownBlock ∧ some k_ ≠ (.slice Ao73 t231.length co73 : Value).ownBlock)))))) (n := t215.length) (c := co43) ?_).2.2; exact (by (with_reducible repeat (first | apply Kd.R_alloc | apply Kd.R_drewN | apply Kd.R_drew)); exact (Kd.R_mono (Kd.R_far (p := ⟨gb268, 1, none⟩) (Kd.R_far (p := ⟨gb268, 0, none⟩) (Kd.R_types HO_220001.out BK268.out (by decide)) (fun _ hk => hk.2) (.int .i64 t263)) (fun _ hk => hk.2) (.slice Ao194 t264.length co194)) (fun _ h_ => h_.1)))); (case side4 => exact (Kd.R_reads' HO_220001.out).2.1); rintro e w211 ⟨rfl, hb⟩; refine ⟨_, rfl, ?_⟩; have n0_ := Aside0.mk (Kd.R_below (by (with_reducible repeat (first | apply Kd.R_alloc | apply Kd.R_drewN | apply Kd.R_drew)); exact (Kd.R_mono (Kd.R_far (p := ⟨gb268, 1, none⟩) (Kd.R_far (p := ⟨gb268, 0, none⟩) (Kd.R_types HO_220001.out BK268.out (by decide)) (fun _ hk => hk.2) (.int .i64 t263)) (fun _ hk => hk.2) (.slice Ao194 t264.length co194)) (fun _ h_ => h_.1))) hb); have n1_ := Aside0.mk (Kd.R_below (by (with_reducible repeat (first | apply Kd.R_alloc | apply Kd.R_drewN | apply Kd.R_drew)); exact (Kd.R_mono (Kd.R_far (p := ⟨gb268, 1, none⟩) (Kd.R_far (p := ⟨gb268, 0, none⟩) (Kd.R_types HO_225001.out BK268.out (by decide)) (fun _ hk => hk.2) (.int .i64 t263)) (fun _ hk => hk.2) (.slice Ao194 t264.length co194)) (fun _ h_ => h_.1))) hb); have n2_ := Aside0.mk (Kd.R_below (by (with_reducible repeat (first | apply Kd.R_alloc | apply Kd.R_drewN | apply Kd.R_drew)); exact (Kd.R_mono (Kd.R_far (p := ⟨gb268, 1, none⟩) (Kd.R_far (p := ⟨gb268, 0, none⟩) (Kd.R_types HO_230001.out BK268.out (by decide)) (fun _ hk => hk.2) (.int .i64 t263)) (fun _ hk => hk.2) (.slice Ao194 t264.length co194)) (fun _ h_ => h_.1))) hb); have n3_ := Aside0.mk (Kd.R_below (by (with_reducible repeat (first | apply Kd.R_alloc | apply Kd.R_drewN | apply Kd.R_drew)); exact (Kd.R_mono (Kd.R_far (p := ⟨gb268, 1, none⟩) (Kd.R_far (p := ⟨gb268, 0, none⟩) (Kd.R_types HO_236001.out BK268.out (by decide)) (fun _ hk => hk.2) (.int .i64 t263)) (fun _ hk => hk.2) (.slice Ao194 t264.length co194)) (fun _ h_ => h_.1))) hb); have n4_ := Aside0.mk (Kd.R_below (by (with_reducible repeat (first | apply Kd.R_alloc | apply Kd.R_drewN | apply Kd.R_drew)); exact (Kd.R_mono (Kd.R_far (p := ⟨gb268, 1, none⟩) (Kd.R_far (p := ⟨gb268, 0, none⟩) (Kd.R_types HO258.out BK268.out (by decide)) (fun _ hk => hk.2) (.int .i64 t263)) (fun _ hk => hk.2) (.slice Ao194 t264.length co194)) (fun _ h_ => h_.1))) hb); have n5_ := Aside0.mk (Kd.R_below (by (with_reducible repeat (first | apply Kd.R_alloc | apply Kd.R_drewN | apply Kd.R_drew)); exact (Kd.R_mono (Kd.R_far (p := ⟨gb268, 1, none⟩) (Kd.R_far (p := ⟨gb268, 0, none⟩) (Kd.R_types HO262.out BK268.out (by decide)) (fun _ hk => hk.2) (.int .i64 t263)) (fun _ hk => hk.2) (.slice Ao194 t264.length co194)) (fun _ h_ => h_.1))) hb); have n6_ := Aside0.mk (Kd.R_below (by (with_reducible repeat (first | apply Kd.R_alloc | apply Kd.R_drewN | apply Kd.R_drew)); exact (Kd.R_mono (Kd.R_far (p := ⟨gb268, 1, none⟩) (Kd.R_far (p := ⟨gb268, 0, none⟩) (Kd.R_types HO266.out BK268.out (by decide)) (fun _ hk => hk.2) (.int .i64 t263)) (fun _ hk => hk.2) (.slice Ao194 t264.length co194)) (fun _ h_ => h_.1))) hb); have n7_ := bf BK202 hb; have n8_ := bf BK203 hb; have n9_ := bf BK219 hb; have n10_ := bf BK224 hb; have n11_ := bf BK229 hb; have n12_ := bf BK235 hb; have n13_ := Aside0.mk (blk_below (g := gb268) (o := .cells #[.int .i64 t263, .slice Ao194 t264.length co194] 51 (0, 0)) (by (with_reducible repeat (first | refine blk_drewN ?_ _ | refine blk_drew ?_ | refine blk_alloc ?_ _)); refine blk_put (cs := #[.int .i64 t263, .slice none 0 0]) ?_ 1 _ rfl; (with_reducible repeat (first | refine blk_drewN ?_ _ | refine blk_drew ?_ | refine blk_alloc ?_ _)); refine blk_put (cs := #[.int .i64 0, .slice none 0 0]) ?_ 0 _ rfl; (with_reducible repeat (first | refine blk_drewN ?_ _ | refine blk_drew ?_ | refine blk_alloc ?_ _)); exact BK268.out) hb); have n14_ := bs HB hb; clear HO_220001 HO_225001 HO_230001 HO_236001 HO258 HO262 HO266 BK202 BK203 BK219 BK224 BK229 BK235 BK268 HB; have HO_220001 := n0_; have HO_225001 := n1_; have HO_230001 := n2_; have HO_236001 := n3_; have HO258 := n4_; have HO262 := n5_; have HO266 := n6_; have BK202 := n7_; have BK203 := n8_; have BK219 := n9_; have BK224 := n10_; have BK229 := n11_; have BK235 := n12_; have BK268 := n13_; have HB := n14_; clear n0_ n1_ n2_ n3_ n4_ n5_ n6_ n7_ n8_ n9_ n10_ n11_ n12_ n13_ n14_; (try clear hb)))
               go_meet
               case rel => exact ⟨_, ((t267 != t218)), (by first | rfl | (simp; done) | (simp [*]; done)), H', ⟨by have := HJ25.out; have := HJ108.out; first | omega | exact Nat.le_refl _⟩, ⟨by (try simp only [hl225001_108]); (try simp only [hl230001_108]); (with_reducible repeat (first | apply Kd.R_alloc | apply Kd.R_drewN | apply Kd.R_drew)); exact Kd.R_mono HO_220001.out (fun _ hk => ⟨hk.2.2.2.1, ⟨hk.2.2.2.2.1, ⟨hk.2.2.2.2.2, hk.2.2.1⟩⟩⟩)⟩, ⟨by (try simp only [hl225001_108]); (try simp only [hl230001_108]); (with_reducible repeat (first | apply Kd.R_alloc | apply Kd.R_drewN | apply Kd.R_drew)); exact Kd.R_mono HO_225001.out (fun _ hk => ⟨hk.2.2.2.1, ⟨hk.2.2.2.2.1, ⟨hk.2.2.2.2.2, hk.2.2.1⟩⟩⟩)⟩, ⟨by (try simp only [hl225001_108]); (try simp only [hl230001_108]); (with_reducible repeat (first | apply Kd.R_alloc | apply Kd.R_drewN | apply Kd.R_drew)); exact Kd.R_mono HO_230001.out (fun _ hk => ⟨hk.2.2.2.1, ⟨hk.2.2.2.2.1, ⟨hk.2.2.2.2.2, hk.2.2.1⟩⟩⟩)⟩, ⟨by (try simp only [hl225001_108]); (try simp only [hl230001_108]); (with_reducible repeat (first | apply Kd.R_alloc | apply Kd.R_drewN | apply Kd.R_drew)); exact Kd.R_mono HO_236001.out (fun _ hk => ⟨hk.2.2.2.1, ⟨hk.2.2.2.2.1, ⟨hk.2.2.2.2.2, hk.2.2.1⟩⟩⟩)⟩, ⟨by (try simp only [hl225001_108]); (try simp only [hl230001_108]); (with_reducible repeat (first | apply Kd.R_alloc | apply Kd.R_drewN | apply Kd.R_drew)); exact Kd.R_mono HO266.out (fun _ hk => ⟨hk.2.2.1, ⟨hk.2.2.2.1, ⟨hk.2.2.2.2.1, hk.2.2.2.2.2⟩⟩⟩)⟩, ⟨by (try simp only [hl225001_108]); (try simp only [hl230001_108]); (with_reducible repeat (first | refine blk_drewN ?_ _ | refine blk_drew ?_ | refine blk_alloc ?_ _)); exact BK202.out⟩, ⟨by (try simp only [hl225001_108]); (try simp only [hl230001_108]); (with_reducible repeat (first | refine blk_drewN ?_ _ | refine blk_drew ?_ | refine blk_alloc ?_ _)); exact BK203.out⟩, ⟨by (try simp only [hl225001_108]); (try simp only [hl230001_108]); (with_reducible repeat (first | refine blk_drewN ?_ _ | refine blk_drew ?_ | refine blk_alloc ?_ _)); exact BK219.out⟩, ⟨by (try simp only [hl225001_108]); (try simp only [hl230001_108]); (with_reducible repeat (first | refine blk_drewN ?_ _ | refine blk_drew ?_ | refine blk_alloc ?_ _)); exact BK224.out⟩, ⟨by (try simp only [hl225001_108]); (try simp only [hl230001_108]); (with_reducible repeat (first | refine blk_drewN ?_ _ | refine blk_drew ?_ | refine blk_alloc ?_ _)); exact BK229.out⟩, ⟨by (try simp only [hl225001_108]); (try simp only [hl230001_108]); (with_reducible repeat (first | refine blk_drewN ?_ _ | refine blk_drew ?_ | refine blk_alloc ?_ _)); exact BK235.out⟩, ⟨by (try simp only [hl225001_108]); (try simp only [hl230001_108]); (with_reducible repeat (first | refine blk_drewN ?_ _ | refine blk_drew ?_ | refine blk_alloc ?_ _)); exact BK268.out⟩, ⟨ms HB⟩⟩
              ·replace c197 := Bool.eq_false_iff.mpr c197
               subst c197
               have H1 : (laws_FnExactAddScaled.j2 kj108 t252 true t230 t253) = some r := by rw [if_neg (show ¬ (false = true) by decide)] at H; exact H
               clear H
               have H := H1
               clear H1
               have H' := Aside0.mk H
               clear H
               have hnb212 := NB268_202.out
               have hnc212 := NB202_268.out
               have hnb213 := NB268_203.out
               have hnc213 := NB203_268.out
               have hnb214 := NB268_219.out
               have hnc214 := NB219_268.out
               have hnb215 := NB268_224.out
               have hnc215 := NB224_268.out
               have hnb216 := NB268_229.out
               have hnc216 := NB229_268.out
               have hnb217 := NB268_235.out
               have hnc217 := NB235_268.out
               obtain ⟨hcz218_0, hcz218_1⟩ := c2 BK268
               have hfz218_0 := blk_frozen BK268.out 0
               have hfz218_1 := blk_frozen BK268.out 1
               have hnb219 := NB219_202.out
               have hnc219 := NB202_219.out
               have hnb220 := NB219_203.out
               have hnc220 := NB203_219.out
               have hnb221 := NB219_224.out
               have hnc221 := NB224_219.out
               have hnb222 := NB219_229.out
               have hnc222 := NB229_219.out
               have hnb223 := NB219_235.out
               have hnc223 := NB235_219.out
               obtain ⟨hcz224_0, hcz224_1⟩ := c2 BK219
               have hfz224_0 := blk_frozen BK219.out 0
               have hfz224_1 := blk_frozen BK219.out 1
               go_wp2_with (first | ((with_reducible refine gate_callee (f := 42) rfl ?_); refine goesL_ (some 109) rfl rfl Try.func42 (by kernel_rfl) rfl #[.agg #[.int .i64 t263, .slice Ao194 t264.length co194], .agg #[.int .i64 t214, .slice Ao43 t215.length co43]] rfl (by (try simp only [List.map_toArray, List.map_cons, List.map_nil]); first | done | rfl | (simp only [List.length_drop, List.length_take]; rfl)) ?_; (with_reducible refine (laws_eqLin.calls kj108 t263 _ _ t264 t214 _ _ t215 false _ ?side1 ?side2 ?side3 ?side4 A196.out).mono ?_); (case side1 => refine (Kd.R_reads' (e := 3) (base := w.heap.size) (ok := fun k_ => (some k_ ≠ (v257 : Value).ownBlock ∧ (some k_ ≠ (v261 : Value).ownBlock ∧ (some k_ ≠ (.slice Ao43 t215.length co43 : Value).ownBlock ∧ (some k_ ≠ (.slice Ao53 t248.length co53 : Value).ownBlock ∧ (some k_ ≠ (.slice Ao63 t250.length co63 : Value).ownBlock ∧ some k_ ≠ (.slice Ao73 t231.length co73 : Value).ownBlock)))))) (n := t264.length) (c := co194) ?_).2.2; exact (by (with_reducible repeat (first | apply Kd.R_alloc | apply Kd.R_drewN | apply Kd.R_drew)); exact (Kd.R_mono (Kd.R_far (p := ⟨gb268, 1, none⟩) (Kd.R_far (p := ⟨gb268, 0, none⟩) (Kd.R_types HO266.out BK268.out (by decide)) (fun _ hk => hk.2) (.int .i64 t263)) (fun _ hk => hk.2) (.slice Ao194 t264.length co194)) (fun _ h_ => h_.1)))); (case side2 => exact (Kd.R_reads' HO266.out).2.1); (case side3 => refine (Kd.R_reads' (e := 3) (base := w.heap.size) (ok := fun k_ => (some k_ ≠ (v257 : Value).ownBlock ∧ (some k_ ≠ (v261 : Value).ownBlock ∧ (some k_ ≠ (.slice Ao194 t264.length co194 : Value).ownBlock ∧ (some k_ ≠ (.slice Ao53 t248.length co53 : Value).ownBlock ∧ (some k_ ≠ (.slice Ao63 t250.length co63 : Value).ownBlock ∧ some k_ ≠ (.slice Ao73 t231.length co73 : Value).ownBlock)))))) (n := t215.length) (c := co43) ?_).2.2; exact (by (with_reducible repeat (first | apply Kd.R_alloc | apply Kd.R_drewN | apply Kd.R_drew)); exact (Kd.R_mono (Kd.R_far (p := ⟨gb268, 1, none⟩) (Kd.R_far (p := ⟨gb268, 0, none⟩) (Kd.R_types HO_220001.out BK268.out (by decide)) (fun _ hk => hk.2) (.int .i64 t263)) (fun _ hk => hk.2) (.slice Ao194 t264.length co194)) (fun _ h_ => h_.1)))); (case side4 => exact (Kd.R_reads' HO_220001.out).2.1); rintro e w225 ⟨rfl, hb⟩; refine ⟨_, rfl, ?_⟩; have n0_ := Aside0.mk (Kd.R_below (by (with_reducible repeat (first | apply Kd.R_alloc | apply Kd.R_drewN | apply Kd.R_drew)); exact (Kd.R_mono (Kd.R_far (p := ⟨gb268, 1, none⟩) (Kd.R_far (p := ⟨gb268, 0, none⟩) (Kd.R_types HO_220001.out BK268.out (by decide)) (fun _ hk => hk.2) (.int .i64 t263)) (fun _ hk => hk.2) (.slice Ao194 t264.length co194)) (fun _ h_ => h_.1))) hb); have n1_ := Aside0.mk (Kd.R_below (by (with_reducible repeat (first | apply Kd.R_alloc | apply Kd.R_drewN | apply Kd.R_drew)); exact (Kd.R_mono (Kd.R_far (p := ⟨gb268, 1, none⟩) (Kd.R_far (p := ⟨gb268, 0, none⟩) (Kd.R_types HO_225001.out BK268.out (by decide)) (fun _ hk => hk.2) (.int .i64 t263)) (fun _ hk => hk.2) (.slice Ao194 t264.length co194)) (fun _ h_ => h_.1))) hb); have n2_ := Aside0.mk (Kd.R_below (by (with_reducible repeat (first | apply Kd.R_alloc | apply Kd.R_drewN | apply Kd.R_drew)); exact (Kd.R_mono (Kd.R_far (p := ⟨gb268, 1, none⟩) (Kd.R_far (p := ⟨gb268, 0, none⟩) (Kd.R_types HO_230001.out BK268.out (by decide)) (fun _ hk => hk.2) (.int .i64 t263)) (fun _ hk => hk.2) (.slice Ao194 t264.length co194)) (fun _ h_ => h_.1))) hb); have n3_ := Aside0.mk (Kd.R_below (by (with_reducible repeat (first | apply Kd.R_alloc | apply Kd.R_drewN | apply Kd.R_drew)); exact (Kd.R_mono (Kd.R_far (p := ⟨gb268, 1, none⟩) (Kd.R_far (p := ⟨gb268, 0, none⟩) (Kd.R_types HO_236001.out BK268.out (by decide)) (fun _ hk => hk.2) (.int .i64 t263)) (fun _ hk => hk.2) (.slice Ao194 t264.length co194)) (fun _ h_ => h_.1))) hb); have n4_ := Aside0.mk (Kd.R_below (by (with_reducible repeat (first | apply Kd.R_alloc | apply Kd.R_drewN | apply Kd.R_drew)); exact (Kd.R_mono (Kd.R_far (p := ⟨gb268, 1, none⟩) (Kd.R_far (p := ⟨gb268, 0, none⟩) (Kd.R_types HO258.out BK268.out (by decide)) (fun _ hk => hk.2) (.int .i64 t263)) (fun _ hk => hk.2) (.slice Ao194 t264.length co194)) (fun _ h_ => h_.1))) hb); have n5_ := Aside0.mk (Kd.R_below (by (with_reducible repeat (first | apply Kd.R_alloc | apply Kd.R_drewN | apply Kd.R_drew)); exact (Kd.R_mono (Kd.R_far (p := ⟨gb268, 1, none⟩) (Kd.R_far (p := ⟨gb268, 0, none⟩) (Kd.R_types HO262.out BK268.out (by decide)) (fun _ hk => hk.2) (.int .i64 t263)) (fun _ hk => hk.2) (.slice Ao194 t264.length co194)) (fun _ h_ => h_.1))) hb); have n6_ := Aside0.mk (Kd.R_below (by (with_reducible repeat (first | apply Kd.R_alloc | apply Kd.R_drewN | apply Kd.R_drew)); exact (Kd.R_mono (Kd.R_far (p := ⟨gb268, 1, none⟩) (Kd.R_far (p := ⟨gb268, 0, none⟩) (Kd.R_types HO266.out BK268.out (by decide)) (fun _ hk => hk.2) (.int .i64 t263)) (fun _ hk => hk.2) (.slice Ao194 t264.length co194)) (fun _ h_ => h_.1))) hb); have n7_ := bf BK202 hb; have n8_ := bf BK203 hb; have n9_ := bf BK219 hb; have n10_ := bf BK224 hb; have n11_ := bf BK229 hb; have n12_ := bf BK235 hb; have n13_ := Aside0.mk (blk_below (g := gb268) (o := .cells #[.int .i64 t263, .slice Ao194 t264.length co194] 51 (0, 0)) (by (with_reducible repeat (first | refine blk_drewN ?_ _ | refine blk_drew ?_ | refine blk_alloc ?_ _)); refine blk_put (cs := #[.int .i64 t263, .slice none 0 0]) ?_ 1 _ rfl; (with_reducible repeat (first | refine blk_drewN ?_ _ | refine blk_drew ?_ | refine blk_alloc ?_ _)); refine blk_put (cs := #[.int .i64 0, .slice none 0 0]) ?_ 0 _ rfl; (with_reducible repeat (first | refine blk_drewN ?_ _ | refine blk_drew ?_ | refine blk_alloc ?_ _)); exact BK268.out) hb); have n14_ := bs HB hb; clear HO_220001 HO_225001 HO_230001 HO_236001 HO258 HO262 HO266 BK202 BK203 BK219 BK224 BK229 BK235 BK268 HB; have HO_220001 := n0_; have HO_225001 := n1_; have HO_230001 := n2_; have HO_236001 := n3_; have HO258 := n4_; have HO262 := n5_; have HO266 := n6_; have BK202 := n7_; have BK203 := n8_; have BK219 := n9_; have BK224 := n10_; have BK229 := n11_; have BK235 := n12_; have BK268 := n13_; have HB := n14_; clear n0_ n1_ n2_ n3_ n4_ n5_ n6_ n7_ n8_ n9_ n10_ n11_ n12_ n13_ n14_; (try clear hb)))
               go_meet
               case rel => exact ⟨_, (true), (by first | rfl | (simp; done) | (simp [*]; done)), H', ⟨by have := HJ25.out; have := HJ108.out; first | omega | exact Nat.le_refl _⟩, ⟨by (try simp only [hl225001_108]); (try simp only [hl230001_108]); (with_reducible repeat (first | apply Kd.R_alloc | apply Kd.R_drewN | apply Kd.R_drew)); exact Kd.R_mono HO_220001.out (fun _ hk => ⟨hk.2.2.2.1, ⟨hk.2.2.2.2.1, ⟨hk.2.2.2.2.2, hk.2.2.1⟩⟩⟩)⟩, ⟨by (try simp only [hl225001_108]); (try simp only [hl230001_108]); (with_reducible repeat (first | apply Kd.R_alloc | apply Kd.R_drewN | apply Kd.R_drew)); exact Kd.R_mono HO_225001.out (fun _ hk => ⟨hk.2.2.2.1, ⟨hk.2.2.2.2.1, ⟨hk.2.2.2.2.2, hk.2.2.1⟩⟩⟩)⟩, ⟨by (try simp only [hl225001_108]); (try simp only [hl230001_108]); (with_reducible repeat (first | apply Kd.R_alloc | apply Kd.R_drewN | apply Kd.R_drew)); exact Kd.R_mono HO_230001.out (fun _ hk => ⟨hk.2.2.2.1, ⟨hk.2.2.2.2.1, ⟨hk.2.2.2.2.2, hk.2.2.1⟩⟩⟩)⟩, ⟨by (try simp only [hl225001_108]); (try simp only [hl230001_108]); (with_reducible repeat (first | apply Kd.R_alloc | apply Kd.R_drewN | apply Kd.R_drew)); exact Kd.R_mono HO_236001.out (fun _ hk => ⟨hk.2.2.2.1, ⟨hk.2.2.2.2.1, ⟨hk.2.2.2.2.2, hk.2.2.1⟩⟩⟩)⟩, ⟨by (try simp only [hl225001_108]); (try simp only [hl230001_108]); (with_reducible repeat (first | apply Kd.R_alloc | apply Kd.R_drewN | apply Kd.R_drew)); exact Kd.R_mono HO266.out (fun _ hk => ⟨hk.2.2.1, ⟨hk.2.2.2.1, ⟨hk.2.2.2.2.1, hk.2.2.2.2.2⟩⟩⟩)⟩, ⟨by (try simp only [hl225001_108]); (try simp only [hl230001_108]); (with_reducible repeat (first | refine blk_drewN ?_ _ | refine blk_drew ?_ | refine blk_alloc ?_ _)); exact BK202.out⟩, ⟨by (try simp only [hl225001_108]); (try simp only [hl230001_108]); (with_reducible repeat (first | refine blk_drewN ?_ _ | refine blk_drew ?_ | refine blk_alloc ?_ _)); exact BK203.out⟩, ⟨by (try simp only [hl225001_108]); (try simp only [hl230001_108]); (with_reducible repeat (first | refine blk_drewN ?_ _ | refine blk_drew ?_ | refine blk_alloc ?_ _)); exact BK219.out⟩, ⟨by (try simp only [hl225001_108]); (try simp only [hl230001_108]); (with_reducible repeat (first | refine blk_drewN ?_ _ | refine blk_drew ?_ | refine blk_alloc ?_ _)); exact BK224.out⟩, ⟨by (try simp only [hl225001_108]); (try simp only [hl230001_108]); (with_reducible repeat (first | refine blk_drewN ?_ _ | refine blk_drew ?_ | refine blk_alloc ?_ _)); exact BK229.out⟩, ⟨by (try simp only [hl225001_108]); (try simp only [hl230001_108]); (with_reducible repeat (first | refine blk_drewN ?_ _ | refine blk_drew ?_ | refine blk_alloc ?_ _)); exact BK235.out⟩, ⟨by (try simp only [hl225001_108]); (try simp only [hl230001_108]); (with_reducible repeat (first | refine blk_drewN ?_ _ | refine blk_drew ?_ | refine blk_alloc ?_ _)); exact BK268.out⟩, ⟨ms HB⟩⟩
             case rest =>
              clear HC175
              try clear c1
              try clear c2
              try clear p2
              try clear c4
              try clear c19
              try clear c20
              try clear c21
              try clear c22
              try clear c40
              try clear c41
              try clear c42
              try clear c197
              try clear c198
              try clear c199
              try clear c200
              try clear c201
              try clear c202
              try clear c203
              try clear c205
              try clear c206
              try clear c207
              try clear c208
              try clear c209
              try clear c212
              try clear c213
              try clear c214
              try clear c215
              try clear c216
              try clear c217
              try clear c219
              try clear c220
              try clear c221
              try clear c222
              try clear c223
              try clear hcz204_0
              try clear hcz204_1
              try clear hcz210_0
              try clear hcz210_1
              try clear hcz218_0
              try clear hcz218_1
              try clear hcz224_0
              try clear hcz224_1
              try clear hfz204_0
              try clear hfz204_1
              try clear hfz210_0
              try clear hfz210_1
              try clear hfz218_0
              try clear hfz218_1
              try clear hfz224_0
              try clear hfz224_1
              obtain ⟨kq, x115_174, rfl, HA, HJ174, HO_220001, HO_225001, HO_230001, HO_236001, HO_269001, BK202, BK203, BK219, BK224, BK229, BK235, BK268, HB⟩ := hcut
              have hl236001_174 := (Kd.R_reads' HO_236001.out).1
              rw [hl236001_174] at HO_236001
              (try simp only [hl236001_174])
              (try simp only [hl236001_174] at BK202)
              (try simp only [hl236001_174] at BK203)
              (try simp only [hl236001_174] at BK219)
              (try simp only [hl236001_174] at BK224)
              (try simp only [hl236001_174] at BK229)
              (try simp only [hl236001_174] at BK235)
              (try simp only [hl236001_174] at BK268)
              (try simp only [hl236001_174] at HO_220001)
              (try simp only [hl236001_174] at HO_225001)
              (try simp only [hl236001_174] at HO_230001)
              (try simp only [hl236001_174] at HO_269001)
              cases kq with
              | zero => exact absurd HA.out (by simp [laws_FnExactAddScaled.j2])
              | succ kj174 =>
               have H := HA.out
               clear HA
               simp only [laws_FnExactAddScaled.j2] at H
               by_cases c226 : x115_174 = true
               ·subst c226
                have H1 : (some false) = some r := by rw [if_pos rfl] at H; exact H
                clear H
                have H := H1
                clear H1
                obtain rfl := Option.some.inj H
                go_wp2
                go_ret
                exact ⟨by first | rfl | (simp [errW_none, errW_some] <;> rfl) | (simp [*, errW_none, errW_some] <;> rfl), ms HB⟩
               ·replace c226 := Bool.eq_false_iff.mpr c226
                subst c226
                have H1 : ((laws_heldLin.f kj174 t230 t253 1).bind fun t270 => (if t270 < 0 then (some false) else (if t270 = t252 then (some true) else (some false)))) = some r := by rw [if_neg (show ¬ (false = true) by decide)] at H; exact H
                clear H
                have H := H1
                clear H1
                replace H := Option.bind_eq_some_iff.mp H
                obtain ⟨t270, A2270, H⟩ := H
                replace H : (if t270 < 0 then (some false) else (if t270 = t252 then (some true) else (some false))) = some r := H
                have A227 := Aside0.mk A2270
                clear A2270
                by_cases c228 : t270 < 0
                ·rw [if_pos c228] at H
                 have c228b0 : decide (t270 < 0) = true := decide_eq_true c228
                 clear c228
                 obtain rfl := Option.some.inj H
                 have hnb229 := NB235_202.out
                 have hnc229 := NB202_235.out
                 have hnb230 := NB235_203.out
                 have hnc230 := NB203_235.out
                 have hnb231 := NB235_219.out
                 have hnc231 := NB219_235.out
                 have hnb232 := NB235_224.out
                 have hnc232 := NB224_235.out
                 have hnb233 := NB235_229.out
                 have hnc233 := NB229_235.out
                 have hnb234 := NB235_268.out
                 have hnc234 := NB268_235.out
                 obtain ⟨hcz235_0, hcz235_1⟩ := c2 BK235
                 have hfz235_0 := blk_frozen BK235.out 0
                 have hfz235_1 := blk_frozen BK235.out 1
                 go_wp2_with (first | ((with_reducible refine gate_callee (f := 44) rfl ?_); refine goesL_ (some 118) rfl rfl Try.func44 (by kernel_rfl) rfl #[.agg #[.int .i64 t230, .slice Ao73 t253.length co73], .int .i64 1] rfl (by (try simp only [List.map_toArray, List.map_cons, List.map_nil]); first | done | rfl | (simp only [List.length_drop, List.length_take]; rfl)) ?_; (with_reducible refine (laws_heldLin.calls kj174 t230 _ _ t253 1 t270 _ ?side1 ?side2 A227.out).mono ?_); (case side1 => exact mc ((Kd.R_reads' HO_236001.out).2.2)); (case side2 => exact (Kd.R_reads' HO_236001.out).2.1); rintro e w236 ⟨rfl, hb⟩; refine ⟨_, rfl, ?_⟩; replace HO_220001 := rb HO_220001 hb; replace HO_225001 := rb HO_225001 hb; replace HO_230001 := rb HO_230001 hb; replace HO_236001 := rb HO_236001 hb; replace HO_269001 := rb HO_269001 hb; replace BK202 := bb BK202 hb; replace BK203 := bb BK203 hb; replace BK219 := bb BK219 hb; replace BK224 := bb BK224 hb; replace BK229 := bb BK229 hb; replace BK235 := bb BK235 hb; replace BK268 := bb BK268 hb; replace HB := bs HB hb; (try clear hb)))
                 go_ret
                 exact ⟨by first | rfl | (simp [errW_none, errW_some] <;> rfl) | (simp [*, errW_none, errW_some] <;> rfl), ms HB⟩
                ·rw [if_neg c228] at H
                 have c228b0 : decide (t270 < 0) = false := decide_eq_false c228
                 clear c228
                 by_cases c237 : t270 = t252
                 ·rw [if_pos c237] at H
                  have c237b0 : (t270 == t252) = true := beq_iff_eq.mpr c237
                  have c237b1 : (t270 != t252) = false := bne_eq_false_iff_eq.mpr c237
                  clear c237
                  obtain rfl := Option.some.inj H
                  have hnb238 := NB235_202.out
                  have hnc238 := NB202_235.out
                  have hnb239 := NB235_203.out
                  have hnc239 := NB203_235.out
                  have hnb240 := NB235_219.out
                  have hnc240 := NB219_235.out
                  have hnb241 := NB235_224.out
                  have hnc241 := NB224_235.out
                  have hnb242 := NB235_229.out
                  have hnc242 := NB229_235.out
                  have hnb243 := NB235_268.out
                  have hnc243 := NB268_235.out
                  obtain ⟨hcz244_0, hcz244_1⟩ := c2 BK235
                  have hfz244_0 := blk_frozen BK235.out 0
                  have hfz244_1 := blk_frozen BK235.out 1
                  go_wp2_with (first | ((with_reducible refine gate_callee (f := 44) rfl ?_); refine goesL_ (some 118) rfl rfl Try.func44 (by kernel_rfl) rfl #[.agg #[.int .i64 t230, .slice Ao73 t253.length co73], .int .i64 1] rfl (by (try simp only [List.map_toArray, List.map_cons, List.map_nil]); first | done | rfl | (simp only [List.length_drop, List.length_take]; rfl)) ?_; (with_reducible refine (laws_heldLin.calls kj174 t230 _ _ t253 1 t270 _ ?side1 ?side2 A227.out).mono ?_); (case side1 => exact mc ((Kd.R_reads' HO_236001.out).2.2)); (case side2 => exact (Kd.R_reads' HO_236001.out).2.1); rintro e w245 ⟨rfl, hb⟩; refine ⟨_, rfl, ?_⟩; replace HO_220001 := rb HO_220001 hb; replace HO_225001 := rb HO_225001 hb; replace HO_230001 := rb HO_230001 hb; replace HO_236001 := rb HO_236001 hb; replace HO_269001 := rb HO_269001 hb; replace BK202 := bb BK202 hb; replace BK203 := bb BK203 hb; replace BK219 := bb BK219 hb; replace BK224 := bb BK224 hb; replace BK229 := bb BK229 hb; replace BK235 := bb BK235 hb; replace BK268 := bb BK268 hb; replace HB := bs HB hb; (try clear hb)))
                  go_ret
                  exact ⟨by first | rfl | (simp [errW_none, errW_some] <;> rfl) | (simp [*, errW_none, errW_some] <;> rfl), ms HB⟩
                 ·rw [if_neg c237] at H
                  have c237b0 : (t270 == t252) = false := beq_eq_false_iff_ne.mpr c237
                  have c237b1 : (t270 != t252) = true := bne_iff_ne.mpr c237
                  obtain rfl := Option.some.inj H
                  have hnb246 := NB235_202.out
                  have hnc246 := NB202_235.out
                  have hnb247 := NB235_203.out
                  have hnc247 := NB203_235.out
                  have hnb248 := NB235_219.out
                  have hnc248 := NB219_235.out
                  have hnb249 := NB235_224.out
                  have hnc249 := NB224_235.out
                  have hnb250 := NB235_229.out
                  have hnc250 := NB229_235.out
                  have hnb251 := NB235_268.out
                  have hnc251 := NB268_235.out
                  obtain ⟨hcz252_0, hcz252_1⟩ := c2 BK235
                  have hfz252_0 := blk_frozen BK235.out 0
                  have hfz252_1 := blk_frozen BK235.out 1
                  go_wp2_with (first | ((with_reducible refine gate_callee (f := 44) rfl ?_); refine goesL_ (some 118) rfl rfl Try.func44 (by kernel_rfl) rfl #[.agg #[.int .i64 t230, .slice Ao73 t253.length co73], .int .i64 1] rfl (by (try simp only [List.map_toArray, List.map_cons, List.map_nil]); first | done | rfl | (simp only [List.length_drop, List.length_take]; rfl)) ?_; (with_reducible refine (laws_heldLin.calls kj174 t230 _ _ t253 1 t270 _ ?side1 ?side2 A227.out).mono ?_); (case side1 => exact mc ((Kd.R_reads' HO_236001.out).2.2)); (case side2 => exact (Kd.R_reads' HO_236001.out).2.1); rintro e w253 ⟨rfl, hb⟩; refine ⟨_, rfl, ?_⟩; replace HO_220001 := rb HO_220001 hb; replace HO_225001 := rb HO_225001 hb; replace HO_230001 := rb HO_230001 hb; replace HO_236001 := rb HO_236001 hb; replace HO_269001 := rb HO_269001 hb; replace BK202 := bb BK202 hb; replace BK203 := bb BK203 hb; replace BK219 := bb BK219 hb; replace BK224 := bb BK224 hb; replace BK229 := bb BK229 hb; replace BK235 := bb BK235 hb; replace BK268 := bb BK268 hb; replace HB := bs HB hb; (try clear hb)))
                  go_ret
                  exact ⟨by first | rfl | (simp [errW_none, errW_some] <;> rfl) | (simp [*, errW_none, errW_some] <;> rfl), ms HB⟩
            ·rw [if_neg c171] at H
             have c171b0 : (t254 == t252) = false := beq_eq_false_iff_ne.mpr c171
             have c171b1 : (t254 != t252) = true := bne_iff_ne.mpr c171
             obtain rfl := Option.some.inj H
             have hnb254 := NB235_202.out
             have hnc254 := NB202_235.out
             have hnb255 := NB235_203.out
             have hnc255 := NB203_235.out
             have hnb256 := NB235_219.out
             have hnc256 := NB219_235.out
             have hnb257 := NB235_224.out
             have hnc257 := NB224_235.out
             have hnb258 := NB235_229.out
             have hnc258 := NB229_235.out
             obtain ⟨hcz259_0, hcz259_1⟩ := c2 BK235
             have hfz259_0 := blk_frozen BK235.out 0
             have hfz259_1 := blk_frozen BK235.out 1
             go_wp2_with (first | ((with_reducible refine gate_callee (f := 43) rfl ?_); refine goesL_ (some 89) rfl rfl Try.func43 (by kernel_rfl) rfl #[.agg #[.int .i64 t230, .slice Ao73 t231.length co73], .int .i64 1] rfl (by (try simp only [List.map_toArray, List.map_cons, List.map_nil]); first | done | rfl | (simp only [List.length_drop, List.length_take]; rfl)) ?_; (with_reducible refine (laws_markLin.calls kj108 t230 (fun k_ => some k_ = (.slice Ao73 t231.length co73 : Value).ownBlock) (.slice Ao73 t231.length co73) t231 1 t252 t253 w _ ?side1 ?side2 A159.out).mono ?_); (case side1 => repeat (first | (with_reducible first | exact HB.out | apply below_alloc | apply pw_below_drewN | apply below_drew1 | refine below_set ?_ GE202.out | refine below_set ?_ GE203.out | refine below_set ?_ GE219.out | refine below_set ?_ GE224.out | refine below_set ?_ GE229.out | refine below_set ?_ GE235.out) | exact HB.out)); (case side2 => exact Kd.R_tight rfl HO_236001.out); rintro e w260 ⟨rfl, hy0, hb, hkp⟩; refine ⟨_, rfl, ?_⟩; replace HO_220001 := Aside0.mk (Kd.R_mono (ok' := fun k_ => some k_ ≠ (.slice Ao53 t248.length co53 : Value).ownBlock ∧ some k_ ≠ (.slice Ao63 t250.length co63 : Value).ownBlock ∧ some k_ ≠ (.slice Ao73 t231.length co73 : Value).ownBlock) (Kd.R_keptB (HO_220001.out) hkp (fun k_ hk_ hs_ => (hk_.2.2) hs_)) (fun k_ hk_ => ⟨hk_.1.1, hk_.1.2.1, hk_.1.2.2⟩)); replace HO_225001 := Aside0.mk (Kd.R_mono (ok' := fun k_ => some k_ ≠ (.slice Ao43 t215.length co43 : Value).ownBlock ∧ some k_ ≠ (.slice Ao63 t250.length co63 : Value).ownBlock ∧ some k_ ≠ (.slice Ao73 t231.length co73 : Value).ownBlock) (Kd.R_keptB (HO_225001.out) hkp (fun k_ hk_ hs_ => (hk_.2.2) hs_)) (fun k_ hk_ => ⟨hk_.1.1, hk_.1.2.1, hk_.1.2.2⟩)); replace HO_230001 := Aside0.mk (Kd.R_mono (ok' := fun k_ => some k_ ≠ (.slice Ao43 t215.length co43 : Value).ownBlock ∧ some k_ ≠ (.slice Ao53 t248.length co53 : Value).ownBlock ∧ some k_ ≠ (.slice Ao73 t231.length co73 : Value).ownBlock) (Kd.R_keptB (HO_230001.out) hkp (fun k_ hk_ hs_ => (hk_.2.2) hs_)) (fun k_ hk_ => ⟨hk_.1.1, hk_.1.2.1, hk_.1.2.2⟩)); replace BK202 := Aside0.mk (blk_kept (mb BK202) hkp (fun hs_ => (fun e_ => (Kd.R_ne HO_236001.out BK202.out (by decide)) e_) hs_)); replace BK203 := Aside0.mk (blk_kept (mb BK203) hkp (fun hs_ => (fun e_ => (Kd.R_ne HO_236001.out BK203.out (by decide)) e_) hs_)); replace BK219 := Aside0.mk (blk_kept (mb BK219) hkp (fun hs_ => (fun e_ => (Kd.R_ne HO_236001.out BK219.out (by decide)) e_) hs_)); replace BK224 := Aside0.mk (blk_kept (mb BK224) hkp (fun hs_ => (fun e_ => (Kd.R_ne HO_236001.out BK224.out (by decide)) e_) hs_)); replace BK229 := Aside0.mk (blk_kept (mb BK229) hkp (fun hs_ => (fun e_ => (Kd.R_ne HO_236001.out BK229.out (by decide)) e_) hs_)); replace BK235 := Aside0.mk (blk_kept (mb BK235) hkp (fun hs_ => (fun e_ => (Kd.R_ne HO_236001.out BK235.out (by decide)) e_) hs_)); replace HO_236001 := Aside0.mk (Kd.R_reok rfl hy0 (fun k_ e_ => HO_236001.out.1 k_ e_)); replace HB := Aside0.mk (hb); (try clear hb); (try clear hkp); (try clear hy0); obtain ⟨hcz261_0, hcz261_1⟩ := c2 BK235; have hfz261_0 := blk_frozen BK235.out 0; have hfz261_1 := blk_frozen BK235.out 1) | ((with_reducible refine gate_callee (f := 44) rfl ?_); refine goesL_ (some 92) rfl rfl Try.func44 (by kernel_rfl) rfl #[.agg #[.int .i64 t230, .slice Ao73 t253.length co73], .int .i64 1] rfl (by (try simp only [List.map_toArray, List.map_cons, List.map_nil]); first | done | (rw [show t253.length = t231.length from (Kd.R_reads' HO_236001.out).1.symm] <;> rfl) | rfl | (simp only [List.length_drop, List.length_take]; rfl)) ?_; (with_reducible refine (laws_heldLin.calls kj108 t230 _ _ t253 1 t254 _ ?side1 ?side2 A160.out).mono ?_); (case side1 => exact mc ((Kd.R_reads' HO_236001.out).2.2)); (case side2 => rw [show t253.length = t231.length from (Kd.R_reads' HO_236001.out).1.symm]; exact (Kd.R_reads' HO_236001.out).2.1); rintro e w262 ⟨rfl, hb⟩; refine ⟨_, rfl, ?_⟩; replace HO_220001 := rb HO_220001 hb; replace HO_225001 := rb HO_225001 hb; replace HO_230001 := rb HO_230001 hb; replace HO_236001 := rb HO_236001 hb; replace BK202 := bb BK202 hb; replace BK203 := bb BK203 hb; replace BK219 := bb BK219 hb; replace BK224 := bb BK224 hb; replace BK229 := bb BK229 hb; replace BK235 := bb BK235 hb; replace HB := bs HB hb; (try clear hb)))
             go_ret
             exact ⟨by first | rfl | (simp [errW_none, errW_some] <;> rfl) | (simp [*, errW_none, errW_some] <;> rfl), ms HB⟩
       ·replace c106 := Bool.eq_false_iff.mpr c106
        subst c106
        have H1 : (some false) = some r := by rw [if_neg (show ¬ (false = true) by decide)] at H; exact H
        clear H
        have H := H1
        clear H1
        obtain rfl := Option.some.inj H
        try go_wp2
        replace HO_220001 := Aside0.mk (Kd.R_drew HO_220001.out)
        replace HO_225001 := Aside0.mk (Kd.R_drew HO_225001.out)
        replace HO_230001 := Aside0.mk (Kd.R_drew HO_230001.out)
        replace HO_236001 := Aside0.mk (Kd.R_drew HO_236001.out)
        replace BK202 := Aside0.mk (blk_drew BK202.out)
        replace BK203 := Aside0.mk (blk_drew BK203.out)
        replace BK219 := Aside0.mk (blk_drew BK219.out)
        replace BK224 := Aside0.mk (blk_drew BK224.out)
        replace BK229 := Aside0.mk (blk_drew BK229.out)
        replace BK235 := Aside0.mk (blk_drew BK235.out)
        replace HB := Aside0.mk (below_drew1 HB.out)
        refine start_ (n := 5) (S := fun w' => w'.cell? ⟨gb224, 0, none⟩ = some (.int .i64 t220) ∧ w'.cell? ⟨gb224, 1, none⟩ = some (.slice Ao53 t221.length co53) ∧ w'.cell? ⟨gb202, 0, none⟩ = some (.int .i64 a0_0) ∧ w'.cell? ⟨gb202, 1, none⟩ = some (.slice A0_1 l0_1.length c0_1)) (ds := []) #[false, false, false, false, false] (by kernel_rfl) rfl rfl ⟨(c2 BK224).1, (c2 BK224).2, (c2 BK202).1, (c2 BK202).2⟩ (fun hHeld => ?_)
        generalize wc.drew = w263 at HO_220001 HO_225001 HO_230001 HO_236001 BK202 BK203 BK219 BK224 BK229 BK235 HB hHeld ⊢
        refine take_ (i := 0) (N := some 58) (v := ?_) (a' := ?_) #[true, false, false, false, false] rfl rfl (by kernel_rfl) (fun _ _ _ h => h) (Or.inl ⟨by rfl, ?_⟩) hHeld ?_ ?_
        rotate_left
        ·rintro w' ⟨s0, s1, s2, s3⟩
         go_simp
         with_reducible rfl
        rotate_left
        ·simp only [Act.put, List.setIfInBounds_toArray, List.set_cons_zero, List.set_cons_succ, i64_w, i32_w]
         rfl
        refine take_ (i := 1) (N := some 59) (v := ?_) (a' := ?_) #[true, true, false, false, false] rfl rfl (by kernel_rfl) (fun _ _ _ h => h) (Or.inl ⟨by rfl, ?_⟩) hHeld ?_ ?_
        rotate_left
        ·rintro w' ⟨s0, s1, s2, s3⟩
         go_simp
         with_reducible rfl
        rotate_left
        ·simp only [Act.put, List.setIfInBounds_toArray, List.set_cons_zero, List.set_cons_succ, i64_w, i32_w]
         rfl
        refine one_ (i := 2) (N := some 60) #[true, true, true, false, false] rfl rfl (by kernel_rfl) (by decide) (fun K hK => ?_)
        refine goes_ Try.func40 (by kernel_rfl) rfl #[.agg #[.int .i64 a0_0, .slice A0_1 l0_1.length c0_1]] (by rfl) rfl rfl (by (try simp only [List.map_toArray, List.map_cons, List.map_nil]); first | done | rfl | (simp only [List.length_drop, List.length_take]; rfl)) ?_
        with_reducible refine (laws_toLin.calls kj25 a0_0 _ _ l0_1 t237 t238 _ ?side1 ?side2 A101.out).mono ?_
        (case side1 => exact mc ((Kd.C_below HR0_1.out HB.out)))
        (case side2 => exact HC0_1.out)
        rintro e w264 ⟨v239, rfl, ho0, hb⟩
        refine ⟨_, rfl, ?_⟩
        have HO240 := Aside0.mk (Kd.R_lower (Kd.R_new' (Kd.R_new' (Kd.R_new' (Kd.R_new' ho0 (Kd.R_lt (mr HO_220001))) (Kd.R_lt (mr HO_225001))) (Kd.R_lt (mr HO_230001))) (Kd.R_lt (mr HO_236001))) (below_size (ms HB)))
        replace HO_220001 := rl HO_220001 ho0 hb
        replace HO_225001 := rl HO_225001 ho0 hb
        replace HO_230001 := rl HO_230001 ho0 hb
        replace HO_236001 := rl HO_236001 ho0 hb
        replace BK202 := bb BK202 hb
        replace BK203 := bb BK203 hb
        replace BK219 := bb BK219 hb
        replace BK224 := bb BK224 hb
        replace BK229 := bb BK229 hb
        replace BK235 := bb BK235 hb
        replace HB := bs HB hb
        (try clear hb)
        (try clear hb2)
        (try clear hk)
        (try clear hi)
        (try clear ho0)
        obtain ⟨Ao265, co265, eo265⟩ := Kd.R_slice HO240.out
        (first | subst eo265 | (injection eo265 with f1_ f2_ f3_; have f4_ := f1_.symm; have f5_ := f3_.symm; clear f1_ f2_ f3_; subst f4_; subst f5_))
        refine hK.out _ _ ⟨(c2 BK224).1, (c2 BK224).2, (c2 BK202).1, (c2 BK202).2⟩ (fun hHeld => ?_)
        clear hK K
        refine norm_ (a' := ?_) ?_ ?_
        rotate_left
        ·show Act.put _ (some 60) _ = _
         simp only [Act.put, List.setIfInBounds_toArray, List.set_cons_zero, List.set_cons_succ, i64_w, i32_w]
         rfl
        refine one_ (i := 3) (N := some 61) #[true, true, true, true, false] rfl rfl (by kernel_rfl) (by decide) (fun K hK => ?_)
        refine goes_ Try.func42 (by kernel_rfl) rfl #[.agg #[.int .i64 t220, .slice Ao53 t221.length co53], .agg #[.int .i64 t237, .slice Ao265 t238.length co265]] (by rfl) rfl rfl (by (try simp only [List.map_toArray, List.map_cons, List.map_nil]); first | done | rfl | (simp only [List.length_drop, List.length_take]; rfl)) ?_
        with_reducible refine (laws_eqLin.calls kj25 t220 _ _ t221 t237 _ _ t238 true _ ?side1 ?side2 ?side3 ?side4 A102.out).mono ?_
        (case side1 => exact mc ((Kd.R_reads' HO_225001.out).2.2))
        (case side2 => exact (Kd.R_reads' HO_225001.out).2.1)
        (case side3 => exact mc ((Kd.R_reads' HO240.out).2.2))
        (case side4 => exact (Kd.R_reads' HO240.out).2.1)
        rintro e w266 ⟨rfl, hb⟩
        refine ⟨_, rfl, ?_⟩
        replace HO_220001 := rb HO_220001 hb
        replace HO_225001 := rb HO_225001 hb
        replace HO_230001 := rb HO_230001 hb
        replace HO_236001 := rb HO_236001 hb
        replace HO240 := rb HO240 hb
        replace BK202 := bb BK202 hb
        replace BK203 := bb BK203 hb
        replace BK219 := bb BK219 hb
        replace BK224 := bb BK224 hb
        replace BK229 := bb BK229 hb
        replace BK235 := bb BK235 hb
        replace HB := bs HB hb
        (try clear hb)
        (try clear hb2)
        (try clear hk)
        (try clear hi)
        refine hK.out _ _ ⟨(c2 BK224).1, (c2 BK224).2, (c2 BK202).1, (c2 BK202).2⟩ (fun hHeld => ?_)
        clear hK K
        refine norm_ (a' := ?_) ?_ ?_
        rotate_left
        ·show Act.put _ (some 61) _ = _
         simp only [Act.put, List.setIfInBounds_toArray, List.set_cons_zero, List.set_cons_succ, i64_w, i32_w]
         rfl
        refine pure_ (i := 4) (N := some 62) (v := ?_) (a' := ?_) #[true, true, true, true, true] rfl rfl (by kernel_rfl) (fun _ _ _ h => h) (Or.inl ⟨by rfl, ?_⟩) ?_ ?_
        rotate_left
        ·intro w'
         go_simp
         with_reducible rfl
        rotate_left
        ·simp only [Act.put, List.setIfInBounds_toArray, List.set_cons_zero, List.set_cons_succ, i64_w, i32_w]
         rfl
        refine done_ (by kernel_rfl) ?_
        try go_wp2
        replace HO_220001 := Aside0.mk (Kd.R_drew HO_220001.out)
        replace HO_225001 := Aside0.mk (Kd.R_drew HO_225001.out)
        replace HO_230001 := Aside0.mk (Kd.R_drew HO_230001.out)
        replace HO_236001 := Aside0.mk (Kd.R_drew HO_236001.out)
        replace HO240 := Aside0.mk (Kd.R_drew HO240.out)
        replace BK202 := Aside0.mk (blk_drew BK202.out)
        replace BK203 := Aside0.mk (blk_drew BK203.out)
        replace BK219 := Aside0.mk (blk_drew BK219.out)
        replace BK224 := Aside0.mk (blk_drew BK224.out)
        replace BK229 := Aside0.mk (blk_drew BK229.out)
        replace BK235 := Aside0.mk (blk_drew BK235.out)
        replace HB := Aside0.mk (below_drew1 HB.out)
        refine start_ (n := 5) (S := fun w' => w'.cell? ⟨gb229, 0, none⟩ = some (.int .i64 t225) ∧ w'.cell? ⟨gb229, 1, none⟩ = some (.slice Ao63 t226.length co63) ∧ w'.cell? ⟨gb203, 0, none⟩ = some (.int .i64 a2_0) ∧ w'.cell? ⟨gb203, 1, none⟩ = some (.slice A2_1 l2_1.length c2_1)) (ds := []) #[false, false, false, false, false] (by kernel_rfl) rfl rfl ⟨(c2 BK229).1, (c2 BK229).2, (c2 BK203).1, (c2 BK203).2⟩ (fun hHeld => ?_)
        generalize w266.drew = w267 at HO_220001 HO_225001 HO_230001 HO_236001 HO240 BK202 BK203 BK219 BK224 BK229 BK235 HB hHeld ⊢
        refine take_ (i := 0) (N := some 63) (v := ?_) (a' := ?_) #[true, false, false, false, false] rfl rfl (by kernel_rfl) (fun _ _ _ h => h) (Or.inl ⟨by rfl, ?_⟩) hHeld ?_ ?_
        rotate_left
        ·rintro w' ⟨s0, s1, s2, s3⟩
         go_simp
         with_reducible rfl
        rotate_left
        ·simp only [Act.put, List.setIfInBounds_toArray, List.set_cons_zero, List.set_cons_succ, i64_w, i32_w]
         rfl
        refine take_ (i := 1) (N := some 64) (v := ?_) (a' := ?_) #[true, true, false, false, false] rfl rfl (by kernel_rfl) (fun _ _ _ h => h) (Or.inl ⟨by rfl, ?_⟩) hHeld ?_ ?_
        rotate_left
        ·rintro w' ⟨s0, s1, s2, s3⟩
         go_simp
         with_reducible rfl
        rotate_left
        ·simp only [Act.put, List.setIfInBounds_toArray, List.set_cons_zero, List.set_cons_succ, i64_w, i32_w]
         rfl
        refine one_ (i := 2) (N := some 65) #[true, true, true, false, false] rfl rfl (by kernel_rfl) (by decide) (fun K hK => ?_)
        refine goes_ Try.func40 (by kernel_rfl) rfl #[.agg #[.int .i64 a2_0, .slice A2_1 l2_1.length c2_1]] (by rfl) rfl rfl (by (try simp only [List.map_toArray, List.map_cons, List.map_nil]); first | done | rfl | (simp only [List.length_drop, List.length_take]; rfl)) ?_
        with_reducible refine (laws_toLin.calls kj25 a2_0 _ _ l2_1 t242 t243 _ ?side1 ?side2 A104.out).mono ?_
        (case side1 => exact mc ((Kd.C_below HR2_1.out HB.out)))
        (case side2 => exact HC2_1.out)
        rintro e w268 ⟨v244, rfl, ho0, hb⟩
        refine ⟨_, rfl, ?_⟩
        have HO245 := Aside0.mk (Kd.R_lower (Kd.R_new' (Kd.R_new' (Kd.R_new' (Kd.R_new' (Kd.R_new' ho0 (Kd.R_lt (mr HO_220001))) (Kd.R_lt (mr HO_225001))) (Kd.R_lt (mr HO_230001))) (Kd.R_lt (mr HO_236001))) (Kd.R_lt (mr HO240))) (below_size (ms HB)))
        replace HO_220001 := rl HO_220001 ho0 hb
        replace HO_225001 := rl HO_225001 ho0 hb
        replace HO_230001 := rl HO_230001 ho0 hb
        replace HO_236001 := rl HO_236001 ho0 hb
        replace HO240 := rl HO240 ho0 hb
        replace BK202 := bb BK202 hb
        replace BK203 := bb BK203 hb
        replace BK219 := bb BK219 hb
        replace BK224 := bb BK224 hb
        replace BK229 := bb BK229 hb
        replace BK235 := bb BK235 hb
        replace HB := bs HB hb
        (try clear hb)
        (try clear hb2)
        (try clear hk)
        (try clear hi)
        (try clear ho0)
        obtain ⟨Ao269, co269, eo269⟩ := Kd.R_slice HO245.out
        (first | subst eo269 | (injection eo269 with f1_ f2_ f3_; have f4_ := f1_.symm; have f5_ := f3_.symm; clear f1_ f2_ f3_; subst f4_; subst f5_))
        refine hK.out _ _ ⟨(c2 BK229).1, (c2 BK229).2, (c2 BK203).1, (c2 BK203).2⟩ (fun hHeld => ?_)
        clear hK K
        refine norm_ (a' := ?_) ?_ ?_
        rotate_left
        ·show Act.put _ (some 65) _ = _
         simp only [Act.put, List.setIfInBounds_toArray, List.set_cons_zero, List.set_cons_succ, i64_w, i32_w]
         rfl
        refine one_ (i := 3) (N := some 66) #[true, true, true, true, false] rfl rfl (by kernel_rfl) (by decide) (fun K hK => ?_)
        refine goes_ Try.func42 (by kernel_rfl) rfl #[.agg #[.int .i64 t225, .slice Ao63 t226.length co63], .agg #[.int .i64 t242, .slice Ao269 t243.length co269]] (by rfl) rfl rfl (by (try simp only [List.map_toArray, List.map_cons, List.map_nil]); first | done | rfl | (simp only [List.length_drop, List.length_take]; rfl)) ?_
        with_reducible refine (laws_eqLin.calls kj25 t225 _ _ t226 t242 _ _ t243 false _ ?side1 ?side2 ?side3 ?side4 A105.out).mono ?_
        (case side1 => exact mc ((Kd.R_reads' HO_230001.out).2.2))
        (case side2 => exact (Kd.R_reads' HO_230001.out).2.1)
        (case side3 => exact mc ((Kd.R_reads' HO245.out).2.2))
        (case side4 => exact (Kd.R_reads' HO245.out).2.1)
        rintro e w270 ⟨rfl, hb⟩
        refine ⟨_, rfl, ?_⟩
        replace HO_220001 := rb HO_220001 hb
        replace HO_225001 := rb HO_225001 hb
        replace HO_230001 := rb HO_230001 hb
        replace HO_236001 := rb HO_236001 hb
        replace HO240 := rb HO240 hb
        replace HO245 := rb HO245 hb
        replace BK202 := bb BK202 hb
        replace BK203 := bb BK203 hb
        replace BK219 := bb BK219 hb
        replace BK224 := bb BK224 hb
        replace BK229 := bb BK229 hb
        replace BK235 := bb BK235 hb
        replace HB := bs HB hb
        (try clear hb)
        (try clear hb2)
        (try clear hk)
        (try clear hi)
        refine hK.out _ _ ⟨(c2 BK229).1, (c2 BK229).2, (c2 BK203).1, (c2 BK203).2⟩ (fun hHeld => ?_)
        clear hK K
        refine norm_ (a' := ?_) ?_ ?_
        rotate_left
        ·show Act.put _ (some 66) _ = _
         simp only [Act.put, List.setIfInBounds_toArray, List.set_cons_zero, List.set_cons_succ, i64_w, i32_w]
         rfl
        refine pure_ (i := 4) (N := some 67) (v := ?_) (a' := ?_) #[true, true, true, true, true] rfl rfl (by kernel_rfl) (fun _ _ _ h => h) (Or.inl ⟨by rfl, ?_⟩) ?_ ?_
        rotate_left
        ·intro w'
         go_simp
         with_reducible rfl
        rotate_left
        ·simp only [Act.put, List.setIfInBounds_toArray, List.set_cons_zero, List.set_cons_succ, i64_w, i32_w]
         rfl
        refine done_ (by kernel_rfl) ?_
        try go_wp2
        go_ret
        exact ⟨by first | rfl | (simp [errW_none, errW_some] <;> rfl) | (simp [*, errW_none, errW_some] <;> rfl), ms HB⟩
      ·replace c103 := Bool.eq_false_iff.mpr c103
       subst c103
       have H1 : (some false) = some r := by rw [if_neg (show ¬ (false = true) by decide)] at H; exact H
       clear H
       have H := H1
       clear H1
       obtain rfl := Option.some.inj H
       try go_wp2
       replace HO_220001 := Aside0.mk (Kd.R_drew HO_220001.out)
       replace HO_225001 := Aside0.mk (Kd.R_drew HO_225001.out)
       replace HO_230001 := Aside0.mk (Kd.R_drew HO_230001.out)
       replace HO_236001 := Aside0.mk (Kd.R_drew HO_236001.out)
       replace BK202 := Aside0.mk (blk_drew BK202.out)
       replace BK203 := Aside0.mk (blk_drew BK203.out)
       replace BK219 := Aside0.mk (blk_drew BK219.out)
       replace BK224 := Aside0.mk (blk_drew BK224.out)
       replace BK229 := Aside0.mk (blk_drew BK229.out)
       replace BK235 := Aside0.mk (blk_drew BK235.out)
       replace HB := Aside0.mk (below_drew1 HB.out)
       refine start_ (n := 5) (S := fun w' => w'.cell? ⟨gb224, 0, none⟩ = some (.int .i64 t220) ∧ w'.cell? ⟨gb224, 1, none⟩ = some (.slice Ao53 t221.length co53) ∧ w'.cell? ⟨gb202, 0, none⟩ = some (.int .i64 a0_0) ∧ w'.cell? ⟨gb202, 1, none⟩ = some (.slice A0_1 l0_1.length c0_1)) (ds := []) #[false, false, false, false, false] (by kernel_rfl) rfl rfl ⟨(c2 BK224).1, (c2 BK224).2, (c2 BK202).1, (c2 BK202).2⟩ (fun hHeld => ?_)
       generalize wc.drew = w271 at HO_220001 HO_225001 HO_230001 HO_236001 BK202 BK203 BK219 BK224 BK229 BK235 HB hHeld ⊢
       refine take_ (i := 0) (N := some 58) (v := ?_) (a' := ?_) #[true, false, false, false, false] rfl rfl (by kernel_rfl) (fun _ _ _ h => h) (Or.inl ⟨by rfl, ?_⟩) hHeld ?_ ?_
       rotate_left
       ·rintro w' ⟨s0, s1, s2, s3⟩
        go_simp
        with_reducible rfl
       rotate_left
       ·simp only [Act.put, List.setIfInBounds_toArray, List.set_cons_zero, List.set_cons_succ, i64_w, i32_w]
        rfl
       refine take_ (i := 1) (N := some 59) (v := ?_) (a' := ?_) #[true, true, false, false, false] rfl rfl (by kernel_rfl) (fun _ _ _ h => h) (Or.inl ⟨by rfl, ?_⟩) hHeld ?_ ?_
       rotate_left
       ·rintro w' ⟨s0, s1, s2, s3⟩
        go_simp
        with_reducible rfl
       rotate_left
       ·simp only [Act.put, List.setIfInBounds_toArray, List.set_cons_zero, List.set_cons_succ, i64_w, i32_w]
        rfl
       refine one_ (i := 2) (N := some 60) #[true, true, true, false, false] rfl rfl (by kernel_rfl) (by decide) (fun K hK => ?_)
       refine goes_ Try.func40 (by kernel_rfl) rfl #[.agg #[.int .i64 a0_0, .slice A0_1 l0_1.length c0_1]] (by rfl) rfl rfl (by (try simp only [List.map_toArray, List.map_cons, List.map_nil]); first | done | rfl | (simp only [List.length_drop, List.length_take]; rfl)) ?_
       with_reducible refine (laws_toLin.calls kj25 a0_0 _ _ l0_1 t237 t238 _ ?side1 ?side2 A101.out).mono ?_
       (case side1 => exact mc ((Kd.C_below HR0_1.out HB.out)))
       (case side2 => exact HC0_1.out)
       rintro e w272 ⟨v239, rfl, ho0, hb⟩
       refine ⟨_, rfl, ?_⟩
       have HO240 := Aside0.mk (Kd.R_lower (Kd.R_new' (Kd.R_new' (Kd.R_new' (Kd.R_new' ho0 (Kd.R_lt (mr HO_220001))) (Kd.R_lt (mr HO_225001))) (Kd.R_lt (mr HO_230001))) (Kd.R_lt (mr HO_236001))) (below_size (ms HB)))
       replace HO_220001 := rl HO_220001 ho0 hb
       replace HO_225001 := rl HO_225001 ho0 hb
       replace HO_230001 := rl HO_230001 ho0 hb
       replace HO_236001 := rl HO_236001 ho0 hb
       replace BK202 := bb BK202 hb
       replace BK203 := bb BK203 hb
       replace BK219 := bb BK219 hb
       replace BK224 := bb BK224 hb
       replace BK229 := bb BK229 hb
       replace BK235 := bb BK235 hb
       replace HB := bs HB hb
       (try clear hb)
       (try clear hb2)
       (try clear hk)
       (try clear hi)
       (try clear ho0)
       obtain ⟨Ao273, co273, eo273⟩ := Kd.R_slice HO240.out
       (first | subst eo273 | (injection eo273 with f1_ f2_ f3_; have f4_ := f1_.symm; have f5_ := f3_.symm; clear f1_ f2_ f3_; subst f4_; subst f5_))
       refine hK.out _ _ ⟨(c2 BK224).1, (c2 BK224).2, (c2 BK202).1, (c2 BK202).2⟩ (fun hHeld => ?_)
       clear hK K
       refine norm_ (a' := ?_) ?_ ?_
       rotate_left
       ·show Act.put _ (some 60) _ = _
        simp only [Act.put, List.setIfInBounds_toArray, List.set_cons_zero, List.set_cons_succ, i64_w, i32_w]
        rfl
       refine one_ (i := 3) (N := some 61) #[true, true, true, true, false] rfl rfl (by kernel_rfl) (by decide) (fun K hK => ?_)
       refine goes_ Try.func42 (by kernel_rfl) rfl #[.agg #[.int .i64 t220, .slice Ao53 t221.length co53], .agg #[.int .i64 t237, .slice Ao273 t238.length co273]] (by rfl) rfl rfl (by (try simp only [List.map_toArray, List.map_cons, List.map_nil]); first | done | rfl | (simp only [List.length_drop, List.length_take]; rfl)) ?_
       with_reducible refine (laws_eqLin.calls kj25 t220 _ _ t221 t237 _ _ t238 false _ ?side1 ?side2 ?side3 ?side4 A102.out).mono ?_
       (case side1 => exact mc ((Kd.R_reads' HO_225001.out).2.2))
       (case side2 => exact (Kd.R_reads' HO_225001.out).2.1)
       (case side3 => exact mc ((Kd.R_reads' HO240.out).2.2))
       (case side4 => exact (Kd.R_reads' HO240.out).2.1)
       rintro e w274 ⟨rfl, hb⟩
       refine ⟨_, rfl, ?_⟩
       replace HO_220001 := rb HO_220001 hb
       replace HO_225001 := rb HO_225001 hb
       replace HO_230001 := rb HO_230001 hb
       replace HO_236001 := rb HO_236001 hb
       replace HO240 := rb HO240 hb
       replace BK202 := bb BK202 hb
       replace BK203 := bb BK203 hb
       replace BK219 := bb BK219 hb
       replace BK224 := bb BK224 hb
       replace BK229 := bb BK229 hb
       replace BK235 := bb BK235 hb
       replace HB := bs HB hb
       (try clear hb)
       (try clear hb2)
       (try clear hk)
       (try clear hi)
       refine hK.out _ _ ⟨(c2 BK224).1, (c2 BK224).2, (c2 BK202).1, (c2 BK202).2⟩ (fun hHeld => ?_)
       clear hK K
       refine norm_ (a' := ?_) ?_ ?_
       rotate_left
       ·show Act.put _ (some 61) _ = _
        simp only [Act.put, List.setIfInBounds_toArray, List.set_cons_zero, List.set_cons_succ, i64_w, i32_w]
        rfl
       refine pure_ (i := 4) (N := some 62) (v := ?_) (a' := ?_) #[true, true, true, true, true] rfl rfl (by kernel_rfl) (fun _ _ _ h => h) (Or.inl ⟨by rfl, ?_⟩) ?_ ?_
       rotate_left
       ·intro w'
        go_simp
        with_reducible rfl
       rotate_left
       ·simp only [Act.put, List.setIfInBounds_toArray, List.set_cons_zero, List.set_cons_succ, i64_w, i32_w]
        rfl
       refine done_ (by kernel_rfl) ?_
       try go_wp2
       go_ret
       exact ⟨by first | rfl | (simp [errW_none, errW_some] <;> rfl) | (simp [*, errW_none, errW_some] <;> rfl), ms HB⟩

/-- THE ONE PURE STATEMENT of laws_FnExactAddScaled. -/
def laws_FnExactAddScaled.Pure : Prop := ∀ (a0_0 : Int) (l0_1 : List Int) (a1 : Int) (a2_0 : Int) (l2_1 : List Int), ((Lit.int .i64 a0_0).wf = true) → (l0_1.length ≤ 9223372036854775807 ∧ ∀ x0 ∈ l0_1, (Lit.int .i64 x0).wf = true) → ((Lit.int .i64 a1).wf = true) → ((Lit.int .i64 a2_0).wf = true) → (l2_1.length ≤ 9223372036854775807 ∧ ∀ x0 ∈ l2_1, (Lit.int .i64 x0).wf = true) → ∃ k, laws_FnExactAddScaled.f k a0_0 l0_1 a1 a2_0 l2_1 = some true

end Go.Proofs.Ytkfllkmhbkmepaa.QFnExactAddScaled
