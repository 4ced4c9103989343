-- Made by a program of this claim's own (wip/print): not the kit's print as it stands.
import Derived.Test.YtkfllkmhbkmepaaVTwo
import Derived.Test.YtkfllkmhbkmepaaQFnExactEqualArgx0
import Derived.Test.YtkfllkmhbkmepaaQFnExactEqualArgx2
import Derived.Test.YtkfllkmhbkmepaaQFnExactEqualArgx3
import Derived.Test.YtkfllkmhbkmepaaQFnExactEqualArgx4
import Derived.Test.YtkfllkmhbkmepaaQFnExactEqualArgx6
namespace Go.Proofs.Ytkfllkmhbkmepaa.QFnExactEqualArg
open Go.RowKit Go.Proofs.YtkfllkmhbkmepaaV.PrintWords Go.Proofs.YtkfllkmhbkmepaaV.PrintLast Go.Proofs.YtkfllkmhbkmepaaV.PrintMore
attribute [local go_sem] max2_int min2_int max_two min_two max_three min_three max_four min_four   -- for this text's walks alone
set_option linter.unusedVariables false
set_option linter.unusedSimpArgs false

/-! ### laws_FnExactEqualArg: function 8 -/
def laws_FnExactEqualArg.f (k : Nat) (a0_0 : Bool) (l0_1 : List (S35)) (a0_2 : ByteArray) (a1_0 : Bool) (l1_1 : List (S35)) (a1_2 : ByteArray) : Option (Bool) := (laws_szArg.f k a0_0 l0_1 a0_2 1048576).bind fun t179 => (if t179 < 0 then (some true) else ((laws_szArg.f k a1_0 l1_1 a1_2 t179).bind fun t180 => (if t180 < 0 then (some true) else ((laws_toArg.f k a0_0 l0_1 a0_2).bind fun bt181 => ((laws_toArg.f k a1_0 l1_1 a1_2).bind fun bt186 => ((spec_EqualArg.f k bt181.1 bt181.2.1 bt181.2.2 bt186.1 bt186.2.1 bt186.2.2).bind fun t191 => ((laws_toArg.f k a0_0 l0_1 a0_2).bind fun bt192 => ((laws_toArg.f k a1_0 l1_1 a1_2).bind fun bt198 => ((impl_EqualArg.f k bt192.1 bt192.2.1 bt192.2.2 bt198.1 bt198.2.1 bt198.2.2).bind fun t204 => (if (t204 != t191) = true then (some false) else ((laws_toArg.f k a0_0 l0_1 a0_2).bind fun bt205 => ((laws_eqArg.f k bt192.1 bt192.2.1 bt192.2.2 bt205.1 bt205.2.1 bt205.2.2).bind fun t210 => (if t210 = true then ((laws_toArg.f k a1_0 l1_1 a1_2).bind fun bt211 => ((laws_eqArg.f k bt198.1 bt198.2.1 bt198.2.2 bt211.1 bt211.2.1 bt211.2.2).bind fun t216 => (if t216 = true then (some true) else (some false)))) else (some false))))))))))))))
theorem laws_FnExactEqualArg.mono : ∀ a0 a1 a2 a3 a4 a5 k, LeO (laws_FnExactEqualArg.f k a0 a1 a2 a3 a4 a5) (laws_FnExactEqualArg.f (k + 1) a0 a1 a2 a3 a4 a5) := by
 intro a0 a1 a2 a3 a4 a5 k
 unfold laws_FnExactEqualArg.f
 repeat' first
   | (with_reducible exact impl_EqualArg.mono _ _ _ _ _ _ _)
   | (with_reducible exact laws_eqArg.mono _ _ _ _ _ _ _)
   | (with_reducible exact laws_szArg.mono _ _ _ _ _)
   | (with_reducible exact laws_toArg.mono _ _ _ _)
   | (with_reducible exact spec_EqualArg.mono _ _ _ _ _ _ _)
   | (with_reducible exact LeO.refl _)
   | (with_reducible exact LeO.none _)
   | (with_reducible refine LeO.ite ?_ ?_)
   | (with_reducible refine LeO.bind ?_ (fun _ => ?_))
   | exact impl_EqualArg.mono _ _ _ _ _ _ _
   | exact laws_eqArg.mono _ _ _ _ _ _ _
   | exact laws_szArg.mono _ _ _ _ _
   | exact laws_toArg.mono _ _ _ _
   | exact spec_EqualArg.mono _ _ _ _ _ _ _
   | exact LeO.none _
   | refine LeO.ite ?_ ?_
   | refine LeO.bind ?_ (fun _ => ?_)
set_option maxHeartbeats 8000000 in
set_option maxRecDepth 100000 in
theorem laws_FnExactEqualArg.calls (k : Nat) (a0_0 : Bool) (A0_1 : Option Addr) (c0_1 : Nat) (l0_1 : List (S35)) (a0_2 : ByteArray) (a1_0 : Bool) (A1_1 : Option Addr) (c1_1 : Nat) (l1_1 : List (S35)) (a1_2 : ByteArray) (r : Bool) (w : World) (hr0_1 : Kd.C k35 w A0_1 l0_1.length l0_1) (hc0_1 : l0_1.length ≤ c0_1) (hr1_1 : Kd.C k35 w A1_1 l1_1.length l1_1) (hc1_1 : l1_1.length ≤ c1_1) (h : laws_FnExactEqualArg.f k a0_0 l0_1 a0_2 a1_0 l1_1 a1_2 = some r) :
  Calls Try.prog 8 #[.agg #[.bool a0_0, .slice A0_1 l0_1.length c0_1, .string a0_2], .agg #[.bool a1_0, .slice A1_1 l1_1.length c1_1, .string a1_2]] w fun e w' => e = .returned (.bool r) ∧ Below w.heap.size w w' := by
 have hu68 := Try.underlying68
 have hu73 := Try.underlying73
 have HR0_1 := Aside0.mk hr0_1
 have HC0_1 := Aside0.mk hc0_1
 clear hr0_1 hc0_1
 have HR1_1 := Aside0.mk hr1_1
 have HC1_1 := Aside0.mk hc1_1
 clear hr1_1 hc1_1
 have HB := Aside0.mk (Below.refl w.heap.size w)
 have H : ((laws_szArg.f k a0_0 l0_1 a0_2 1048576).bind fun t179 => (if t179 < 0 then (some true) else ((laws_szArg.f k a1_0 l1_1 a1_2 t179).bind fun t180 => (if t180 < 0 then (some true) else ((laws_toArg.f k a0_0 l0_1 a0_2).bind fun bt181 => ((laws_toArg.f k a1_0 l1_1 a1_2).bind fun bt186 => ((spec_EqualArg.f k bt181.1 bt181.2.1 bt181.2.2 bt186.1 bt186.2.1 bt186.2.2).bind fun t191 => ((laws_toArg.f k a0_0 l0_1 a0_2).bind fun bt192 => ((laws_toArg.f k a1_0 l1_1 a1_2).bind fun bt198 => ((impl_EqualArg.f k bt192.1 bt192.2.1 bt192.2.2 bt198.1 bt198.2.1 bt198.2.2).bind fun t204 => (if (t204 != t191) = true then (some false) else ((laws_toArg.f k a0_0 l0_1 a0_2).bind fun bt205 => ((laws_eqArg.f k bt192.1 bt192.2.1 bt192.2.2 bt205.1 bt205.2.1 bt205.2.2).bind fun t210 => (if t210 = true then ((laws_toArg.f k a1_0 l1_1 a1_2).bind fun bt211 => ((laws_eqArg.f k bt198.1 bt198.2.1 bt198.2.2 bt211.1 bt211.2.1 bt211.2.2).bind fun t216 => (if t216 = true then (some true) else (some false)))) else (some false))))))))))))))) = some r := h
 clear h
 replace H := Option.bind_eq_some_iff.mp H
 obtain ⟨t179, A30, H⟩ := H
 replace H : (if t179 < 0 then (some true) else ((laws_szArg.f k a1_0 l1_1 a1_2 t179).bind fun t180 => (if t180 < 0 then (some true) else ((laws_toArg.f k a0_0 l0_1 a0_2).bind fun bt181 => ((laws_toArg.f k a1_0 l1_1 a1_2).bind fun bt186 => ((spec_EqualArg.f k bt181.1 bt181.2.1 bt181.2.2 bt186.1 bt186.2.1 bt186.2.2).bind fun t191 => ((laws_toArg.f k a0_0 l0_1 a0_2).bind fun bt192 => ((laws_toArg.f k a1_0 l1_1 a1_2).bind fun bt198 => ((impl_EqualArg.f k bt192.1 bt192.2.1 bt192.2.2 bt198.1 bt198.2.1 bt198.2.2).bind fun t204 => (if (t204 != t191) = true then (some false) else ((laws_toArg.f k a0_0 l0_1 a0_2).bind fun bt205 => ((laws_eqArg.f k bt192.1 bt192.2.1 bt192.2.2 bt205.1 bt205.2.1 bt205.2.2).bind fun t210 => (if t210 = true then ((laws_toArg.f k a1_0 l1_1 a1_2).bind fun bt211 => ((laws_eqArg.f k bt198.1 bt198.2.1 bt198.2.2 bt211.1 bt211.2.1 bt211.2.2).bind fun t216 => (if t216 = true then (some true) else (some false)))) else (some false)))))))))))))) = some r := H
 have A3 := Aside0.mk A30
 clear A30
 by_cases c4 : t179 < 0
 ·rw [if_pos c4] at H
  have c4b0 : decide (t179 < 0) = true := decide_eq_true c4
  clear c4
  obtain rfl := Option.some.inj H
  go_enter Try.func8, Try.ntmps8
  go_wp2_with (first | ((with_reducible refine gate_dst (N := 2) rfl ?_); refine box_event ?hg (N := 2) ?hd (cs := #[.bool a0_0, .slice A0_1 l0_1.length c0_1, .string a0_2]) (t := 68) ?hr ?_; (case hd => rfl); (case hg => rfl); (case hr => first | (go_simp; done) | (go_simp; rfl)); intro gb177 hg w5 hbox hb; have BK177 := Aside0.mk (hbox); have GW177 := gw hg HB; have GE177 := gw hg HB; replace HB := bs HB hb; clear hb hbox hg) | ((with_reducible refine gate_dst (N := 3) rfl ?_); refine box_event ?hg (N := 3) ?hd (cs := #[.bool a1_0, .slice A1_1 l1_1.length c1_1, .string a1_2]) (t := 68) ?hr ?_; (case hd => rfl); (case hg => rfl); (case hr => first | (go_simp; done) | (go_simp; rfl)); intro gb178 hg w6 hbox hb; have BK178 := Aside0.mk (hbox); have GW178 := gw hg HB; have GE178 := gw hg HB; replace HB := bs HB hb; have NB177_178 := nl hg BK177; have NB178_177 := ng hg BK177; replace BK177 := bb BK177 hb; clear hb hbox hg; have hnb7 := NB177_178.out; have hnc7 := NB178_177.out; have hcz8_0 : w6.cell? ⟨gb177, 0, none⟩ = some (.bool a0_0) := (blk_cell BK177.out 0).trans rfl; have hcz8_1 : w6.cell? ⟨gb177, 1, none⟩ = some (.slice A0_1 l0_1.length c0_1) := (blk_cell BK177.out 1).trans rfl; have hcz8_2 : w6.cell? ⟨gb177, 2, none⟩ = some (.string a0_2) := (blk_cell BK177.out 2).trans rfl; have hfz8_0 := blk_frozen BK177.out 0; have hfz8_1 := blk_frozen BK177.out 1; have hfz8_2 := blk_frozen BK177.out 2) | ((with_reducible refine gate_callee (f := 45) rfl ?_); refine goesL_ (some 12) rfl rfl Try.func45 (by kernel_rfl) rfl #[.agg #[.bool a0_0, .slice A0_1 l0_1.length c0_1, .string a0_2], .int .i64 1048576] rfl (by (try simp only [List.map_toArray, List.map_cons, List.map_nil]); first | done | rfl | (simp only [List.length_drop, List.length_take]; rfl)) ?_; (with_reducible refine (laws_szArg.calls k a0_0 _ _ l0_1 a0_2 1048576 t179 _ ?side1 ?side2 A3.out).mono ?_); (case side1 => exact mc ((Kd.C_below HR0_1.out HB.out))); (case side2 => exact HC0_1.out); rintro e w9 ⟨rfl, hb⟩; refine ⟨_, rfl, ?_⟩; replace BK177 := bb BK177 hb; replace BK178 := bb BK178 hb; replace HB := bs HB hb; (try clear hb)))
  go_ret
  exact ⟨by first | rfl | (simp [errW_none, errW_some] <;> rfl) | (simp [*, errW_none, errW_some] <;> rfl), ms HB⟩
 ·rw [if_neg c4] at H
  have c4b0 : decide (t179 < 0) = false := decide_eq_false c4
  clear c4
  replace H := Option.bind_eq_some_iff.mp H
  obtain ⟨t180, A100, H⟩ := H
  replace H : (if t180 < 0 then (some true) else ((laws_toArg.f k a0_0 l0_1 a0_2).bind fun bt181 => ((laws_toArg.f k a1_0 l1_1 a1_2).bind fun bt186 => ((spec_EqualArg.f k bt181.1 bt181.2.1 bt181.2.2 bt186.1 bt186.2.1 bt186.2.2).bind fun t191 => ((laws_toArg.f k a0_0 l0_1 a0_2).bind fun bt192 => ((laws_toArg.f k a1_0 l1_1 a1_2).bind fun bt198 => ((impl_EqualArg.f k bt192.1 bt192.2.1 bt192.2.2 bt198.1 bt198.2.1 bt198.2.2).bind fun t204 => (if (t204 != t191) = true then (some false) else ((laws_toArg.f k a0_0 l0_1 a0_2).bind fun bt205 => ((laws_eqArg.f k bt192.1 bt192.2.1 bt192.2.2 bt205.1 bt205.2.1 bt205.2.2).bind fun t210 => (if t210 = true then ((laws_toArg.f k a1_0 l1_1 a1_2).bind fun bt211 => ((laws_eqArg.f k bt198.1 bt198.2.1 bt198.2.2 bt211.1 bt211.2.1 bt211.2.2).bind fun t216 => (if t216 = true then (some true) else (some false)))) else (some false)))))))))))) = some r := H
  have A10 := Aside0.mk A100
  clear A100
  by_cases c11 : t180 < 0
  ·rw [if_pos c11] at H
   have c11b0 : decide (t180 < 0) = true := decide_eq_true c11
   clear c11
   obtain rfl := Option.some.inj H
   go_enter Try.func8, Try.ntmps8
   go_wp2_with (first | ((with_reducible refine gate_dst (N := 2) rfl ?_); refine box_event ?hg (N := 2) ?hd (cs := #[.bool a0_0, .slice A0_1 l0_1.length c0_1, .string a0_2]) (t := 68) ?hr ?_; (case hd => rfl); (case hg => rfl); (case hr => first | (go_simp; done) | (go_simp; rfl)); intro gb177 hg w12 hbox hb; have BK177 := Aside0.mk (hbox); have GW177 := gw hg HB; have GE177 := gw hg HB; replace HB := bs HB hb; clear hb hbox hg) | ((with_reducible refine gate_dst (N := 3) rfl ?_); refine box_event ?hg (N := 3) ?hd (cs := #[.bool a1_0, .slice A1_1 l1_1.length c1_1, .string a1_2]) (t := 68) ?hr ?_; (case hd => rfl); (case hg => rfl); (case hr => first | (go_simp; done) | (go_simp; rfl)); intro gb178 hg w13 hbox hb; have BK178 := Aside0.mk (hbox); have GW178 := gw hg HB; have GE178 := gw hg HB; replace HB := bs HB hb; have NB177_178 := nl hg BK177; have NB178_177 := ng hg BK177; replace BK177 := bb BK177 hb; clear hb hbox hg; have hnb14 := NB177_178.out; have hnc14 := NB178_177.out; have hcz15_0 : w13.cell? ⟨gb177, 0, none⟩ = some (.bool a0_0) := (blk_cell BK177.out 0).trans rfl; have hcz15_1 : w13.cell? ⟨gb177, 1, none⟩ = some (.slice A0_1 l0_1.length c0_1) := (blk_cell BK177.out 1).trans rfl; have hcz15_2 : w13.cell? ⟨gb177, 2, none⟩ = some (.string a0_2) := (blk_cell BK177.out 2).trans rfl; have hfz15_0 := blk_frozen BK177.out 0; have hfz15_1 := blk_frozen BK177.out 1; have hfz15_2 := blk_frozen BK177.out 2) | ((with_reducible refine gate_callee (f := 45) rfl ?_); refine goesL_ (some 12) rfl rfl Try.func45 (by kernel_rfl) rfl #[.agg #[.bool a0_0, .slice A0_1 l0_1.length c0_1, .string a0_2], .int .i64 1048576] rfl (by (try simp only [List.map_toArray, List.map_cons, List.map_nil]); first | done | rfl | (simp only [List.length_drop, List.length_take]; rfl)) ?_; (with_reducible refine (laws_szArg.calls k a0_0 _ _ l0_1 a0_2 1048576 t179 _ ?side1 ?side2 A3.out).mono ?_); (case side1 => exact mc ((Kd.C_below HR0_1.out HB.out))); (case side2 => exact HC0_1.out); rintro e w16 ⟨rfl, hb⟩; refine ⟨_, rfl, ?_⟩; replace BK177 := bb BK177 hb; replace BK178 := bb BK178 hb; replace HB := bs HB hb; (try clear hb); have hcz17_0 : w16.cell? ⟨gb178, 0, none⟩ = some (.bool a1_0) := (blk_cell BK178.out 0).trans rfl; have hcz17_1 : w16.cell? ⟨gb178, 1, none⟩ = some (.slice A1_1 l1_1.length c1_1) := (blk_cell BK178.out 1).trans rfl; have hcz17_2 : w16.cell? ⟨gb178, 2, none⟩ = some (.string a1_2) := (blk_cell BK178.out 2).trans rfl; have hfz17_0 := blk_frozen BK178.out 0; have hfz17_1 := blk_frozen BK178.out 1; have hfz17_2 := blk_frozen BK178.out 2) | ((with_reducible refine gate_callee (f := 45) rfl ?_); refine goesL_ (some 17) rfl rfl Try.func45 (by kernel_rfl) rfl #[.agg #[.bool a1_0, .slice A1_1 l1_1.length c1_1, .string a1_2], .int .i64 t179] rfl (by (try simp only [List.map_toArray, List.map_cons, List.map_nil]); first | done | rfl | (simp only [List.length_drop, List.length_take]; rfl)) ?_; (with_reducible refine (laws_szArg.calls k a1_0 _ _ l1_1 a1_2 t179 t180 _ ?side1 ?side2 A10.out).mono ?_); (case side1 => exact mc ((Kd.C_below HR1_1.out HB.out))); (case side2 => exact HC1_1.out); rintro e w18 ⟨rfl, hb⟩; refine ⟨_, rfl, ?_⟩; replace BK177 := bb BK177 hb; replace BK178 := bb BK178 hb; replace HB := bs HB hb; (try clear hb)))
   go_ret
   exact ⟨by first | rfl | (simp [errW_none, errW_some] <;> rfl) | (simp [*, errW_none, errW_some] <;> rfl), ms HB⟩
  ·rw [if_neg c11] at H
   have c11b0 : decide (t180 < 0) = false := decide_eq_false c11
   clear c11
   replace H := Option.bind_eq_some_iff.mp H
   obtain ⟨⟨t181, t182, t185⟩, A190, H⟩ := H
   replace H : ((laws_toArg.f k a1_0 l1_1 a1_2).bind fun bt186 => ((spec_EqualArg.f k t181 t182 t185 bt186.1 bt186.2.1 bt186.2.2).bind fun t191 => ((laws_toArg.f k a0_0 l0_1 a0_2).bind fun bt192 => ((laws_toArg.f k a1_0 l1_1 a1_2).bind fun bt198 => ((impl_EqualArg.f k bt192.1 bt192.2.1 bt192.2.2 bt198.1 bt198.2.1 bt198.2.2).bind fun t204 => (if (t204 != t191) = true then (some false) else ((laws_toArg.f k a0_0 l0_1 a0_2).bind fun bt205 => ((laws_eqArg.f k bt192.1 bt192.2.1 bt192.2.2 bt205.1 bt205.2.1 bt205.2.2).bind fun t210 => (if t210 = true then ((laws_toArg.f k a1_0 l1_1 a1_2).bind fun bt211 => ((laws_eqArg.f k bt198.1 bt198.2.1 bt198.2.2 bt211.1 bt211.2.1 bt211.2.2).bind fun t216 => (if t216 = true then (some true) else (some false)))) else (some false)))))))))) = some r := H
   have A19 := Aside0.mk A190
   clear A190
   replace H := Option.bind_eq_some_iff.mp H
   obtain ⟨⟨t186, t187, t190⟩, A200, H⟩ := H
   replace H : ((spec_EqualArg.f k t181 t182 t185 t186 t187 t190).bind fun t191 => ((laws_toArg.f k a0_0 l0_1 a0_2).bind fun bt192 => ((laws_toArg.f k a1_0 l1_1 a1_2).bind fun bt198 => ((impl_EqualArg.f k bt192.1 bt192.2.1 bt192.2.2 bt198.1 bt198.2.1 bt198.2.2).bind fun t204 => (if (t204 != t191) = true then (some false) else ((laws_toArg.f k a0_0 l0_1 a0_2).bind fun bt205 => ((laws_eqArg.f k bt192.1 bt192.2.1 bt192.2.2 bt205.1 bt205.2.1 bt205.2.2).bind fun t210 => (if t210 = true then ((laws_toArg.f k a1_0 l1_1 a1_2).bind fun bt211 => ((laws_eqArg.f k bt198.1 bt198.2.1 bt198.2.2 bt211.1 bt211.2.1 bt211.2.2).bind fun t216 => (if t216 = true then (some true) else (some false)))) else (some false))))))))) = some r := H
   have A20 := Aside0.mk A200
   clear A200
   replace H := Option.bind_eq_some_iff.mp H
   obtain ⟨t191, A210, H⟩ := H
   replace H : ((laws_toArg.f k a0_0 l0_1 a0_2).bind fun bt192 => ((laws_toArg.f k a1_0 l1_1 a1_2).bind fun bt198 => ((impl_EqualArg.f k bt192.1 bt192.2.1 bt192.2.2 bt198.1 bt198.2.1 bt198.2.2).bind fun t204 => (if (t204 != t191) = true then (some false) else ((laws_toArg.f k a0_0 l0_1 a0_2).bind fun bt205 => ((laws_eqArg.f k bt192.1 bt192.2.1 bt192.2.2 bt205.1 bt205.2.1 bt205.2.2).bind fun t210 => (if t210 = true then ((laws_toArg.f k a1_0 l1_1 a1_2).bind fun bt211 => ((laws_eqArg.f k bt198.1 bt198.2.1 bt198.2.2 bt211.1 bt211.2.1 bt211.2.2).bind fun t216 => (if t216 = true then (some true) else (some false)))) else (some false)))))))) = some r := H
   have A21 := Aside0.mk A210
   clear A210
   replace H := Option.bind_eq_some_iff.mp H
   obtain ⟨⟨t192, t193, t196⟩, A220, H⟩ := H
   replace H : ((laws_toArg.f k a1_0 l1_1 a1_2).bind fun bt198 => ((impl_EqualArg.f k t192 t193 t196 bt198.1 bt198.2.1 bt198.2.2).bind fun t204 => (if (t204 != t191) = true then (some false) else ((laws_toArg.f k a0_0 l0_1 a0_2).bind fun bt205 => ((laws_eqArg.f k t192 t193 t196 bt205.1 bt205.2.1 bt205.2.2).bind fun t210 => (if t210 = true then ((laws_toArg.f k a1_0 l1_1 a1_2).bind fun bt211 => ((laws_eqArg.f k bt198.1 bt198.2.1 bt198.2.2 bt211.1 bt211.2.1 bt211.2.2).bind fun t216 => (if t216 = true then (some true) else (some false)))) else (some false))))))) = some r := H
   have A22 := Aside0.mk A220
   clear A220
   replace H := Option.bind_eq_some_iff.mp H
   obtain ⟨⟨t198, t199, t202⟩, A230, H⟩ := H
   replace H : ((impl_EqualArg.f k t192 t193 t196 t198 t199 t202).bind fun t204 => (if (t204 != t191) = true then (some false) else ((laws_toArg.f k a0_0 l0_1 a0_2).bind fun bt205 => ((laws_eqArg.f k t192 t193 t196 bt205.1 bt205.2.1 bt205.2.2).bind fun t210 => (if t210 = true then ((laws_toArg.f k a1_0 l1_1 a1_2).bind fun bt211 => ((laws_eqArg.f k t198 t199 t202 bt211.1 bt211.2.1 bt211.2.2).bind fun t216 => (if t216 = true then (some true) else (some false)))) else (some false)))))) = some r := H
   have A23 := Aside0.mk A230
   clear A230
   replace H := Option.bind_eq_some_iff.mp H
   obtain ⟨t204, A240, H⟩ := H
   replace H : (if (t204 != t191) = true then (some false) else ((laws_toArg.f k a0_0 l0_1 a0_2).bind fun bt205 => ((laws_eqArg.f k t192 t193 t196 bt205.1 bt205.2.1 bt205.2.2).bind fun t210 => (if t210 = true then ((laws_toArg.f k a1_0 l1_1 a1_2).bind fun bt211 => ((laws_eqArg.f k t198 t199 t202 bt211.1 bt211.2.1 bt211.2.2).bind fun t216 => (if t216 = true then (some true) else (some false)))) else (some false))))) = some r := H
   have A24 := Aside0.mk A240
   clear A240
   by_cases c25 : (t204 != t191) = true
   ·rw [if_pos c25] at H
    have c25b0 : (t204 != t191) = true := c25
    (try (have c25b1 : decide (t204 = t191) = false := by simpa using c25))
    (try (have c25b2 : (t204 == t191) = false := by simpa using c25))
    (try (have c25b3 : ¬ (t204 = t191) := by simpa using c25))
    clear c25
    obtain rfl := Option.some.inj H
    go_enter Try.func8, Try.ntmps8
    try go_wp2_with (first | ((with_reducible refine gate_dst (N := 2) rfl ?_); refine box_event ?hg (N := 2) ?hd (cs := #[.bool a0_0, .slice A0_1 l0_1.length c0_1, .string a0_2]) (t := 68) ?hr ?_; (case hd => rfl); (case hg => rfl); (case hr => first | (go_simp; done) | (go_simp; rfl)); intro gb177 hg w26 hbox hb; have BK177 := Aside0.mk (hbox); have GW177 := gw hg HB; have GE177 := gw hg HB; replace HB := bs HB hb; clear hb hbox hg) | ((with_reducible refine gate_dst (N := 3) rfl ?_); refine box_event ?hg (N := 3) ?hd (cs := #[.bool a1_0, .slice A1_1 l1_1.length c1_1, .string a1_2]) (t := 68) ?hr ?_; (case hd => rfl); (case hg => rfl); (case hr => first | (go_simp; done) | (go_simp; rfl)); intro gb178 hg w27 hbox hb; have BK178 := Aside0.mk (hbox); have GW178 := gw hg HB; have GE178 := gw hg HB; replace HB := bs HB hb; have NB177_178 := nl hg BK177; have NB178_177 := ng hg BK177; replace BK177 := bb BK177 hb; clear hb hbox hg; have hnb28 := NB177_178.out; have hnc28 := NB178_177.out; have hcz29_0 : w27.cell? ⟨gb177, 0, none⟩ = some (.bool a0_0) := (blk_cell BK177.out 0).trans rfl; have hcz29_1 : w27.cell? ⟨gb177, 1, none⟩ = some (.slice A0_1 l0_1.length c0_1) := (blk_cell BK177.out 1).trans rfl; have hcz29_2 : w27.cell? ⟨gb177, 2, none⟩ = some (.string a0_2) := (blk_cell BK177.out 2).trans rfl; have hfz29_0 := blk_frozen BK177.out 0; have hfz29_1 := blk_frozen BK177.out 1; have hfz29_2 := blk_frozen BK177.out 2) | ((with_reducible refine gate_callee (f := 45) rfl ?_); refine goesL_ (some 12) rfl rfl Try.func45 (by kernel_rfl) rfl #[.agg #[.bool a0_0, .slice A0_1 l0_1.length c0_1, .string a0_2], .int .i64 1048576] rfl (by (try simp only [List.map_toArray, List.map_cons, List.map_nil]); first | done | rfl | (simp only [List.length_drop, List.length_take]; rfl)) ?_; (with_reducible refine (laws_szArg.calls k a0_0 _ _ l0_1 a0_2 1048576 t179 _ ?side1 ?side2 A3.out).mono ?_); (case side1 => exact mc ((Kd.C_below HR0_1.out HB.out))); (case side2 => exact HC0_1.out); rintro e w30 ⟨rfl, hb⟩; refine ⟨_, rfl, ?_⟩; replace BK177 := bb BK177 hb; replace BK178 := bb BK178 hb; replace HB := bs HB hb; (try clear hb); have hcz31_0 : w30.cell? ⟨gb178, 0, none⟩ = some (.bool a1_0) := (blk_cell BK178.out 0).trans rfl; have hcz31_1 : w30.cell? ⟨gb178, 1, none⟩ = some (.slice A1_1 l1_1.length c1_1) := (blk_cell BK178.out 1).trans rfl; have hcz31_2 : w30.cell? ⟨gb178, 2, none⟩ = some (.string a1_2) := (blk_cell BK178.out 2).trans rfl; have hfz31_0 := blk_frozen BK178.out 0; have hfz31_1 := blk_frozen BK178.out 1; have hfz31_2 := blk_frozen BK178.out 2) | ((with_reducible refine gate_callee (f := 45) rfl ?_); refine goesL_ (some 17) rfl rfl Try.func45 (by kernel_rfl) rfl #[.agg #[.bool a1_0, .slice A1_1 l1_1.length c1_1, .string a1_2], .int .i64 t179] rfl (by (try simp only [List.map_toArray, List.map_cons, List.map_nil]); first | done | rfl | (simp only [List.length_drop, List.length_take]; rfl)) ?_; (with_reducible refine (laws_szArg.calls k a1_0 _ _ l1_1 a1_2 t179 t180 _ ?side1 ?side2 A10.out).mono ?_); (case side1 => exact mc ((Kd.C_below HR1_1.out HB.out))); (case side2 => exact HC1_1.out); rintro e w32 ⟨rfl, hb⟩; refine ⟨_, rfl, ?_⟩; replace BK177 := bb BK177 hb; replace BK178 := bb BK178 hb; replace HB := bs HB hb; (try clear hb)))
    replace BK177 := Aside0.mk (blk_drew BK177.out)
    replace BK178 := Aside0.mk (blk_drew BK178.out)
    replace HB := Aside0.mk (below_drew1 HB.out)
    refine start_ (n := 6) (S := fun w' => w'.cell? ⟨gb177, 0, none⟩ = some (.bool a0_0) ∧ w'.cell? ⟨gb177, 1, none⟩ = some (.slice A0_1 l0_1.length c0_1) ∧ w'.cell? ⟨gb177, 2, none⟩ = some (.string a0_2) ∧ w'.cell? ⟨gb178, 0, none⟩ = some (.bool a1_0) ∧ w'.cell? ⟨gb178, 1, none⟩ = some (.slice A1_1 l1_1.length c1_1) ∧ w'.cell? ⟨gb178, 2, none⟩ = some (.string a1_2)) (ds := []) #[false, false, false, false, false, false] (by kernel_rfl) rfl rfl ⟨(blk_cell BK177.out 0).trans rfl, (blk_cell BK177.out 1).trans rfl, (blk_cell BK177.out 2).trans rfl, (blk_cell BK178.out 0).trans rfl, (blk_cell BK178.out 1).trans rfl, (blk_cell BK178.out 2).trans rfl⟩ (fun hHeld => ?_)
    generalize w32.drew = w33 at BK177 BK178 HB hHeld ⊢
    refine take_ (i := 0) (N := some 20) (v := ?_) (a' := ?_) #[true, false, false, false, false, false] rfl rfl (by kernel_rfl) (fun _ _ _ h => h) (Or.inl ⟨by rfl, ?_⟩) hHeld ?_ ?_
    rotate_left
    ·rintro w' ⟨s0, s1, s2, s3, s4, s5⟩
     go_simp
     with_reducible rfl
    rotate_left
    ·simp only [Act.put, List.setIfInBounds_toArray, List.set_cons_zero, List.set_cons_succ, i64_w, i32_w]
     rfl
    refine take_ (i := 2) (N := some 22) (v := ?_) (a' := ?_) #[true, false, true, false, false, false] rfl rfl (by kernel_rfl) (fun _ _ _ h => h) (Or.inl ⟨by rfl, ?_⟩) hHeld ?_ ?_
    rotate_left
    ·rintro w' ⟨s0, s1, s2, s3, s4, s5⟩
     go_simp
     with_reducible rfl
    rotate_left
    ·simp only [Act.put, List.setIfInBounds_toArray, List.set_cons_zero, List.set_cons_succ, i64_w, i32_w]
     rfl
    refine one_ (i := 1) (N := some 21) #[true, true, true, false, false, false] rfl rfl (by kernel_rfl) (by decide) (fun K hK => ?_)
    refine goes_ Try.func47 (by kernel_rfl) rfl #[.agg #[.bool a0_0, .slice A0_1 l0_1.length c0_1, .string a0_2]] (by rfl) rfl rfl (by (try simp only [List.map_toArray, List.map_cons, List.map_nil]); first | done | rfl | (simp only [List.length_drop, List.length_take]; rfl)) ?_
    with_reducible refine (laws_toArg.calls k a0_0 _ _ l0_1 a0_2 t181 t182 t185 _ ?side1 ?side2 A19.out).mono ?_
    (case side1 => exact mc ((Kd.C_below HR0_1.out HB.out)))
    (case side2 => exact HC0_1.out)
    rintro e w34 ⟨v183, rfl, ho0, hb⟩
    refine ⟨_, rfl, ?_⟩
    have HO184 := Aside0.mk (Kd.S_lower ho0 (below_size (ms HB)))
    replace BK177 := bb BK177 hb
    replace BK178 := bb BK178 hb
    replace HB := bs HB hb
    (try clear hb)
    (try clear hb2)
    (try clear hk)
    (try clear hi)
    (try clear ho0)
    refine hK.out _ _ ⟨(blk_cell BK177.out 0).trans rfl, (blk_cell BK177.out 1).trans rfl, (blk_cell BK177.out 2).trans rfl, (blk_cell BK178.out 0).trans rfl, (blk_cell BK178.out 1).trans rfl, (blk_cell BK178.out 2).trans rfl⟩ (fun hHeld => ?_)
    clear hK K
    refine norm_ (a' := ?_) ?_ ?_
    rotate_left
    ·show Act.put _ (some 21) _ = _
     simp only [Act.put, List.setIfInBounds_toArray, List.set_cons_zero, List.set_cons_succ, i64_w, i32_w]
     rfl
    refine one_ (i := 3) (N := some 23) #[true, true, true, true, false, false] rfl rfl (by kernel_rfl) (by decide) (fun K hK => ?_)
    refine goes_ Try.func47 (by kernel_rfl) rfl #[.agg #[.bool a1_0, .slice A1_1 l1_1.length c1_1, .string a1_2]] (by rfl) rfl rfl (by (try simp only [List.map_toArray, List.map_cons, List.map_nil]); first | done | rfl | (simp only [List.length_drop, List.length_take]; rfl)) ?_
    with_reducible refine (laws_toArg.calls k a1_0 _ _ l1_1 a1_2 t186 t187 t190 _ ?side1 ?side2 A20.out).mono ?_
    (case side1 => exact mc ((Kd.C_below HR1_1.out HB.out)))
    (case side2 => exact HC1_1.out)
    rintro e w35 ⟨v188, rfl, ho0, hb⟩
    refine ⟨_, rfl, ?_⟩
    have n0_ := Aside0.mk (Kd.S_elder' (by (with_reducible repeat (first | apply Kd.S_alloc | apply Kd.S_drewN | apply Kd.S_drew)); exact HO184.out) (Kd.S_base ho0) hb)
    have n1_ := Aside0.mk (Kd.S_lower (Kd.S_new' ho0 (Kd.S_lt (by (with_reducible repeat (first | apply Kd.S_alloc | apply Kd.S_drewN | apply Kd.S_drew)); exact HO184.out))) (below_size (ms HB)))
    have n2_ := bb BK177 hb
    have n3_ := bb BK178 hb
    have n4_ := bs HB hb
    clear HO184
    clear BK177
    clear BK178
    clear HB
    have HO184 := n0_
    have HO189 := n1_
    have BK177 := n2_
    have BK178 := n3_
    have HB := n4_
    clear n0_ n1_ n2_ n3_ n4_
    (try clear hb)
    (try clear hb2)
    (try clear hk)
    (try clear hi)
    (try clear ho0)
    obtain ⟨Ao36, co36, eo36⟩ := Kd.S_slice HO184.out
    (first | subst eo36 | (injection eo36 with f1_ f2_ f3_; have f4_ := f1_.symm; have f5_ := f3_.symm; clear f1_ f2_ f3_; subst f4_; subst f5_))
    obtain ⟨Ao37, co37, eo37⟩ := Kd.S_slice HO189.out
    (first | subst eo37 | (injection eo37 with f1_ f2_ f3_; have f4_ := f1_.symm; have f5_ := f3_.symm; clear f1_ f2_ f3_; subst f4_; subst f5_))
    refine hK.out _ _ ⟨(blk_cell BK177.out 0).trans rfl, (blk_cell BK177.out 1).trans rfl, (blk_cell BK177.out 2).trans rfl, (blk_cell BK178.out 0).trans rfl, (blk_cell BK178.out 1).trans rfl, (blk_cell BK178.out 2).trans rfl⟩ (fun hHeld => ?_)
    clear hK K
    refine norm_ (a' := ?_) ?_ ?_
    rotate_left
    ·show Act.put _ (some 23) _ = _
     simp only [Act.put, List.setIfInBounds_toArray, List.set_cons_zero, List.set_cons_succ, i64_w, i32_w]
     rfl
    refine one_ (i := 4) (N := some 24) #[true, true, true, true, true, false] rfl rfl (by kernel_rfl) (by decide) (fun K hK => ?_)
    refine goes_ Try.func46 (by kernel_rfl) rfl #[.agg #[.bool t181, .slice Ao36 t182.length co36, .string t185], .agg #[.bool t186, .slice Ao37 t187.length co37, .string t190]] (by rfl) rfl rfl (by (try simp only [List.map_toArray, List.map_cons, List.map_nil]); first | done | rfl | (simp only [List.length_drop, List.length_take]; rfl)) ?_
    with_reducible refine (spec_EqualArg.calls k t181 _ _ t182 t185 t186 _ _ t187 t190 t191 _ ?side1 ?side2 ?side3 ?side4 A21.out).mono ?_
    (case side1 => exact mc ((Kd.S_reads' HO184.out).2.2))
    (case side2 => exact (Kd.S_reads' HO184.out).2.1)
    (case side3 => exact mc ((Kd.S_reads' HO189.out).2.2))
    (case side4 => exact (Kd.S_reads' HO189.out).2.1)
    rintro e w38 ⟨rfl, hb⟩
    refine ⟨_, rfl, ?_⟩
    have n0_ := Aside0.mk (Kd.S_below (by (with_reducible repeat (first | apply Kd.S_alloc | apply Kd.S_drewN | apply Kd.S_drew)); exact HO184.out) hb)
    have n1_ := Aside0.mk (Kd.S_below (by (with_reducible repeat (first | apply Kd.S_alloc | apply Kd.S_drewN | apply Kd.S_drew)); exact HO189.out) hb)
    have n2_ := bb BK177 hb
    have n3_ := bb BK178 hb
    have n4_ := bs HB hb
    clear HO184
    clear HO189
    clear BK177
    clear BK178
    clear HB
    have HO184 := n0_
    have HO189 := n1_
    have BK177 := n2_
    have BK178 := n3_
    have HB := n4_
    clear n0_ n1_ n2_ n3_ n4_
    (try clear hb)
    (try clear hb2)
    (try clear hk)
    (try clear hi)
    refine hK.out _ _ ⟨(blk_cell BK177.out 0).trans rfl, (blk_cell BK177.out 1).trans rfl, (blk_cell BK177.out 2).trans rfl, (blk_cell BK178.out 0).trans rfl, (blk_cell BK178.out 1).trans rfl, (blk_cell BK178.out 2).trans rfl⟩ (fun hHeld => ?_)
    clear hK K
    refine norm_ (a' := ?_) ?_ ?_
    rotate_left
    ·show Act.put _ (some 24) _ = _
     simp only [Act.put, List.setIfInBounds_toArray, List.set_cons_zero, List.set_cons_succ, i64_w, i32_w]
     rfl
    refine pure_ (i := 5) (N := some 6) (v := ?_) (a' := ?_) #[true, true, true, true, true, true] rfl rfl (by kernel_rfl) (fun _ _ _ h => h) (Or.inl ⟨by rfl, ?_⟩) ?_ ?_
    rotate_left
    ·intro w'
     go_simp
     with_reducible rfl
    rotate_left
    ·simp only [Act.put, List.setIfInBounds_toArray, List.set_cons_zero, List.set_cons_succ, i64_w, i32_w]
     rfl
    refine done_ (by kernel_rfl) ?_
    have hcz39_0 : w38.cell? ⟨gb177, 0, none⟩ = some (.bool a0_0) := (blk_cell BK177.out 0).trans rfl
    have hcz39_1 : w38.cell? ⟨gb177, 1, none⟩ = some (.slice A0_1 l0_1.length c0_1) := (blk_cell BK177.out 1).trans rfl
    have hcz39_2 : w38.cell? ⟨gb177, 2, none⟩ = some (.string a0_2) := (blk_cell BK177.out 2).trans rfl
    have hfz39_0 := blk_frozen BK177.out 0
    have hfz39_1 := blk_frozen BK177.out 1
    have hfz39_2 := blk_frozen BK177.out 2
    try go_wp2_with (first | ((with_reducible refine gate_callee (f := 47) rfl ?_); refine goesL_ (some 26) rfl rfl Try.func47 (by kernel_rfl) rfl #[.agg #[.bool a0_0, .slice A0_1 l0_1.length c0_1, .string a0_2]] rfl (by (try simp only [List.map_toArray, List.map_cons, List.map_nil]); first | done | rfl | (simp only [List.length_drop, List.length_take]; rfl)) ?_; (with_reducible refine (laws_toArg.calls k a0_0 _ _ l0_1 a0_2 t192 t193 t196 _ ?side1 ?side2 A22.out).mono ?_); (case side1 => exact mc ((Kd.C_below HR0_1.out HB.out))); (case side2 => exact HC0_1.out); rintro e w40 ⟨v194, rfl, ho0, hb⟩; refine ⟨_, rfl, ?_⟩; have n0_ := Aside0.mk (Kd.S_elder' (by (with_reducible repeat (first | apply Kd.S_alloc | apply Kd.S_drewN | apply Kd.S_drew)); exact HO184.out) (Kd.S_base ho0) hb); have n1_ := Aside0.mk (Kd.S_elder' (by (with_reducible repeat (first | apply Kd.S_alloc | apply Kd.S_drewN | apply Kd.S_drew)); exact HO189.out) (Kd.S_base ho0) hb); have n2_ := Aside0.mk (Kd.S_lower (Kd.S_new' (Kd.S_new' ho0 (Kd.S_lt (by (with_reducible repeat (first | apply Kd.S_alloc | apply Kd.S_drewN | apply Kd.S_drew)); exact HO184.out))) (Kd.S_lt (by (with_reducible repeat (first | apply Kd.S_alloc | apply Kd.S_drewN | apply Kd.S_drew)); exact HO189.out))) (below_size (ms HB))); have n3_ := bb BK177 hb; have n4_ := bb BK178 hb; have n5_ := bs HB hb; clear HO184 HO189 BK177 BK178 HB; have HO184 := n0_; have HO189 := n1_; have HO195 := n2_; have BK177 := n3_; have BK178 := n4_; have HB := n5_; clear n0_ n1_ n2_ n3_ n4_ n5_; (try clear hb); (try clear ho0)) | ((with_reducible refine gate_dst (N := 7) rfl ?_); refine box_event ?hg (N := 7) ?hd (cs := #[.bool false, .slice none 0 0, .string (⟨#[]⟩ : ByteArray)]) (t := 73) ?hr ?_; (case hd => rfl); (case hg => rfl); (case hr => first | (go_simp; done) | (go_simp; rfl)); intro gb197 hg w41 hbox hb; have n0_ := Aside0.mk (Kd.S_below (by (with_reducible repeat (first | apply Kd.S_alloc | apply Kd.S_drewN | apply Kd.S_drew)); exact HO184.out) hb); have n1_ := Aside0.mk (Kd.S_below (by (with_reducible repeat (first | apply Kd.S_alloc | apply Kd.S_drewN | apply Kd.S_drew)); exact HO189.out) hb); have n2_ := Aside0.mk (Kd.S_below (by (with_reducible repeat (first | apply Kd.S_alloc | apply Kd.S_drewN | apply Kd.S_drew)); exact HO195.out) hb); have n3_ := bb BK177 hb; have n4_ := bb BK178 hb; have n5_ := bs HB hb; have n6_ := Aside0.mk (hbox); have n7_ := gw hg HB; have n8_ := gw hg HB; have n9_ := nl hg BK177; have n10_ := ng hg BK177; have n11_ := nl hg BK178; have n12_ := ng hg BK178; clear HO184 HO189 HO195 BK177 BK178 HB; have HO184 := n0_; have HO189 := n1_; have HO195 := n2_; have BK177 := n3_; have BK178 := n4_; have HB := n5_; have BK197 := n6_; have GW197 := n7_; have GE197 := n8_; have NB177_197 := n9_; have NB197_177 := n10_; have NB178_197 := n11_; have NB197_178 := n12_; clear n0_ n1_ n2_ n3_ n4_ n5_ n6_ n7_ n8_ n9_ n10_ n11_ n12_; clear hb hbox hg; have hnb42 := NB197_177.out; have hnc42 := NB177_197.out; have hnb43 := NB197_178.out; have hnc43 := NB178_197.out; have hcz44_0 : w41.cell? ⟨gb197, 0, none⟩ = some (.bool false) := (blk_cell BK197.out 0).trans rfl; have hcz44_1 : w41.cell? ⟨gb197, 1, none⟩ = some (.slice none 0 0) := (blk_cell BK197.out 1).trans rfl; have hcz44_2 : w41.cell? ⟨gb197, 2, none⟩ = some (.string (⟨#[]⟩ : ByteArray)) := (blk_cell BK197.out 2).trans rfl; have hfz44_0 := blk_frozen BK197.out 0; have hfz44_1 := blk_frozen BK197.out 1; have hfz44_2 := blk_frozen BK197.out 2; obtain ⟨Ao45, co45, eo45⟩ := Kd.S_slice HO195.out; subst eo45; have hcz46_0 : w41.cell? ⟨gb178, 0, none⟩ = some (.bool a1_0) := (blk_cell BK178.out 0).trans rfl; have hcz46_1 : w41.cell? ⟨gb178, 1, none⟩ = some (.slice A1_1 l1_1.length c1_1) := (blk_cell BK178.out 1).trans rfl; have hcz46_2 : w41.cell? ⟨gb178, 2, none⟩ = some (.string a1_2) := (blk_cell BK178.out 2).trans rfl; have hfz46_0 := blk_frozen BK178.out 0; have hfz46_1 := blk_frozen BK178.out 1; have hfz46_2 := blk_frozen BK178.out 2) | ((with_reducible refine gate_callee (f := 47) rfl ?_); refine goesL_ (some 28) rfl rfl Try.func47 (by kernel_rfl) rfl #[.agg #[.bool a1_0, .slice A1_1 l1_1.length c1_1, .string a1_2]] rfl (by (try simp only [List.map_toArray, List.map_cons, List.map_nil]); first | done | rfl | (simp only [List.length_drop, List.length_take]; rfl)) ?_; (with_reducible refine (laws_toArg.calls k a1_0 _ _ l1_1 a1_2 t198 t199 t202 _ ?side1 ?side2 A23.out).mono ?_); (case side1 => exact Kd.C_below HR1_1.out (ms HB)); (case side2 => exact HC1_1.out); rintro e w47 ⟨v200, rfl, ho0, hb⟩; refine ⟨_, rfl, ?_⟩; have n0_ := Aside0.mk (Kd.S_elder' (by (with_reducible repeat (first | apply Kd.S_alloc | apply Kd.S_drewN | apply Kd.S_drew)); exact (Kd.S_mono (Kd.S_far (p := ⟨gb197, 2, none⟩) (Kd.S_far (p := ⟨gb197, 1, none⟩) (Kd.S_far (p := ⟨gb197, 0, none⟩) (Kd.S_types HO184.out BK197.out (by decide)) (fun _ hk => hk.2) (.bool t192)) (fun _ hk => hk.2) (.slice Ao45 t193.length co45)) (fun _ hk => hk.2) (.string t196)) (fun _ h_ => h_.1))) (Kd.S_base ho0) hb); have n1_ := Aside0.mk (Kd.S_elder' (by (with_reducible repeat (first | apply Kd.S_alloc | apply Kd.S_drewN | apply Kd.S_drew)); exact (Kd.S_mono (Kd.S_far (p := ⟨gb197, 2, none⟩) (Kd.S_far (p := ⟨gb197, 1, none⟩) (Kd.S_far (p := ⟨gb197, 0, none⟩) (Kd.S_types HO189.out BK197.out (by decide)) (fun _ hk => hk.2) (.bool t192)) (fun _ hk => hk.2) (.slice Ao45 t193.length co45)) (fun _ hk => hk.2) (.string t196)) (fun _ h_ => h_.1))) (Kd.S_base ho0) hb); have n2_ := Aside0.mk (Kd.S_elder' (by (with_reducible repeat (first | apply Kd.S_alloc | apply Kd.S_drewN | apply Kd.S_drew)); exact (Kd.S_mono (Kd.S_far (p := ⟨gb197, 2, none⟩) (Kd.S_far (p := ⟨gb197, 1, none⟩) (Kd.S_far (p := ⟨gb197, 0, none⟩) (Kd.S_types HO195.out BK197.out (by decide)) (fun _ hk => hk.2) (.bool t192)) (fun _ hk => hk.2) (.slice Ao45 t193.length co45)) (fun _ hk => hk.2) (.string t196)) (fun _ h_ => h_.1))) (Kd.S_base ho0) hb); have n3_ := Aside0.mk (Kd.S_lower (Kd.S_new' (Kd.S_new' (Kd.S_new' ho0 (Kd.S_lt (by (with_reducible repeat (first | apply Kd.S_alloc | apply Kd.S_drewN | apply Kd.S_drew)); exact (Kd.S_mono (Kd.S_far (p := ⟨gb197, 2, none⟩) (Kd.S_far (p := ⟨gb197, 1, none⟩) (Kd.S_far (p := ⟨gb197, 0, none⟩) (Kd.S_types HO184.out BK197.out (by decide)) (fun _ hk => hk.2) (.bool t192)) (fun _ hk => hk.2) (.slice Ao45 t193.length co45)) (fun _ hk => hk.2) (.string t196)) (fun _ h_ => h_.1))))) (Kd.S_lt (by (with_reducible repeat (first | apply Kd.S_alloc | apply Kd.S_drewN | apply Kd.S_drew)); exact (Kd.S_mono (Kd.S_far (p := ⟨gb197, 2, none⟩) (Kd.S_far (p := ⟨gb197, 1, none⟩) (Kd.S_far (p := ⟨gb197, 0, none⟩) (Kd.S_types HO189.out BK197.out (by decide)) (fun _ hk => hk.2) (.bool t192)) (fun _ hk => hk.2) (.slice Ao45 t193.length co45)) (fun _ hk => hk.2) (.string t196)) (fun _ h_ => h_.1))))) (Kd.S_lt (by (with_reducible repeat (first | apply Kd.S_alloc | apply Kd.S_drewN | apply Kd.S_drew)); exact (Kd.S_mono (Kd.S_far (p := ⟨gb197, 2, none⟩) (Kd.S_far (p := ⟨gb197, 1, none⟩) (Kd.S_far (p := ⟨gb197, 0, none⟩) (Kd.S_types HO195.out BK197.out (by decide)) (fun _ hk => hk.2) (.bool t192)) (fun _ hk => hk.2) (.slice Ao45 t193.length co45)) (fun _ hk => hk.2) (.string t196)) (fun _ h_ => h_.1))))) (below_size (ms HB))); have n4_ := bf BK177 hb; have n5_ := bf BK178 hb; have n6_ := Aside0.mk (blk_below (g := gb197) (o := .cells #[.bool t192, .slice Ao45 t193.length co45, .string t196] 73 (0, 0)) (by (with_reducible repeat (first | refine blk_drewN ?_ _ | refine blk_drew ?_ | refine blk_alloc ?_ _)); refine blk_put (cs := #[.bool t192, .slice Ao45 t193.length co45, .string (⟨#[]⟩ : ByteArray)]) ?_ 2 _ rfl; (with_reducible repeat (first | refine blk_drewN ?_ _ | refine blk_drew ?_ | refine blk_alloc ?_ _)); refine blk_put (cs := #[.bool t192, .slice none 0 0, .string (⟨#[]⟩ : ByteArray)]) ?_ 1 _ rfl; (with_reducible repeat (first | refine blk_drewN ?_ _ | refine blk_drew ?_ | refine blk_alloc ?_ _)); refine blk_put (cs := #[.bool false, .slice none 0 0, .string (⟨#[]⟩ : ByteArray)]) ?_ 0 _ rfl; (with_reducible repeat (first | refine blk_drewN ?_ _ | refine blk_drew ?_ | refine blk_alloc ?_ _)); exact BK197.out) hb); have n7_ := bs HB hb; clear HO184 HO189 HO195 BK177 BK178 BK197 HB; have HO184 := n0_; have HO189 := n1_; have HO195 := n2_; have HO201 := n3_; have BK177 := n4_; have BK178 := n5_; have BK197 := n6_; have HB := n7_; clear n0_ n1_ n2_ n3_ n4_ n5_ n6_ n7_; (try clear hb); (try clear ho0)) | ((with_reducible refine gate_dst (N := 8) rfl ?_); refine box_event ?hg (N := 8) ?hd (cs := #[.bool false, .slice none 0 0, .string (⟨#[]⟩ : ByteArray)]) (t := 73) ?hr ?_; (case hd => rfl); (case hg => rfl); (case hr => first | (go_simp; done) | (go_simp; rfl)); intro gb203 hg w48 hbox hb; have n0_ := Aside0.mk (Kd.S_below (by (with_reducible repeat (first | apply Kd.S_alloc | apply Kd.S_drewN | apply Kd.S_drew)); exact HO184.out) hb); have n1_ := Aside0.mk (Kd.S_below (by (with_reducible repeat (first | apply Kd.S_alloc | apply Kd.S_drewN | apply Kd.S_drew)); exact HO189.out) hb); have n2_ := Aside0.mk (Kd.S_below (by (with_reducible repeat (first | apply Kd.S_alloc | apply Kd.S_drewN | apply Kd.S_drew)); exact HO195.out) hb); have n3_ := Aside0.mk (Kd.S_below (by (with_reducible repeat (first | apply Kd.S_alloc | apply Kd.S_drewN | apply Kd.S_drew)); exact HO201.out) hb); have n4_ := bb BK177 hb; have n5_ := bb BK178 hb; have n6_ := bb BK197 hb; have n7_ := bs HB hb; have n8_ := Aside0.mk (hbox); have n9_ := gw hg HB; have n10_ := gw hg HB; have n11_ := nl hg BK177; have n12_ := ng hg BK177; have n13_ := nl hg BK178; have n14_ := ng hg BK178; have n15_ := nl hg BK197; have n16_ := ng hg BK197; clear HO184 HO189 HO195 HO201 BK177 BK178 BK197 HB; have HO184 := n0_; have HO189 := n1_; have HO195 := n2_; have HO201 := n3_; have BK177 := n4_; have BK178 := n5_; have BK197 := n6_; have HB := n7_; have BK203 := n8_; have GW203 := n9_; have GE203 := n10_; have NB177_203 := n11_; have NB203_177 := n12_; have NB178_203 := n13_; have NB203_178 := n14_; have NB197_203 := n15_; have NB203_197 := n16_; clear n0_ n1_ n2_ n3_ n4_ n5_ n6_ n7_ n8_ n9_ n10_ n11_ n12_ n13_ n14_ n15_ n16_; clear hb hbox hg; have hnb49 := NB203_177.out; have hnc49 := NB177_203.out; have hnb50 := NB203_178.out; have hnc50 := NB178_203.out; have hnb51 := NB203_197.out; have hnc51 := NB197_203.out; have hcz52_0 : w48.cell? ⟨gb203, 0, none⟩ = some (.bool false) := (blk_cell BK203.out 0).trans rfl; have hcz52_1 : w48.cell? ⟨gb203, 1, none⟩ = some (.slice none 0 0) := (blk_cell BK203.out 1).trans rfl; have hcz52_2 : w48.cell? ⟨gb203, 2, none⟩ = some (.string (⟨#[]⟩ : ByteArray)) := (blk_cell BK203.out 2).trans rfl; have hfz52_0 := blk_frozen BK203.out 0; have hfz52_1 := blk_frozen BK203.out 1; have hfz52_2 := blk_frozen BK203.out 2; obtain ⟨Ao53, co53, eo53⟩ := Kd.S_slice HO201.out; subst eo53; have hcz54_0 : w48.cell? ⟨gb197, 0, none⟩ = some (.bool t192) := (blk_cell BK197.out 0).trans rfl; have hcz54_1 : w48.cell? ⟨gb197, 1, none⟩ = some (.slice Ao45 t193.length co45) := (blk_cell BK197.out 1).trans rfl; have hcz54_2 : w48.cell? ⟨gb197, 2, none⟩ = some (.string t196) := (blk_cell BK197.out 2).trans rfl; have hfz54_0 := blk_frozen BK197.out 0; have hfz54_1 := blk_frozen BK197.out 1; have hfz54_2 := blk_frozen BK197.out 2) | ((with_reducible refine gate_callee (f := 48) rfl ?_); refine goesL_ (some 31) rfl rfl Try.func48 (by kernel_rfl) rfl #[.agg #[.bool t192, .slice Ao45 t193.length co45, .string t196], .agg #[.bool t198, .slice Ao53 t199.length co53, .string t202]] rfl (by (try simp only [List.map_toArray, List.map_cons, List.map_nil]); first | done | rfl | (simp only [List.length_drop, List.length_take]; rfl)) ?_; (with_reducible refine (impl_EqualArg.calls k t192 _ _ t193 t196 t198 _ _ t199 t202 t204 _ ?side1 ?side2 ?side3 ?side4 A24.out).mono ?_); (case side1 => refine (Kd.S_reads' (e := 40) (base := w.heap.size) (ok := fun k_ => (((True ∧ some k_ ≠ (.slice Ao36 t182.length co36 : Value).ownBlock) ∧ some k_ ≠ (.slice Ao37 t187.length co37 : Value).ownBlock) ∧ some k_ ≠ (.slice Ao53 t199.length co53 : Value).ownBlock)) (n := t193.length) (c := co45) ?_).2.2; exact (by (with_reducible repeat (first | apply Kd.S_alloc | apply Kd.S_drewN | apply Kd.S_drew)); exact (Kd.S_mono (Kd.S_far (p := ⟨gb203, 2, none⟩) (Kd.S_far (p := ⟨gb203, 1, none⟩) (Kd.S_far (p := ⟨gb203, 0, none⟩) (Kd.S_types HO195.out BK203.out (by decide)) (fun _ hk => hk.2) (.bool t198)) (fun _ hk => hk.2) (.slice Ao53 t199.length co53)) (fun _ hk => hk.2) (.string t202)) (fun _ h_ => h_.1)))); (case side2 => exact (Kd.S_reads' HO195.out).2.1); (case side3 => refine (Kd.S_reads' (e := 40) (base := w.heap.size) (ok := fun k_ => (((True ∧ some k_ ≠ (.slice Ao36 t182.length co36 : Value).ownBlock) ∧ some k_ ≠ (.slice Ao37 t187.length co37 : Value).ownBlock) ∧ some k_ ≠ (.slice Ao45 t193.length co45 : Value).ownBlock)) (n := t199.length) (c := co53) ?_).2.2; exact (by (with_reducible repeat (first | apply Kd.S_alloc | apply Kd.S_drewN | apply Kd.S_drew)); exact (Kd.S_mono (Kd.S_far (p := ⟨gb203, 2, none⟩) (Kd.S_far (p := ⟨gb203, 1, none⟩) (Kd.S_far (p := ⟨gb203, 0, none⟩) (Kd.S_types HO201.out BK203.out (by decide)) (fun _ hk => hk.2) (.bool t198)) (fun _ hk => hk.2) (.slice Ao53 t199.length co53)) (fun _ hk => hk.2) (.string t202)) (fun _ h_ => h_.1)))); (case side4 => exact (Kd.S_reads' HO201.out).2.1); rintro e w55 ⟨rfl, hb⟩; refine ⟨_, rfl, ?_⟩; have n0_ := Aside0.mk (Kd.S_below (by (with_reducible repeat (first | apply Kd.S_alloc | apply Kd.S_drewN | apply Kd.S_drew)); exact (Kd.S_mono (Kd.S_far (p := ⟨gb203, 2, none⟩) (Kd.S_far (p := ⟨gb203, 1, none⟩) (Kd.S_far (p := ⟨gb203, 0, none⟩) (Kd.S_types HO184.out BK203.out (by decide)) (fun _ hk => hk.2) (.bool t198)) (fun _ hk => hk.2) (.slice Ao53 t199.length co53)) (fun _ hk => hk.2) (.string t202)) (fun _ h_ => h_.1))) hb); have n1_ := Aside0.mk (Kd.S_below (by (with_reducible repeat (first | apply Kd.S_alloc | apply Kd.S_drewN | apply Kd.S_drew)); exact (Kd.S_mono (Kd.S_far (p := ⟨gb203, 2, none⟩) (Kd.S_far (p := ⟨gb203, 1, none⟩) (Kd.S_far (p := ⟨gb203, 0, none⟩) (Kd.S_types HO189.out BK203.out (by decide)) (fun _ hk => hk.2) (.bool t198)) (fun _ hk => hk.2) (.slice Ao53 t199.length co53)) (fun _ hk => hk.2) (.string t202)) (fun _ h_ => h_.1))) hb); have n2_ := Aside0.mk (Kd.S_below (by (with_reducible repeat (first | apply Kd.S_alloc | apply Kd.S_drewN | apply Kd.S_drew)); exact (Kd.S_mono (Kd.S_far (p := ⟨gb203, 2, none⟩) (Kd.S_far (p := ⟨gb203, 1, none⟩) (Kd.S_far (p := ⟨gb203, 0, none⟩) (Kd.S_types HO195.out BK203.out (by decide)) (fun _ hk => hk.2) (.bool t198)) (fun _ hk => hk.2) (.slice Ao53 t199.length co53)) (fun _ hk => hk.2) (.string t202)) (fun _ h_ => h_.1))) hb); have n3_ := Aside0.mk (Kd.S_below (by (with_reducible repeat (first | apply Kd.S_alloc | apply Kd.S_drewN | apply Kd.S_drew)); exact (Kd.S_mono (Kd.S_far (p := ⟨gb203, 2, none⟩) (Kd.S_far (p := ⟨gb203, 1, none⟩) (Kd.S_far (p := ⟨gb203, 0, none⟩) (Kd.S_types HO201.out BK203.out (by decide)) (fun _ hk => hk.2) (.bool t198)) (fun _ hk => hk.2) (.slice Ao53 t199.length co53)) (fun _ hk => hk.2) (.string t202)) (fun _ h_ => h_.1))) hb); have n4_ := bf BK177 hb; have n5_ := bf BK178 hb; have n6_ := bf BK197 hb; have n7_ := Aside0.mk (blk_below (g := gb203) (o := .cells #[.bool t198, .slice Ao53 t199.length co53, .string t202] 73 (0, 0)) (by (with_reducible repeat (first | refine blk_drewN ?_ _ | refine blk_drew ?_ | refine blk_alloc ?_ _)); refine blk_put (cs := #[.bool t198, .slice Ao53 t199.length co53, .string (⟨#[]⟩ : ByteArray)]) ?_ 2 _ rfl; (with_reducible repeat (first | refine blk_drewN ?_ _ | refine blk_drew ?_ | refine blk_alloc ?_ _)); refine blk_put (cs := #[.bool t198, .slice none 0 0, .string (⟨#[]⟩ : ByteArray)]) ?_ 1 _ rfl; (with_reducible repeat (first | refine blk_drewN ?_ _ | refine blk_drew ?_ | refine blk_alloc ?_ _)); refine blk_put (cs := #[.bool false, .slice none 0 0, .string (⟨#[]⟩ : ByteArray)]) ?_ 0 _ rfl; (with_reducible repeat (first | refine blk_drewN ?_ _ | refine blk_drew ?_ | refine blk_alloc ?_ _)); exact BK203.out) hb); have n8_ := bs HB hb; clear HO184 HO189 HO195 HO201 BK177 BK178 BK197 BK203 HB; have HO184 := n0_; have HO189 := n1_; have HO195 := n2_; have HO201 := n3_; have BK177 := n4_; have BK178 := n5_; have BK197 := n6_; have BK203 := n7_; have HB := n8_; clear n0_ n1_ n2_ n3_ n4_ n5_ n6_ n7_ n8_; (try clear hb)))
    go_ret
    exact ⟨by first | rfl | (simp [errW_none, errW_some] <;> rfl) | (simp [*, errW_none, errW_some] <;> rfl), ms HB⟩
   ·rw [if_neg c25] at H
    have c25b0 : (t204 != t191) = false := by simpa using c25
    (try (have c25b1 : decide (t204 = t191) = true := by simpa using c25))
    (try (have c25b2 : (t204 == t191) = true := by simpa using c25))
    clear c25
    replace H := Option.bind_eq_some_iff.mp H
    obtain ⟨⟨t205, t206, t209⟩, A560, H⟩ := H
    replace H : ((laws_eqArg.f k t192 t193 t196 t205 t206 t209).bind fun t210 => (if t210 = true then ((laws_toArg.f k a1_0 l1_1 a1_2).bind fun bt211 => ((laws_eqArg.f k t198 t199 t202 bt211.1 bt211.2.1 bt211.2.2).bind fun t216 => (if t216 = true then (some true) else (some false)))) else (some false))) = some r := H
    have A56 := Aside0.mk A560
    clear A560
    replace H := Option.bind_eq_some_iff.mp H
    obtain ⟨t210, A570, H⟩ := H
    replace H : (if t210 = true then ((laws_toArg.f k a1_0 l1_1 a1_2).bind fun bt211 => ((laws_eqArg.f k t198 t199 t202 bt211.1 bt211.2.1 bt211.2.2).bind fun t216 => (if t216 = true then (some true) else (some false)))) else (some false)) = some r := H
    have A57 := Aside0.mk A570
    clear A570
    by_cases c58 : t210 = true
    ·subst c58
     have H1 : ((laws_toArg.f k a1_0 l1_1 a1_2).bind fun bt211 => ((laws_eqArg.f k t198 t199 t202 bt211.1 bt211.2.1 bt211.2.2).bind fun t216 => (if t216 = true then (some true) else (some false)))) = some r := by rw [if_pos rfl] at H; exact H
     clear H
     have H := H1
     clear H1
     replace H := Option.bind_eq_some_iff.mp H
     obtain ⟨⟨t211, t212, t215⟩, A590, H⟩ := H
     replace H : ((laws_eqArg.f k t198 t199 t202 t211 t212 t215).bind fun t216 => (if t216 = true then (some true) else (some false))) = some r := H
     have A59 := Aside0.mk A590
     clear A590
     replace H := Option.bind_eq_some_iff.mp H
     obtain ⟨t216, A600, H⟩ := H
     replace H : (if t216 = true then (some true) else (some false)) = some r := H
     have A60 := Aside0.mk A600
     clear A600
     by_cases c61 : t216 = true
     ·subst c61
      have H1 : (some true) = some r := by rw [if_pos rfl] at H; exact H
      clear H
      have H := H1
      clear H1
      obtain rfl := Option.some.inj H
      go_enter Try.func8, Try.ntmps8
      try go_wp2_with (first | ((with_reducible refine gate_dst (N := 2) rfl ?_); refine box_event ?hg (N := 2) ?hd (cs := #[.bool a0_0, .slice A0_1 l0_1.length c0_1, .string a0_2]) (t := 68) ?hr ?_; (case hd => rfl); (case hg => rfl); (case hr => first | (go_simp; done) | (go_simp; rfl)); intro gb177 hg w62 hbox hb; have BK177 := Aside0.mk (hbox); have GW177 := gw hg HB; have GE177 := gw hg HB; replace HB := bs HB hb; clear hb hbox hg) | ((with_reducible refine gate_dst (N := 3) rfl ?_); refine box_event ?hg (N := 3) ?hd (cs := #[.bool a1_0, .slice A1_1 l1_1.length c1_1, .string a1_2]) (t := 68) ?hr ?_; (case hd => rfl); (case hg => rfl); (case hr => first | (go_simp; done) | (go_simp; rfl)); intro gb178 hg w63 hbox hb; have BK178 := Aside0.mk (hbox); have GW178 := gw hg HB; have GE178 := gw hg HB; replace HB := bs HB hb; have NB177_178 := nl hg BK177; have NB178_177 := ng hg BK177; replace BK177 := bb BK177 hb; clear hb hbox hg; have hnb64 := NB177_178.out; have hnc64 := NB178_177.out; have hcz65_0 : w63.cell? ⟨gb177, 0, none⟩ = some (.bool a0_0) := (blk_cell BK177.out 0).trans rfl; have hcz65_1 : w63.cell? ⟨gb177, 1, none⟩ = some (.slice A0_1 l0_1.length c0_1) := (blk_cell BK177.out 1).trans rfl; have hcz65_2 : w63.cell? ⟨gb177, 2, none⟩ = some (.string a0_2) := (blk_cell BK177.out 2).trans rfl; have hfz65_0 := blk_frozen BK177.out 0; have hfz65_1 := blk_frozen BK177.out 1; have hfz65_2 := blk_frozen BK177.out 2) | ((with_reducible refine gate_callee (f := 45) rfl ?_); refine goesL_ (some 12) rfl rfl Try.func45 (by kernel_rfl) rfl #[.agg #[.bool a0_0, .slice A0_1 l0_1.length c0_1, .string a0_2], .int .i64 1048576] rfl (by (try simp only [List.map_toArray, List.map_cons, List.map_nil]); first | done | rfl | (simp only [List.length_drop, List.length_take]; rfl)) ?_; (with_reducible refine (laws_szArg.calls k a0_0 _ _ l0_1 a0_2 1048576 t179 _ ?side1 ?side2 A3.out).mono ?_); (case side1 => exact mc ((Kd.C_below HR0_1.out HB.out))); (case side2 => exact HC0_1.out); rintro e w66 ⟨rfl, hb⟩; refine ⟨_, rfl, ?_⟩; replace BK177 := bb BK177 hb; replace BK178 := bb BK178 hb; replace HB := bs HB hb; (try clear hb); have hcz67_0 : w66.cell? ⟨gb178, 0, none⟩ = some (.bool a1_0) := (blk_cell BK178.out 0).trans rfl; have hcz67_1 : w66.cell? ⟨gb178, 1, none⟩ = some (.slice A1_1 l1_1.length c1_1) := (blk_cell BK178.out 1).trans rfl; have hcz67_2 : w66.cell? ⟨gb178, 2, none⟩ = some (.string a1_2) := (blk_cell BK178.out 2).trans rfl; have hfz67_0 := blk_frozen BK178.out 0; have hfz67_1 := blk_frozen BK178.out 1; have hfz67_2 := blk_frozen BK178.out 2) | ((with_reducible refine gate_callee (f := 45) rfl ?_); refine goesL_ (some 17) rfl rfl Try.func45 (by kernel_rfl) rfl #[.agg #[.bool a1_0, .slice A1_1 l1_1.length c1_1, .string a1_2], .int .i64 t179] rfl (by (try simp only [List.map_toArray, List.map_cons, List.map_nil]); first | done | rfl | (simp only [List.length_drop, List.length_take]; rfl)) ?_; (with_reducible refine (laws_szArg.calls k a1_0 _ _ l1_1 a1_2 t179 t180 _ ?side1 ?side2 A10.out).mono ?_); (case side1 => exact mc ((Kd.C_below HR1_1.out HB.out))); (case side2 => exact HC1_1.out); rintro e w68 ⟨rfl, hb⟩; refine ⟨_, rfl, ?_⟩; replace BK177 := bb BK177 hb; replace BK178 := bb BK178 hb; replace HB := bs HB hb; (try clear hb)))
      replace BK177 := Aside0.mk (blk_drew BK177.out)
      replace BK178 := Aside0.mk (blk_drew BK178.out)
      replace HB := Aside0.mk (below_drew1 HB.out)
      refine start_ (n := 6) (S := fun w' => w'.cell? ⟨gb177, 0, none⟩ = some (.bool a0_0) ∧ w'.cell? ⟨gb177, 1, none⟩ = some (.slice A0_1 l0_1.length c0_1) ∧ w'.cell? ⟨gb177, 2, none⟩ = some (.string a0_2) ∧ w'.cell? ⟨gb178, 0, none⟩ = some (.bool a1_0) ∧ w'.cell? ⟨gb178, 1, none⟩ = some (.slice A1_1 l1_1.length c1_1) ∧ w'.cell? ⟨gb178, 2, none⟩ = some (.string a1_2)) (ds := []) #[false, false, false, false, false, false] (by kernel_rfl) rfl rfl ⟨(blk_cell BK177.out 0).trans rfl, (blk_cell BK177.out 1).trans rfl, (blk_cell BK177.out 2).trans rfl, (blk_cell BK178.out 0).trans rfl, (blk_cell BK178.out 1).trans rfl, (blk_cell BK178.out 2).trans rfl⟩ (fun hHeld => ?_)
      generalize w68.drew = w69 at BK177 BK178 HB hHeld ⊢
      refine take_ (i := 0) (N := some 20) (v := ?_) (a' := ?_) #[true, false, false, false, false, false] rfl rfl (by kernel_rfl) (fun _ _ _ h => h) (Or.inl ⟨by rfl, ?_⟩) hHeld ?_ ?_
      rotate_left
      ·rintro w' ⟨s0, s1, s2, s3, s4, s5⟩
       go_simp
       with_reducible rfl
      rotate_left
      ·simp only [Act.put, List.setIfInBounds_toArray, List.set_cons_zero, List.set_cons_succ, i64_w, i32_w]
       rfl
      refine take_ (i := 2) (N := some 22) (v := ?_) (a' := ?_) #[true, false, true, false, false, false] rfl rfl (by kernel_rfl) (fun _ _ _ h => h) (Or.inl ⟨by rfl, ?_⟩) hHeld ?_ ?_
      rotate_left
      ·rintro w' ⟨s0, s1, s2, s3, s4, s5⟩
       go_simp
       with_reducible rfl
      rotate_left
      ·simp only [Act.put, List.setIfInBounds_toArray, List.set_cons_zero, List.set_cons_succ, i64_w, i32_w]
       rfl
      refine one_ (i := 1) (N := some 21) #[true, true, true, false, false, false] rfl rfl (by kernel_rfl) (by decide) (fun K hK => ?_)
      refine goes_ Try.func47 (by kernel_rfl) rfl #[.agg #[.bool a0_0, .slice A0_1 l0_1.length c0_1, .string a0_2]] (by rfl) rfl rfl (by (try simp only [List.map_toArray, List.map_cons, List.map_nil]); first | done | rfl | (simp only [List.length_drop, List.length_take]; rfl)) ?_
      with_reducible refine (laws_toArg.calls k a0_0 _ _ l0_1 a0_2 t181 t182 t185 _ ?side1 ?side2 A19.out).mono ?_
      (case side1 => exact mc ((Kd.C_below HR0_1.out HB.out)))
      (case side2 => exact HC0_1.out)
      rintro e w70 ⟨v183, rfl, ho0, hb⟩
      refine ⟨_, rfl, ?_⟩
      have HO184 := Aside0.mk (Kd.S_lower ho0 (below_size (ms HB)))
      replace BK177 := bb BK177 hb
      replace BK178 := bb BK178 hb
      replace HB := bs HB hb
      (try clear hb)
      (try clear hb2)
      (try clear hk)
      (try clear hi)
      (try clear ho0)
      refine hK.out _ _ ⟨(blk_cell BK177.out 0).trans rfl, (blk_cell BK177.out 1).trans rfl, (blk_cell BK177.out 2).trans rfl, (blk_cell BK178.out 0).trans rfl, (blk_cell BK178.out 1).trans rfl, (blk_cell BK178.out 2).trans rfl⟩ (fun hHeld => ?_)
      clear hK K
      refine norm_ (a' := ?_) ?_ ?_
      rotate_left
      ·show Act.put _ (some 21) _ = _
       simp only [Act.put, List.setIfInBounds_toArray, List.set_cons_zero, List.set_cons_succ, i64_w, i32_w]
       rfl
      refine one_ (i := 3) (N := some 23) #[true, true, true, true, false, false] rfl rfl (by kernel_rfl) (by decide) (fun K hK => ?_)
      refine goes_ Try.func47 (by kernel_rfl) rfl #[.agg #[.bool a1_0, .slice A1_1 l1_1.length c1_1, .string a1_2]] (by rfl) rfl rfl (by (try simp only [List.map_toArray, List.map_cons, List.map_nil]); first | done | rfl | (simp only [List.length_drop, List.length_take]; rfl)) ?_
      with_reducible refine (laws_toArg.calls k a1_0 _ _ l1_1 a1_2 t186 t187 t190 _ ?side1 ?side2 A20.out).mono ?_
      (case side1 => exact mc ((Kd.C_below HR1_1.out HB.out)))
      (case side2 => exact HC1_1.out)
      rintro e w71 ⟨v188, rfl, ho0, hb⟩
      refine ⟨_, rfl, ?_⟩
      have n0_ := Aside0.mk (Kd.S_elder' (by (with_reducible repeat (first | apply Kd.S_alloc | apply Kd.S_drewN | apply Kd.S_drew)); exact HO184.out) (Kd.S_base ho0) hb)
      have n1_ := Aside0.mk (Kd.S_lower (Kd.S_new' ho0 (Kd.S_lt (by (with_reducible repeat (first | apply Kd.S_alloc | apply Kd.S_drewN | apply Kd.S_drew)); exact HO184.out))) (below_size (ms HB)))
      have n2_ := bb BK177 hb
      have n3_ := bb BK178 hb
      have n4_ := bs HB hb
      clear HO184
      clear BK177
      clear BK178
      clear HB
      have HO184 := n0_
      have HO189 := n1_
      have BK177 := n2_
      have BK178 := n3_
      have HB := n4_
      clear n0_ n1_ n2_ n3_ n4_
      (try clear hb)
      (try clear hb2)
      (try clear hk)
      (try clear hi)
      (try clear ho0)
      obtain ⟨Ao72, co72, eo72⟩ := Kd.S_slice HO184.out
      (first | subst eo72 | (injection eo72 with f1_ f2_ f3_; have f4_ := f1_.symm; have f5_ := f3_.symm; clear f1_ f2_ f3_; subst f4_; subst f5_))
      obtain ⟨Ao73, co73, eo73⟩ := Kd.S_slice HO189.out
      (first | subst eo73 | (injection eo73 with f1_ f2_ f3_; have f4_ := f1_.symm; have f5_ := f3_.symm; clear f1_ f2_ f3_; subst f4_; subst f5_))
      refine hK.out _ _ ⟨(blk_cell BK177.out 0).trans rfl, (blk_cell BK177.out 1).trans rfl, (blk_cell BK177.out 2).trans rfl, (blk_cell BK178.out 0).trans rfl, (blk_cell BK178.out 1).trans rfl, (blk_cell BK178.out 2).trans rfl⟩ (fun hHeld => ?_)
      clear hK K
      refine norm_ (a' := ?_) ?_ ?_
      rotate_left
      ·show Act.put _ (some 23) _ = _
       simp only [Act.put, List.setIfInBounds_toArray, List.set_cons_zero, List.set_cons_succ, i64_w, i32_w]
       rfl
      refine one_ (i := 4) (N := some 24) #[true, true, true, true, true, false] rfl rfl (by kernel_rfl) (by decide) (fun K hK => ?_)
      refine goes_ Try.func46 (by kernel_rfl) rfl #[.agg #[.bool t181, .slice Ao72 t182.length co72, .string t185], .agg #[.bool t186, .slice Ao73 t187.length co73, .string t190]] (by rfl) rfl rfl (by (try simp only [List.map_toArray, List.map_cons, List.map_nil]); first | done | rfl | (simp only [List.length_drop, List.length_take]; rfl)) ?_
      with_reducible refine (spec_EqualArg.calls k t181 _ _ t182 t185 t186 _ _ t187 t190 t191 _ ?side1 ?side2 ?side3 ?side4 A21.out).mono ?_
      (case side1 => exact mc ((Kd.S_reads' HO184.out).2.2))
      (case side2 => exact (Kd.S_reads' HO184.out).2.1)
      (case side3 => exact mc ((Kd.S_reads' HO189.out).2.2))
      (case side4 => exact (Kd.S_reads' HO189.out).2.1)
      rintro e w74 ⟨rfl, hb⟩
      refine ⟨_, rfl, ?_⟩
      have n0_ := Aside0.mk (Kd.S_below (by (with_reducible repeat (first | apply Kd.S_alloc | apply Kd.S_drewN | apply Kd.S_drew)); exact HO184.out) hb)
      have n1_ := Aside0.mk (Kd.S_below (by (with_reducible repeat (first | apply Kd.S_alloc | apply Kd.S_drewN | apply Kd.S_drew)); exact HO189.out) hb)
      have n2_ := bb BK177 hb
      have n3_ := bb BK178 hb
      have n4_ := bs HB hb
      clear HO184
      clear HO189
      clear BK177
      clear BK178
      clear HB
      have HO184 := n0_
      have HO189 := n1_
      have BK177 := n2_
      have BK178 := n3_
      have HB := n4_
      clear n0_ n1_ n2_ n3_ n4_
      (try clear hb)
      (try clear hb2)
      (try clear hk)
      (try clear hi)
      refine hK.out _ _ ⟨(blk_cell BK177.out 0).trans rfl, (blk_cell BK177.out 1).trans rfl, (blk_cell BK177.out 2).trans rfl, (blk_cell BK178.out 0).trans rfl, (blk_cell BK178.out 1).trans rfl, (blk_cell BK178.out 2).trans rfl⟩ (fun hHeld => ?_)
      clear hK K
      refine norm_ (a' := ?_) ?_ ?_
      rotate_left
      ·show Act.put _ (some 24) _ = _
       simp only [Act.put, List.setIfInBounds_toArray, List.set_cons_zero, List.set_cons_succ, i64_w, i32_w]
       rfl
      refine pure_ (i := 5) (N := some 6) (v := ?_) (a' := ?_) #[true, true, true, true, true, true] rfl rfl (by kernel_rfl) (fun _ _ _ h => h) (Or.inl ⟨by rfl, ?_⟩) ?_ ?_
      rotate_left
      ·intro w'
       go_simp
       with_reducible rfl
      rotate_left
      ·simp only [Act.put, List.setIfInBounds_toArray, List.set_cons_zero, List.set_cons_succ, i64_w, i32_w]
       rfl
      refine done_ (by kernel_rfl) ?_
      have hcz75_0 : w74.cell? ⟨gb177, 0, none⟩ = some (.bool a0_0) := (blk_cell BK177.out 0).trans rfl
      have hcz75_1 : w74.cell? ⟨gb177, 1, none⟩ = some (.slice A0_1 l0_1.length c0_1) := (blk_cell BK177.out 1).trans rfl
      have hcz75_2 : w74.cell? ⟨gb177, 2, none⟩ = some (.string a0_2) := (blk_cell BK177.out 2).trans rfl
      have hfz75_0 := blk_frozen BK177.out 0
      have hfz75_1 := blk_frozen BK177.out 1
      have hfz75_2 := blk_frozen BK177.out 2
      try go_wp2_with (first | ((with_reducible refine gate_callee (f := 47) rfl ?_); refine goesL_ (some 26) rfl rfl Try.func47 (by kernel_rfl) rfl #[.agg #[.bool a0_0, .slice A0_1 l0_1.length c0_1, .string a0_2]] rfl (by (try simp only [List.map_toArray, List.map_cons, List.map_nil]); first | done | rfl | (simp only [List.length_drop, List.length_take]; rfl)) ?_; (with_reducible refine (laws_toArg.calls k a0_0 _ _ l0_1 a0_2 t192 t193 t196 _ ?side1 ?side2 A22.out).mono ?_); (case side1 => exact mc ((Kd.C_below HR0_1.out HB.out))); (case side2 => exact HC0_1.out); rintro e w76 ⟨v194, rfl, ho0, hb⟩; refine ⟨_, rfl, ?_⟩; have n0_ := Aside0.mk (Kd.S_elder' (by (with_reducible repeat (first | apply Kd.S_alloc | apply Kd.S_drewN | apply Kd.S_drew)); exact HO184.out) (Kd.S_base ho0) hb); have n1_ := Aside0.mk (Kd.S_elder' (by (with_reducible repeat (first | apply Kd.S_alloc | apply Kd.S_drewN | apply Kd.S_drew)); exact HO189.out) (Kd.S_base ho0) hb); have n2_ := Aside0.mk (Kd.S_lower (Kd.S_new' (Kd.S_new' ho0 (Kd.S_lt (by (with_reducible repeat (first | apply Kd.S_alloc | apply Kd.S_drewN | apply Kd.S_drew)); exact HO184.out))) (Kd.S_lt (by (with_reducible repeat (first | apply Kd.S_alloc | apply Kd.S_drewN | apply Kd.S_drew)); exact HO189.out))) (below_size (ms HB))); have n3_ := bb BK177 hb; have n4_ := bb BK178 hb; have n5_ := bs HB hb; clear HO184 HO189 BK177 BK178 HB; have HO184 := n0_; have HO189 := n1_; have HO195 := n2_; have BK177 := n3_; have BK178 := n4_; have HB := n5_; clear n0_ n1_ n2_ n3_ n4_ n5_; (try clear hb); (try clear ho0)) | ((with_reducible refine gate_dst (N := 7) rfl ?_); refine box_event ?hg (N := 7) ?hd (cs := #[.bool false, .slice none 0 0, .string (⟨#[]⟩ : ByteArray)]) (t := 73) ?hr ?_; (case hd => rfl); (case hg => rfl); (case hr => first | (go_simp; done) | (go_simp; rfl)); intro gb197 hg w77 hbox hb; have n0_ := Aside0.mk (Kd.S_below (by (with_reducible repeat (first | apply Kd.S_alloc | apply Kd.S_drewN | apply Kd.S_drew)); exact HO184.out) hb); have n1_ := Aside0.mk (Kd.S_below (by (with_reducible repeat (first | apply Kd.S_alloc | apply Kd.S_drewN | apply Kd.S_drew)); exact HO189.out) hb); have n2_ := Aside0.mk (Kd.S_below (by (with_reducible repeat (first | apply Kd.S_alloc | apply Kd.S_drewN | apply Kd.S_drew)); exact HO195.out) hb); have n3_ := bb BK177 hb; have n4_ := bb BK178 hb; have n5_ := bs HB hb; have n6_ := Aside0.mk (hbox); have n7_ := gw hg HB; have n8_ := gw hg HB; have n9_ := nl hg BK177; have n10_ := ng hg BK177; have n11_ := nl hg BK178; have n12_ := ng hg BK178; clear HO184 HO189 HO195 BK177 BK178 HB; have HO184 := n0_; have HO189 := n1_; have HO195 := n2_; have BK177 := n3_; have BK178 := n4_; have HB := n5_; have BK197 := n6_; have GW197 := n7_; have GE197 := n8_; have NB177_197 := n9_; have NB197_177 := n10_; have NB178_197 := n11_; have NB197_178 := n12_; clear n0_ n1_ n2_ n3_ n4_ n5_ n6_ n7_ n8_ n9_ n10_ n11_ n12_; clear hb hbox hg; have hnb78 := NB197_177.out; have hnc78 := NB177_197.out; have hnb79 := NB197_178.out; have hnc79 := NB178_197.out; have hcz80_0 : w77.cell? ⟨gb197, 0, none⟩ = some (.bool false) := (blk_cell BK197.out 0).trans rfl; have hcz80_1 : w77.cell? ⟨gb197, 1, none⟩ = some (.slice none 0 0) := (blk_cell BK197.out 1).trans rfl; have hcz80_2 : w77.cell? ⟨gb197, 2, none⟩ = some (.string (⟨#[]⟩ : ByteArray)) := (blk_cell BK197.out 2).trans rfl; have hfz80_0 := blk_frozen BK197.out 0; have hfz80_1 := blk_frozen BK197.out 1; have hfz80_2 := blk_frozen BK197.out 2; obtain ⟨Ao81, co81, eo81⟩ := Kd.S_slice HO195.out; subst eo81; have hcz82_0 : w77.cell? ⟨gb178, 0, none⟩ = some (.bool a1_0) := (blk_cell BK178.out 0).trans rfl; have hcz82_1 : w77.cell? ⟨gb178, 1, none⟩ = some (.slice A1_1 l1_1.length c1_1) := (blk_cell BK178.out 1).trans rfl; have hcz82_2 : w77.cell? ⟨gb178, 2, none⟩ = some (.string a1_2) := (blk_cell BK178.out 2).trans rfl; have hfz82_0 := blk_frozen BK178.out 0; have hfz82_1 := blk_frozen BK178.out 1; have hfz82_2 := blk_frozen BK178.out 2) | ((with_reducible refine gate_callee (f := 47) rfl ?_); refine goesL_ (some 28) rfl rfl Try.func47 (by kernel_rfl) rfl #[.agg #[.bool a1_0, .slice A1_1 l1_1.length c1_1, .string a1_2]] rfl (by (try simp only [List.map_toArray, List.map_cons, List.map_nil]); first | done | rfl | (simp only [List.length_drop, List.length_take]; rfl)) ?_; (with_reducible refine (laws_toArg.calls k a1_0 _ _ l1_1 a1_2 t198 t199 t202 _ ?side1 ?side2 A23.out).mono ?_); (case side1 => exact Kd.C_below HR1_1.out (ms HB)); (case side2 => exact HC1_1.out); rintro e w83 ⟨v200, rfl, ho0, hb⟩; refine ⟨_, rfl, ?_⟩; have n0_ := Aside0.mk (Kd.S_elder' (by (with_reducible repeat (first | apply Kd.S_alloc | apply Kd.S_drewN | apply Kd.S_drew)); exact (Kd.S_mono (Kd.S_far (p := ⟨gb197, 2, none⟩) (Kd.S_far (p := ⟨gb197, 1, none⟩) (Kd.S_far (p := ⟨gb197, 0, none⟩) (Kd.S_types HO184.out BK197.out (by decide)) (fun _ hk => hk.2) (.bool t192)) (fun _ hk => hk.2) (.slice Ao81 t193.length co81)) (fun _ hk => hk.2) (.string t196)) (fun _ h_ => h_.1))) (Kd.S_base ho0) hb); have n1_ := Aside0.mk (Kd.S_elder' (by (with_reducible repeat (first | apply Kd.S_alloc | apply Kd.S_drewN | apply Kd.S_drew)); exact (Kd.S_mono (Kd.S_far (p := ⟨gb197, 2, none⟩) (Kd.S_far (p := ⟨gb197, 1, none⟩) (Kd.S_far (p := ⟨gb197, 0, none⟩) (Kd.S_types HO189.out BK197.out (by decide)) (fun _ hk => hk.2) (.bool t192)) (fun _ hk => hk.2) (.slice Ao81 t193.length co81)) (fun _ hk => hk.2) (.string t196)) (fun _ h_ => h_.1))) (Kd.S_base ho0) hb); have n2_ := Aside0.mk (Kd.S_elder' (by (with_reducible repeat (first | apply Kd.S_alloc | apply Kd.S_drewN | apply Kd.S_drew)); exact (Kd.S_mono (Kd.S_far (p := ⟨gb197, 2, none⟩) (Kd.S_far (p := ⟨gb197, 1, none⟩) (Kd.S_far (p := ⟨gb197, 0, none⟩) (Kd.S_types HO195.out BK197.out (by decide)) (fun _ hk => hk.2) (.bool t192)) (fun _ hk => hk.2) (.slice Ao81 t193.length co81)) (fun _ hk => hk.2) (.string t196)) (fun _ h_ => h_.1))) (Kd.S_base ho0) hb); have n3_ := Aside0.mk (Kd.S_lower (Kd.S_new' (Kd.S_new' (Kd.S_new' ho0 (Kd.S_lt (by (with_reducible repeat (first | apply Kd.S_alloc | apply Kd.S_drewN | apply Kd.S_drew)); exact (Kd.S_mono (Kd.S_far (p := ⟨gb197, 2, none⟩) (Kd.S_far (p := ⟨gb197, 1, none⟩) (Kd.S_far (p := ⟨gb197, 0, none⟩) (Kd.S_types HO184.out BK197.out (by decide)) (fun _ hk => hk.2) (.bool t192)) (fun _ hk => hk.2) (.slice Ao81 t193.length co81)) (fun _ hk => hk.2) (.string t196)) (fun _ h_ => h_.1))))) (Kd.S_lt (by (with_reducible repeat (first | apply Kd.S_alloc | apply Kd.S_drewN | apply Kd.S_drew)); exact (Kd.S_mono (Kd.S_far (p := ⟨gb197, 2, none⟩) (Kd.S_far (p := ⟨gb197, 1, none⟩) (Kd.S_far (p := ⟨gb197, 0, none⟩) (Kd.S_types HO189.out BK197.out (by decide)) (fun _ hk => hk.2) (.bool t192)) (fun _ hk => hk.2) (.slice Ao81 t193.length co81)) (fun _ hk => hk.2) (.string t196)) (fun _ h_ => h_.1))))) (Kd.S_lt (by (with_reducible repeat (first | apply Kd.S_alloc | apply Kd.S_drewN | apply Kd.S_drew)); exact (Kd.S_mono (Kd.S_far (p := ⟨gb197, 2, none⟩) (Kd.S_far (p := ⟨gb197, 1, none⟩) (Kd.S_far (p := ⟨gb197, 0, none⟩) (Kd.S_types HO195.out BK197.out (by decide)) (fun _ hk => hk.2) (.bool t192)) (fun _ hk => hk.2) (.slice Ao81 t193.length co81)) (fun _ hk => hk.2) (.string t196)) (fun _ h_ => h_.1))))) (below_size (ms HB))); have n4_ := bf BK177 hb; have n5_ := bf BK178 hb; have n6_ := Aside0.mk (blk_below (g := gb197) (o := .cells #[.bool t192, .slice Ao81 t193.length co81, .string t196] 73 (0, 0)) (by (with_reducible repeat (first | refine blk_drewN ?_ _ | refine blk_drew ?_ | refine blk_alloc ?_ _)); refine blk_put (cs := #[.bool t192, .slice Ao81 t193.length co81, .string (⟨#[]⟩ : ByteArray)]) ?_ 2 _ rfl; (with_reducible repeat (first | refine blk_drewN ?_ _ | refine blk_drew ?_ | refine blk_alloc ?_ _)); refine blk_put (cs := #[.bool t192, .slice none 0 0, .string (⟨#[]⟩ : ByteArray)]) ?_ 1 _ rfl; (with_reducible repeat (first | refine blk_drewN ?_ _ | refine blk_drew ?_ | refine blk_alloc ?_ _)); refine blk_put (cs := #[.bool false, .slice none 0 0, .string (⟨#[]⟩ : ByteArray)]) ?_ 0 _ rfl; (with_reducible repeat (first | refine blk_drewN ?_ _ | refine blk_drew ?_ | refine blk_alloc ?_ _)); exact BK197.out) hb); have n7_ := bs HB hb; clear HO184 HO189 HO195 BK177 BK178 BK197 HB; have HO184 := n0_; have HO189 := n1_; have HO195 := n2_; have HO201 := n3_; have BK177 := n4_; have BK178 := n5_; have BK197 := n6_; have HB := n7_; clear n0_ n1_ n2_ n3_ n4_ n5_ n6_ n7_; (try clear hb); (try clear ho0)) | ((with_reducible refine gate_dst (N := 8) rfl ?_); refine box_event ?hg (N := 8) ?hd (cs := #[.bool false, .slice none 0 0, .string (⟨#[]⟩ : ByteArray)]) (t := 73) ?hr ?_; (case hd => rfl); (case hg => rfl); (case hr => first | (go_simp; done) | (go_simp; rfl)); intro gb203 hg w84 hbox hb; have n0_ := Aside0.mk (Kd.S_below (by (with_reducible repeat (first | apply Kd.S_alloc | apply Kd.S_drewN | apply Kd.S_drew)); exact HO184.out) hb); have n1_ := Aside0.mk (Kd.S_below (by (with_reducible repeat (first | apply Kd.S_alloc | apply Kd.S_drewN | apply Kd.S_drew)); exact HO189.out) hb); have n2_ := Aside0.mk (Kd.S_below (by (with_reducible repeat (first | apply Kd.S_alloc | apply Kd.S_drewN | apply Kd.S_drew)); exact HO195.out) hb); have n3_ := Aside0.mk (Kd.S_below (by (with_reducible repeat (first | apply Kd.S_alloc | apply Kd.S_drewN | apply Kd.S_drew)); exact HO201.out) hb); have n4_ := bb BK177 hb; have n5_ := bb BK178 hb; have n6_ := bb BK197 hb; have n7_ := bs HB hb; have n8_ := Aside0.mk (hbox); have n9_ := gw hg HB; have n10_ := gw hg HB; have n11_ := nl hg BK177; have n12_ := ng hg BK177; have n13_ := nl hg BK178; have n14_ := ng hg BK178; have n15_ := nl hg BK197; have n16_ := ng hg BK197; clear HO184 HO189 HO195 HO201 BK177 BK178 BK197 HB; have HO184 := n0_; have HO189 := n1_; have HO195 := n2_; have HO201 := n3_; have BK177 := n4_; have BK178 := n5_; have BK197 := n6_; have HB := n7_; have BK203 := n8_; have GW203 := n9_; have GE203 := n10_; have NB177_203 := n11_; have NB203_177 := n12_; have NB178_203 := n13_; have NB203_178 := n14_; have NB197_203 := n15_; have NB203_197 := n16_; clear n0_ n1_ n2_ n3_ n4_ n5_ n6_ n7_ n8_ n9_ n10_ n11_ n12_ n13_ n14_ n15_ n16_; clear hb hbox hg; have hnb85 := NB203_177.out; have hnc85 := NB177_203.out; have hnb86 := NB203_178.out; have hnc86 := NB178_203.out; have hnb87 := NB203_197.out; have hnc87 := NB197_203.out; have hcz88_0 : w84.cell? ⟨gb203, 0, none⟩ = some (.bool false) := (blk_cell BK203.out 0).trans rfl; have hcz88_1 : w84.cell? ⟨gb203, 1, none⟩ = some (.slice none 0 0) := (blk_cell BK203.out 1).trans rfl; have hcz88_2 : w84.cell? ⟨gb203, 2, none⟩ = some (.string (⟨#[]⟩ : ByteArray)) := (blk_cell BK203.out 2).trans rfl; have hfz88_0 := blk_frozen BK203.out 0; have hfz88_1 := blk_frozen BK203.out 1; have hfz88_2 := blk_frozen BK203.out 2; obtain ⟨Ao89, co89, eo89⟩ := Kd.S_slice HO201.out; subst eo89; have hcz90_0 : w84.cell? ⟨gb197, 0, none⟩ = some (.bool t192) := (blk_cell BK197.out 0).trans rfl; have hcz90_1 : w84.cell? ⟨gb197, 1, none⟩ = some (.slice Ao81 t193.length co81) := (blk_cell BK197.out 1).trans rfl; have hcz90_2 : w84.cell? ⟨gb197, 2, none⟩ = some (.string t196) := (blk_cell BK197.out 2).trans rfl; have hfz90_0 := blk_frozen BK197.out 0; have hfz90_1 := blk_frozen BK197.out 1; have hfz90_2 := blk_frozen BK197.out 2) | ((with_reducible refine gate_callee (f := 48) rfl ?_); refine goesL_ (some 31) rfl rfl Try.func48 (by kernel_rfl) rfl #[.agg #[.bool t192, .slice Ao81 t193.length co81, .string t196], .agg #[.bool t198, .slice Ao89 t199.length co89, .string t202]] rfl (by (try simp only [List.map_toArray, List.map_cons, List.map_nil]); first | done | rfl | (simp only [List.length_drop, List.length_take]; rfl)) ?_; (with_reducible refine (impl_EqualArg.calls k t192 _ _ t193 t196 t198 _ _ t199 t202 t204 _ ?side1 ?side2 ?side3 ?side4 A24.out).mono ?_); (case side1 => refine (Kd.S_reads' (e := 40) (base := w.heap.size) (ok := fun k_ => (((True ∧ some k_ ≠ (.slice Ao72 t182.length co72 : Value).ownBlock) ∧ some k_ ≠ (.slice Ao73 t187.length co73 : Value).ownBlock) ∧ some k_ ≠ (.slice Ao89 t199.length co89 : Value).ownBlock)) (n := t193.length) (c := co81) ?_).2.2; exact (by (with_reducible repeat (first | apply Kd.S_alloc | apply Kd.S_drewN | apply Kd.S_drew)); exact (Kd.S_mono (Kd.S_far (p := ⟨gb203, 2, none⟩) (Kd.S_far (p := ⟨gb203, 1, none⟩) (Kd.S_far (p := ⟨gb203, 0, none⟩) (Kd.S_types HO195.out BK203.out (by decide)) (fun _ hk => hk.2) (.bool t198)) (fun _ hk => hk.2) (.slice Ao89 t199.length co89)) (fun _ hk => hk.2) (.string t202)) (fun _ h_ => h_.1)))); (case side2 => exact (Kd.S_reads' HO195.out).2.1); (case side3 => refine (Kd.S_reads' (e := 40) (base := w.heap.size) (ok := fun k_ => (((True ∧ some k_ ≠ (.slice Ao72 t182.length co72 : Value).ownBlock) ∧ some k_ ≠ (.slice Ao73 t187.length co73 : Value).ownBlock) ∧ some k_ ≠ (.slice Ao81 t193.length co81 : Value).ownBlock)) (n := t199.length) (c := co89) ?_).2.2; exact (by (with_reducible repeat (first | apply Kd.S_alloc | apply Kd.S_drewN | apply Kd.S_drew)); exact (Kd.S_mono (Kd.S_far (p := ⟨gb203, 2, none⟩) (Kd.S_far (p := ⟨gb203, 1, none⟩) (Kd.S_far (p := ⟨gb203, 0, none⟩) (Kd.S_types HO201.out BK203.out (by decide)) (fun _ hk => hk.2) (.bool t198)) (fun _ hk => hk.2) (.slice Ao89 t199.length co89)) (fun _ hk => hk.2) (.string t202)) (fun _ h_ => h_.1)))); (case side4 => exact (Kd.S_reads' HO201.out).2.1); rintro e w91 ⟨rfl, hb⟩; refine ⟨_, rfl, ?_⟩; have n0_ := Aside0.mk (Kd.S_below (by (with_reducible repeat (first | apply Kd.S_alloc | apply Kd.S_drewN | apply Kd.S_drew)); exact (Kd.S_mono (Kd.S_far (p := ⟨gb203, 2, none⟩) (Kd.S_far (p := ⟨gb203, 1, none⟩) (Kd.S_far (p := ⟨gb203, 0, none⟩) (Kd.S_types HO184.out BK203.out (by decide)) (fun _ hk => hk.2) (.bool t198)) (fun _ hk => hk.2) (.slice Ao89 t199.length co89)) (fun _ hk => hk.2) (.string t202)) (fun _ h_ => h_.1))) hb); have n1_ := Aside0.mk (Kd.S_below (by (with_reducible repeat (first | apply Kd.S_alloc | apply Kd.S_drewN | apply Kd.S_drew)); exact (Kd.S_mono (Kd.S_far (p := ⟨gb203, 2, none⟩) (Kd.S_far (p := ⟨gb203, 1, none⟩) (Kd.S_far (p := ⟨gb203, 0, none⟩) (Kd.S_types HO189.out BK203.out (by decide)) (fun _ hk => hk.2) (.bool t198)) (fun _ hk => hk.2) (.slice Ao89 t199.length co89)) (fun _ hk => hk.2) (.string t202)) (fun _ h_ => h_.1))) hb); have n2_ := Aside0.mk (Kd.S_below (by (with_reducible repeat (first | apply Kd.S_alloc | apply Kd.S_drewN | apply Kd.S_drew)); exact (Kd.S_mono (Kd.S_far (p := ⟨gb203, 2, none⟩) (Kd.S_far (p := ⟨gb203, 1, none⟩) (Kd.S_far (p := ⟨gb203, 0, none⟩) (Kd.S_types HO195.out BK203.out (by decide)) (fun _ hk => hk.2) (.bool t198)) (fun _ hk => hk.2) (.slice Ao89 t199.length co89)) (fun _ hk => hk.2) (.string t202)) (fun _ h_ => h_.1))) hb); have n3_ := Aside0.mk (Kd.S_below (by (with_reducible repeat (first | apply Kd.S_alloc | apply Kd.S_drewN | apply Kd.S_drew)); exact (Kd.S_mono (Kd.S_far (p := ⟨gb203, 2, none⟩) (Kd.S_far (p := ⟨gb203, 1, none⟩) (Kd.S_far (p := ⟨gb203, 0, none⟩) (Kd.S_types HO201.out BK203.out (by decide)) (fun _ hk => hk.2) (.bool t198)) (fun _ hk => hk.2) (.slice Ao89 t199.length co89)) (fun _ hk => hk.2) (.string t202)) (fun _ h_ => h_.1))) hb); have n4_ := bf BK177 hb; have n5_ := bf BK178 hb; have n6_ := bf BK197 hb; have n7_ := Aside0.mk (blk_below (g := gb203) (o := .cells #[.bool t198, .slice Ao89 t199.length co89, .string t202] 73 (0, 0)) (by (with_reducible repeat (first | refine blk_drewN ?_ _ | refine blk_drew ?_ | refine blk_alloc ?_ _)); refine blk_put (cs := #[.bool t198, .slice Ao89 t199.length co89, .string (⟨#[]⟩ : ByteArray)]) ?_ 2 _ rfl; (with_reducible repeat (first | refine blk_drewN ?_ _ | refine blk_drew ?_ | refine blk_alloc ?_ _)); refine blk_put (cs := #[.bool t198, .slice none 0 0, .string (⟨#[]⟩ : ByteArray)]) ?_ 1 _ rfl; (with_reducible repeat (first | refine blk_drewN ?_ _ | refine blk_drew ?_ | refine blk_alloc ?_ _)); refine blk_put (cs := #[.bool false, .slice none 0 0, .string (⟨#[]⟩ : ByteArray)]) ?_ 0 _ rfl; (with_reducible repeat (first | refine blk_drewN ?_ _ | refine blk_drew ?_ | refine blk_alloc ?_ _)); exact BK203.out) hb); have n8_ := bs HB hb; clear HO184 HO189 HO195 HO201 BK177 BK178 BK197 BK203 HB; have HO184 := n0_; have HO189 := n1_; have HO195 := n2_; have HO201 := n3_; have BK177 := n4_; have BK178 := n5_; have BK197 := n6_; have BK203 := n7_; have HB := n8_; clear n0_ n1_ n2_ n3_ n4_ n5_ n6_ n7_ n8_; (try clear hb)))
      replace HO184 := Aside0.mk (Kd.S_drew HO184.out)
      replace HO189 := Aside0.mk (Kd.S_drew HO189.out)
      replace HO195 := Aside0.mk (Kd.S_drew HO195.out)
      replace HO201 := Aside0.mk (Kd.S_drew HO201.out)
      replace BK177 := Aside0.mk (blk_drew BK177.out)
      replace BK178 := Aside0.mk (blk_drew BK178.out)
      replace BK197 := Aside0.mk (blk_drew BK197.out)
      replace BK203 := Aside0.mk (blk_drew BK203.out)
      replace HB := Aside0.mk (below_drew1 HB.out)
      refine start_ (n := 5) (S := fun w' => w'.cell? ⟨gb197, 0, none⟩ = some (.bool t192) ∧ w'.cell? ⟨gb197, 1, none⟩ = some (.slice Ao81 t193.length co81) ∧ w'.cell? ⟨gb197, 2, none⟩ = some (.string t196) ∧ w'.cell? ⟨gb177, 0, none⟩ = some (.bool a0_0) ∧ w'.cell? ⟨gb177, 1, none⟩ = some (.slice A0_1 l0_1.length c0_1) ∧ w'.cell? ⟨gb177, 2, none⟩ = some (.string a0_2)) (ds := []) #[false, false, false, false, false] (by kernel_rfl) rfl rfl ⟨(blk_cell BK197.out 0).trans rfl, (blk_cell BK197.out 1).trans rfl, (blk_cell BK197.out 2).trans rfl, (blk_cell BK177.out 0).trans rfl, (blk_cell BK177.out 1).trans rfl, (blk_cell BK177.out 2).trans rfl⟩ (fun hHeld => ?_)
      generalize w91.drew = w92 at HO184 HO189 HO195 HO201 BK177 BK178 BK197 BK203 HB hHeld ⊢
      refine take_ (i := 0) (N := some 35) (v := ?_) (a' := ?_) #[true, false, false, false, false] rfl rfl (by kernel_rfl) (fun _ _ _ h => h) (Or.inl ⟨by rfl, ?_⟩) hHeld ?_ ?_
      rotate_left
      ·rintro w' ⟨s0, s1, s2, s3, s4, s5⟩
       go_simp
       with_reducible rfl
      rotate_left
      ·simp only [Act.put, List.setIfInBounds_toArray, List.set_cons_zero, List.set_cons_succ, i64_w, i32_w]
       rfl
      refine take_ (i := 1) (N := some 36) (v := ?_) (a' := ?_) #[true, true, false, false, false] rfl rfl (by kernel_rfl) (fun _ _ _ h => h) (Or.inl ⟨by rfl, ?_⟩) hHeld ?_ ?_
      rotate_left
      ·rintro w' ⟨s0, s1, s2, s3, s4, s5⟩
       go_simp
       with_reducible rfl
      rotate_left
      ·simp only [Act.put, List.setIfInBounds_toArray, List.set_cons_zero, List.set_cons_succ, i64_w, i32_w]
       rfl
      refine one_ (i := 2) (N := some 37) #[true, true, true, false, false] rfl rfl (by kernel_rfl) (by decide) (fun K hK => ?_)
      refine goes_ Try.func47 (by kernel_rfl) rfl #[.agg #[.bool a0_0, .slice A0_1 l0_1.length c0_1, .string a0_2]] (by rfl) rfl rfl (by (try simp only [List.map_toArray, List.map_cons, List.map_nil]); first | done | rfl | (simp only [List.length_drop, List.length_take]; rfl)) ?_
      with_reducible refine (laws_toArg.calls k a0_0 _ _ l0_1 a0_2 t205 t206 t209 _ ?side1 ?side2 A56.out).mono ?_
      (case side1 => exact mc ((Kd.C_below HR0_1.out HB.out)))
      (case side2 => exact HC0_1.out)
      rintro e w93 ⟨v207, rfl, ho0, hb⟩
      refine ⟨_, rfl, ?_⟩
      have n0_ := Aside0.mk (Kd.S_elder' (by (with_reducible repeat (first | apply Kd.S_alloc | apply Kd.S_drewN | apply Kd.S_drew)); exact HO184.out) (Kd.S_base ho0) hb)
      have n1_ := Aside0.mk (Kd.S_elder' (by (with_reducible repeat (first | apply Kd.S_alloc | apply Kd.S_drewN | apply Kd.S_drew)); exact HO189.out) (Kd.S_base ho0) hb)
      have n2_ := Aside0.mk (Kd.S_elder' (by (with_reducible repeat (first | apply Kd.S_alloc | apply Kd.S_drewN | apply Kd.S_drew)); exact HO195.out) (Kd.S_base ho0) hb)
      have n3_ := Aside0.mk (Kd.S_elder' (by (with_reducible repeat (first | apply Kd.S_alloc | apply Kd.S_drewN | apply Kd.S_drew)); exact HO201.out) (Kd.S_base ho0) hb)
      have n4_ := Aside0.mk (Kd.S_lower (Kd.S_new' (Kd.S_new' (Kd.S_new' (Kd.S_new' ho0 (Kd.S_lt (by (with_reducible repeat (first | apply Kd.S_alloc | apply Kd.S_drewN | apply Kd.S_drew)); exact HO184.out))) (Kd.S_lt (by (with_reducible repeat (first | apply Kd.S_alloc | apply Kd.S_drewN | apply Kd.S_drew)); exact HO189.out))) (Kd.S_lt (by (with_reducible repeat (first | apply Kd.S_alloc | apply Kd.S_drewN | apply Kd.S_drew)); exact HO195.out))) (Kd.S_lt (by (with_reducible repeat (first | apply Kd.S_alloc | apply Kd.S_drewN | apply Kd.S_drew)); exact HO201.out))) (below_size (ms HB)))
      have n5_ := bb BK177 hb
      have n6_ := bb BK178 hb
      have n7_ := bb BK197 hb
      have n8_ := bb BK203 hb
      have n9_ := bs HB hb
      clear HO184
      clear HO189
      clear HO195
      clear HO201
      clear BK177
      clear BK178
      clear BK197
      clear BK203
      clear HB
      have HO184 := n0_
      have HO189 := n1_
      have HO195 := n2_
      have HO201 := n3_
      have HO208 := n4_
      have BK177 := n5_
      have BK178 := n6_
      have BK197 := n7_
      have BK203 := n8_
      have HB := n9_
      clear n0_ n1_ n2_ n3_ n4_ n5_ n6_ n7_ n8_ n9_
      (try clear hb)
      (try clear hb2)
      (try clear hk)
      (try clear hi)
      (try clear ho0)
      obtain ⟨Ao94, co94, eo94⟩ := Kd.S_slice HO208.out
      (first | subst eo94 | (injection eo94 with f1_ f2_ f3_; have f4_ := f1_.symm; have f5_ := f3_.symm; clear f1_ f2_ f3_; subst f4_; subst f5_))
      refine hK.out _ _ ⟨(blk_cell BK197.out 0).trans rfl, (blk_cell BK197.out 1).trans rfl, (blk_cell BK197.out 2).trans rfl, (blk_cell BK177.out 0).trans rfl, (blk_cell BK177.out 1).trans rfl, (blk_cell BK177.out 2).trans rfl⟩ (fun hHeld => ?_)
      clear hK K
      refine norm_ (a' := ?_) ?_ ?_
      rotate_left
      ·show Act.put _ (some 37) _ = _
       simp only [Act.put, List.setIfInBounds_toArray, List.set_cons_zero, List.set_cons_succ, i64_w, i32_w]
       rfl
      refine one_ (i := 3) (N := some 38) #[true, true, true, true, false] rfl rfl (by kernel_rfl) (by decide) (fun K hK => ?_)
      refine goes_ Try.func49 (by kernel_rfl) rfl #[.agg #[.bool t192, .slice Ao81 t193.length co81, .string t196], .agg #[.bool t205, .slice Ao94 t206.length co94, .string t209]] (by rfl) rfl rfl (by (try simp only [List.map_toArray, List.map_cons, List.map_nil]); first | done | rfl | (simp only [List.length_drop, List.length_take]; rfl)) ?_
      with_reducible refine (laws_eqArg.calls k t192 _ _ t193 t196 t205 _ _ t206 t209 true _ ?side1 ?side2 ?side3 ?side4 A57.out).mono ?_
      (case side1 => exact mc ((Kd.S_reads' HO195.out).2.2))
      (case side2 => exact (Kd.S_reads' HO195.out).2.1)
      (case side3 => exact mc ((Kd.S_reads' HO208.out).2.2))
      (case side4 => exact (Kd.S_reads' HO208.out).2.1)
      rintro e w95 ⟨rfl, hb⟩
      refine ⟨_, rfl, ?_⟩
      have n0_ := Aside0.mk (Kd.S_below (by (with_reducible repeat (first | apply Kd.S_alloc | apply Kd.S_drewN | apply Kd.S_drew)); exact HO184.out) hb)
      have n1_ := Aside0.mk (Kd.S_below (by (with_reducible repeat (first | apply Kd.S_alloc | apply Kd.S_drewN | apply Kd.S_drew)); exact HO189.out) hb)
      have n2_ := Aside0.mk (Kd.S_below (by (with_reducible repeat (first | apply Kd.S_alloc | apply Kd.S_drewN | apply Kd.S_drew)); exact HO195.out) hb)
      have n3_ := Aside0.mk (Kd.S_below (by (with_reducible repeat (first | apply Kd.S_alloc | apply Kd.S_drewN | apply Kd.S_drew)); exact HO201.out) hb)
      have n4_ := Aside0.mk (Kd.S_below (by (with_reducible repeat (first | apply Kd.S_alloc | apply Kd.S_drewN | apply Kd.S_drew)); exact HO208.out) hb)
      have n5_ := bb BK177 hb
      have n6_ := bb BK178 hb
      have n7_ := bb BK197 hb
      have n8_ := bb BK203 hb
      have n9_ := bs HB hb
      clear HO184
      clear HO189
      clear HO195
      clear HO201
      clear HO208
      clear BK177
      clear BK178
      clear BK197
      clear BK203
      clear HB
      have HO184 := n0_
      have HO189 := n1_
      have HO195 := n2_
      have HO201 := n3_
      have HO208 := n4_
      have BK177 := n5_
      have BK178 := n6_
      have BK197 := n7_
      have BK203 := n8_
      have HB := n9_
      clear n0_ n1_ n2_ n3_ n4_ n5_ n6_ n7_ n8_ n9_
      (try clear hb)
      (try clear hb2)
      (try clear hk)
      (try clear hi)
      refine hK.out _ _ ⟨(blk_cell BK197.out 0).trans rfl, (blk_cell BK197.out 1).trans rfl, (blk_cell BK197.out 2).trans rfl, (blk_cell BK177.out 0).trans rfl, (blk_cell BK177.out 1).trans rfl, (blk_cell BK177.out 2).trans rfl⟩ (fun hHeld => ?_)
      clear hK K
      refine norm_ (a' := ?_) ?_ ?_
      rotate_left
      ·show Act.put _ (some 38) _ = _
       simp only [Act.put, List.setIfInBounds_toArray, List.set_cons_zero, List.set_cons_succ, i64_w, i32_w]
       rfl
      refine pure_ (i := 4) (N := some 39) (v := ?_) (a' := ?_) #[true, true, true, true, true] rfl rfl (by kernel_rfl) (fun _ _ _ h => h) (Or.inl ⟨by rfl, ?_⟩) ?_ ?_
      rotate_left
      ·intro w'
       go_simp
       with_reducible rfl
      rotate_left
      ·simp only [Act.put, List.setIfInBounds_toArray, List.set_cons_zero, List.set_cons_succ, i64_w, i32_w]
       rfl
      refine done_ (by kernel_rfl) ?_
      try go_wp2
      replace HO184 := Aside0.mk (Kd.S_drew HO184.out)
      replace HO189 := Aside0.mk (Kd.S_drew HO189.out)
      replace HO195 := Aside0.mk (Kd.S_drew HO195.out)
      replace HO201 := Aside0.mk (Kd.S_drew HO201.out)
      replace HO208 := Aside0.mk (Kd.S_drew HO208.out)
      replace BK177 := Aside0.mk (blk_drew BK177.out)
      replace BK178 := Aside0.mk (blk_drew BK178.out)
      replace BK197 := Aside0.mk (blk_drew BK197.out)
      replace BK203 := Aside0.mk (blk_drew BK203.out)
      replace HB := Aside0.mk (below_drew1 HB.out)
      refine start_ (n := 5) (S := fun w' => w'.cell? ⟨gb203, 0, none⟩ = some (.bool t198) ∧ w'.cell? ⟨gb203, 1, none⟩ = some (.slice Ao89 t199.length co89) ∧ w'.cell? ⟨gb203, 2, none⟩ = some (.string t202) ∧ w'.cell? ⟨gb178, 0, none⟩ = some (.bool a1_0) ∧ w'.cell? ⟨gb178, 1, none⟩ = some (.slice A1_1 l1_1.length c1_1) ∧ w'.cell? ⟨gb178, 2, none⟩ = some (.string a1_2)) (ds := []) #[false, false, false, false, false] (by kernel_rfl) rfl rfl ⟨(blk_cell BK203.out 0).trans rfl, (blk_cell BK203.out 1).trans rfl, (blk_cell BK203.out 2).trans rfl, (blk_cell BK178.out 0).trans rfl, (blk_cell BK178.out 1).trans rfl, (blk_cell BK178.out 2).trans rfl⟩ (fun hHeld => ?_)
      generalize w95.drew = w96 at HO184 HO189 HO195 HO201 HO208 BK177 BK178 BK197 BK203 HB hHeld ⊢
      refine take_ (i := 0) (N := some 40) (v := ?_) (a' := ?_) #[true, false, false, false, false] rfl rfl (by kernel_rfl) (fun _ _ _ h => h) (Or.inl ⟨by rfl, ?_⟩) hHeld ?_ ?_
      rotate_left
      ·rintro w' ⟨s0, s1, s2, s3, s4, s5⟩
       go_simp
       with_reducible rfl
      rotate_left
      ·simp only [Act.put, List.setIfInBounds_toArray, List.set_cons_zero, List.set_cons_succ, i64_w, i32_w]
       rfl
      refine take_ (i := 1) (N := some 41) (v := ?_) (a' := ?_) #[true, true, false, false, false] rfl rfl (by kernel_rfl) (fun _ _ _ h => h) (Or.inl ⟨by rfl, ?_⟩) hHeld ?_ ?_
      rotate_left
      ·rintro w' ⟨s0, s1, s2, s3, s4, s5⟩
       go_simp
       with_reducible rfl
      rotate_left
      ·simp only [Act.put, List.setIfInBounds_toArray, List.set_cons_zero, List.set_cons_succ, i64_w, i32_w]
       rfl
      refine one_ (i := 2) (N := some 42) #[true, true, true, false, false] rfl rfl (by kernel_rfl) (by decide) (fun K hK => ?_)
      refine goes_ Try.func47 (by kernel_rfl) rfl #[.agg #[.bool a1_0, .slice A1_1 l1_1.length c1_1, .string a1_2]] (by rfl) rfl rfl (by (try simp only [List.map_toArray, List.map_cons, List.map_nil]); first | done | rfl | (simp only [List.length_drop, List.length_take]; rfl)) ?_
      with_reducible refine (laws_toArg.calls k a1_0 _ _ l1_1 a1_2 t211 t212 t215 _ ?side1 ?side2 A59.out).mono ?_
      (case side1 => exact mc ((Kd.C_below HR1_1.out HB.out)))
      (case side2 => exact HC1_1.out)
      rintro e w97 ⟨v213, rfl, ho0, hb⟩
      refine ⟨_, rfl, ?_⟩
      have n0_ := Aside0.mk (Kd.S_elder' (by (with_reducible repeat (first | apply Kd.S_alloc | apply Kd.S_drewN | apply Kd.S_drew)); exact HO184.out) (Kd.S_base ho0) hb)
      have n1_ := Aside0.mk (Kd.S_elder' (by (with_reducible repeat (first | apply Kd.S_alloc | apply Kd.S_drewN | apply Kd.S_drew)); exact HO189.out) (Kd.S_base ho0) hb)
      have n2_ := Aside0.mk (Kd.S_elder' (by (with_reducible repeat (first | apply Kd.S_alloc | apply Kd.S_drewN | apply Kd.S_drew)); exact HO195.out) (Kd.S_base ho0) hb)
      have n3_ := Aside0.mk (Kd.S_elder' (by (with_reducible repeat (first | apply Kd.S_alloc | apply Kd.S_drewN | apply Kd.S_drew)); exact HO201.out) (Kd.S_base ho0) hb)
      have n4_ := Aside0.mk (Kd.S_elder' (by (with_reducible repeat (first | apply Kd.S_alloc | apply Kd.S_drewN | apply Kd.S_drew)); exact HO208.out) (Kd.S_base ho0) hb)
      have n5_ := Aside0.mk (Kd.S_lower (Kd.S_new' (Kd.S_new' (Kd.S_new' (Kd.S_new' (Kd.S_new' ho0 (Kd.S_lt (by (with_reducible repeat (first | apply Kd.S_alloc | apply Kd.S_drewN | apply Kd.S_drew)); exact HO184.out))) (Kd.S_lt (by (with_reducible repeat (first | apply Kd.S_alloc | apply Kd.S_drewN | apply Kd.S_drew)); exact HO189.out))) (Kd.S_lt (by (with_reducible repeat (first | apply Kd.S_alloc | apply Kd.S_drewN | apply Kd.S_drew)); exact HO195.out))) (Kd.S_lt (by (with_reducible repeat (first | apply Kd.S_alloc | apply Kd.S_drewN | apply Kd.S_drew)); exact HO201.out))) (Kd.S_lt (by (with_reducible repeat (first | apply Kd.S_alloc | apply Kd.S_drewN | apply Kd.S_drew)); exact HO208.out))) (below_size (ms HB)))
      have n6_ := bb BK177 hb
      have n7_ := bb BK178 hb
      have n8_ := bb BK197 hb
      have n9_ := bb BK203 hb
      have n10_ := bs HB hb
      clear HO184
      clear HO189
      clear HO195
      clear HO201
      clear HO208
      clear BK177
      clear BK178
      clear BK197
      clear BK203
      clear HB
      have HO184 := n0_
      have HO189 := n1_
      have HO195 := n2_
      have HO201 := n3_
      have HO208 := n4_
      have HO214 := n5_
      have BK177 := n6_
      have BK178 := n7_
      have BK197 := n8_
      have BK203 := n9_
      have HB := n10_
      clear n0_ n1_ n2_ n3_ n4_ n5_ n6_ n7_ n8_ n9_ n10_
      (try clear hb)
      (try clear hb2)
      (try clear hk)
      (try clear hi)
      (try clear ho0)
      obtain ⟨Ao98, co98, eo98⟩ := Kd.S_slice HO214.out
      (first | subst eo98 | (injection eo98 with f1_ f2_ f3_; have f4_ := f1_.symm; have f5_ := f3_.symm; clear f1_ f2_ f3_; subst f4_; subst f5_))
      refine hK.out _ _ ⟨(blk_cell BK203.out 0).trans rfl, (blk_cell BK203.out 1).trans rfl, (blk_cell BK203.out 2).trans rfl, (blk_cell BK178.out 0).trans rfl, (blk_cell BK178.out 1).trans rfl, (blk_cell BK178.out 2).trans rfl⟩ (fun hHeld => ?_)
      clear hK K
      refine norm_ (a' := ?_) ?_ ?_
      rotate_left
      ·show Act.put _ (some 42) _ = _
       simp only [Act.put, List.setIfInBounds_toArray, List.set_cons_zero, List.set_cons_succ, i64_w, i32_w]
       rfl
      refine one_ (i := 3) (N := some 43) #[true, true, true, true, false] rfl rfl (by kernel_rfl) (by decide) (fun K hK => ?_)
      refine goes_ Try.func49 (by kernel_rfl) rfl #[.agg #[.bool t198, .slice Ao89 t199.length co89, .string t202], .agg #[.bool t211, .slice Ao98 t212.length co98, .string t215]] (by rfl) rfl rfl (by (try simp only [List.map_toArray, List.map_cons, List.map_nil]); first | done | rfl | (simp only [List.length_drop, List.length_take]; rfl)) ?_
      with_reducible refine (laws_eqArg.calls k t198 _ _ t199 t202 t211 _ _ t212 t215 true _ ?side1 ?side2 ?side3 ?side4 A60.out).mono ?_
      (case side1 => exact mc ((Kd.S_reads' HO201.out).2.2))
      (case side2 => exact (Kd.S_reads' HO201.out).2.1)
      (case side3 => exact mc ((Kd.S_reads' HO214.out).2.2))
      (case side4 => exact (Kd.S_reads' HO214.out).2.1)
      rintro e w99 ⟨rfl, hb⟩
      refine ⟨_, rfl, ?_⟩
      have n0_ := Aside0.mk (Kd.S_below (by (with_reducible repeat (first | apply Kd.S_alloc | apply Kd.S_drewN | apply Kd.S_drew)); exact HO184.out) hb)
      have n1_ := Aside0.mk (Kd.S_below (by (with_reducible repeat (first | apply Kd.S_alloc | apply Kd.S_drewN | apply Kd.S_drew)); exact HO189.out) hb)
      have n2_ := Aside0.mk (Kd.S_below (by (with_reducible repeat (first | apply Kd.S_alloc | apply Kd.S_drewN | apply Kd.S_drew)); exact HO195.out) hb)
      have n3_ := Aside0.mk (Kd.S_below (by (with_reducible repeat (first | apply Kd.S_alloc | apply Kd.S_drewN | apply Kd.S_drew)); exact HO201.out) hb)
      have n4_ := Aside0.mk (Kd.S_below (by (with_reducible repeat (first | apply Kd.S_alloc | apply Kd.S_drewN | apply Kd.S_drew)); exact HO208.out) hb)
      have n5_ := Aside0.mk (Kd.S_below (by (with_reducible repeat (first | apply Kd.S_alloc | apply Kd.S_drewN | apply Kd.S_drew)); exact HO214.out) hb)
      have n6_ := bb BK177 hb
      have n7_ := bb BK178 hb
      have n8_ := bb BK197 hb
      have n9_ := bb BK203 hb
      have n10_ := bs HB hb
      clear HO184
      clear HO189
      clear HO195
      clear HO201
      clear HO208
      clear HO214
      clear BK177
      clear BK178
      clear BK197
      clear BK203
      clear HB
      have HO184 := n0_
      have HO189 := n1_
      have HO195 := n2_
      have HO201 := n3_
      have HO208 := n4_
      have HO214 := n5_
      have BK177 := n6_
      have BK178 := n7_
      have BK197 := n8_
      have BK203 := n9_
      have HB := n10_
      clear n0_ n1_ n2_ n3_ n4_ n5_ n6_ n7_ n8_ n9_ n10_
      (try clear hb)
      (try clear hb2)
      (try clear hk)
      (try clear hi)
      refine hK.out _ _ ⟨(blk_cell BK203.out 0).trans rfl, (blk_cell BK203.out 1).trans rfl, (blk_cell BK203.out 2).trans rfl, (blk_cell BK178.out 0).trans rfl, (blk_cell BK178.out 1).trans rfl, (blk_cell BK178.out 2).trans rfl⟩ (fun hHeld => ?_)
      clear hK K
      refine norm_ (a' := ?_) ?_ ?_
      rotate_left
      ·show Act.put _ (some 43) _ = _
       simp only [Act.put, List.setIfInBounds_toArray, List.set_cons_zero, List.set_cons_succ, i64_w, i32_w]
       rfl
      refine pure_ (i := 4) (N := some 44) (v := ?_) (a' := ?_) #[true, true, true, true, true] rfl rfl (by kernel_rfl) (fun _ _ _ h => h) (Or.inl ⟨by rfl, ?_⟩) ?_ ?_
      rotate_left
      ·intro w'
       go_simp
       with_reducible rfl
      rotate_left
      ·simp only [Act.put, List.setIfInBounds_toArray, List.set_cons_zero, List.set_cons_succ, i64_w, i32_w]
       rfl
      refine done_ (by kernel_rfl) ?_
      try go_wp2
      go_ret
      exact ⟨by first | rfl | (simp [errW_none, errW_some] <;> rfl) | (simp [*, errW_none, errW_some] <;> rfl), ms HB⟩
     ·replace c61 := Bool.eq_false_iff.mpr c61
      subst c61
      have H1 : (some false) = some r := by rw [if_neg (show ¬ (false = true) by decide)] at H; exact H
      clear H
      have H := H1
      clear H1
      obtain rfl := Option.some.inj H
      go_enter Try.func8, Try.ntmps8
      try go_wp2_with (first | ((with_reducible refine gate_dst (N := 2) rfl ?_); refine box_event ?hg (N := 2) ?hd (cs := #[.bool a0_0, .slice A0_1 l0_1.length c0_1, .string a0_2]) (t := 68) ?hr ?_; (case hd => rfl); (case hg => rfl); (case hr => first | (go_simp; done) | (go_simp; rfl)); intro gb177 hg w100 hbox hb; have BK177 := Aside0.mk (hbox); have GW177 := gw hg HB; have GE177 := gw hg HB; replace HB := bs HB hb; clear hb hbox hg) | ((with_reducible refine gate_dst (N := 3) rfl ?_); refine box_event ?hg (N := 3) ?hd (cs := #[.bool a1_0, .slice A1_1 l1_1.length c1_1, .string a1_2]) (t := 68) ?hr ?_; (case hd => rfl); (case hg => rfl); (case hr => first | (go_simp; done) | (go_simp; rfl)); intro gb178 hg w101 hbox hb; have BK178 := Aside0.mk (hbox); have GW178 := gw hg HB; have GE178 := gw hg HB; replace HB := bs HB hb; have NB177_178 := nl hg BK177; have NB178_177 := ng hg BK177; replace BK177 := bb BK177 hb; clear hb hbox hg; have hnb102 := NB177_178.out; have hnc102 := NB178_177.out; have hcz103_0 : w101.cell? ⟨gb177, 0, none⟩ = some (.bool a0_0) := (blk_cell BK177.out 0).trans rfl; have hcz103_1 : w101.cell? ⟨gb177, 1, none⟩ = some (.slice A0_1 l0_1.length c0_1) := (blk_cell BK177.out 1).trans rfl; have hcz103_2 : w101.cell? ⟨gb177, 2, none⟩ = some (.string a0_2) := (blk_cell BK177.out 2).trans rfl; have hfz103_0 := blk_frozen BK177.out 0; have hfz103_1 := blk_frozen BK177.out 1; have hfz103_2 := blk_frozen BK177.out 2) | ((with_reducible refine gate_callee (f := 45) rfl ?_); refine goesL_ (some 12) rfl rfl Try.func45 (by kernel_rfl) rfl #[.agg #[.bool a0_0, .slice A0_1 l0_1.length c0_1, .string a0_2], .int .i64 1048576] rfl (by (try simp only [List.map_toArray, List.map_cons, List.map_nil]); first | done | rfl | (simp only [List.length_drop, List.length_take]; rfl)) ?_; (with_reducible refine (laws_szArg.calls k a0_0 _ _ l0_1 a0_2 1048576 t179 _ ?side1 ?side2 A3.out).mono ?_); (case side1 => exact mc ((Kd.C_below HR0_1.out HB.out))); (case side2 => exact HC0_1.out); rintro e w104 ⟨rfl, hb⟩; refine ⟨_, rfl, ?_⟩; replace BK177 := bb BK177 hb; replace BK178 := bb BK178 hb; replace HB := bs HB hb; (try clear hb); have hcz105_0 : w104.cell? ⟨gb178, 0, none⟩ = some (.bool a1_0) := (blk_cell BK178.out 0).trans rfl; have hcz105_1 : w104.cell? ⟨gb178, 1, none⟩ = some (.slice A1_1 l1_1.length c1_1) := (blk_cell BK178.out 1).trans rfl; have hcz105_2 : w104.cell? ⟨gb178, 2, none⟩ = some (.string a1_2) := (blk_cell BK178.out 2).trans rfl; have hfz105_0 := blk_frozen BK178.out 0; have hfz105_1 := blk_frozen BK178.out 1; have hfz105_2 := blk_frozen BK178.out 2) | ((with_reducible refine gate_callee (f := 45) rfl ?_); refine goesL_ (some 17) rfl rfl Try.func45 (by kernel_rfl) rfl #[.agg #[.bool a1_0, .slice A1_1 l1_1.length c1_1, .string a1_2], .int .i64 t179] rfl (by (try simp only [List.map_toArray, List.map_cons, List.map_nil]); first | done | rfl | (simp only [List.length_drop, List.length_take]; rfl)) ?_; (with_reducible refine (laws_szArg.calls k a1_0 _ _ l1_1 a1_2 t179 t180 _ ?side1 ?side2 A10.out).mono ?_); (case side1 => exact mc ((Kd.C_below HR1_1.out HB.out))); (case side2 => exact HC1_1.out); rintro e w106 ⟨rfl, hb⟩; refine ⟨_, rfl, ?_⟩; replace BK177 := bb BK177 hb; replace BK178 := bb BK178 hb; replace HB := bs HB hb; (try clear hb)))
      replace BK177 := Aside0.mk (blk_drew BK177.out)
      replace BK178 := Aside0.mk (blk_drew BK178.out)
      replace HB := Aside0.mk (below_drew1 HB.out)
      refine start_ (n := 6) (S := fun w' => w'.cell? ⟨gb177, 0, none⟩ = some (.bool a0_0) ∧ w'.cell? ⟨gb177, 1, none⟩ = some (.slice A0_1 l0_1.length c0_1) ∧ w'.cell? ⟨gb177, 2, none⟩ = some (.string a0_2) ∧ w'.cell? ⟨gb178, 0, none⟩ = some (.bool a1_0) ∧ w'.cell? ⟨gb178, 1, none⟩ = some (.slice A1_1 l1_1.length c1_1) ∧ w'.cell? ⟨gb178, 2, none⟩ = some (.string a1_2)) (ds := []) #[false, false, false, false, false, false] (by kernel_rfl) rfl rfl ⟨(blk_cell BK177.out 0).trans rfl, (blk_cell BK177.out 1).trans rfl, (blk_cell BK177.out 2).trans rfl, (blk_cell BK178.out 0).trans rfl, (blk_cell BK178.out 1).trans rfl, (blk_cell BK178.out 2).trans rfl⟩ (fun hHeld => ?_)
      generalize w106.drew = w107 at BK177 BK178 HB hHeld ⊢
      refine take_ (i := 0) (N := some 20) (v := ?_) (a' := ?_) #[true, false, false, false, false, false] rfl rfl (by kernel_rfl) (fun _ _ _ h => h) (Or.inl ⟨by rfl, ?_⟩) hHeld ?_ ?_
      rotate_left
      ·rintro w' ⟨s0, s1, s2, s3, s4, s5⟩
       go_simp
       with_reducible rfl
      rotate_left
      ·simp only [Act.put, List.setIfInBounds_toArray, List.set_cons_zero, List.set_cons_succ, i64_w, i32_w]
       rfl
      refine take_ (i := 2) (N := some 22) (v := ?_) (a' := ?_) #[true, false, true, false, false, false] rfl rfl (by kernel_rfl) (fun _ _ _ h => h) (Or.inl ⟨by rfl, ?_⟩) hHeld ?_ ?_
      rotate_left
      ·rintro w' ⟨s0, s1, s2, s3, s4, s5⟩
       go_simp
       with_reducible rfl
      rotate_left
      ·simp only [Act.put, List.setIfInBounds_toArray, List.set_cons_zero, List.set_cons_succ, i64_w, i32_w]
       rfl
      refine one_ (i := 1) (N := some 21) #[true, true, true, false, false, false] rfl rfl (by kernel_rfl) (by decide) (fun K hK => ?_)
      refine goes_ Try.func47 (by kernel_rfl) rfl #[.agg #[.bool a0_0, .slice A0_1 l0_1.length c0_1, .string a0_2]] (by rfl) rfl rfl (by (try simp only [List.map_toArray, List.map_cons, List.map_nil]); first | done | rfl | (simp only [List.length_drop, List.length_take]; rfl)) ?_
      with_reducible refine (laws_toArg.calls k a0_0 _ _ l0_1 a0_2 t181 t182 t185 _ ?side1 ?side2 A19.out).mono ?_
      (case side1 => exact mc ((Kd.C_below HR0_1.out HB.out)))
      (case side2 => exact HC0_1.out)
      rintro e w108 ⟨v183, rfl, ho0, hb⟩
      refine ⟨_, rfl, ?_⟩
      have HO184 := Aside0.mk (Kd.S_lower ho0 (below_size (ms HB)))
      replace BK177 := bb BK177 hb
      replace BK178 := bb BK178 hb
      replace HB := bs HB hb
      (try clear hb)
      (try clear hb2)
      (try clear hk)
      (try clear hi)
      (try clear ho0)
      refine hK.out _ _ ⟨(blk_cell BK177.out 0).trans rfl, (blk_cell BK177.out 1).trans rfl, (blk_cell BK177.out 2).trans rfl, (blk_cell BK178.out 0).trans rfl, (blk_cell BK178.out 1).trans rfl, (blk_cell BK178.out 2).trans rfl⟩ (fun hHeld => ?_)
      clear hK K
      refine norm_ (a' := ?_) ?_ ?_
      rotate_left
      ·show Act.put _ (some 21) _ = _
       simp only [Act.put, List.setIfInBounds_toArray, List.set_cons_zero, List.set_cons_succ, i64_w, i32_w]
       rfl
      refine one_ (i := 3) (N := some 23) #[true, true, true, true, false, false] rfl rfl (by kernel_rfl) (by decide) (fun K hK => ?_)
      refine goes_ Try.func47 (by kernel_rfl) rfl #[.agg #[.bool a1_0, .slice A1_1 l1_1.length c1_1, .string a1_2]] (by rfl) rfl rfl (by (try simp only [List.map_toArray, List.map_cons, List.map_nil]); first | done | rfl | (simp only [List.length_drop, List.length_take]; rfl)) ?_
      with_reducible refine (laws_toArg.calls k a1_0 _ _ l1_1 a1_2 t186 t187 t190 _ ?side1 ?side2 A20.out).mono ?_
      (case side1 => exact mc ((Kd.C_below HR1_1.out HB.out)))
      (case side2 => exact HC1_1.out)
      rintro e w109 ⟨v188, rfl, ho0, hb⟩
      refine ⟨_, rfl, ?_⟩
      have n0_ := Aside0.mk (Kd.S_elder' (by (with_reducible repeat (first | apply Kd.S_alloc | apply Kd.S_drewN | apply Kd.S_drew)); exact HO184.out) (Kd.S_base ho0) hb)
      have n1_ := Aside0.mk (Kd.S_lower (Kd.S_new' ho0 (Kd.S_lt (by (with_reducible repeat (first | apply Kd.S_alloc | apply Kd.S_drewN | apply Kd.S_drew)); exact HO184.out))) (below_size (ms HB)))
      have n2_ := bb BK177 hb
      have n3_ := bb BK178 hb
      have n4_ := bs HB hb
      clear HO184
      clear BK177
      clear BK178
      clear HB
      have HO184 := n0_
      have HO189 := n1_
      have BK177 := n2_
      have BK178 := n3_
      have HB := n4_
      clear n0_ n1_ n2_ n3_ n4_
      (try clear hb)
      (try clear hb2)
      (try clear hk)
      (try clear hi)
      (try clear ho0)
      obtain ⟨Ao110, co110, eo110⟩ := Kd.S_slice HO184.out
      (first | subst eo110 | (injection eo110 with f1_ f2_ f3_; have f4_ := f1_.symm; have f5_ := f3_.symm; clear f1_ f2_ f3_; subst f4_; subst f5_))
      obtain ⟨Ao111, co111, eo111⟩ := Kd.S_slice HO189.out
      (first | subst eo111 | (injection eo111 with f1_ f2_ f3_; have f4_ := f1_.symm; have f5_ := f3_.symm; clear f1_ f2_ f3_; subst f4_; subst f5_))
      refine hK.out _ _ ⟨(blk_cell BK177.out 0).trans rfl, (blk_cell BK177.out 1).trans rfl, (blk_cell BK177.out 2).trans rfl, (blk_cell BK178.out 0).trans rfl, (blk_cell BK178.out 1).trans rfl, (blk_cell BK178.out 2).trans rfl⟩ (fun hHeld => ?_)
      clear hK K
      refine norm_ (a' := ?_) ?_ ?_
      rotate_left
      ·show Act.put _ (some 23) _ = _
       simp only [Act.put, List.setIfInBounds_toArray, List.set_cons_zero, List.set_cons_succ, i64_w, i32_w]
       rfl
      refine one_ (i := 4) (N := some 24) #[true, true, true, true, true, false] rfl rfl (by kernel_rfl) (by decide) (fun K hK => ?_)
      refine goes_ Try.func46 (by kernel_rfl) rfl #[.agg #[.bool t181, .slice Ao110 t182.length co110, .string t185], .agg #[.bool t186, .slice Ao111 t187.length co111, .string t190]] (by rfl) rfl rfl (by (try simp only [List.map_toArray, List.map_cons, List.map_nil]); first | done | rfl | (simp only [List.length_drop, List.length_take]; rfl)) ?_
      with_reducible refine (spec_EqualArg.calls k t181 _ _ t182 t185 t186 _ _ t187 t190 t191 _ ?side1 ?side2 ?side3 ?side4 A21.out).mono ?_
      (case side1 => exact mc ((Kd.S_reads' HO184.out).2.2))
      (case side2 => exact (Kd.S_reads' HO184.out).2.1)
      (case side3 => exact mc ((Kd.S_reads' HO189.out).2.2))
      (case side4 => exact (Kd.S_reads' HO189.out).2.1)
      rintro e w112 ⟨rfl, hb⟩
      refine ⟨_, rfl, ?_⟩
      have n0_ := Aside0.mk (Kd.S_below (by (with_reducible repeat (first | apply Kd.S_alloc | apply Kd.S_drewN | apply Kd.S_drew)); exact HO184.out) hb)
      have n1_ := Aside0.mk (Kd.S_below (by (with_reducible repeat (first | apply Kd.S_alloc | apply Kd.S_drewN | apply Kd.S_drew)); exact HO189.out) hb)
      have n2_ := bb BK177 hb
      have n3_ := bb BK178 hb
      have n4_ := bs HB hb
      clear HO184
      clear HO189
      clear BK177
      clear BK178
      clear HB
      have HO184 := n0_
      have HO189 := n1_
      have BK177 := n2_
      have BK178 := n3_
      have HB := n4_
      clear n0_ n1_ n2_ n3_ n4_
      (try clear hb)
      (try clear hb2)
      (try clear hk)
      (try clear hi)
      refine hK.out _ _ ⟨(blk_cell BK177.out 0).trans rfl, (blk_cell BK177.out 1).trans rfl, (blk_cell BK177.out 2).trans rfl, (blk_cell BK178.out 0).trans rfl, (blk_cell BK178.out 1).trans rfl, (blk_cell BK178.out 2).trans rfl⟩ (fun hHeld => ?_)
      clear hK K
      refine norm_ (a' := ?_) ?_ ?_
      rotate_left
      ·show Act.put _ (some 24) _ = _
       simp only [Act.put, List.setIfInBounds_toArray, List.set_cons_zero, List.set_cons_succ, i64_w, i32_w]
       rfl
      refine pure_ (i := 5) (N := some 6) (v := ?_) (a' := ?_) #[true, true, true, true, true, true] rfl rfl (by kernel_rfl) (fun _ _ _ h => h) (Or.inl ⟨by rfl, ?_⟩) ?_ ?_
      rotate_left
      ·intro w'
       go_simp
       with_reducible rfl
      rotate_left
      ·simp only [Act.put, List.setIfInBounds_toArray, List.set_cons_zero, List.set_cons_succ, i64_w, i32_w]
       rfl
      refine done_ (by kernel_rfl) ?_
      have hcz113_0 : w112.cell? ⟨gb177, 0, none⟩ = some (.bool a0_0) := (blk_cell BK177.out 0).trans rfl
      have hcz113_1 : w112.cell? ⟨gb177, 1, none⟩ = some (.slice A0_1 l0_1.length c0_1) := (blk_cell BK177.out 1).trans rfl
      have hcz113_2 : w112.cell? ⟨gb177, 2, none⟩ = some (.string a0_2) := (blk_cell BK177.out 2).trans rfl
      have hfz113_0 := blk_frozen BK177.out 0
      have hfz113_1 := blk_frozen BK177.out 1
      have hfz113_2 := blk_frozen BK177.out 2
      try go_wp2_with (first | ((with_reducible refine gate_callee (f := 47) rfl ?_); refine goesL_ (some 26) rfl rfl Try.func47 (by kernel_rfl) rfl #[.agg #[.bool a0_0, .slice A0_1 l0_1.length c0_1, .string a0_2]] rfl (by (try simp only [List.map_toArray, List.map_cons, List.map_nil]); first | done | rfl | (simp only [List.length_drop, List.length_take]; rfl)) ?_; (with_reducible refine (laws_toArg.calls k a0_0 _ _ l0_1 a0_2 t192 t193 t196 _ ?side1 ?side2 A22.out).mono ?_); (case side1 => exact mc ((Kd.C_below HR0_1.out HB.out))); (case side2 => exact HC0_1.out); rintro e w114 ⟨v194, rfl, ho0, hb⟩; refine ⟨_, rfl, ?_⟩; have n0_ := Aside0.mk (Kd.S_elder' (by (with_reducible repeat (first | apply Kd.S_alloc | apply Kd.S_drewN | apply Kd.S_drew)); exact HO184.out) (Kd.S_base ho0) hb); have n1_ := Aside0.mk (Kd.S_elder' (by (with_reducible repeat (first | apply Kd.S_alloc | apply Kd.S_drewN | apply Kd.S_drew)); exact HO189.out) (Kd.S_base ho0) hb); have n2_ := Aside0.mk (Kd.S_lower (Kd.S_new' (Kd.S_new' ho0 (Kd.S_lt (by (with_reducible repeat (first | apply Kd.S_alloc | apply Kd.S_drewN | apply Kd.S_drew)); exact HO184.out))) (Kd.S_lt (by (with_reducible repeat (first | apply Kd.S_alloc | apply Kd.S_drewN | apply Kd.S_drew)); exact HO189.out))) (below_size (ms HB))); have n3_ := bb BK177 hb; have n4_ := bb BK178 hb; have n5_ := bs HB hb; clear HO184 HO189 BK177 BK178 HB; have HO184 := n0_; have HO189 := n1_; have HO195 := n2_; have BK177 := n3_; have BK178 := n4_; have HB := n5_; clear n0_ n1_ n2_ n3_ n4_ n5_; (try clear hb); (try clear ho0)) | ((with_reducible refine gate_dst (N := 7) rfl ?_); refine box_event ?hg (N := 7) ?hd (cs := #[.bool false, .slice none 0 0, .string (⟨#[]⟩ : ByteArray)]) (t := 73) ?hr ?_; (case hd => rfl); (case hg => rfl); (case hr => first | (go_simp; done) | (go_simp; rfl)); intro gb197 hg w115 hbox hb; have n0_ := Aside0.mk (Kd.S_below (by (with_reducible repeat (first | apply Kd.S_alloc | apply Kd.S_drewN | apply Kd.S_drew)); exact HO184.out) hb); have n1_ := Aside0.mk (Kd.S_below (by (with_reducible repeat (first | apply Kd.S_alloc | apply Kd.S_drewN | apply Kd.S_drew)); exact HO189.out) hb); have n2_ := Aside0.mk (Kd.S_below (by (with_reducible repeat (first | apply Kd.S_alloc | apply Kd.S_drewN | apply Kd.S_drew)); exact HO195.out) hb); have n3_ := bb BK177 hb; have n4_ := bb BK178 hb; have n5_ := bs HB hb; have n6_ := Aside0.mk (hbox); have n7_ := gw hg HB; have n8_ := gw hg HB; have n9_ := nl hg BK177; have n10_ := ng hg BK177; have n11_ := nl hg BK178; have n12_ := ng hg BK178; clear HO184 HO189 HO195 BK177 BK178 HB; have HO184 := n0_; have HO189 := n1_; have HO195 := n2_; have BK177 := n3_; have BK178 := n4_; have HB := n5_; have BK197 := n6_; have GW197 := n7_; have GE197 := n8_; have NB177_197 := n9_; have NB197_177 := n10_; have NB178_197 := n11_; have NB197_178 := n12_; clear n0_ n1_ n2_ n3_ n4_ n5_ n6_ n7_ n8_ n9_ n10_ n11_ n12_; clear hb hbox hg; have hnb116 := NB197_177.out; have hnc116 := NB177_197.out; have hnb117 := NB197_178.out; have hnc117 := NB178_197.out; have hcz118_0 : w115.cell? ⟨gb197, 0, none⟩ = some (.bool false) := (blk_cell BK197.out 0).trans rfl; have hcz118_1 : w115.cell? ⟨gb197, 1, none⟩ = some (.slice none 0 0) := (blk_cell BK197.out 1).trans rfl; have hcz118_2 : w115.cell? ⟨gb197, 2, none⟩ = some (.string (⟨#[]⟩ : ByteArray)) := (blk_cell BK197.out 2).trans rfl; have hfz118_0 := blk_frozen BK197.out 0; have hfz118_1 := blk_frozen BK197.out 1; have hfz118_2 := blk_frozen BK197.out 2; obtain ⟨Ao119, co119, eo119⟩ := Kd.S_slice HO195.out; subst eo119; have hcz120_0 : w115.cell? ⟨gb178, 0, none⟩ = some (.bool a1_0) := (blk_cell BK178.out 0).trans rfl; have hcz120_1 : w115.cell? ⟨gb178, 1, none⟩ = some (.slice A1_1 l1_1.length c1_1) := (blk_cell BK178.out 1).trans rfl; have hcz120_2 : w115.cell? ⟨gb178, 2, none⟩ = some (.string a1_2) := (blk_cell BK178.out 2).trans rfl; have hfz120_0 := blk_frozen BK178.out 0; have hfz120_1 := blk_frozen BK178.out 1; have hfz120_2 := blk_frozen BK178.out 2) | ((with_reducible refine gate_callee (f := 47) rfl ?_); refine goesL_ (some 28) rfl rfl Try.func47 (by kernel_rfl) rfl #[.agg #[.bool a1_0, .slice A1_1 l1_1.length c1_1, .string a1_2]] rfl (by (try simp only [List.map_toArray, List.map_cons, List.map_nil]); first | done | rfl | (simp only [List.length_drop, List.length_take]; rfl)) ?_; (with_reducible refine (laws_toArg.calls k a1_0 _ _ l1_1 a1_2 t198 t199 t202 _ ?side1 ?side2 A23.out).mono ?_); (case side1 => exact Kd.C_below HR1_1.out (ms HB)); (case side2 => exact HC1_1.out); rintro e w121 ⟨v200, rfl, ho0, hb⟩; refine ⟨_, rfl, ?_⟩; have n0_ := Aside0.mk (Kd.S_elder' (by (with_reducible repeat (first | apply Kd.S_alloc | apply Kd.S_drewN | apply Kd.S_drew)); exact (Kd.S_mono (Kd.S_far (p := ⟨gb197, 2, none⟩) (Kd.S_far (p := ⟨gb197, 1, none⟩) (Kd.S_far (p := ⟨gb197, 0, none⟩) (Kd.S_types HO184.out BK197.out (by decide)) (fun _ hk => hk.2) (.bool t192)) (fun _ hk => hk.2) (.slice Ao119 t193.length co119)) (fun _ hk => hk.2) (.string t196)) (fun _ h_ => h_.1))) (Kd.S_base ho0) hb); have n1_ := Aside0.mk (Kd.S_elder' (by (with_reducible repeat (first | apply Kd.S_alloc | apply Kd.S_drewN | apply Kd.S_drew)); exact (Kd.S_mono (Kd.S_far (p := ⟨gb197, 2, none⟩) (Kd.S_far (p := ⟨gb197, 1, none⟩) (Kd.S_far (p := ⟨gb197, 0, none⟩) (Kd.S_types HO189.out BK197.out (by decide)) (fun _ hk => hk.2) (.bool t192)) (fun _ hk => hk.2) (.slice Ao119 t193.length co119)) (fun _ hk => hk.2) (.string t196)) (fun _ h_ => h_.1))) (Kd.S_base ho0) hb); have n2_ := Aside0.mk (Kd.S_elder' (by (with_reducible repeat (first | apply Kd.S_alloc | apply Kd.S_drewN | apply Kd.S_drew)); exact (Kd.S_mono (Kd.S_far (p := ⟨gb197, 2, none⟩) (Kd.S_far (p := ⟨gb197, 1, none⟩) (Kd.S_far (p := ⟨gb197, 0, none⟩) (Kd.S_types HO195.out BK197.out (by decide)) (fun _ hk => hk.2) (.bool t192)) (fun _ hk => hk.2) (.slice Ao119 t193.length co119)) (fun _ hk => hk.2) (.string t196)) (fun _ h_ => h_.1))) (Kd.S_base ho0) hb); have n3_ := Aside0.mk (Kd.S_lower (Kd.S_new' (Kd.S_new' (Kd.S_new' ho0 (Kd.S_lt (by (with_reducible repeat (first | apply Kd.S_alloc | apply Kd.S_drewN | apply Kd.S_drew)); exact (Kd.S_mono (Kd.S_far (p := ⟨gb197, 2, none⟩) (Kd.S_far (p := ⟨gb197, 1, none⟩) (Kd.S_far (p := ⟨gb197, 0, none⟩) (Kd.S_types HO184.out BK197.out (by decide)) (fun _ hk => hk.2) (.bool t192)) (fun _ hk => hk.2) (.slice Ao119 t193.length co119)) (fun _ hk => hk.2) (.string t196)) (fun _ h_ => h_.1))))) (Kd.S_lt (by (with_reducible repeat (first | apply Kd.S_alloc | apply Kd.S_drewN | apply Kd.S_drew)); exact (Kd.S_mono (Kd.S_far (p := ⟨gb197, 2, none⟩) (Kd.S_far (p := ⟨gb197, 1, none⟩) (Kd.S_far (p := ⟨gb197, 0, none⟩) (Kd.S_types HO189.out BK197.out (by decide)) (fun _ hk => hk.2) (.bool t192)) (fun _ hk => hk.2) (.slice Ao119 t193.length co119)) (fun _ hk => hk.2) (.string t196)) (fun _ h_ => h_.1))))) (Kd.S_lt (by (with_reducible repeat (first | apply Kd.S_alloc | apply Kd.S_drewN | apply Kd.S_drew)); exact (Kd.S_mono (Kd.S_far (p := ⟨gb197, 2, none⟩) (Kd.S_far (p := ⟨gb197, 1, none⟩) (Kd.S_far (p := ⟨gb197, 0, none⟩) (Kd.S_types HO195.out BK197.out (by decide)) (fun _ hk => hk.2) (.bool t192)) (fun _ hk => hk.2) (.slice Ao119 t193.length co119)) (fun _ hk => hk.2) (.string t196)) (fun _ h_ => h_.1))))) (below_size (ms HB))); have n4_ := bf BK177 hb; have n5_ := bf BK178 hb; have n6_ := Aside0.mk (blk_below (g := gb197) (o := .cells #[.bool t192, .slice Ao119 t193.length co119, .string t196] 73 (0, 0)) (by (with_reducible repeat (first | refine blk_drewN ?_ _ | refine blk_drew ?_ | refine blk_alloc ?_ _)); refine blk_put (cs := #[.bool t192, .slice Ao119 t193.length co119, .string (⟨#[]⟩ : ByteArray)]) ?_ 2 _ rfl; (with_reducible repeat (first | refine blk_drewN ?_ _ | refine blk_drew ?_ | refine blk_alloc ?_ _)); refine blk_put (cs := #[.bool t192, .slice none 0 0, .string (⟨#[]⟩ : ByteArray)]) ?_ 1 _ rfl; (with_reducible repeat (first | refine blk_drewN ?_ _ | refine blk_drew ?_ | refine blk_alloc ?_ _)); refine blk_put (cs := #[.bool false, .slice none 0 0, .string (⟨#[]⟩ : ByteArray)]) ?_ 0 _ rfl; (with_reducible repeat (first | refine blk_drewN ?_ _ | refine blk_drew ?_ | refine blk_alloc ?_ _)); exact BK197.out) hb); have n7_ := bs HB hb; clear HO184 HO189 HO195 BK177 BK178 BK197 HB; have HO184 := n0_; have HO189 := n1_; have HO195 := n2_; have HO201 := n3_; have BK177 := n4_; have BK178 := n5_; have BK197 := n6_; have HB := n7_; clear n0_ n1_ n2_ n3_ n4_ n5_ n6_ n7_; (try clear hb); (try clear ho0)) | ((with_reducible refine gate_dst (N := 8) rfl ?_); refine box_event ?hg (N := 8) ?hd (cs := #[.bool false, .slice none 0 0, .string (⟨#[]⟩ : ByteArray)]) (t := 73) ?hr ?_; (case hd => rfl); (case hg => rfl); (case hr => first | (go_simp; done) | (go_simp; rfl)); intro gb203 hg w122 hbox hb; have n0_ := Aside0.mk (Kd.S_below (by (with_reducible repeat (first | apply Kd.S_alloc | apply Kd.S_drewN | apply Kd.S_drew)); exact HO184.out) hb); have n1_ := Aside0.mk (Kd.S_below (by (with_reducible repeat (first | apply Kd.S_alloc | apply Kd.S_drewN | apply Kd.S_drew)); exact HO189.out) hb); have n2_ := Aside0.mk (Kd.S_below (by (with_reducible repeat (first | apply Kd.S_alloc | apply Kd.S_drewN | apply Kd.S_drew)); exact HO195.out) hb); have n3_ := Aside0.mk (Kd.S_below (by (with_reducible repeat (first | apply Kd.S_alloc | apply Kd.S_drewN | apply Kd.S_drew)); exact HO201.out) hb); have n4_ := bb BK177 hb; have n5_ := bb BK178 hb; have n6_ := bb BK197 hb; have n7_ := bs HB hb; have n8_ := Aside0.mk (hbox); have n9_ := gw hg HB; have n10_ := gw hg HB; have n11_ := nl hg BK177; have n12_ := ng hg BK177; have n13_ := nl hg BK178; have n14_ := ng hg BK178; have n15_ := nl hg BK197; have n16_ := ng hg BK197; clear HO184 HO189 HO195 HO201 BK177 BK178 BK197 HB; have HO184 := n0_; have HO189 := n1_; have HO195 := n2_; have HO201 := n3_; have BK177 := n4_; have BK178 := n5_; have BK197 := n6_; have HB := n7_; have BK203 := n8_; have GW203 := n9_; have GE203 := n10_; have NB177_203 := n11_; have NB203_177 := n12_; have NB178_203 := n13_; have NB203_178 := n14_; have NB197_203 := n15_; have NB203_197 := n16_; clear n0_ n1_ n2_ n3_ n4_ n5_ n6_ n7_ n8_ n9_ n10_ n11_ n12_ n13_ n14_ n15_ n16_; clear hb hbox hg; have hnb123 := NB203_177.out; have hnc123 := NB177_203.out; have hnb124 := NB203_178.out; have hnc124 := NB178_203.out; have hnb125 := NB203_197.out; have hnc125 := NB197_203.out; have hcz126_0 : w122.cell? ⟨gb203, 0, none⟩ = some (.bool false) := (blk_cell BK203.out 0).trans rfl; have hcz126_1 : w122.cell? ⟨gb203, 1, none⟩ = some (.slice none 0 0) := (blk_cell BK203.out 1).trans rfl; have hcz126_2 : w122.cell? ⟨gb203, 2, none⟩ = some (.string (⟨#[]⟩ : ByteArray)) := (blk_cell BK203.out 2).trans rfl; have hfz126_0 := blk_frozen BK203.out 0; have hfz126_1 := blk_frozen BK203.out 1; have hfz126_2 := blk_frozen BK203.out 2; obtain ⟨Ao127, co127, eo127⟩ := Kd.S_slice HO201.out; subst eo127; have hcz128_0 : w122.cell? ⟨gb197, 0, none⟩ = some (.bool t192) := (blk_cell BK197.out 0).trans rfl; have hcz128_1 : w122.cell? ⟨gb197, 1, none⟩ = some (.slice Ao119 t193.length co119) := (blk_cell BK197.out 1).trans rfl; have hcz128_2 : w122.cell? ⟨gb197, 2, none⟩ = some (.string t196) := (blk_cell BK197.out 2).trans rfl; have hfz128_0 := blk_frozen BK197.out 0; have hfz128_1 := blk_frozen BK197.out 1; have hfz128_2 := blk_frozen BK197.out 2) | ((with_reducible refine gate_callee (f := 48) rfl ?_); refine goesL_ (some 31) rfl rfl Try.func48 (by kernel_rfl) rfl #[.agg #[.bool t192, .slice Ao119 t193.length co119, .string t196], .agg #[.bool t198, .slice Ao127 t199.length co127, .string t202]] rfl (by (try simp only [List.map_toArray, List.map_cons, List.map_nil]); first | done | rfl | (simp only [List.length_drop, List.length_take]; rfl)) ?_; (with_reducible refine (impl_EqualArg.calls k t192 _ _ t193 t196 t198 _ _ t199 t202 t204 _ ?side1 ?side2 ?side3 ?side4 A24.out).mono ?_); (case side1 => refine (Kd.S_reads' (e := 40) (base := w.heap.size) (ok := fun k_ => (((True ∧ some k_ ≠ (.slice Ao110 t182.length co110 : Value).ownBlock) ∧ some k_ ≠ (.slice Ao111 t187.length co111 : Value).ownBlock) ∧ some k_ ≠ (.slice Ao127 t199.length co127 : Value).ownBlock)) (n := t193.length) (c := co119) ?_).2.2; exact (by (with_reducible repeat (first | apply Kd.S_alloc | apply Kd.S_drewN | apply Kd.S_drew)); exact (Kd.S_mono (Kd.S_far (p := ⟨gb203, 2, none⟩) (Kd.S_far (p := ⟨gb203, 1, none⟩) (Kd.S_far (p := ⟨gb203, 0, none⟩) (Kd.S_types HO195.out BK203.out (by decide)) (fun _ hk => hk.2) (.bool t198)) (fun _ hk => hk.2) (.slice Ao127 t199.length co127)) (fun _ hk => hk.2) (.string t202)) (fun _ h_ => h_.1)))); (case side2 => exact (Kd.S_reads' HO195.out).2.1); (case side3 => refine (Kd.S_reads' (e := 40) (base := w.heap.size) (ok := fun k_ => (((True ∧ some k_ ≠ (.slice Ao110 t182.length co110 : Value).ownBlock) ∧ some k_ ≠ (.slice Ao111 t187.length co111 : Value).ownBlock) ∧ some k_ ≠ (.slice Ao119 t193.length co119 : Value).ownBlock)) (n := t199.length) (c := co127) ?_).2.2; exact (by (with_reducible repeat (first | apply Kd.S_alloc | apply Kd.S_drewN | apply Kd.S_drew)); exact (Kd.S_mono (Kd.S_far (p := ⟨gb203, 2, none⟩) (Kd.S_far (p := ⟨gb203, 1, none⟩) (Kd.S_far (p := ⟨gb203, 0, none⟩) (Kd.S_types HO201.out BK203.out (by decide)) (fun _ hk => hk.2) (.bool t198)) (fun _ hk => hk.2) (.slice Ao127 t199.length co127)) (fun _ hk => hk.2) (.string t202)) (fun _ h_ => h_.1)))); (case side4 => exact (Kd.S_reads' HO201.out).2.1); rintro e w129 ⟨rfl, hb⟩; refine ⟨_, rfl, ?_⟩; have n0_ := Aside0.mk (Kd.S_below (by (with_reducible repeat (first | apply Kd.S_alloc | apply Kd.S_drewN | apply Kd.S_drew)); exact (Kd.S_mono (Kd.S_far (p := ⟨gb203, 2, none⟩) (Kd.S_far (p := ⟨gb203, 1, none⟩) (Kd.S_far (p := ⟨gb203, 0, none⟩) (Kd.S_types HO184.out BK203.out (by decide)) (fun _ hk => hk.2) (.bool t198)) (fun _ hk => hk.2) (.slice Ao127 t199.length co127)) (fun _ hk => hk.2) (.string t202)) (fun _ h_ => h_.1))) hb); have n1_ := Aside0.mk (Kd.S_below (by (with_reducible repeat (first | apply Kd.S_alloc | apply Kd.S_drewN | apply Kd.S_drew)); exact (Kd.S_mono (Kd.S_far (p := ⟨gb203, 2, none⟩) (Kd.S_far (p := ⟨gb203, 1, none⟩) (Kd.S_far (p := ⟨gb203, 0, none⟩) (Kd.S_types HO189.out BK203.out (by decide)) (fun _ hk => hk.2) (.bool t198)) (fun _ hk => hk.2) (.slice Ao127 t199.length co127)) (fun _ hk => hk.2) (.string t202)) (fun _ h_ => h_.1))) hb); have n2_ := Aside0.mk (Kd.S_below (by (with_reducible repeat (first | apply Kd.S_alloc | apply Kd.S_drewN | apply Kd.S_drew)); exact (Kd.S_mono (Kd.S_far (p := ⟨gb203, 2, none⟩) (Kd.S_far (p := ⟨gb203, 1, none⟩) (Kd.S_far (p := ⟨gb203, 0, none⟩) (Kd.S_types HO195.out BK203.out (by decide)) (fun _ hk => hk.2) (.bool t198)) (fun _ hk => hk.2) (.slice Ao127 t199.length co127)) (fun _ hk => hk.2) (.string t202)) (fun _ h_ => h_.1))) hb); have n3_ := Aside0.mk (Kd.S_below (by (with_reducible repeat (first | apply Kd.S_alloc | apply Kd.S_drewN | apply Kd.S_drew)); exact (Kd.S_mono (Kd.S_far (p := ⟨gb203, 2, none⟩) (Kd.S_far (p := ⟨gb203, 1, none⟩) (Kd.S_far (p := ⟨gb203, 0, none⟩) (Kd.S_types HO201.out BK203.out (by decide)) (fun _ hk => hk.2) (.bool t198)) (fun _ hk => hk.2) (.slice Ao127 t199.length co127)) (fun _ hk => hk.2) (.string t202)) (fun _ h_ => h_.1))) hb); have n4_ := bf BK177 hb; have n5_ := bf BK178 hb; have n6_ := bf BK197 hb; have n7_ := Aside0.mk (blk_below (g := gb203) (o := .cells #[.bool t198, .slice Ao127 t199.length co127, .string t202] 73 (0, 0)) (by (with_reducible repeat (first | refine blk_drewN ?_ _ | refine blk_drew ?_ | refine blk_alloc ?_ _)); refine blk_put (cs := #[.bool t198, .slice Ao127 t199.length co127, .string (⟨#[]⟩ : ByteArray)]) ?_ 2 _ rfl; (with_reducible repeat (first | refine blk_drewN ?_ _ | refine blk_drew ?_ | refine blk_alloc ?_ _)); refine blk_put (cs := #[.bool t198, .slice none 0 0, .string (⟨#[]⟩ : ByteArray)]) ?_ 1 _ rfl; (with_reducible repeat (first | refine blk_drewN ?_ _ | refine blk_drew ?_ | refine blk_alloc ?_ _)); refine blk_put (cs := #[.bool false, .slice none 0 0, .string (⟨#[]⟩ : ByteArray)]) ?_ 0 _ rfl; (with_reducible repeat (first | refine blk_drewN ?_ _ | refine blk_drew ?_ | refine blk_alloc ?_ _)); exact BK203.out) hb); have n8_ := bs HB hb; clear HO184 HO189 HO195 HO201 BK177 BK178 BK197 BK203 HB; have HO184 := n0_; have HO189 := n1_; have HO195 := n2_; have HO201 := n3_; have BK177 := n4_; have BK178 := n5_; have BK197 := n6_; have BK203 := n7_; have HB := n8_; clear n0_ n1_ n2_ n3_ n4_ n5_ n6_ n7_ n8_; (try clear hb)))
      replace HO184 := Aside0.mk (Kd.S_drew HO184.out)
      replace HO189 := Aside0.mk (Kd.S_drew HO189.out)
      replace HO195 := Aside0.mk (Kd.S_drew HO195.out)
      replace HO201 := Aside0.mk (Kd.S_drew HO201.out)
      replace BK177 := Aside0.mk (blk_drew BK177.out)
      replace BK178 := Aside0.mk (blk_drew BK178.out)
      replace BK197 := Aside0.mk (blk_drew BK197.out)
      replace BK203 := Aside0.mk (blk_drew BK203.out)
      replace HB := Aside0.mk (below_drew1 HB.out)
      refine start_ (n := 5) (S := fun w' => w'.cell? ⟨gb197, 0, none⟩ = some (.bool t192) ∧ w'.cell? ⟨gb197, 1, none⟩ = some (.slice Ao119 t193.length co119) ∧ w'.cell? ⟨gb197, 2, none⟩ = some (.string t196) ∧ w'.cell? ⟨gb177, 0, none⟩ = some (.bool a0_0) ∧ w'.cell? ⟨gb177, 1, none⟩ = some (.slice A0_1 l0_1.length c0_1) ∧ w'.cell? ⟨gb177, 2, none⟩ = some (.string a0_2)) (ds := []) #[false, false, false, false, false] (by kernel_rfl) rfl rfl ⟨(blk_cell BK197.out 0).trans rfl, (blk_cell BK197.out 1).trans rfl, (blk_cell BK197.out 2).trans rfl, (blk_cell BK177.out 0).trans rfl, (blk_cell BK177.out 1).trans rfl, (blk_cell BK177.out 2).trans rfl⟩ (fun hHeld => ?_)
      generalize w129.drew = w130 at HO184 HO189 HO195 HO201 BK177 BK178 BK197 BK203 HB hHeld ⊢
      refine take_ (i := 0) (N := some 35) (v := ?_) (a' := ?_) #[true, false, false, false, false] rfl rfl (by kernel_rfl) (fun _ _ _ h => h) (Or.inl ⟨by rfl, ?_⟩) hHeld ?_ ?_
      rotate_left
      ·rintro w' ⟨s0, s1, s2, s3, s4, s5⟩
       go_simp
       with_reducible rfl
      rotate_left
      ·simp only [Act.put, List.setIfInBounds_toArray, List.set_cons_zero, List.set_cons_succ, i64_w, i32_w]
       rfl
      refine take_ (i := 1) (N := some 36) (v := ?_) (a' := ?_) #[true, true, false, false, false] rfl rfl (by kernel_rfl) (fun _ _ _ h => h) (Or.inl ⟨by rfl, ?_⟩) hHeld ?_ ?_
      rotate_left
      ·rintro w' ⟨s0, s1, s2, s3, s4, s5⟩
       go_simp
       with_reducible rfl
      rotate_left
      ·simp only [Act.put, List.setIfInBounds_toArray, List.set_cons_zero, List.set_cons_succ, i64_w, i32_w]
       rfl
      refine one_ (i := 2) (N := some 37) #[true, true, true, false, false] rfl rfl (by kernel_rfl) (by decide) (fun K hK => ?_)
      refine goes_ Try.func47 (by kernel_rfl) rfl #[.agg #[.bool a0_0, .slice A0_1 l0_1.length c0_1, .string a0_2]] (by rfl) rfl rfl (by (try simp only [List.map_toArray, List.map_cons, List.map_nil]); first | done | rfl | (simp only [List.length_drop, List.length_take]; rfl)) ?_
      with_reducible refine (laws_toArg.calls k a0_0 _ _ l0_1 a0_2 t205 t206 t209 _ ?side1 ?side2 A56.out).mono ?_
      (case side1 => exact mc ((Kd.C_below HR0_1.out HB.out)))
      (case side2 => exact HC0_1.out)
      rintro e w131 ⟨v207, rfl, ho0, hb⟩
      refine ⟨_, rfl, ?_⟩
      have n0_ := Aside0.mk (Kd.S_elder' (by (with_reducible repeat (first | apply Kd.S_alloc | apply Kd.S_drewN | apply Kd.S_drew)); exact HO184.out) (Kd.S_base ho0) hb)
      have n1_ := Aside0.mk (Kd.S_elder' (by (with_reducible repeat (first | apply Kd.S_alloc | apply Kd.S_drewN | apply Kd.S_drew)); exact HO189.out) (Kd.S_base ho0) hb)
      have n2_ := Aside0.mk (Kd.S_elder' (by (with_reducible repeat (first | apply Kd.S_alloc | apply Kd.S_drewN | apply Kd.S_drew)); exact HO195.out) (Kd.S_base ho0) hb)
      have n3_ := Aside0.mk (Kd.S_elder' (by (with_reducible repeat (first | apply Kd.S_alloc | apply Kd.S_drewN | apply Kd.S_drew)); exact HO201.out) (Kd.S_base ho0) hb)
      have n4_ := Aside0.mk (Kd.S_lower (Kd.S_new' (Kd.S_new' (Kd.S_new' (Kd.S_new' ho0 (Kd.S_lt (by (with_reducible repeat (first | apply Kd.S_alloc | apply Kd.S_drewN | apply Kd.S_drew)); exact HO184.out))) (Kd.S_lt (by (with_reducible repeat (first | apply Kd.S_alloc | apply Kd.S_drewN | apply Kd.S_drew)); exact HO189.out))) (Kd.S_lt (by (with_reducible repeat (first | apply Kd.S_alloc | apply Kd.S_drewN | apply Kd.S_drew)); exact HO195.out))) (Kd.S_lt (by (with_reducible repeat (first | apply Kd.S_alloc | apply Kd.S_drewN | apply Kd.S_drew)); exact HO201.out))) (below_size (ms HB)))
      have n5_ := bb BK177 hb
      have n6_ := bb BK178 hb
      have n7_ := bb BK197 hb
      have n8_ := bb BK203 hb
      have n9_ := bs HB hb
      clear HO184
      clear HO189
      clear HO195
      clear HO201
      clear BK177
      clear BK178
      clear BK197
      clear BK203
      clear HB
      have HO184 := n0_
      have HO189 := n1_
      have HO195 := n2_
      have HO201 := n3_
      have HO208 := n4_
      have BK177 := n5_
      have BK178 := n6_
      have BK197 := n7_
      have BK203 := n8_
      have HB := n9_
      clear n0_ n1_ n2_ n3_ n4_ n5_ n6_ n7_ n8_ n9_
      (try clear hb)
      (try clear hb2)
      (try clear hk)
      (try clear hi)
      (try clear ho0)
      obtain ⟨Ao132, co132, eo132⟩ := Kd.S_slice HO208.out
      (first | subst eo132 | (injection eo132 with f1_ f2_ f3_; have f4_ := f1_.symm; have f5_ := f3_.symm; clear f1_ f2_ f3_; subst f4_; subst f5_))
      refine hK.out _ _ ⟨(blk_cell BK197.out 0).trans rfl, (blk_cell BK197.out 1).trans rfl, (blk_cell BK197.out 2).trans rfl, (blk_cell BK177.out 0).trans rfl, (blk_cell BK177.out 1).trans rfl, (blk_cell BK177.out 2).trans rfl⟩ (fun hHeld => ?_)
      clear hK K
      refine norm_ (a' := ?_) ?_ ?_
      rotate_left
      ·show Act.put _ (some 37) _ = _
       simp only [Act.put, List.setIfInBounds_toArray, List.set_cons_zero, List.set_cons_succ, i64_w, i32_w]
       rfl
      refine one_ (i := 3) (N := some 38) #[true, true, true, true, false] rfl rfl (by kernel_rfl) (by decide) (fun K hK => ?_)
      refine goes_ Try.func49 (by kernel_rfl) rfl #[.agg #[.bool t192, .slice Ao119 t193.length co119, .string t196], .agg #[.bool t205, .slice Ao132 t206.length co132, .string t209]] (by rfl) rfl rfl (by (try simp only [List.map_toArray, List.map_cons, List.map_nil]); first | done | rfl | (simp only [List.length_drop, List.length_take]; rfl)) ?_
      with_reducible refine (laws_eqArg.calls k t192 _ _ t193 t196 t205 _ _ t206 t209 true _ ?side1 ?side2 ?side3 ?side4 A57.out).mono ?_
      (case side1 => exact mc ((Kd.S_reads' HO195.out).2.2))
      (case side2 => exact (Kd.S_reads' HO195.out).2.1)
      (case side3 => exact mc ((Kd.S_reads' HO208.out).2.2))
      (case side4 => exact (Kd.S_reads' HO208.out).2.1)
      rintro e w133 ⟨rfl, hb⟩
      refine ⟨_, rfl, ?_⟩
      have n0_ := Aside0.mk (Kd.S_below (by (with_reducible repeat (first | apply Kd.S_alloc | apply Kd.S_drewN | apply Kd.S_drew)); exact HO184.out) hb)
      have n1_ := Aside0.mk (Kd.S_below (by (with_reducible repeat (first | apply Kd.S_alloc | apply Kd.S_drewN | apply Kd.S_drew)); exact HO189.out) hb)
      have n2_ := Aside0.mk (Kd.S_below (by (with_reducible repeat (first | apply Kd.S_alloc | apply Kd.S_drewN | apply Kd.S_drew)); exact HO195.out) hb)
      have n3_ := Aside0.mk (Kd.S_below (by (with_reducible repeat (first | apply Kd.S_alloc | apply Kd.S_drewN | apply Kd.S_drew)); exact HO201.out) hb)
      have n4_ := Aside0.mk (Kd.S_below (by (with_reducible repeat (first | apply Kd.S_alloc | apply Kd.S_drewN | apply Kd.S_drew)); exact HO208.out) hb)
      have n5_ := bb BK177 hb
      have n6_ := bb BK178 hb
      have n7_ := bb BK197 hb
      have n8_ := bb BK203 hb
      have n9_ := bs HB hb
      clear HO184
      clear HO189
      clear HO195
      clear HO201
      clear HO208
      clear BK177
      clear BK178
      clear BK197
      clear BK203
      clear HB
      have HO184 := n0_
      have HO189 := n1_
      have HO195 := n2_
      have HO201 := n3_
      have HO208 := n4_
      have BK177 := n5_
      have BK178 := n6_
      have BK197 := n7_
      have BK203 := n8_
      have HB := n9_
      clear n0_ n1_ n2_ n3_ n4_ n5_ n6_ n7_ n8_ n9_
      (try clear hb)
      (try clear hb2)
      (try clear hk)
      (try clear hi)
      refine hK.out _ _ ⟨(blk_cell BK197.out 0).trans rfl, (blk_cell BK197.out 1).trans rfl, (blk_cell BK197.out 2).trans rfl, (blk_cell BK177.out 0).trans rfl, (blk_cell BK177.out 1).trans rfl, (blk_cell BK177.out 2).trans rfl⟩ (fun hHeld => ?_)
      clear hK K
      refine norm_ (a' := ?_) ?_ ?_
      rotate_left
      ·show Act.put _ (some 38) _ = _
       simp only [Act.put, List.setIfInBounds_toArray, List.set_cons_zero, List.set_cons_succ, i64_w, i32_w]
       rfl
      refine pure_ (i := 4) (N := some 39) (v := ?_) (a' := ?_) #[true, true, true, true, true] rfl rfl (by kernel_rfl) (fun _ _ _ h => h) (Or.inl ⟨by rfl, ?_⟩) ?_ ?_
      rotate_left
      ·intro w'
       go_simp
       with_reducible rfl
      rotate_left
      ·simp only [Act.put, List.setIfInBounds_toArray, List.set_cons_zero, List.set_cons_succ, i64_w, i32_w]
       rfl
      refine done_ (by kernel_rfl) ?_
      try go_wp2
      replace HO184 := Aside0.mk (Kd.S_drew HO184.out)
      replace HO189 := Aside0.mk (Kd.S_drew HO189.out)
      replace HO195 := Aside0.mk (Kd.S_drew HO195.out)
      replace HO201 := Aside0.mk (Kd.S_drew HO201.out)
      replace HO208 := Aside0.mk (Kd.S_drew HO208.out)
      replace BK177 := Aside0.mk (blk_drew BK177.out)
      replace BK178 := Aside0.mk (blk_drew BK178.out)
      replace BK197 := Aside0.mk (blk_drew BK197.out)
      replace BK203 := Aside0.mk (blk_drew BK203.out)
      replace HB := Aside0.mk (below_drew1 HB.out)
      refine start_ (n := 5) (S := fun w' => w'.cell? ⟨gb203, 0, none⟩ = some (.bool t198) ∧ w'.cell? ⟨gb203, 1, none⟩ = some (.slice Ao127 t199.length co127) ∧ w'.cell? ⟨gb203, 2, none⟩ = some (.string t202) ∧ w'.cell? ⟨gb178, 0, none⟩ = some (.bool a1_0) ∧ w'.cell? ⟨gb178, 1, none⟩ = some (.slice A1_1 l1_1.length c1_1) ∧ w'.cell? ⟨gb178, 2, none⟩ = some (.string a1_2)) (ds := []) #[false, false, false, false, false] (by kernel_rfl) rfl rfl ⟨(blk_cell BK203.out 0).trans rfl, (blk_cell BK203.out 1).trans rfl, (blk_cell BK203.out 2).trans rfl, (blk_cell BK178.out 0).trans rfl, (blk_cell BK178.out 1).trans rfl, (blk_cell BK178.out 2).trans rfl⟩ (fun hHeld => ?_)
      generalize w133.drew = w134 at HO184 HO189 HO195 HO201 HO208 BK177 BK178 BK197 BK203 HB hHeld ⊢
      refine take_ (i := 0) (N := some 40) (v := ?_) (a' := ?_) #[true, false, false, false, false] rfl rfl (by kernel_rfl) (fun _ _ _ h => h) (Or.inl ⟨by rfl, ?_⟩) hHeld ?_ ?_
      rotate_left
      ·rintro w' ⟨s0, s1, s2, s3, s4, s5⟩
       go_simp
       with_reducible rfl
      rotate_left
      ·simp only [Act.put, List.setIfInBounds_toArray, List.set_cons_zero, List.set_cons_succ, i64_w, i32_w]
       rfl
      refine take_ (i := 1) (N := some 41) (v := ?_) (a' := ?_) #[true, true, false, false, false] rfl rfl (by kernel_rfl) (fun _ _ _ h => h) (Or.inl ⟨by rfl, ?_⟩) hHeld ?_ ?_
      rotate_left
      ·rintro w' ⟨s0, s1, s2, s3, s4, s5⟩
       go_simp
       with_reducible rfl
      rotate_left
      ·simp only [Act.put, List.setIfInBounds_toArray, List.set_cons_zero, List.set_cons_succ, i64_w, i32_w]
       rfl
      refine one_ (i := 2) (N := some 42) #[true, true, true, false, false] rfl rfl (by kernel_rfl) (by decide) (fun K hK => ?_)
      refine goes_ Try.func47 (by kernel_rfl) rfl #[.agg #[.bool a1_0, .slice A1_1 l1_1.length c1_1, .string a1_2]] (by rfl) rfl rfl (by (try simp only [List.map_toArray, List.map_cons, List.map_nil]); first | done | rfl | (simp only [List.length_drop, List.length_take]; rfl)) ?_
      with_reducible refine (laws_toArg.calls k a1_0 _ _ l1_1 a1_2 t211 t212 t215 _ ?side1 ?side2 A59.out).mono ?_
      (case side1 => exact mc ((Kd.C_below HR1_1.out HB.out)))
      (case side2 => exact HC1_1.out)
      rintro e w135 ⟨v213, rfl, ho0, hb⟩
      refine ⟨_, rfl, ?_⟩
      have n0_ := Aside0.mk (Kd.S_elder' (by (with_reducible repeat (first | apply Kd.S_alloc | apply Kd.S_drewN | apply Kd.S_drew)); exact HO184.out) (Kd.S_base ho0) hb)
      have n1_ := Aside0.mk (Kd.S_elder' (by (with_reducible repeat (first | apply Kd.S_alloc | apply Kd.S_drewN | apply Kd.S_drew)); exact HO189.out) (Kd.S_base ho0) hb)
      have n2_ := Aside0.mk (Kd.S_elder' (by (with_reducible repeat (first | apply Kd.S_alloc | apply Kd.S_drewN | apply Kd.S_drew)); exact HO195.out) (Kd.S_base ho0) hb)
      have n3_ := Aside0.mk (Kd.S_elder' (by (with_reducible repeat (first | apply Kd.S_alloc | apply Kd.S_drewN | apply Kd.S_drew)); exact HO201.out) (Kd.S_base ho0) hb)
      have n4_ := Aside0.mk (Kd.S_elder' (by (with_reducible repeat (first | apply Kd.S_alloc | apply Kd.S_drewN | apply Kd.S_drew)); exact HO208.out) (Kd.S_base ho0) hb)
      have n5_ := Aside0.mk (Kd.S_lower (Kd.S_new' (Kd.S_new' (Kd.S_new' (Kd.S_new' (Kd.S_new' ho0 (Kd.S_lt (by (with_reducible repeat (first | apply Kd.S_alloc | apply Kd.S_drewN | apply Kd.S_drew)); exact HO184.out))) (Kd.S_lt (by (with_reducible repeat (first | apply Kd.S_alloc | apply Kd.S_drewN | apply Kd.S_drew)); exact HO189.out))) (Kd.S_lt (by (with_reducible repeat (first | apply Kd.S_alloc | apply Kd.S_drewN | apply Kd.S_drew)); exact HO195.out))) (Kd.S_lt (by (with_reducible repeat (first | apply Kd.S_alloc | apply Kd.S_drewN | apply Kd.S_drew)); exact HO201.out))) (Kd.S_lt (by (with_reducible repeat (first | apply Kd.S_alloc | apply Kd.S_drewN | apply Kd.S_drew)); exact HO208.out))) (below_size (ms HB)))
      have n6_ := bb BK177 hb
      have n7_ := bb BK178 hb
      have n8_ := bb BK197 hb
      have n9_ := bb BK203 hb
      have n10_ := bs HB hb
      clear HO184
      clear HO189
      clear HO195
      clear HO201
      clear HO208
      clear BK177
      clear BK178
      clear BK197
      clear BK203
      clear HB
      have HO184 := n0_
      have HO189 := n1_
      have HO195 := n2_
      have HO201 := n3_
      have HO208 := n4_
      have HO214 := n5_
      have BK177 := n6_
      have BK178 := n7_
      have BK197 := n8_
      have BK203 := n9_
      have HB := n10_
      clear n0_ n1_ n2_ n3_ n4_ n5_ n6_ n7_ n8_ n9_ n10_
      (try clear hb)
      (try clear hb2)
      (try clear hk)
      (try clear hi)
      (try clear ho0)
      obtain ⟨Ao136, co136, eo136⟩ := Kd.S_slice HO214.out
      (first | subst eo136 | (injection eo136 with f1_ f2_ f3_; have f4_ := f1_.symm; have f5_ := f3_.symm; clear f1_ f2_ f3_; subst f4_; subst f5_))
      refine hK.out _ _ ⟨(blk_cell BK203.out 0).trans rfl, (blk_cell BK203.out 1).trans rfl, (blk_cell BK203.out 2).trans rfl, (blk_cell BK178.out 0).trans rfl, (blk_cell BK178.out 1).trans rfl, (blk_cell BK178.out 2).trans rfl⟩ (fun hHeld => ?_)
      clear hK K
      refine norm_ (a' := ?_) ?_ ?_
      rotate_left
      ·show Act.put _ (some 42) _ = _
       simp only [Act.put, List.setIfInBounds_toArray, List.set_cons_zero, List.set_cons_succ, i64_w, i32_w]
       rfl
      refine one_ (i := 3) (N := some 43) #[true, true, true, true, false] rfl rfl (by kernel_rfl) (by decide) (fun K hK => ?_)
      refine goes_ Try.func49 (by kernel_rfl) rfl #[.agg #[.bool t198, .slice Ao127 t199.length co127, .string t202], .agg #[.bool t211, .slice Ao136 t212.length co136, .string t215]] (by rfl) rfl rfl (by (try simp only [List.map_toArray, List.map_cons, List.map_nil]); first | done | rfl | (simp only [List.length_drop, List.length_take]; rfl)) ?_
      with_reducible refine (laws_eqArg.calls k t198 _ _ t199 t202 t211 _ _ t212 t215 false _ ?side1 ?side2 ?side3 ?side4 A60.out).mono ?_
      (case side1 => exact mc ((Kd.S_reads' HO201.out).2.2))
      (case side2 => exact (Kd.S_reads' HO201.out).2.1)
      (case side3 => exact mc ((Kd.S_reads' HO214.out).2.2))
      (case side4 => exact (Kd.S_reads' HO214.out).2.1)
      rintro e w137 ⟨rfl, hb⟩
      refine ⟨_, rfl, ?_⟩
      have n0_ := Aside0.mk (Kd.S_below (by (with_reducible repeat (first | apply Kd.S_alloc | apply Kd.S_drewN | apply Kd.S_drew)); exact HO184.out) hb)
      have n1_ := Aside0.mk (Kd.S_below (by (with_reducible repeat (first | apply Kd.S_alloc | apply Kd.S_drewN | apply Kd.S_drew)); exact HO189.out) hb)
      have n2_ := Aside0.mk (Kd.S_below (by (with_reducible repeat (first | apply Kd.S_alloc | apply Kd.S_drewN | apply Kd.S_drew)); exact HO195.out) hb)
      have n3_ := Aside0.mk (Kd.S_below (by (with_reducible repeat (first | apply Kd.S_alloc | apply Kd.S_drewN | apply Kd.S_drew)); exact HO201.out) hb)
      have n4_ := Aside0.mk (Kd.S_below (by (with_reducible repeat (first | apply Kd.S_alloc | apply Kd.S_drewN | apply Kd.S_drew)); exact HO208.out) hb)
      have n5_ := Aside0.mk (Kd.S_below (by (with_reducible repeat (first | apply Kd.S_alloc | apply Kd.S_drewN | apply Kd.S_drew)); exact HO214.out) hb)
      have n6_ := bb BK177 hb
      have n7_ := bb BK178 hb
      have n8_ := bb BK197 hb
      have n9_ := bb BK203 hb
      have n10_ := bs HB hb
      clear HO184
      clear HO189
      clear HO195
      clear HO201
      clear HO208
      clear HO214
      clear BK177
      clear BK178
      clear BK197
      clear BK203
      clear HB
      have HO184 := n0_
      have HO189 := n1_
      have HO195 := n2_
      have HO201 := n3_
      have HO208 := n4_
      have HO214 := n5_
      have BK177 := n6_
      have BK178 := n7_
      have BK197 := n8_
      have BK203 := n9_
      have HB := n10_
      clear n0_ n1_ n2_ n3_ n4_ n5_ n6_ n7_ n8_ n9_ n10_
      (try clear hb)
      (try clear hb2)
      (try clear hk)
      (try clear hi)
      refine hK.out _ _ ⟨(blk_cell BK203.out 0).trans rfl, (blk_cell BK203.out 1).trans rfl, (blk_cell BK203.out 2).trans rfl, (blk_cell BK178.out 0).trans rfl, (blk_cell BK178.out 1).trans rfl, (blk_cell BK178.out 2).trans rfl⟩ (fun hHeld => ?_)
      clear hK K
      refine norm_ (a' := ?_) ?_ ?_
      rotate_left
      ·show Act.put _ (some 43) _ = _
       simp only [Act.put, List.setIfInBounds_toArray, List.set_cons_zero, List.set_cons_succ, i64_w, i32_w]
       rfl
      refine pure_ (i := 4) (N := some 44) (v := ?_) (a' := ?_) #[true, true, true, true, true] rfl rfl (by kernel_rfl) (fun _ _ _ h => h) (Or.inl ⟨by rfl, ?_⟩) ?_ ?_
      rotate_left
      ·intro w'
       go_simp
       with_reducible rfl
      rotate_left
      ·simp only [Act.put, List.setIfInBounds_toArray, List.set_cons_zero, List.set_cons_succ, i64_w, i32_w]
       rfl
      refine done_ (by kernel_rfl) ?_
      try go_wp2
      go_ret
      exact ⟨by first | rfl | (simp [errW_none, errW_some] <;> rfl) | (simp [*, errW_none, errW_some] <;> rfl), ms HB⟩
    ·replace c58 := Bool.eq_false_iff.mpr c58
     subst c58
     have H1 : (some false) = some r := by rw [if_neg (show ¬ (false = true) by decide)] at H; exact H
     clear H
     have H := H1
     clear H1
     obtain rfl := Option.some.inj H
     go_enter Try.func8, Try.ntmps8
     try go_wp2_with (first | ((with_reducible refine gate_dst (N := 2) rfl ?_); refine box_event ?hg (N := 2) ?hd (cs := #[.bool a0_0, .slice A0_1 l0_1.length c0_1, .string a0_2]) (t := 68) ?hr ?_; (case hd => rfl); (case hg => rfl); (case hr => first | (go_simp; done) | (go_simp; rfl)); intro gb177 hg w138 hbox hb; have BK177 := Aside0.mk (hbox); have GW177 := gw hg HB; have GE177 := gw hg HB; replace HB := bs HB hb; clear hb hbox hg) | ((with_reducible refine gate_dst (N := 3) rfl ?_); refine box_event ?hg (N := 3) ?hd (cs := #[.bool a1_0, .slice A1_1 l1_1.length c1_1, .string a1_2]) (t := 68) ?hr ?_; (case hd => rfl); (case hg => rfl); (case hr => first | (go_simp; done) | (go_simp; rfl)); intro gb178 hg w139 hbox hb; have BK178 := Aside0.mk (hbox); have GW178 := gw hg HB; have GE178 := gw hg HB; replace HB := bs HB hb; have NB177_178 := nl hg BK177; have NB178_177 := ng hg BK177; replace BK177 := bb BK177 hb; clear hb hbox hg; have hnb140 := NB177_178.out; have hnc140 := NB178_177.out; have hcz141_0 : w139.cell? ⟨gb177, 0, none⟩ = some (.bool a0_0) := (blk_cell BK177.out 0).trans rfl; have hcz141_1 : w139.cell? ⟨gb177, 1, none⟩ = some (.slice A0_1 l0_1.length c0_1) := (blk_cell BK177.out 1).trans rfl; have hcz141_2 : w139.cell? ⟨gb177, 2, none⟩ = some (.string a0_2) := (blk_cell BK177.out 2).trans rfl; have hfz141_0 := blk_frozen BK177.out 0; have hfz141_1 := blk_frozen BK177.out 1; have hfz141_2 := blk_frozen BK177.out 2) | ((with_reducible refine gate_callee (f := 45) rfl ?_); refine goesL_ (some 12) rfl rfl Try.func45 (by kernel_rfl) rfl #[.agg #[.bool a0_0, .slice A0_1 l0_1.length c0_1, .string a0_2], .int .i64 1048576] rfl (by (try simp only [List.map_toArray, List.map_cons, List.map_nil]); first | done | rfl | (simp only [List.length_drop, List.length_take]; rfl)) ?_; (with_reducible refine (laws_szArg.calls k a0_0 _ _ l0_1 a0_2 1048576 t179 _ ?side1 ?side2 A3.out).mono ?_); (case side1 => exact mc ((Kd.C_below HR0_1.out HB.out))); (case side2 => exact HC0_1.out); rintro e w142 ⟨rfl, hb⟩; refine ⟨_, rfl, ?_⟩; replace BK177 := bb BK177 hb; replace BK178 := bb BK178 hb; replace HB := bs HB hb; (try clear hb); have hcz143_0 : w142.cell? ⟨gb178, 0, none⟩ = some (.bool a1_0) := (blk_cell BK178.out 0).trans rfl; have hcz143_1 : w142.cell? ⟨gb178, 1, none⟩ = some (.slice A1_1 l1_1.length c1_1) := (blk_cell BK178.out 1).trans rfl; have hcz143_2 : w142.cell? ⟨gb178, 2, none⟩ = some (.string a1_2) := (blk_cell BK178.out 2).trans rfl; have hfz143_0 := blk_frozen BK178.out 0; have hfz143_1 := blk_frozen BK178.out 1; have hfz143_2 := blk_frozen BK178.out 2) | ((with_reducible refine gate_callee (f := 45) rfl ?_); refine goesL_ (some 17) rfl rfl Try.func45 (by kernel_rfl) rfl #[.agg #[.bool a1_0, .slice A1_1 l1_1.length c1_1, .string a1_2], .int .i64 t179] rfl (by (try simp only [List.map_toArray, List.map_cons, List.map_nil]); first | done | rfl | (simp only [List.length_drop, List.length_take]; rfl)) ?_; (with_reducible refine (laws_szArg.calls k a1_0 _ _ l1_1 a1_2 t179 t180 _ ?side1 ?side2 A10.out).mono ?_); (case side1 => exact mc ((Kd.C_below HR1_1.out HB.out))); (case side2 => exact HC1_1.out); rintro e w144 ⟨rfl, hb⟩; refine ⟨_, rfl, ?_⟩; replace BK177 := bb BK177 hb; replace BK178 := bb BK178 hb; replace HB := bs HB hb; (try clear hb)))
     replace BK177 := Aside0.mk (blk_drew BK177.out)
     replace BK178 := Aside0.mk (blk_drew BK178.out)
     replace HB := Aside0.mk (below_drew1 HB.out)
     refine start_ (n := 6) (S := fun w' => w'.cell? ⟨gb177, 0, none⟩ = some (.bool a0_0) ∧ w'.cell? ⟨gb177, 1, none⟩ = some (.slice A0_1 l0_1.length c0_1) ∧ w'.cell? ⟨gb177, 2, none⟩ = some (.string a0_2) ∧ w'.cell? ⟨gb178, 0, none⟩ = some (.bool a1_0) ∧ w'.cell? ⟨gb178, 1, none⟩ = some (.slice A1_1 l1_1.length c1_1) ∧ w'.cell? ⟨gb178, 2, none⟩ = some (.string a1_2)) (ds := []) #[false, false, false, false, false, false] (by kernel_rfl) rfl rfl ⟨(blk_cell BK177.out 0).trans rfl, (blk_cell BK177.out 1).trans rfl, (blk_cell BK177.out 2).trans rfl, (blk_cell BK178.out 0).trans rfl, (blk_cell BK178.out 1).trans rfl, (blk_cell BK178.out 2).trans rfl⟩ (fun hHeld => ?_)
     generalize w144.drew = w145 at BK177 BK178 HB hHeld ⊢
     refine take_ (i := 0) (N := some 20) (v := ?_) (a' := ?_) #[true, false, false, false, false, false] rfl rfl (by kernel_rfl) (fun _ _ _ h => h) (Or.inl ⟨by rfl, ?_⟩) hHeld ?_ ?_
     rotate_left
     ·rintro w' ⟨s0, s1, s2, s3, s4, s5⟩
      go_simp
      with_reducible rfl
     rotate_left
     ·simp only [Act.put, List.setIfInBounds_toArray, List.set_cons_zero, List.set_cons_succ, i64_w, i32_w]
      rfl
     refine take_ (i := 2) (N := some 22) (v := ?_) (a' := ?_) #[true, false, true, false, false, false] rfl rfl (by kernel_rfl) (fun _ _ _ h => h) (Or.inl ⟨by rfl, ?_⟩) hHeld ?_ ?_
     rotate_left
     ·rintro w' ⟨s0, s1, s2, s3, s4, s5⟩
      go_simp
      with_reducible rfl
     rotate_left
     ·simp only [Act.put, List.setIfInBounds_toArray, List.set_cons_zero, List.set_cons_succ, i64_w, i32_w]
      rfl
     refine one_ (i := 1) (N := some 21) #[true, true, true, false, false, false] rfl rfl (by kernel_rfl) (by decide) (fun K hK => ?_)
     refine goes_ Try.func47 (by kernel_rfl) rfl #[.agg #[.bool a0_0, .slice A0_1 l0_1.length c0_1, .string a0_2]] (by rfl) rfl rfl (by (try simp only [List.map_toArray, List.map_cons, List.map_nil]); first | done | rfl | (simp only [List.length_drop, List.length_take]; rfl)) ?_
     with_reducible refine (laws_toArg.calls k a0_0 _ _ l0_1 a0_2 t181 t182 t185 _ ?side1 ?side2 A19.out).mono ?_
     (case side1 => exact mc ((Kd.C_below HR0_1.out HB.out)))
     (case side2 => exact HC0_1.out)
     rintro e w146 ⟨v183, rfl, ho0, hb⟩
     refine ⟨_, rfl, ?_⟩
     have HO184 := Aside0.mk (Kd.S_lower ho0 (below_size (ms HB)))
     replace BK177 := bb BK177 hb
     replace BK178 := bb BK178 hb
     replace HB := bs HB hb
     (try clear hb)
     (try clear hb2)
     (try clear hk)
     (try clear hi)
     (try clear ho0)
     refine hK.out _ _ ⟨(blk_cell BK177.out 0).trans rfl, (blk_cell BK177.out 1).trans rfl, (blk_cell BK177.out 2).trans rfl, (blk_cell BK178.out 0).trans rfl, (blk_cell BK178.out 1).trans rfl, (blk_cell BK178.out 2).trans rfl⟩ (fun hHeld => ?_)
     clear hK K
     refine norm_ (a' := ?_) ?_ ?_
     rotate_left
     ·show Act.put _ (some 21) _ = _
      simp only [Act.put, List.setIfInBounds_toArray, List.set_cons_zero, List.set_cons_succ, i64_w, i32_w]
      rfl
     refine one_ (i := 3) (N := some 23) #[true, true, true, true, false, false] rfl rfl (by kernel_rfl) (by decide) (fun K hK => ?_)
     refine goes_ Try.func47 (by kernel_rfl) rfl #[.agg #[.bool a1_0, .slice A1_1 l1_1.length c1_1, .string a1_2]] (by rfl) rfl rfl (by (try simp only [List.map_toArray, List.map_cons, List.map_nil]); first | done | rfl | (simp only [List.length_drop, List.length_take]; rfl)) ?_
     with_reducible refine (laws_toArg.calls k a1_0 _ _ l1_1 a1_2 t186 t187 t190 _ ?side1 ?side2 A20.out).mono ?_
     (case side1 => exact mc ((Kd.C_below HR1_1.out HB.out)))
     (case side2 => exact HC1_1.out)
     rintro e w147 ⟨v188, rfl, ho0, hb⟩
     refine ⟨_, rfl, ?_⟩
     have n0_ := Aside0.mk (Kd.S_elder' (by (with_reducible repeat (first | apply Kd.S_alloc | apply Kd.S_drewN | apply Kd.S_drew)); exact HO184.out) (Kd.S_base ho0) hb)
     have n1_ := Aside0.mk (Kd.S_lower (Kd.S_new' ho0 (Kd.S_lt (by (with_reducible repeat (first | apply Kd.S_alloc | apply Kd.S_drewN | apply Kd.S_drew)); exact HO184.out))) (below_size (ms HB)))
     have n2_ := bb BK177 hb
     have n3_ := bb BK178 hb
     have n4_ := bs HB hb
     clear HO184
     clear BK177
     clear BK178
     clear HB
     have HO184 := n0_
     have HO189 := n1_
     have BK177 := n2_
     have BK178 := n3_
     have HB := n4_
     clear n0_ n1_ n2_ n3_ n4_
     (try clear hb)
     (try clear hb2)
     (try clear hk)
     (try clear hi)
     (try clear ho0)
     obtain ⟨Ao148, co148, eo148⟩ := Kd.S_slice HO184.out
     (first | subst eo148 | (injection eo148 with f1_ f2_ f3_; have f4_ := f1_.symm; have f5_ := f3_.symm; clear f1_ f2_ f3_; subst f4_; subst f5_))
     obtain ⟨Ao149, co149, eo149⟩ := Kd.S_slice HO189.out
     (first | subst eo149 | (injection eo149 with f1_ f2_ f3_; have f4_ := f1_.symm; have f5_ := f3_.symm; clear f1_ f2_ f3_; subst f4_; subst f5_))
     refine hK.out _ _ ⟨(blk_cell BK177.out 0).trans rfl, (blk_cell BK177.out 1).trans rfl, (blk_cell BK177.out 2).trans rfl, (blk_cell BK178.out 0).trans rfl, (blk_cell BK178.out 1).trans rfl, (blk_cell BK178.out 2).trans rfl⟩ (fun hHeld => ?_)
     clear hK K
     refine norm_ (a' := ?_) ?_ ?_
     rotate_left
     ·show Act.put _ (some 23) _ = _
      simp only [Act.put, List.setIfInBounds_toArray, List.set_cons_zero, List.set_cons_succ, i64_w, i32_w]
      rfl
     refine one_ (i := 4) (N := some 24) #[true, true, true, true, true, false] rfl rfl (by kernel_rfl) (by decide) (fun K hK => ?_)
     refine goes_ Try.func46 (by kernel_rfl) rfl #[.agg #[.bool t181, .slice Ao148 t182.length co148, .string t185], .agg #[.bool t186, .slice Ao149 t187.length co149, .string t190]] (by rfl) rfl rfl (by (try simp only [List.map_toArray, List.map_cons, List.map_nil]); first | done | rfl | (simp only [List.length_drop, List.length_take]; rfl)) ?_
     with_reducible refine (spec_EqualArg.calls k t181 _ _ t182 t185 t186 _ _ t187 t190 t191 _ ?side1 ?side2 ?side3 ?side4 A21.out).mono ?_
     (case side1 => exact mc ((Kd.S_reads' HO184.out).2.2))
     (case side2 => exact (Kd.S_reads' HO184.out).2.1)
     (case side3 => exact mc ((Kd.S_reads' HO189.out).2.2))
     (case side4 => exact (Kd.S_reads' HO189.out).2.1)
     rintro e w150 ⟨rfl, hb⟩
     refine ⟨_, rfl, ?_⟩
     have n0_ := Aside0.mk (Kd.S_below (by (with_reducible repeat (first | apply Kd.S_alloc | apply Kd.S_drewN | apply Kd.S_drew)); exact HO184.out) hb)
     have n1_ := Aside0.mk (Kd.S_below (by (with_reducible repeat (first | apply Kd.S_alloc | apply Kd.S_drewN | apply Kd.S_drew)); exact HO189.out) hb)
     have n2_ := bb BK177 hb
     have n3_ := bb BK178 hb
     have n4_ := bs HB hb
     clear HO184
     clear HO189
     clear BK177
     clear BK178
     clear HB
     have HO184 := n0_
     have HO189 := n1_
     have BK177 := n2_
     have BK178 := n3_
     have HB := n4_
     clear n0_ n1_ n2_ n3_ n4_
     (try clear hb)
     (try clear hb2)
     (try clear hk)
     (try clear hi)
     refine hK.out _ _ ⟨(blk_cell BK177.out 0).trans rfl, (blk_cell BK177.out 1).trans rfl, (blk_cell BK177.out 2).trans rfl, (blk_cell BK178.out 0).trans rfl, (blk_cell BK178.out 1).trans rfl, (blk_cell BK178.out 2).trans rfl⟩ (fun hHeld => ?_)
     clear hK K
     refine norm_ (a' := ?_) ?_ ?_
     rotate_left
     ·show Act.put _ (some 24) _ = _
      simp only [Act.put, List.setIfInBounds_toArray, List.set_cons_zero, List.set_cons_succ, i64_w, i32_w]
      rfl
     refine pure_ (i := 5) (N := some 6) (v := ?_) (a' := ?_) #[true, true, true, true, true, true] rfl rfl (by kernel_rfl) (fun _ _ _ h => h) (Or.inl ⟨by rfl, ?_⟩) ?_ ?_
     rotate_left
     ·intro w'
      go_simp
      with_reducible rfl
     rotate_left
     ·simp only [Act.put, List.setIfInBounds_toArray, List.set_cons_zero, List.set_cons_succ, i64_w, i32_w]
      rfl
     refine done_ (by kernel_rfl) ?_
     have hcz151_0 : w150.cell? ⟨gb177, 0, none⟩ = some (.bool a0_0) := (blk_cell BK177.out 0).trans rfl
     have hcz151_1 : w150.cell? ⟨gb177, 1, none⟩ = some (.slice A0_1 l0_1.length c0_1) := (blk_cell BK177.out 1).trans rfl
     have hcz151_2 : w150.cell? ⟨gb177, 2, none⟩ = some (.string a0_2) := (blk_cell BK177.out 2).trans rfl
     have hfz151_0 := blk_frozen BK177.out 0
     have hfz151_1 := blk_frozen BK177.out 1
     have hfz151_2 := blk_frozen BK177.out 2
     try go_wp2_with (first | ((with_reducible refine gate_callee (f := 47) rfl ?_); refine goesL_ (some 26) rfl rfl Try.func47 (by kernel_rfl) rfl #[.agg #[.bool a0_0, .slice A0_1 l0_1.length c0_1, .string a0_2]] rfl (by (try simp only [List.map_toArray, List.map_cons, List.map_nil]); first | done | rfl | (simp only [List.length_drop, List.length_take]; rfl)) ?_; (with_reducible refine (laws_toArg.calls k a0_0 _ _ l0_1 a0_2 t192 t193 t196 _ ?side1 ?side2 A22.out).mono ?_); (case side1 => exact mc ((Kd.C_below HR0_1.out HB.out))); (case side2 => exact HC0_1.out); rintro e w152 ⟨v194, rfl, ho0, hb⟩; refine ⟨_, rfl, ?_⟩; have n0_ := Aside0.mk (Kd.S_elder' (by (with_reducible repeat (first | apply Kd.S_alloc | apply Kd.S_drewN | apply Kd.S_drew)); exact HO184.out) (Kd.S_base ho0) hb); have n1_ := Aside0.mk (Kd.S_elder' (by (with_reducible repeat (first | apply Kd.S_alloc | apply Kd.S_drewN | apply Kd.S_drew)); exact HO189.out) (Kd.S_base ho0) hb); have n2_ := Aside0.mk (Kd.S_lower (Kd.S_new' (Kd.S_new' ho0 (Kd.S_lt (by (with_reducible repeat (first | apply Kd.S_alloc | apply Kd.S_drewN | apply Kd.S_drew)); exact HO184.out))) (Kd.S_lt (by (with_reducible repeat (first | apply Kd.S_alloc | apply Kd.S_drewN | apply Kd.S_drew)); exact HO189.out))) (below_size (ms HB))); have n3_ := bb BK177 hb; have n4_ := bb BK178 hb; have n5_ := bs HB hb; clear HO184 HO189 BK177 BK178 HB; have HO184 := n0_; have HO189 := n1_; have HO195 := n2_; have BK177 := n3_; have BK178 := n4_; have HB := n5_; clear n0_ n1_ n2_ n3_ n4_ n5_; (try clear hb); (try clear ho0)) | ((with_reducible refine gate_dst (N := 7) rfl ?_); refine box_event ?hg (N := 7) ?hd (cs := #[.bool false, .slice none 0 0, .string (⟨#[]⟩ : ByteArray)]) (t := 73) ?hr ?_; (case hd => rfl); (case hg => rfl); (case hr => first | (go_simp; done) | (go_simp; rfl)); intro gb197 hg w153 hbox hb; have n0_ := Aside0.mk (Kd.S_below (by (with_reducible repeat (first | apply Kd.S_alloc | apply Kd.S_drewN | apply Kd.S_drew)); exact HO184.out) hb); have n1_ := Aside0.mk (Kd.S_below (by (with_reducible repeat (first | apply Kd.S_alloc | apply Kd.S_drewN | apply Kd.S_drew)); exact HO189.out) hb); have n2_ := Aside0.mk (Kd.S_below (by (with_reducible repeat (first | apply Kd.S_alloc | apply Kd.S_drewN | apply Kd.S_drew)); exact HO195.out) hb); have n3_ := bb BK177 hb; have n4_ := bb BK178 hb; have n5_ := bs HB hb; have n6_ := Aside0.mk (hbox); have n7_ := gw hg HB; have n8_ := gw hg HB; have n9_ := nl hg BK177; have n10_ := ng hg BK177; have n11_ := nl hg BK178; have n12_ := ng hg BK178; clear HO184 HO189 HO195 BK177 BK178 HB; have HO184 := n0_; have HO189 := n1_; have HO195 := n2_; have BK177 := n3_; have BK178 := n4_; have HB := n5_; have BK197 := n6_; have GW197 := n7_; have GE197 := n8_; have NB177_197 := n9_; have NB197_177 := n10_; have NB178_197 := n11_; have NB197_178 := n12_; clear n0_ n1_ n2_ n3_ n4_ n5_ n6_ n7_ n8_ n9_ n10_ n11_ n12_; clear hb hbox hg; have hnb154 := NB197_177.out; have hnc154 := NB177_197.out; have hnb155 := NB197_178.out; have hnc155 := NB178_197.out; have hcz156_0 : w153.cell? ⟨gb197, 0, none⟩ = some (.bool false) := (blk_cell BK197.out 0).trans rfl; have hcz156_1 : w153.cell? ⟨gb197, 1, none⟩ = some (.slice none 0 0) := (blk_cell BK197.out 1).trans rfl; have hcz156_2 : w153.cell? ⟨gb197, 2, none⟩ = some (.string (⟨#[]⟩ : ByteArray)) := (blk_cell BK197.out 2).trans rfl; have hfz156_0 := blk_frozen BK197.out 0; have hfz156_1 := blk_frozen BK197.out 1; have hfz156_2 := blk_frozen BK197.out 2; obtain ⟨Ao157, co157, eo157⟩ := Kd.S_slice HO195.out; subst eo157; have hcz158_0 : w153.cell? ⟨gb178, 0, none⟩ = some (.bool a1_0) := (blk_cell BK178.out 0).trans rfl; have hcz158_1 : w153.cell? ⟨gb178, 1, none⟩ = some (.slice A1_1 l1_1.length c1_1) := (blk_cell BK178.out 1).trans rfl; have hcz158_2 : w153.cell? ⟨gb178, 2, none⟩ = some (.string a1_2) := (blk_cell BK178.out 2).trans rfl; have hfz158_0 := blk_frozen BK178.out 0; have hfz158_1 := blk_frozen BK178.out 1; have hfz158_2 := blk_frozen BK178.out 2) | ((with_reducible refine gate_callee (f := 47) rfl ?_); refine goesL_ (some 28) rfl rfl Try.func47 (by kernel_rfl) rfl #[.agg #[.bool a1_0, .slice A1_1 l1_1.length c1_1, .string a1_2]] rfl (by (try simp only [List.map_toArray, List.map_cons, List.map_nil]); first | done | rfl | (simp only [List.length_drop, List.length_take]; rfl)) ?_; (with_reducible refine (laws_toArg.calls k a1_0 _ _ l1_1 a1_2 t198 t199 t202 _ ?side1 ?side2 A23.out).mono ?_); (case side1 => exact Kd.C_below HR1_1.out (ms HB)); (case side2 => exact HC1_1.out); rintro e w159 ⟨v200, rfl, ho0, hb⟩; refine ⟨_, rfl, ?_⟩; have n0_ := Aside0.mk (Kd.S_elder' (by (with_reducible repeat (first | apply Kd.S_alloc | apply Kd.S_drewN | apply Kd.S_drew)); exact (Kd.S_mono (Kd.S_far (p := ⟨gb197, 2, none⟩) (Kd.S_far (p := ⟨gb197, 1, none⟩) (Kd.S_far (p := ⟨gb197, 0, none⟩) (Kd.S_types HO184.out BK197.out (by decide)) (fun _ hk => hk.2) (.bool t192)) (fun _ hk => hk.2) (.slice Ao157 t193.length co157)) (fun _ hk => hk.2) (.string t196)) (fun _ h_ => h_.1))) (Kd.S_base ho0) hb); have n1_ := Aside0.mk (Kd.S_elder' (by (with_reducible repeat (first | apply Kd.S_alloc | apply Kd.S_drewN | apply Kd.S_drew)); exact (Kd.S_mono (Kd.S_far (p := ⟨gb197, 2, none⟩) (Kd.S_far (p := ⟨gb197, 1, none⟩) (Kd.S_far (p := ⟨gb197, 0, none⟩) (Kd.S_types HO189.out BK197.out (by decide)) (fun _ hk => hk.2) (.bool t192)) (fun _ hk => hk.2) (.slice Ao157 t193.length co157)) (fun _ hk => hk.2) (.string t196)) (fun _ h_ => h_.1))) (Kd.S_base ho0) hb); have n2_ := Aside0.mk (Kd.S_elder' (by (with_reducible repeat (first | apply Kd.S_alloc | apply Kd.S_drewN | apply Kd.S_drew)); exact (Kd.S_mono (Kd.S_far (p := ⟨gb197, 2, none⟩) (Kd.S_far (p := ⟨gb197, 1, none⟩) (Kd.S_far (p := ⟨gb197, 0, none⟩) (Kd.S_types HO195.out BK197.out (by decide)) (fun _ hk => hk.2) (.bool t192)) (fun _ hk => hk.2) (.slice Ao157 t193.length co157)) (fun _ hk => hk.2) (.string t196)) (fun _ h_ => h_.1))) (Kd.S_base ho0) hb); have n3_ := Aside0.mk (Kd.S_lower (Kd.S_new' (Kd.S_new' (Kd.S_new' ho0 (Kd.S_lt (by (with_reducible repeat (first | apply Kd.S_alloc | apply Kd.S_drewN | apply Kd.S_drew)); exact (Kd.S_mono (Kd.S_far (p := ⟨gb197, 2, none⟩) (Kd.S_far (p := ⟨gb197, 1, none⟩) (Kd.S_far (p := ⟨gb197, 0, none⟩) (Kd.S_types HO184.out BK197.out (by decide)) (fun _ hk => hk.2) (.bool t192)) (fun _ hk => hk.2) (.slice Ao157 t193.length co157)) (fun _ hk => hk.2) (.string t196)) (fun _ h_ => h_.1))))) (Kd.S_lt (by (with_reducible repeat (first | apply Kd.S_alloc | apply Kd.S_drewN | apply Kd.S_drew)); exact (Kd.S_mono (Kd.S_far (p := ⟨gb197, 2, none⟩) (Kd.S_far (p := ⟨gb197, 1, none⟩) (Kd.S_far (p := ⟨gb197, 0, none⟩) (Kd.S_types HO189.out BK197.out (by decide)) (fun _ hk => hk.2) (.bool t192)) (fun _ hk => hk.2) (.slice Ao157 t193.length co157)) (fun _ hk => hk.2) (.string t196)) (fun _ h_ => h_.1))))) (Kd.S_lt (by (with_reducible repeat (first | apply Kd.S_alloc | apply Kd.S_drewN | apply Kd.S_drew)); exact (Kd.S_mono (Kd.S_far (p := ⟨gb197, 2, none⟩) (Kd.S_far (p := ⟨gb197, 1, none⟩) (Kd.S_far (p := ⟨gb197, 0, none⟩) (Kd.S_types HO195.out BK197.out (by decide)) (fun _ hk => hk.2) (.bool t192)) (fun _ hk => hk.2) (.slice Ao157 t193.length co157)) (fun _ hk => hk.2) (.string t196)) (fun _ h_ => h_.1))))) (below_size (ms HB))); have n4_ := bf BK177 hb; have n5_ := bf BK178 hb; have n6_ := Aside0.mk (blk_below (g := gb197) (o := .cells #[.bool t192, .slice Ao157 t193.length co157, .string t196] 73 (0, 0)) (by (with_reducible repeat (first | refine blk_drewN ?_ _ | refine blk_drew ?_ | refine blk_alloc ?_ _)); refine blk_put (cs := #[.bool t192, .slice Ao157 t193.length co157, .string (⟨#[]⟩ : ByteArray)]) ?_ 2 _ rfl; (with_reducible repeat (first | refine blk_drewN ?_ _ | refine blk_drew ?_ | refine blk_alloc ?_ _)); refine blk_put (cs := #[.bool t192, .slice none 0 0, .string (⟨#[]⟩ : ByteArray)]) ?_ 1 _ rfl; (with_reducible repeat (first | refine blk_drewN ?_ _ | refine blk_drew ?_ | refine blk_alloc ?_ _)); refine blk_put (cs := #[.bool false, .slice none 0 0, .string (⟨#[]⟩ : ByteArray)]) ?_ 0 _ rfl; (with_reducible repeat (first | refine blk_drewN ?_ _ | refine blk_drew ?_ | refine blk_alloc ?_ _)); exact BK197.out) hb); have n7_ := bs HB hb; clear HO184 HO189 HO195 BK177 BK178 BK197 HB; have HO184 := n0_; have HO189 := n1_; have HO195 := n2_; have HO201 := n3_; have BK177 := n4_; have BK178 := n5_; have BK197 := n6_; have HB := n7_; clear n0_ n1_ n2_ n3_ n4_ n5_ n6_ n7_; (try clear hb); (try clear ho0)) | ((with_reducible refine gate_dst (N := 8) rfl ?_); refine box_event ?hg (N := 8) ?hd (cs := #[.bool false, .slice none 0 0, .string (⟨#[]⟩ : ByteArray)]) (t := 73) ?hr ?_; (case hd => rfl); (case hg => rfl); (case hr => first | (go_simp; done) | (go_simp; rfl)); intro gb203 hg w160 hbox hb; have n0_ := Aside0.mk (Kd.S_below (by (with_reducible repeat (first | apply Kd.S_alloc | apply Kd.S_drewN | apply Kd.S_drew)); exact HO184.out) hb); have n1_ := Aside0.mk (Kd.S_below (by (with_reducible repeat (first | apply Kd.S_alloc | apply Kd.S_drewN | apply Kd.S_drew)); exact HO189.out) hb); have n2_ := Aside0.mk (Kd.S_below (by (with_reducible repeat (first | apply Kd.S_alloc | apply Kd.S_drewN | apply Kd.S_drew)); exact HO195.out) hb); have n3_ := Aside0.mk (Kd.S_below (by (with_reducible repeat (first | apply Kd.S_alloc | apply Kd.S_drewN | apply Kd.S_drew)); exact HO201.out) hb); have n4_ := bb BK177 hb; have n5_ := bb BK178 hb; have n6_ := bb BK197 hb; have n7_ := bs HB hb; have n8_ := Aside0.mk (hbox); have n9_ := gw hg HB; have n10_ := gw hg HB; have n11_ := nl hg BK177; have n12_ := ng hg BK177; have n13_ := nl hg BK178; have n14_ := ng hg BK178; have n15_ := nl hg BK197; have n16_ := ng hg BK197; clear HO184 HO189 HO195 HO201 BK177 BK178 BK197 HB; have HO184 := n0_; have HO189 := n1_; have HO195 := n2_; have HO201 := n3_; have BK177 := n4_; have BK178 := n5_; have BK197 := n6_; have HB := n7_; have BK203 := n8_; have GW203 := n9_; have GE203 := n10_; have NB177_203 := n11_; have NB203_177 := n12_; have NB178_203 := n13_; have NB203_178 := n14_; have NB197_203 := n15_; have NB203_197 := n16_; clear n0_ n1_ n2_ n3_ n4_ n5_ n6_ n7_ n8_ n9_ n10_ n11_ n12_ n13_ n14_ n15_ n16_; clear hb hbox hg; have hnb161 := NB203_177.out; have hnc161 := NB177_203.out; have hnb162 := NB203_178.out; have hnc162 := NB178_203.out; have hnb163 := NB203_197.out; have hnc163 := NB197_203.out; have hcz164_0 : w160.cell? ⟨gb203, 0, none⟩ = some (.bool false) := (blk_cell BK203.out 0).trans rfl; have hcz164_1 : w160.cell? ⟨gb203, 1, none⟩ = some (.slice none 0 0) := (blk_cell BK203.out 1).trans rfl; have hcz164_2 : w160.cell? ⟨gb203, 2, none⟩ = some (.string (⟨#[]⟩ : ByteArray)) := (blk_cell BK203.out 2).trans rfl; have hfz164_0 := blk_frozen BK203.out 0; have hfz164_1 := blk_frozen BK203.out 1; have hfz164_2 := blk_frozen BK203.out 2; obtain ⟨Ao165, co165, eo165⟩ := Kd.S_slice HO201.out; subst eo165; have hcz166_0 : w160.cell? ⟨gb197, 0, none⟩ = some (.bool t192) := (blk_cell BK197.out 0).trans rfl; have hcz166_1 : w160.cell? ⟨gb197, 1, none⟩ = some (.slice Ao157 t193.length co157) := (blk_cell BK197.out 1).trans rfl; have hcz166_2 : w160.cell? ⟨gb197, 2, none⟩ = some (.string t196) := (blk_cell BK197.out 2).trans rfl; have hfz166_0 := blk_frozen BK197.out 0; have hfz166_1 := blk_frozen BK197.out 1; have hfz166_2 := blk_frozen BK197.out 2) | ((with_reducible refine gate_callee (f := 48) rfl ?_); refine goesL_ (some 31) rfl rfl Try.func48 (by kernel_rfl) rfl #[.agg #[.bool t192, .slice Ao157 t193.length co157, .string t196], .agg #[.bool t198, .slice Ao165 t199.length co165, .string t202]] rfl (by (try simp only [List.map_toArray, List.map_cons, List.map_nil]); first | done | rfl | (simp only [List.length_drop, List.length_take]; rfl)) ?_; (with_reducible refine (impl_EqualArg.calls k t192 _ _ t193 t196 t198 _ _ t199 t202 t204 _ ?side1 ?side2 ?side3 ?side4 A24.out).mono ?_); (case side1 => refine (Kd.S_reads' (e := 40) (base := w.heap.size) (ok := fun k_ => (((True ∧ some k_ ≠ (.slice Ao148 t182.length co148 : Value).ownBlock) ∧ some k_ ≠ (.slice Ao149 t187.length co149 : Value).ownBlock) ∧ some k_ ≠ (.slice Ao165 t199.length co165 : Value).ownBlock)) (n := t193.length) (c := co157) ?_).2.2; exact (by (with_reducible repeat (first | apply Kd.S_alloc | apply Kd.S_drewN | apply Kd.S_drew)); exact (Kd.S_mono (Kd.S_far (p := ⟨gb203, 2, none⟩) (Kd.S_far (p := ⟨gb203, 1, none⟩) (Kd.S_far (p := ⟨gb203, 0, none⟩) (Kd.S_types HO195.out BK203.out (by decide)) (fun _ hk => hk.2) (.bool t198)) (fun _ hk => hk.2) (.slice Ao165 t199.length co165)) (fun _ hk => hk.2) (.string t202)) (fun _ h_ => h_.1)))); (case side2 => exact (Kd.S_reads' HO195.out).2.1); (case side3 => refine (Kd.S_reads' (e := 40) (base := w.heap.size) (ok := fun k_ => (((True ∧ some k_ ≠ (.slice Ao148 t182.length co148 : Value).ownBlock) ∧ some k_ ≠ (.slice Ao149 t187.length co149 : Value).ownBlock) ∧ some k_ ≠ (.slice Ao157 t193.length co157 : Value).ownBlock)) (n := t199.length) (c := co165) ?_).2.2; exact (by (with_reducible repeat (first | apply Kd.S_alloc | apply Kd.S_drewN | apply Kd.S_drew)); exact (Kd.S_mono (Kd.S_far (p := ⟨gb203, 2, none⟩) (Kd.S_far (p := ⟨gb203, 1, none⟩) (Kd.S_far (p := ⟨gb203, 0, none⟩) (Kd.S_types HO201.out BK203.out (by decide)) (fun _ hk => hk.2) (.bool t198)) (fun _ hk => hk.2) (.slice Ao165 t199.length co165)) (fun _ hk => hk.2) (.string t202)) (fun _ h_ => h_.1)))); (case side4 => exact (Kd.S_reads' HO201.out).2.1); rintro e w167 ⟨rfl, hb⟩; refine ⟨_, rfl, ?_⟩; have n0_ := Aside0.mk (Kd.S_below (by (with_reducible repeat (first | apply Kd.S_alloc | apply Kd.S_drewN | apply Kd.S_drew)); exact (Kd.S_mono (Kd.S_far (p := ⟨gb203, 2, none⟩) (Kd.S_far (p := ⟨gb203, 1, none⟩) (Kd.S_far (p := ⟨gb203, 0, none⟩) (Kd.S_types HO184.out BK203.out (by decide)) (fun _ hk => hk.2) (.bool t198)) (fun _ hk => hk.2) (.slice Ao165 t199.length co165)) (fun _ hk => hk.2) (.string t202)) (fun _ h_ => h_.1))) hb); have n1_ := Aside0.mk (Kd.S_below (by (with_reducible repeat (first | apply Kd.S_alloc | apply Kd.S_drewN | apply Kd.S_drew)); exact (Kd.S_mono (Kd.S_far (p := ⟨gb203, 2, none⟩) (Kd.S_far (p := ⟨gb203, 1, none⟩) (Kd.S_far (p := ⟨gb203, 0, none⟩) (Kd.S_types HO189.out BK203.out (by decide)) (fun _ hk => hk.2) (.bool t198)) (fun _ hk => hk.2) (.slice Ao165 t199.length co165)) (fun _ hk => hk.2) (.string t202)) (fun _ h_ => h_.1))) hb); have n2_ := Aside0.mk (Kd.S_below (by (with_reducible repeat (first | apply Kd.S_alloc | apply Kd.S_drewN | apply Kd.S_drew)); exact (Kd.S_mono (Kd.S_far (p := ⟨gb203, 2, none⟩) (Kd.S_far (p := ⟨gb203, 1, none⟩) (Kd.S_far (p := ⟨gb203, 0, none⟩) (Kd.S_types HO195.out BK203.out (by decide)) (fun _ hk => hk.2) (.bool t198)) (fun _ hk => hk.2) (.slice Ao165 t199.length co165)) (fun _ hk => hk.2) (.string t202)) (fun _ h_ => h_.1))) hb); have n3_ := Aside0.mk (Kd.S_below (by (with_reducible repeat (first | apply Kd.S_alloc | apply Kd.S_drewN | apply Kd.S_drew)); exact (Kd.S_mono (Kd.S_far (p := ⟨gb203, 2, none⟩) (Kd.S_far (p := ⟨gb203, 1, none⟩) (Kd.S_far (p := ⟨gb203, 0, none⟩) (Kd.S_types HO201.out BK203.out (by decide)) (fun _ hk => hk.2) (.bool t198)) (fun _ hk => hk.2) (.slice Ao165 t199.length co165)) (fun _ hk => hk.2) (.string t202)) (fun _ h_ => h_.1))) hb); have n4_ := bf BK177 hb; have n5_ := bf BK178 hb; have n6_ := bf BK197 hb; have n7_ := Aside0.mk (blk_below (g := gb203) (o := .cells #[.bool t198, .slice Ao165 t199.length co165, .string t202] 73 (0, 0)) (by (with_reducible repeat (first | refine blk_drewN ?_ _ | refine blk_drew ?_ | refine blk_alloc ?_ _)); refine blk_put (cs := #[.bool t198, .slice Ao165 t199.length co165, .string (⟨#[]⟩ : ByteArray)]) ?_ 2 _ rfl; (with_reducible repeat (first | refine blk_drewN ?_ _ | refine blk_drew ?_ | refine blk_alloc ?_ _)); refine blk_put (cs := #[.bool t198, .slice none 0 0, .string (⟨#[]⟩ : ByteArray)]) ?_ 1 _ rfl; (with_reducible repeat (first | refine blk_drewN ?_ _ | refine blk_drew ?_ | refine blk_alloc ?_ _)); refine blk_put (cs := #[.bool false, .slice none 0 0, .string (⟨#[]⟩ : ByteArray)]) ?_ 0 _ rfl; (with_reducible repeat (first | refine blk_drewN ?_ _ | refine blk_drew ?_ | refine blk_alloc ?_ _)); exact BK203.out) hb); have n8_ := bs HB hb; clear HO184 HO189 HO195 HO201 BK177 BK178 BK197 BK203 HB; have HO184 := n0_; have HO189 := n1_; have HO195 := n2_; have HO201 := n3_; have BK177 := n4_; have BK178 := n5_; have BK197 := n6_; have BK203 := n7_; have HB := n8_; clear n0_ n1_ n2_ n3_ n4_ n5_ n6_ n7_ n8_; (try clear hb)))
     replace HO184 := Aside0.mk (Kd.S_drew HO184.out)
     replace HO189 := Aside0.mk (Kd.S_drew HO189.out)
     replace HO195 := Aside0.mk (Kd.S_drew HO195.out)
     replace HO201 := Aside0.mk (Kd.S_drew HO201.out)
     replace BK177 := Aside0.mk (blk_drew BK177.out)
     replace BK178 := Aside0.mk (blk_drew BK178.out)
     replace BK197 := Aside0.mk (blk_drew BK197.out)
     replace BK203 := Aside0.mk (blk_drew BK203.out)
     replace HB := Aside0.mk (below_drew1 HB.out)
     refine start_ (n := 5) (S := fun w' => w'.cell? ⟨gb197, 0, none⟩ = some (.bool t192) ∧ w'.cell? ⟨gb197, 1, none⟩ = some (.slice Ao157 t193.length co157) ∧ w'.cell? ⟨gb197, 2, none⟩ = some (.string t196) ∧ w'.cell? ⟨gb177, 0, none⟩ = some (.bool a0_0) ∧ w'.cell? ⟨gb177, 1, none⟩ = some (.slice A0_1 l0_1.length c0_1) ∧ w'.cell? ⟨gb177, 2, none⟩ = some (.string a0_2)) (ds := []) #[false, false, false, false, false] (by kernel_rfl) rfl rfl ⟨(blk_cell BK197.out 0).trans rfl, (blk_cell BK197.out 1).trans rfl, (blk_cell BK197.out 2).trans rfl, (blk_cell BK177.out 0).trans rfl, (blk_cell BK177.out 1).trans rfl, (blk_cell BK177.out 2).trans rfl⟩ (fun hHeld => ?_)
     generalize w167.drew = w168 at HO184 HO189 HO195 HO201 BK177 BK178 BK197 BK203 HB hHeld ⊢
     refine take_ (i := 0) (N := some 35) (v := ?_) (a' := ?_) #[true, false, false, false, false] rfl rfl (by kernel_rfl) (fun _ _ _ h => h) (Or.inl ⟨by rfl, ?_⟩) hHeld ?_ ?_
     rotate_left
     ·rintro w' ⟨s0, s1, s2, s3, s4, s5⟩
      go_simp
      with_reducible rfl
     rotate_left
     ·simp only [Act.put, List.setIfInBounds_toArray, List.set_cons_zero, List.set_cons_succ, i64_w, i32_w]
      rfl
     refine take_ (i := 1) (N := some 36) (v := ?_) (a' := ?_) #[true, true, false, false, false] rfl rfl (by kernel_rfl) (fun _ _ _ h => h) (Or.inl ⟨by rfl, ?_⟩) hHeld ?_ ?_
     rotate_left
     ·rintro w' ⟨s0, s1, s2, s3, s4, s5⟩
      go_simp
      with_reducible rfl
     rotate_left
     ·simp only [Act.put, List.setIfInBounds_toArray, List.set_cons_zero, List.set_cons_succ, i64_w, i32_w]
      rfl
     refine one_ (i := 2) (N := some 37) #[true, true, true, false, false] rfl rfl (by kernel_rfl) (by decide) (fun K hK => ?_)
     refine goes_ Try.func47 (by kernel_rfl) rfl #[.agg #[.bool a0_0, .slice A0_1 l0_1.length c0_1, .string a0_2]] (by rfl) rfl rfl (by (try simp only [List.map_toArray, List.map_cons, List.map_nil]); first | done | rfl | (simp only [List.length_drop, List.length_take]; rfl)) ?_
     with_reducible refine (laws_toArg.calls k a0_0 _ _ l0_1 a0_2 t205 t206 t209 _ ?side1 ?side2 A56.out).mono ?_
     (case side1 => exact mc ((Kd.C_below HR0_1.out HB.out)))
     (case side2 => exact HC0_1.out)
     rintro e w169 ⟨v207, rfl, ho0, hb⟩
     refine ⟨_, rfl, ?_⟩
     have n0_ := Aside0.mk (Kd.S_elder' (by (with_reducible repeat (first | apply Kd.S_alloc | apply Kd.S_drewN | apply Kd.S_drew)); exact HO184.out) (Kd.S_base ho0) hb)
     have n1_ := Aside0.mk (Kd.S_elder' (by (with_reducible repeat (first | apply Kd.S_alloc | apply Kd.S_drewN | apply Kd.S_drew)); exact HO189.out) (Kd.S_base ho0) hb)
     have n2_ := Aside0.mk (Kd.S_elder' (by (with_reducible repeat (first | apply Kd.S_alloc | apply Kd.S_drewN | apply Kd.S_drew)); exact HO195.out) (Kd.S_base ho0) hb)
     have n3_ := Aside0.mk (Kd.S_elder' (by (with_reducible repeat (first | apply Kd.S_alloc | apply Kd.S_drewN | apply Kd.S_drew)); exact HO201.out) (Kd.S_base ho0) hb)
     have n4_ := Aside0.mk (Kd.S_lower (Kd.S_new' (Kd.S_new' (Kd.S_new' (Kd.S_new' ho0 (Kd.S_lt (by (with_reducible repeat (first | apply Kd.S_alloc | apply Kd.S_drewN | apply Kd.S_drew)); exact HO184.out))) (Kd.S_lt (by (with_reducible repeat (first | apply Kd.S_alloc | apply Kd.S_drewN | apply Kd.S_drew)); exact HO189.out))) (Kd.S_lt (by (with_reducible repeat (first | apply Kd.S_alloc | apply Kd.S_drewN | apply Kd.S_drew)); exact HO195.out))) (Kd.S_lt (by (with_reducible repeat (first | apply Kd.S_alloc | apply Kd.S_drewN | apply Kd.S_drew)); exact HO201.out))) (below_size (ms HB)))
     have n5_ := bb BK177 hb
     have n6_ := bb BK178 hb
     have n7_ := bb BK197 hb
     have n8_ := bb BK203 hb
     have n9_ := bs HB hb
     clear HO184
     clear HO189
     clear HO195
     clear HO201
     clear BK177
     clear BK178
     clear BK197
     clear BK203
     clear HB
     have HO184 := n0_
     have HO189 := n1_
     have HO195 := n2_
     have HO201 := n3_
     have HO208 := n4_
     have BK177 := n5_
     have BK178 := n6_
     have BK197 := n7_
     have BK203 := n8_
     have HB := n9_
     clear n0_ n1_ n2_ n3_ n4_ n5_ n6_ n7_ n8_ n9_
     (try clear hb)
     (try clear hb2)
     (try clear hk)
     (try clear hi)
     (try clear ho0)
     obtain ⟨Ao170, co170, eo170⟩ := Kd.S_slice HO208.out
     (first | subst eo170 | (injection eo170 with f1_ f2_ f3_; have f4_ := f1_.symm; have f5_ := f3_.symm; clear f1_ f2_ f3_; subst f4_; subst f5_))
     refine hK.out _ _ ⟨(blk_cell BK197.out 0).trans rfl, (blk_cell BK197.out 1).trans rfl, (blk_cell BK197.out 2).trans rfl, (blk_cell BK177.out 0).trans rfl, (blk_cell BK177.out 1).trans rfl, (blk_cell BK177.out 2).trans rfl⟩ (fun hHeld => ?_)
     clear hK K
     refine norm_ (a' := ?_) ?_ ?_
     rotate_left
     ·show Act.put _ (some 37) _ = _
      simp only [Act.put, List.setIfInBounds_toArray, List.set_cons_zero, List.set_cons_succ, i64_w, i32_w]
      rfl
     refine one_ (i := 3) (N := some 38) #[true, true, true, true, false] rfl rfl (by kernel_rfl) (by decide) (fun K hK => ?_)
     refine goes_ Try.func49 (by kernel_rfl) rfl #[.agg #[.bool t192, .slice Ao157 t193.length co157, .string t196], .agg #[.bool t205, .slice Ao170 t206.length co170, .string t209]] (by rfl) rfl rfl (by (try simp only [List.map_toArray, List.map_cons, List.map_nil]); first | done | rfl | (simp only [List.length_drop, List.length_take]; rfl)) ?_
     with_reducible refine (laws_eqArg.calls k t192 _ _ t193 t196 t205 _ _ t206 t209 false _ ?side1 ?side2 ?side3 ?side4 A57.out).mono ?_
     (case side1 => exact mc ((Kd.S_reads' HO195.out).2.2))
     (case side2 => exact (Kd.S_reads' HO195.out).2.1)
     (case side3 => exact mc ((Kd.S_reads' HO208.out).2.2))
     (case side4 => exact (Kd.S_reads' HO208.out).2.1)
     rintro e w171 ⟨rfl, hb⟩
     refine ⟨_, rfl, ?_⟩
     have n0_ := Aside0.mk (Kd.S_below (by (with_reducible repeat (first | apply Kd.S_alloc | apply Kd.S_drewN | apply Kd.S_drew)); exact HO184.out) hb)
     have n1_ := Aside0.mk (Kd.S_below (by (with_reducible repeat (first | apply Kd.S_alloc | apply Kd.S_drewN | apply Kd.S_drew)); exact HO189.out) hb)
     have n2_ := Aside0.mk (Kd.S_below (by (with_reducible repeat (first | apply Kd.S_alloc | apply Kd.S_drewN | apply Kd.S_drew)); exact HO195.out) hb)
     have n3_ := Aside0.mk (Kd.S_below (by (with_reducible repeat (first | apply Kd.S_alloc | apply Kd.S_drewN | apply Kd.S_drew)); exact HO201.out) hb)
     have n4_ := Aside0.mk (Kd.S_below (by (with_reducible repeat (first | apply Kd.S_alloc | apply Kd.S_drewN | apply Kd.S_drew)); exact HO208.out) hb)
     have n5_ := bb BK177 hb
     have n6_ := bb BK178 hb
     have n7_ := bb BK197 hb
     have n8_ := bb BK203 hb
     have n9_ := bs HB hb
     clear HO184
     clear HO189
     clear HO195
     clear HO201
     clear HO208
     clear BK177
     clear BK178
     clear BK197
     clear BK203
     clear HB
     have HO184 := n0_
     have HO189 := n1_
     have HO195 := n2_
     have HO201 := n3_
     have HO208 := n4_
     have BK177 := n5_
     have BK178 := n6_
     have BK197 := n7_
     have BK203 := n8_
     have HB := n9_
     clear n0_ n1_ n2_ n3_ n4_ n5_ n6_ n7_ n8_ n9_
     (try clear hb)
     (try clear hb2)
     (try clear hk)
     (try clear hi)
     refine hK.out _ _ ⟨(blk_cell BK197.out 0).trans rfl, (blk_cell BK197.out 1).trans rfl, (blk_cell BK197.out 2).trans rfl, (blk_cell BK177.out 0).trans rfl, (blk_cell BK177.out 1).trans rfl, (blk_cell BK177.out 2).trans rfl⟩ (fun hHeld => ?_)
     clear hK K
     refine norm_ (a' := ?_) ?_ ?_
     rotate_left
     ·show Act.put _ (some 38) _ = _
      simp only [Act.put, List.setIfInBounds_toArray, List.set_cons_zero, List.set_cons_succ, i64_w, i32_w]
      rfl
     refine pure_ (i := 4) (N := some 39) (v := ?_) (a' := ?_) #[true, true, true, true, true] rfl rfl (by kernel_rfl) (fun _ _ _ h => h) (Or.inl ⟨by rfl, ?_⟩) ?_ ?_
     rotate_left
     ·intro w'
      go_simp
      with_reducible rfl
     rotate_left
     ·simp only [Act.put, List.setIfInBounds_toArray, List.set_cons_zero, List.set_cons_succ, i64_w, i32_w]
      rfl
     refine done_ (by kernel_rfl) ?_
     try go_wp2
     go_ret
     exact ⟨by first | rfl | (simp [errW_none, errW_some] <;> rfl) | (simp [*, errW_none, errW_some] <;> rfl), ms HB⟩

/-- THE ONE PURE STATEMENT of laws_FnExactEqualArg. -/
def laws_FnExactEqualArg.Pure : Prop := ∀ (a0_0 : Bool) (l0_1 : List (S35)) (a0_2 : ByteArray) (a1_0 : Bool) (l1_1 : List (S35)) (a1_2 : ByteArray), (l0_1.length ≤ 9223372036854775807 ∧ ∀ x0 ∈ l0_1, ((Lit.int .i64 x0.f0).wf = true) ∧ (x0.f1.length ≤ 9223372036854775807 ∧ ∀ x1 ∈ x0.f1, ((Lit.int .i64 x1.f0).wf = true) ∧ (x1.f1.size ≤ 9223372036854775807))) → (a0_2.size ≤ 9223372036854775807) → (l1_1.length ≤ 9223372036854775807 ∧ ∀ x0 ∈ l1_1, ((Lit.int .i64 x0.f0).wf = true) ∧ (x0.f1.length ≤ 9223372036854775807 ∧ ∀ x1 ∈ x0.f1, ((Lit.int .i64 x1.f0).wf = true) ∧ (x1.f1.size ≤ 9223372036854775807))) → (a1_2.size ≤ 9223372036854775807) → ∃ k, laws_FnExactEqualArg.f k a0_0 l0_1 a0_2 a1_0 l1_1 a1_2 = some true

end Go.Proofs.Ytkfllkmhbkmepaa.QFnExactEqualArg
