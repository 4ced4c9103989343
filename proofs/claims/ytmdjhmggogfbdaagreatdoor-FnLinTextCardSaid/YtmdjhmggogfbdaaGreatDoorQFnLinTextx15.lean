-- Made by a program of this claim's own (wip/print): not the kit's print as it stands.
import Derived.Test.YtmdjhmggogfbdaaGreatDoorUFnLinTextTri
import Derived.Test.YtmdjhmggogfbdaaGreatDoorQFnLinTextx0
import Derived.Test.YtmdjhmggogfbdaaGreatDoorQFnLinTextx3
import Derived.Test.YtmdjhmggogfbdaaGreatDoorQFnLinTextx6
import Derived.Test.YtmdjhmggogfbdaaGreatDoorQFnLinTextx7
import Derived.Test.YtmdjhmggogfbdaaGreatDoorQFnLinTextx8
import Derived.Test.YtmdjhmggogfbdaaGreatDoorQFnLinTextx11
import Derived.Test.YtmdjhmggogfbdaaGreatDoorQFnLinTextx14
namespace Go.Proofs.YtmdjhmggogfbdaaGreatDoor.QFnLinText
open Go.RowKit Go.Proofs.YtmdjhmggogfbdaaGreatDoorV.PrintWords Go.Proofs.YtmdjhmggogfbdaaGreatDoorV.PrintLast Go.Proofs.YtmdjhmggogfbdaaGreatDoorV.PrintMore
attribute [local go_sem] max2_int min2_int max_two min_two max_three min_three max_four min_four   -- for this text's walks alone
set_option linter.unusedVariables false
set_option linter.unusedSimpArgs false

theorem put0 {w : World} {g : Nat} {t : TypeId} {x y a : Value} (h : w.heap[g]? = some (.cells #[x, y] t (0, 0))) : (w.setCell ⟨g, 0, none⟩ a).heap[g]? = some (.cells #[a, y] t (0, 0)) := blk_put h 0 a rfl
theorem put1 {w : World} {g : Nat} {t : TypeId} {x y b : Value} (h : w.heap[g]? = some (.cells #[x, y] t (0, 0))) : (w.setCell ⟨g, 1, none⟩ b).heap[g]? = some (.cells #[x, b] t (0, 0)) := blk_put h 1 b rfl
theorem cFour {w : World} {g : Nat} {a b : Value} {t : TypeId} (h : Aside0 (w.heap[g]? = some (.cells #[a, b] t (0, 0)))) : w.cell? ⟨g, 0, none⟩ = some a ∧ w.cell? ⟨g, 1, none⟩ = some b ∧ w.frozen? ⟨g, 0, none⟩ = false ∧ w.frozen? ⟨g, 1, none⟩ = false := ⟨(blk_cell h.out 0).trans rfl, (blk_cell h.out 1).trans rfl, blk_frozen h.out 0, blk_frozen h.out 1⟩
theorem mq {w W : World} {g : Nat} {t : TypeId} {x y a b : Value} (h : Aside0 (w.heap[g]? = some (.cells #[x, y] t (0, 0)))) (e : w.heap[g]? = some (.cells #[x, y] t (0, 0)) → W.heap[g]? = some (.cells #[a, b] t (0, 0)) := by intro h_; (with_reducible repeat (first | refine blk_drewN ?_ _ | refine blk_drew ?_ | refine blk_alloc ?_ _)); apply put1; (with_reducible repeat (first | refine blk_drewN ?_ _ | refine blk_drew ?_ | refine blk_alloc ?_ _)); apply put0; (with_reducible repeat (first | refine blk_drewN ?_ _ | refine blk_drew ?_ | refine blk_alloc ?_ _)); exact h_) : W.heap[g]? = some (.cells #[a, b] t (0, 0)) := e h.out
theorem bp {w W w1 : World} {g : Nat} {t : TypeId} {x y a b : Value} (h : Aside0 (w.heap[g]? = some (.cells #[x, y] t (0, 0)))) (hb : Below W.heap.size W w1) (e : w.heap[g]? = some (.cells #[x, y] t (0, 0)) → W.heap[g]? = some (.cells #[a, b] t (0, 0)) := by intro h_; (with_reducible repeat (first | refine blk_drewN ?_ _ | refine blk_drew ?_ | refine blk_alloc ?_ _)); apply put1; (with_reducible repeat (first | refine blk_drewN ?_ _ | refine blk_drew ?_ | refine blk_alloc ?_ _)); apply put0; (with_reducible repeat (first | refine blk_drewN ?_ _ | refine blk_drew ?_ | refine blk_alloc ?_ _)); exact h_) : Aside0 (w1.heap[g]? = some (.cells #[a, b] t (0, 0))) := ⟨blk_below (e h.out) hb⟩
theorem rTwo {α : Type} {d : Kd α} {e : Nat} {w : World} {base : Nat} {ok : Nat → Prop} {v : Value} {xs : List α} {g t : Nat} {cells : Array Value} {a b : Value} (h : Aside0 (d.R e w base ok v xs)) (hb : Aside0 (w.heap[g]? = some (.cells cells t (0, 0)))) (ht : ∀ q, q ∈ e :: d.E → q ≠ t := by decide) : d.R e ((w.setCell ⟨g, 0, none⟩ a).setCell ⟨g, 1, none⟩ b) base ok v xs := Kd.R_mono (Kd.R_far (p := ⟨g, 1, none⟩) (Kd.R_far (p := ⟨g, 0, none⟩) (Kd.R_types h.out hb.out ht) (fun _ hk => hk.2) a) (fun _ hk => hk.2) b) (fun _ h_ => h_.1)
theorem IsS77.mi {w0 W W' : World} {g : Nat} {f0 : List Int} {f1 : Int} {f2 : Int} {Ff0 : List Int} {Ff1 : Int} {Ff2 : Int} (h : Aside0 (IsS77 w0 W g f0 f1 f2)) (e : IsS77 w0 W g f0 f1 f2 → IsS77 w0 W' g Ff0 Ff1 Ff2 := by intro h_; repeat (first | (with_reducible first | exact h_ | apply IsS77.alloc | apply IsS77.drewN | apply IsS77.drew | apply IsS77.set_1 | apply IsS77.set_2 | refine IsS77.far ?_ (Aside0.out (by assumption)) _) | exact h_)) : IsS77 w0 W' g Ff0 Ff1 Ff2 := e h.out
theorem IsS77.ms {w W W' : World} (h : Aside0 (Below w.heap.size w W)) (e : Below w.heap.size w W → Below w.heap.size w W' := by intro h_; repeat (first | (with_reducible first | exact h_ | apply below_alloc | apply pw_below_drewN | apply below_drew1 | refine below_set ?_ (Aside0.out (by assumption)) | refine below_set ?_ (IsS77.ge (Aside0.out (by assumption)))) | exact h_)) : Below w.heap.size w W' := e h.out
/-! ### spec_DrawParseLin: function 22 -/
def spec_DrawParseLin.f (k : Nat) (l0 : List Int) : Option (ByteArray × List ByteArray) := (spec_DrawFormatLin.f k l0).bind fun bt388 => ((spec_l1New.f k l0).bind fun bt396 => ((spec_FormatLin.f k bt388.1 bt388.2.1 bt388.2.2).bind fun t400 => ((spec_l1Turned.f bt396.1 bt396.2.1 bt396.2.2 t400 (([(⟨#[32]⟩ : ByteArray), (⟨#[45]⟩ : ByteArray), (⟨#[32, 43, 32, 49]⟩ : ByteArray), (⟨#[110]⟩ : ByteArray), (⟨#[48]⟩ : ByteArray), (⟨#[50]⟩ : ByteArray), (⟨#[32, 32]⟩ : ByteArray)] : List ByteArray))).bind fun bt404 => (some (bt404.1, bt388.2.2)))))
theorem spec_DrawParseLin.mono : ∀ a0 k, LeO (spec_DrawParseLin.f k a0) (spec_DrawParseLin.f (k + 1) a0) := by
 intro a0 k
 unfold spec_DrawParseLin.f
 repeat' with_reducible first
 | exact spec_DrawFormatLin.mono _ _
 | exact spec_FormatLin.mono _ _ _ _
 | exact spec_l1New.mono _ _
 | exact LeO.refl _
 | exact LeO.none _
 | refine LeO.ite ?_ ?_
 | refine LeO.bind ?_ (fun _ => ?_)
set_option maxHeartbeats 8000000 in
set_option maxRecDepth 100000 in
theorem spec_DrawParseLin.calls (k : Nat) (A0 : Option Addr) (c0 : Nat) (l0 : List Int) (r1 : ByteArray) (r2 : List ByteArray) (w : World) (hr0 : Kd.C (Kd.int .u8) w A0 l0.length l0) (hc0 : l0.length ≤ c0) (h : spec_DrawParseLin.f k l0 = some (r1, r2)) :
  Calls Tryz.prog 22 #[.slice A0 l0.length c0] w fun e w' => ∃ v1_ : Value, e = .returned (.tuple #[.string r1, v1_]) ∧ Kd.R Kd.string 9 w' w.heap.size (fun _ => True) v1_ r2 ∧ Below w.heap.size w w' := by
 have hu26 := Tryz.underlying26
 have HR0 := Aside0.mk hr0
 have HC0 := Aside0.mk hc0
 clear hr0 hc0
 have HB := Aside0.mk (Below.refl w.heap.size w)
 have H : ((spec_DrawFormatLin.f k l0).bind fun bt388 => ((spec_l1New.f k l0).bind fun bt396 => ((spec_FormatLin.f k bt388.1 bt388.2.1 bt388.2.2).bind fun t400 => ((spec_l1Turned.f bt396.1 bt396.2.1 bt396.2.2 t400 (([(⟨#[32]⟩ : ByteArray), (⟨#[45]⟩ : ByteArray), (⟨#[32, 43, 32, 49]⟩ : ByteArray), (⟨#[110]⟩ : ByteArray), (⟨#[48]⟩ : ByteArray), (⟨#[50]⟩ : ByteArray), (⟨#[32, 32]⟩ : ByteArray)] : List ByteArray))).bind fun bt404 => (some (bt404.1, bt388.2.2)))))) = some (r1, r2) := h
 clear h
 replace H := Option.bind_eq_some_iff.mp H
 obtain ⟨⟨t388, t389, t392⟩, A20, H⟩ := H
 replace H : ((spec_l1New.f k l0).bind fun bt396 => ((spec_FormatLin.f k t388 t389 t392).bind fun t400 => ((spec_l1Turned.f bt396.1 bt396.2.1 bt396.2.2 t400 (([(⟨#[32]⟩ : ByteArray), (⟨#[45]⟩ : ByteArray), (⟨#[32, 43, 32, 49]⟩ : ByteArray), (⟨#[110]⟩ : ByteArray), (⟨#[48]⟩ : ByteArray), (⟨#[50]⟩ : ByteArray), (⟨#[32, 32]⟩ : ByteArray)] : List ByteArray))).bind fun bt404 => (some (bt404.1, t392))))) = some (r1, r2) := H
 have A2 := Aside0.mk A20
 clear A20
 replace H := Option.bind_eq_some_iff.mp H
 obtain ⟨⟨t396, t397, t398⟩, A30, H⟩ := H
 replace H : ((spec_FormatLin.f k t388 t389 t392).bind fun t400 => ((spec_l1Turned.f t396 t397 t398 t400 (([(⟨#[32]⟩ : ByteArray), (⟨#[45]⟩ : ByteArray), (⟨#[32, 43, 32, 49]⟩ : ByteArray), (⟨#[110]⟩ : ByteArray), (⟨#[48]⟩ : ByteArray), (⟨#[50]⟩ : ByteArray), (⟨#[32, 32]⟩ : ByteArray)] : List ByteArray))).bind fun bt404 => (some (bt404.1, t392)))) = some (r1, r2) := H
 have A3 := Aside0.mk A30
 clear A30
 replace H := Option.bind_eq_some_iff.mp H
 obtain ⟨t400, A40, H⟩ := H
 replace H : ((spec_l1Turned.f t396 t397 t398 t400 (([(⟨#[32]⟩ : ByteArray), (⟨#[45]⟩ : ByteArray), (⟨#[32, 43, 32, 49]⟩ : ByteArray), (⟨#[110]⟩ : ByteArray), (⟨#[48]⟩ : ByteArray), (⟨#[50]⟩ : ByteArray), (⟨#[32, 32]⟩ : ByteArray)] : List ByteArray))).bind fun bt404 => (some (bt404.1, t392))) = some (r1, r2) := H
 have A4 := Aside0.mk A40
 clear A40
 obtain ⟨y401, hy401⟩ : ∃ y_ : List ByteArray, y_ = (([(⟨#[32]⟩ : ByteArray), (⟨#[45]⟩ : ByteArray), (⟨#[32, 43, 32, 49]⟩ : ByteArray), (⟨#[110]⟩ : ByteArray), (⟨#[48]⟩ : ByteArray), (⟨#[50]⟩ : ByteArray), (⟨#[32, 32]⟩ : ByteArray)] : List ByteArray)) := ⟨_, rfl⟩
 replace H : ((spec_l1Turned.f t396 t397 t398 t400 y401).bind fun bt404 => (some (bt404.1, t392))) = some (r1, r2) := by first | (rw [hy401]; with_reducible exact H) | (have H2_ := (Option.bind_some _ _).symm.trans H; rw [hy401]; with_reducible exact H2_) | (have H2_ := (Option.bind_some _ _).symm.trans H; with_reducible exact H2_) | with_reducible exact H | (rw [hy401]; exact H) | exact H
 have Ny401 := Aside0.mk hy401
 clear hy401
 replace H := Option.bind_eq_some_iff.mp H
 obtain ⟨⟨t404, t405, t406⟩, A50, H⟩ := H
 replace H : (some (t404, t392)) = some (r1, r2) := H
 have A5 := Aside0.mk A50
 clear A50
 simp only [Option.some.injEq, Prod.mk.injEq] at H
 obtain ⟨rfl, rfl⟩ := H
 go_enter Tryz.func22, Tryz.ntmps22
 go_wp2_with (first | ((with_reducible refine gate_callee (f := 18) rfl ?_); refine gl (some 9) rfl rfl Tryz.func18 (by kernel_rfl) rfl #[.slice A0 l0.length c0] rfl ?_; (with_reducible refine (spec_DrawFormatLin.calls k _ _ l0 t388 t389 t392 _ ?side1 ?side2 A2.out).mono ?_); (case side1 => repeat (first | exact HR0.out | (with_reducible refine Kd.C_alloc ?_ _) | (with_reducible refine Kd.C_drewN ?_ _) | (with_reducible refine Kd.C_drew ?_))); (case side2 => exact HC0.out); rintro e w6 ⟨v390, v393, rfl, ho0, ho1, hb⟩; refine ⟨_, rfl, ?_⟩; have HO391 := Aside0.mk (Kd.R_lower ho0 (below_size (ms HB))); have HO394 := Aside0.mk (Kd.R_lower ho1 (below_size (ms HB))); replace HB := bs HB hb; (try clear hb); (try clear ho0); (try clear ho1)) | ((with_reducible refine gate_dst (N := 4) rfl ?_); refine box_event ?hg (N := 4) ?hd (cs := #[.int .i64 0, .slice none 0 0]) (t := 26) ?hr ?_; (case hd => rfl); (case hg => rfl); (case hr => first | (go_simp; done) | (go_simp; rfl)); intro gb395 hg w7 hbox hb; replace HO391 := rb HO391 hb; replace HO394 := rb HO394 hb; have BK395 := Aside0.mk (hbox); have GW395 := gw hg HB; have GE395 := gw hg HB; replace HB := bs HB hb; clear hb hbox hg; obtain ⟨_, _, _, _⟩ := cFour BK395; obtain ⟨Ao9, co9, eo9⟩ := Kd.R_slice HO391.out; subst eo9) | ((with_reducible refine gate_callee (f := 38) rfl ?_); refine gl (some 13) rfl rfl Tryz.func38 (by kernel_rfl) rfl #[.slice A0 l0.length c0] rfl ?_; (with_reducible refine (spec_l1New.calls k _ _ l0 t396 t397 t398 w _ ?side1 ?side2 ?side3 A3.out).mono ?_); (case side1 => exact ms HB); (case side2 => exact HR0.out); (case side3 => exact HC0.out); rintro e w10 ⟨g399, rfl, hi, hb, hb2⟩; refine ⟨_, rfl, ?_⟩; have n0_ := Aside0.mk (Kd.R_below (by (with_reducible repeat (first | apply Kd.R_alloc | apply Kd.R_drewN | apply Kd.R_drew)); exact (rTwo HO391 BK395)) hb2); have n1_ := Aside0.mk (Kd.R_below (by (with_reducible repeat (first | apply Kd.R_alloc | apply Kd.R_drewN | apply Kd.R_drew)); exact (rTwo HO394 BK395)) hb2); have n2_ := Aside0.mk (blk_below (g := gb395) (o := .cells #[.int .i64 t388, .slice Ao9 t389.length co9] 26 (0, 0)) (mq BK395) hb2); have n3_ := Aside0.mk (hb); have n4_ := Aside0.mk (hi); have n5_ := Aside0.mk (IsS77.ne_blk hi (blk_below (g := gb395) (o := .cells #[.int .i64 t388, .slice Ao9 t389.length co9] 26 (0, 0)) (mq BK395) hb2) (by decide)); have n6_ := Aside0.mk (Ne.symm (IsS77.ne_blk hi (blk_below (g := gb395) (o := .cells #[.int .i64 t388, .slice Ao9 t389.length co9] 26 (0, 0)) (mq BK395) hb2) (by decide))); clear HO391 HO394 BK395 HB; have HO391 := n0_; have HO394 := n1_; have BK395 := n2_; have HB := n3_; have HI399 := n4_; have NB399_395 := n5_; have NB395_399 := n6_; clear n0_ n1_ n2_ n3_ n4_ n5_ n6_; (try clear hb); have := NB395_399.out; have := NB399_395.out; obtain ⟨_, _, _, _⟩ := cFour BK395; obtain ⟨Ao13, co13, eo13⟩ := Kd.R_slice HO394.out; subst eo13) | ((with_reducible refine gate_callee (f := 20) rfl ?_); refine gl (some 17) rfl rfl Tryz.func20 (by kernel_rfl) rfl #[.agg #[.int .i64 t388, .slice Ao9 t389.length co9], .slice Ao13 t392.length co13] rfl ?_; (with_reducible refine (spec_FormatLin.calls k t388 _ _ t389 _ _ t392 t400 _ ?side1 ?side2 ?side3 ?side4 A4.out).mono ?_); (case side1 => exact mc ((Kd.R_reads' HO391.out).2.2)); (case side2 => exact (Kd.R_reads' HO391.out).2.1); (case side3 => exact mc ((Kd.R_reads' HO394.out).2.2)); (case side4 => exact (Kd.R_reads' HO394.out).2.1); rintro e w14 ⟨rfl, hb⟩; refine ⟨_, rfl, ?_⟩; replace HO391 := rb HO391 hb; replace HO394 := rb HO394 hb; replace BK395 := bb BK395 hb; replace HB := Aside0.mk (below_step (IsS77.ms HB) hb); replace HI399 := Aside0.mk (IsS77.below (IsS77.mi HI399) hb); (try clear hb)) | ((with_reducible refine gate_dst (N := 18) rfl ?_); refine Kd.R_lit Kd.string _ 9 ?hg (N := 18) ?hd (xs := ([(⟨#[32]⟩ : ByteArray), (⟨#[45]⟩ : ByteArray), (⟨#[32, 43, 32, 49]⟩ : ByteArray), (⟨#[110]⟩ : ByteArray), (⟨#[48]⟩ : ByteArray), (⟨#[50]⟩ : ByteArray), (⟨#[32, 32]⟩ : ByteArray)] : List ByteArray)) (inner := [.string (⟨#[32]⟩ : ByteArray), .string (⟨#[45]⟩ : ByteArray), .string (⟨#[32, 43, 32, 49]⟩ : ByteArray), .string (⟨#[110]⟩ : ByteArray), .string (⟨#[48]⟩ : ByteArray), .string (⟨#[50]⟩ : ByteArray), .string (⟨#[32, 32]⟩ : ByteArray)]) (ok := fun _ => True) (okp := fun _ => True) ?hr ?hp (fun _ hk => hk) trivial (Below.refl _ _) (Nat.le_refl _) (by simp) ?_; (case hd => rfl); (case hg => rfl); (case hr => first | (go_simp; done) | (go_simp; rfl)); (case hp => exact (Reps.one (show Kd.M Kd.string _ _ _ (⟨#[32]⟩ : ByteArray) [.string (⟨#[32]⟩ : ByteArray)] from rfl) (Reps.one (show Kd.M Kd.string _ _ _ (⟨#[45]⟩ : ByteArray) [.string (⟨#[45]⟩ : ByteArray)] from rfl) (Reps.one (show Kd.M Kd.string _ _ _ (⟨#[32, 43, 32, 49]⟩ : ByteArray) [.string (⟨#[32, 43, 32, 49]⟩ : ByteArray)] from rfl) (Reps.one (show Kd.M Kd.string _ _ _ (⟨#[110]⟩ : ByteArray) [.string (⟨#[110]⟩ : ByteArray)] from rfl) (Reps.one (show Kd.M Kd.string _ _ _ (⟨#[48]⟩ : ByteArray) [.string (⟨#[48]⟩ : ByteArray)] from rfl) (Reps.one (show Kd.M Kd.string _ _ _ (⟨#[50]⟩ : ByteArray) [.string (⟨#[50]⟩ : ByteArray)] from rfl) (Reps.one (show Kd.M Kd.string _ _ _ (⟨#[32, 32]⟩ : ByteArray) [.string (⟨#[32, 32]⟩ : ByteArray)] from rfl) (Reps.none _ _))))))))); intro v402 w15 ho16 hb hg_ hnew_; clear hg_ hnew_; (first | rw [← Ny401.out] at ho16 | (simp only [Int.reduceToNat] at ho16; rw [← Ny401.out] at ho16)); replace HO391 := rb HO391 hb; have HO403 := Aside0.mk (Kd.R_lower (Kd.R_new' ho16 (Kd.R_lt (mr HO394))) (below_size (IsS77.ms HB))); replace HO394 := rl HO394 ho16 hb; replace BK395 := bb BK395 hb; replace HB := Aside0.mk (below_step (IsS77.ms HB) hb); replace HI399 := Aside0.mk (IsS77.below (IsS77.mi HI399) hb); clear hb ho16; obtain ⟨Ao17, co17, eo17⟩ := Kd.R_slice HO403.out; subst eo17) | ((with_reducible refine gate_callee (f := 54) rfl ?_); refine gl (some 19) rfl rfl Tryz.func54 (by kernel_rfl) rfl #[.pointer (some ⟨g399, 0, none⟩), .string t400, .slice Ao17 y401.length co17] rfl ?_; (with_reducible refine (spec_l1Turned.calls g399 t396 t397 t398 t400 _ _ y401 t404 t405 t406 w _ ?side1 ?side2 ?side3 ?side4 ?side5 A5.out).mono ?_); (case side1 => exact IsS77.mi HI399); (case side2 => exact IsS77.ms HB); (case side3 => exact mc ((Kd.R_reads' HO403.out).2.2)); (case side4 => exact (Kd.R_reads' HO403.out).2.1); (case side5 => exact far_slice (IsS77.own_ne HI399.out HO403.out (by decide))); rintro e w18 ⟨rfl, hi, hb, hk⟩; refine ⟨_, rfl, ?_⟩; replace HO391 := Aside0.mk (Kd.R_mono (Kd.R_keep (IsS77.apart (show IsS77 w _ g399 t396 t397 t398 from IsS77.mi HI399) (mr HO391) (by decide)) hk (fun _ h => h.2)) (fun _ h => h.1)); replace HO394 := Aside0.mk (Kd.R_mono (Kd.R_keep (IsS77.apart (show IsS77 w _ g399 t396 t397 t398 from IsS77.mi HI399) (mr HO394) (by decide)) hk (fun _ h => h.2)) (fun _ h => h.1)); replace BK395 := Aside0.mk (KeepBut.blk hk (g' := gb395) (o := .cells #[.int .i64 t388, .slice Ao9 t389.length co9] 26 (0, 0)) (mb BK395) NB395_399.out (by simp)); replace HO403 := Aside0.mk (Kd.R_mono (Kd.R_keep (IsS77.apart (show IsS77 w _ g399 t396 t397 t398 from IsS77.mi HI399) (mr HO403) (by decide)) hk (fun _ h => h.2)) (fun _ h => h.1)); replace HB := Aside0.mk (hb); replace HI399 := Aside0.mk (hi); (try clear hb)))
 go_ret2
 exact ⟨_, by first | rfl | (simp [errW_none, errW_some] <;> rfl) | (simp [*, errW_none, errW_some] <;> rfl), by (with_reducible repeat (first | apply Kd.R_alloc | apply Kd.R_drewN | apply Kd.R_drew)); exact Kd.R_mono HO394.out (fun _ hk => trivial), IsS77.ms HB⟩

/-! ### spec_FormatConstraint: function 55 -/
def spec_FormatConstraint.f (k : Nat) (a0_0 : Int) (l0_1 : List Int) (l1 : List ByteArray) : Option (ByteArray) := (spec_FormatLin.f k a0_0 l0_1 l1).bind fun t408 => (if t408.toList = ([] : List UInt8) then (some (⟨#[]⟩ : ByteArray)) else (if t408.size + 5 ≤ 9223372036854775807 then (some (t408 ++ (⟨#[32, 62, 61, 32, 48]⟩ : ByteArray))) else (none)))
theorem spec_FormatConstraint.mono : ∀ a0 a1 a2 k, LeO (spec_FormatConstraint.f k a0 a1 a2) (spec_FormatConstraint.f (k + 1) a0 a1 a2) := by
 intro a0 a1 a2 k
 unfold spec_FormatConstraint.f
 repeat' with_reducible first
 | exact spec_FormatLin.mono _ _ _ _
 | exact LeO.refl _
 | exact LeO.none _
 | refine LeO.ite ?_ ?_
 | refine LeO.bind ?_ (fun _ => ?_)
set_option maxHeartbeats 8000000 in
set_option maxRecDepth 100000 in
theorem spec_FormatConstraint.calls (k : Nat) (a0_0 : Int) (A0_1 : Option Addr) (c0_1 : Nat) (l0_1 : List Int) (A1 : Option Addr) (c1 : Nat) (l1 : List ByteArray) (r : ByteArray) (w : World) (hr0_1 : Kd.C (Kd.int .i64) w A0_1 l0_1.length l0_1) (hc0_1 : l0_1.length ≤ c0_1) (hr1 : Kd.C Kd.string w A1 l1.length l1) (hc1 : l1.length ≤ c1) (h : spec_FormatConstraint.f k a0_0 l0_1 l1 = some r) :
  Calls Tryz.prog 55 #[.agg #[.int .i64 a0_0, .slice A0_1 l0_1.length c0_1], .slice A1 l1.length c1] w fun e w' => e = .returned (.string r) ∧ Below w.heap.size w w' := by
 have hu26 := Tryz.underlying26
 have HR0_1 := Aside0.mk hr0_1
 have HC0_1 := Aside0.mk hc0_1
 clear hr0_1 hc0_1
 have HR1 := Aside0.mk hr1
 have HC1 := Aside0.mk hc1
 clear hr1 hc1
 have HB := Aside0.mk (Below.refl w.heap.size w)
 have H : ((spec_FormatLin.f k a0_0 l0_1 l1).bind fun t408 => (if t408.toList = ([] : List UInt8) then (some (⟨#[]⟩ : ByteArray)) else (if t408.size + 5 ≤ 9223372036854775807 then (some (t408 ++ (⟨#[32, 62, 61, 32, 48]⟩ : ByteArray))) else (none)))) = some r := h
 clear h
 replace H := Option.bind_eq_some_iff.mp H
 obtain ⟨t408, A30, H⟩ := H
 replace H : (if t408.toList = ([] : List UInt8) then (some (⟨#[]⟩ : ByteArray)) else (if t408.size + 5 ≤ 9223372036854775807 then (some (t408 ++ (⟨#[32, 62, 61, 32, 48]⟩ : ByteArray))) else (none))) = some r := H
 have A3 := Aside0.mk A30
 clear A30
 by_cases c4 : t408.toList = ([] : List UInt8)
 ·rw [if_pos c4] at H
  have c4b0 : (t408.toList == ([] : List UInt8)) = true := beq_iff_eq.mpr c4
  have c4b1 : (t408.toList != ([] : List UInt8)) = false := bne_eq_false_iff_eq.mpr c4
  clear c4
  obtain rfl := Option.some.inj H
  go_enter Tryz.func55, Tryz.ntmps55
  go_wp2_with (first | ((with_reducible refine gate_dst (N := 2) rfl ?_); refine box_event ?hg (N := 2) ?hd (cs := #[.int .i64 a0_0, .slice A0_1 l0_1.length c0_1]) (t := 26) ?hr ?_; (case hd => rfl); (case hg => rfl); (case hr => first | (go_simp; done) | (go_simp; rfl)); intro gb407 hg w5 hbox hb; have BK407 := Aside0.mk (hbox); have GW407 := gw hg HB; have GE407 := gw hg HB; replace HB := bs HB hb; clear hb hbox hg; obtain ⟨_, _, _, _⟩ := cFour BK407) | ((with_reducible refine gate_callee (f := 20) rfl ?_); refine gl (some 8) rfl rfl Tryz.func20 (by kernel_rfl) rfl #[.agg #[.int .i64 a0_0, .slice A0_1 l0_1.length c0_1], .slice A1 l1.length c1] rfl ?_; (with_reducible refine (spec_FormatLin.calls k a0_0 _ _ l0_1 _ _ l1 t408 _ ?side1 ?side2 ?side3 ?side4 A3.out).mono ?_); (case side1 => exact mc ((Kd.C_below HR0_1.out HB.out))); (case side2 => exact HC0_1.out); (case side3 => exact mc ((Kd.C_below HR1.out HB.out))); (case side4 => exact HC1.out); rintro e w7 ⟨rfl, hb⟩; refine ⟨_, rfl, ?_⟩; replace BK407 := bb BK407 hb; replace HB := bs HB hb; (try clear hb)))
  go_ret
  exact ⟨by first | rfl | (simp [errW_none, errW_some] <;> rfl) | (simp [*, errW_none, errW_some] <;> rfl), ms HB⟩
 rw [if_neg c4] at H
 have c4b0 : (t408.toList == ([] : List UInt8)) = false := beq_eq_false_iff_ne.mpr c4
 have c4b1 : (t408.toList != ([] : List UInt8)) = true := bne_iff_ne.mpr c4
 by_cases c8 : t408.size + 5 ≤ 9223372036854775807
 ·rw [if_pos c8] at H
  have c8b0 := eq_true c8
  have c8b1 : decide (t408.size + 5 ≤ 9223372036854775807) = true := decide_eq_true c8
  try have c8b2 : (9223372036854775807 < t408.size + 5) = False := eq_false (Nat.not_lt.2 c8)
  obtain rfl := Option.some.inj H
  go_enter Tryz.func55, Tryz.ntmps55
  go_wp2_with (first | ((with_reducible refine gate_dst (N := 2) rfl ?_); refine box_event ?hg (N := 2) ?hd (cs := #[.int .i64 a0_0, .slice A0_1 l0_1.length c0_1]) (t := 26) ?hr ?_; (case hd => rfl); (case hg => rfl); (case hr => first | (go_simp; done) | (go_simp; rfl)); intro gb407 hg w9 hbox hb; have BK407 := Aside0.mk (hbox); have GW407 := gw hg HB; have GE407 := gw hg HB; replace HB := bs HB hb; clear hb hbox hg; obtain ⟨_, _, _, _⟩ := cFour BK407) | ((with_reducible refine gate_callee (f := 20) rfl ?_); refine gl (some 8) rfl rfl Tryz.func20 (by kernel_rfl) rfl #[.agg #[.int .i64 a0_0, .slice A0_1 l0_1.length c0_1], .slice A1 l1.length c1] rfl ?_; (with_reducible refine (spec_FormatLin.calls k a0_0 _ _ l0_1 _ _ l1 t408 _ ?side1 ?side2 ?side3 ?side4 A3.out).mono ?_); (case side1 => exact mc ((Kd.C_below HR0_1.out HB.out))); (case side2 => exact HC0_1.out); (case side3 => exact mc ((Kd.C_below HR1.out HB.out))); (case side4 => exact HC1.out); rintro e w11 ⟨rfl, hb⟩; refine ⟨_, rfl, ?_⟩; replace BK407 := bb BK407 hb; replace HB := bs HB hb; (try clear hb)))
  go_ret
  exact ⟨by first | rfl | (simp [errW_none, errW_some] <;> rfl) | (simp [*, errW_none, errW_some] <;> rfl), ms HB⟩
 rw [if_neg c8] at H
 exact absurd H (by simp)

/-! ### spec_DrawParseConstraint: function 23 -/
def spec_DrawParseConstraint.f (k : Nat) (l0 : List Int) : Option (ByteArray × List ByteArray) := (spec_DrawFormatLin.f k l0).bind fun bt409 => ((spec_l1New.f k l0).bind fun bt417 => ((spec_FormatConstraint.f k bt409.1 bt409.2.1 bt409.2.2).bind fun t421 => ((spec_l1Turned.f bt417.1 bt417.2.1 bt417.2.2 t421 (([(⟨#[32]⟩ : ByteArray), (⟨#[61]⟩ : ByteArray), (⟨#[62, 61, 32, 48]⟩ : ByteArray), (⟨#[110]⟩ : ByteArray), (⟨#[48]⟩ : ByteArray)] : List ByteArray))).bind fun bt425 => (some (bt425.1, bt409.2.2)))))
theorem spec_DrawParseConstraint.mono : ∀ a0 k, LeO (spec_DrawParseConstraint.f k a0) (spec_DrawParseConstraint.f (k + 1) a0) := by
 intro a0 k
 unfold spec_DrawParseConstraint.f
 repeat' with_reducible first
 | exact spec_DrawFormatLin.mono _ _
 | exact spec_FormatConstraint.mono _ _ _ _
 | exact spec_l1New.mono _ _
 | exact LeO.refl _
 | exact LeO.none _
 | refine LeO.ite ?_ ?_
 | refine LeO.bind ?_ (fun _ => ?_)
set_option maxHeartbeats 8000000 in
set_option maxRecDepth 100000 in
theorem spec_DrawParseConstraint.calls (k : Nat) (A0 : Option Addr) (c0 : Nat) (l0 : List Int) (r1 : ByteArray) (r2 : List ByteArray) (w : World) (hr0 : Kd.C (Kd.int .u8) w A0 l0.length l0) (hc0 : l0.length ≤ c0) (h : spec_DrawParseConstraint.f k l0 = some (r1, r2)) :
  Calls Tryz.prog 23 #[.slice A0 l0.length c0] w fun e w' => ∃ v1_ : Value, e = .returned (.tuple #[.string r1, v1_]) ∧ Kd.R Kd.string 9 w' w.heap.size (fun _ => True) v1_ r2 ∧ Below w.heap.size w w' := by
 have hu26 := Tryz.underlying26
 have HR0 := Aside0.mk hr0
 have HC0 := Aside0.mk hc0
 clear hr0 hc0
 have HB := Aside0.mk (Below.refl w.heap.size w)
 have H : ((spec_DrawFormatLin.f k l0).bind fun bt409 => ((spec_l1New.f k l0).bind fun bt417 => ((spec_FormatConstraint.f k bt409.1 bt409.2.1 bt409.2.2).bind fun t421 => ((spec_l1Turned.f bt417.1 bt417.2.1 bt417.2.2 t421 (([(⟨#[32]⟩ : ByteArray), (⟨#[61]⟩ : ByteArray), (⟨#[62, 61, 32, 48]⟩ : ByteArray), (⟨#[110]⟩ : ByteArray), (⟨#[48]⟩ : ByteArray)] : List ByteArray))).bind fun bt425 => (some (bt425.1, bt409.2.2)))))) = some (r1, r2) := h
 clear h
 replace H := Option.bind_eq_some_iff.mp H
 obtain ⟨⟨t409, t410, t413⟩, A20, H⟩ := H
 replace H : ((spec_l1New.f k l0).bind fun bt417 => ((spec_FormatConstraint.f k t409 t410 t413).bind fun t421 => ((spec_l1Turned.f bt417.1 bt417.2.1 bt417.2.2 t421 (([(⟨#[32]⟩ : ByteArray), (⟨#[61]⟩ : ByteArray), (⟨#[62, 61, 32, 48]⟩ : ByteArray), (⟨#[110]⟩ : ByteArray), (⟨#[48]⟩ : ByteArray)] : List ByteArray))).bind fun bt425 => (some (bt425.1, t413))))) = some (r1, r2) := H
 have A2 := Aside0.mk A20
 clear A20
 replace H := Option.bind_eq_some_iff.mp H
 obtain ⟨⟨t417, t418, t419⟩, A30, H⟩ := H
 replace H : ((spec_FormatConstraint.f k t409 t410 t413).bind fun t421 => ((spec_l1Turned.f t417 t418 t419 t421 (([(⟨#[32]⟩ : ByteArray), (⟨#[61]⟩ : ByteArray), (⟨#[62, 61, 32, 48]⟩ : ByteArray), (⟨#[110]⟩ : ByteArray), (⟨#[48]⟩ : ByteArray)] : List ByteArray))).bind fun bt425 => (some (bt425.1, t413)))) = some (r1, r2) := H
 have A3 := Aside0.mk A30
 clear A30
 replace H := Option.bind_eq_some_iff.mp H
 obtain ⟨t421, A40, H⟩ := H
 replace H : ((spec_l1Turned.f t417 t418 t419 t421 (([(⟨#[32]⟩ : ByteArray), (⟨#[61]⟩ : ByteArray), (⟨#[62, 61, 32, 48]⟩ : ByteArray), (⟨#[110]⟩ : ByteArray), (⟨#[48]⟩ : ByteArray)] : List ByteArray))).bind fun bt425 => (some (bt425.1, t413))) = some (r1, r2) := H
 have A4 := Aside0.mk A40
 clear A40
 obtain ⟨y422, hy422⟩ : ∃ y_ : List ByteArray, y_ = (([(⟨#[32]⟩ : ByteArray), (⟨#[61]⟩ : ByteArray), (⟨#[62, 61, 32, 48]⟩ : ByteArray), (⟨#[110]⟩ : ByteArray), (⟨#[48]⟩ : ByteArray)] : List ByteArray)) := ⟨_, rfl⟩
 replace H : ((spec_l1Turned.f t417 t418 t419 t421 y422).bind fun bt425 => (some (bt425.1, t413))) = some (r1, r2) := by first | (rw [hy422]; with_reducible exact H) | (have H2_ := (Option.bind_some _ _).symm.trans H; rw [hy422]; with_reducible exact H2_) | (have H2_ := (Option.bind_some _ _).symm.trans H; with_reducible exact H2_) | with_reducible exact H | (rw [hy422]; exact H) | exact H
 have Ny422 := Aside0.mk hy422
 clear hy422
 replace H := Option.bind_eq_some_iff.mp H
 obtain ⟨⟨t425, t426, t427⟩, A50, H⟩ := H
 replace H : (some (t425, t413)) = some (r1, r2) := H
 have A5 := Aside0.mk A50
 clear A50
 simp only [Option.some.injEq, Prod.mk.injEq] at H
 obtain ⟨rfl, rfl⟩ := H
 go_enter Tryz.func23, Tryz.ntmps23
 go_wp2_with (first | ((with_reducible refine gate_callee (f := 18) rfl ?_); refine gl (some 9) rfl rfl Tryz.func18 (by kernel_rfl) rfl #[.slice A0 l0.length c0] rfl ?_; (with_reducible refine (spec_DrawFormatLin.calls k _ _ l0 t409 t410 t413 _ ?side1 ?side2 A2.out).mono ?_); (case side1 => repeat (first | exact HR0.out | (with_reducible refine Kd.C_alloc ?_ _) | (with_reducible refine Kd.C_drewN ?_ _) | (with_reducible refine Kd.C_drew ?_))); (case side2 => exact HC0.out); rintro e w6 ⟨v411, v414, rfl, ho0, ho1, hb⟩; refine ⟨_, rfl, ?_⟩; have HO412 := Aside0.mk (Kd.R_lower ho0 (below_size (ms HB))); have HO415 := Aside0.mk (Kd.R_lower ho1 (below_size (ms HB))); replace HB := bs HB hb; (try clear hb); (try clear ho0); (try clear ho1)) | ((with_reducible refine gate_dst (N := 4) rfl ?_); refine box_event ?hg (N := 4) ?hd (cs := #[.int .i64 0, .slice none 0 0]) (t := 26) ?hr ?_; (case hd => rfl); (case hg => rfl); (case hr => first | (go_simp; done) | (go_simp; rfl)); intro gb416 hg w7 hbox hb; replace HO412 := rb HO412 hb; replace HO415 := rb HO415 hb; have BK416 := Aside0.mk (hbox); have GW416 := gw hg HB; have GE416 := gw hg HB; replace HB := bs HB hb; clear hb hbox hg; obtain ⟨_, _, _, _⟩ := cFour BK416; obtain ⟨Ao9, co9, eo9⟩ := Kd.R_slice HO412.out; subst eo9) | ((with_reducible refine gate_callee (f := 38) rfl ?_); refine gl (some 13) rfl rfl Tryz.func38 (by kernel_rfl) rfl #[.slice A0 l0.length c0] rfl ?_; (with_reducible refine (spec_l1New.calls k _ _ l0 t417 t418 t419 w _ ?side1 ?side2 ?side3 A3.out).mono ?_); (case side1 => exact ms HB); (case side2 => exact HR0.out); (case side3 => exact HC0.out); rintro e w10 ⟨g420, rfl, hi, hb, hb2⟩; refine ⟨_, rfl, ?_⟩; have n0_ := Aside0.mk (Kd.R_below (by (with_reducible repeat (first | apply Kd.R_alloc | apply Kd.R_drewN | apply Kd.R_drew)); exact (rTwo HO412 BK416)) hb2); have n1_ := Aside0.mk (Kd.R_below (by (with_reducible repeat (first | apply Kd.R_alloc | apply Kd.R_drewN | apply Kd.R_drew)); exact (rTwo HO415 BK416)) hb2); have n2_ := Aside0.mk (blk_below (g := gb416) (o := .cells #[.int .i64 t409, .slice Ao9 t410.length co9] 26 (0, 0)) (mq BK416) hb2); have n3_ := Aside0.mk (hb); have n4_ := Aside0.mk (hi); have n5_ := Aside0.mk (IsS77.ne_blk hi (blk_below (g := gb416) (o := .cells #[.int .i64 t409, .slice Ao9 t410.length co9] 26 (0, 0)) (mq BK416) hb2) (by decide)); have n6_ := Aside0.mk (Ne.symm (IsS77.ne_blk hi (blk_below (g := gb416) (o := .cells #[.int .i64 t409, .slice Ao9 t410.length co9] 26 (0, 0)) (mq BK416) hb2) (by decide))); clear HO412 HO415 BK416 HB; have HO412 := n0_; have HO415 := n1_; have BK416 := n2_; have HB := n3_; have HI420 := n4_; have NB420_416 := n5_; have NB416_420 := n6_; clear n0_ n1_ n2_ n3_ n4_ n5_ n6_; (try clear hb); have := NB416_420.out; have := NB420_416.out; obtain ⟨_, _, _, _⟩ := cFour BK416; obtain ⟨Ao13, co13, eo13⟩ := Kd.R_slice HO415.out; subst eo13) | ((with_reducible refine gate_callee (f := 55) rfl ?_); refine gl (some 17) rfl rfl Tryz.func55 (by kernel_rfl) rfl #[.agg #[.int .i64 t409, .slice Ao9 t410.length co9], .slice Ao13 t413.length co13] rfl ?_; (with_reducible refine (spec_FormatConstraint.calls k t409 _ _ t410 _ _ t413 t421 _ ?side1 ?side2 ?side3 ?side4 A4.out).mono ?_); (case side1 => exact mc ((Kd.R_reads' HO412.out).2.2)); (case side2 => exact (Kd.R_reads' HO412.out).2.1); (case side3 => exact mc ((Kd.R_reads' HO415.out).2.2)); (case side4 => exact (Kd.R_reads' HO415.out).2.1); rintro e w14 ⟨rfl, hb⟩; refine ⟨_, rfl, ?_⟩; replace HO412 := rb HO412 hb; replace HO415 := rb HO415 hb; replace BK416 := bb BK416 hb; replace HB := Aside0.mk (below_step (IsS77.ms HB) hb); replace HI420 := Aside0.mk (IsS77.below (IsS77.mi HI420) hb); (try clear hb)) | ((with_reducible refine gate_dst (N := 18) rfl ?_); refine Kd.R_lit Kd.string _ 9 ?hg (N := 18) ?hd (xs := ([(⟨#[32]⟩ : ByteArray), (⟨#[61]⟩ : ByteArray), (⟨#[62, 61, 32, 48]⟩ : ByteArray), (⟨#[110]⟩ : ByteArray), (⟨#[48]⟩ : ByteArray)] : List ByteArray)) (inner := [.string (⟨#[32]⟩ : ByteArray), .string (⟨#[61]⟩ : ByteArray), .string (⟨#[62, 61, 32, 48]⟩ : ByteArray), .string (⟨#[110]⟩ : ByteArray), .string (⟨#[48]⟩ : ByteArray)]) (ok := fun _ => True) (okp := fun _ => True) ?hr ?hp (fun _ hk => hk) trivial (Below.refl _ _) (Nat.le_refl _) (by simp) ?_; (case hd => rfl); (case hg => rfl); (case hr => first | (go_simp; done) | (go_simp; rfl)); (case hp => exact (Reps.one (show Kd.M Kd.string _ _ _ (⟨#[32]⟩ : ByteArray) [.string (⟨#[32]⟩ : ByteArray)] from rfl) (Reps.one (show Kd.M Kd.string _ _ _ (⟨#[61]⟩ : ByteArray) [.string (⟨#[61]⟩ : ByteArray)] from rfl) (Reps.one (show Kd.M Kd.string _ _ _ (⟨#[62, 61, 32, 48]⟩ : ByteArray) [.string (⟨#[62, 61, 32, 48]⟩ : ByteArray)] from rfl) (Reps.one (show Kd.M Kd.string _ _ _ (⟨#[110]⟩ : ByteArray) [.string (⟨#[110]⟩ : ByteArray)] from rfl) (Reps.one (show Kd.M Kd.string _ _ _ (⟨#[48]⟩ : ByteArray) [.string (⟨#[48]⟩ : ByteArray)] from rfl) (Reps.none _ _))))))); intro v423 w15 ho16 hb hg_ hnew_; clear hg_ hnew_; (first | rw [← Ny422.out] at ho16 | (simp only [Int.reduceToNat] at ho16; rw [← Ny422.out] at ho16)); replace HO412 := rb HO412 hb; have HO424 := Aside0.mk (Kd.R_lower (Kd.R_new' ho16 (Kd.R_lt (mr HO415))) (below_size (IsS77.ms HB))); replace HO415 := rl HO415 ho16 hb; replace BK416 := bb BK416 hb; replace HB := Aside0.mk (below_step (IsS77.ms HB) hb); replace HI420 := Aside0.mk (IsS77.below (IsS77.mi HI420) hb); clear hb ho16; obtain ⟨Ao17, co17, eo17⟩ := Kd.R_slice HO424.out; subst eo17) | ((with_reducible refine gate_callee (f := 54) rfl ?_); refine gl (some 19) rfl rfl Tryz.func54 (by kernel_rfl) rfl #[.pointer (some ⟨g420, 0, none⟩), .string t421, .slice Ao17 y422.length co17] rfl ?_; (with_reducible refine (spec_l1Turned.calls g420 t417 t418 t419 t421 _ _ y422 t425 t426 t427 w _ ?side1 ?side2 ?side3 ?side4 ?side5 A5.out).mono ?_); (case side1 => exact IsS77.mi HI420); (case side2 => exact IsS77.ms HB); (case side3 => exact mc ((Kd.R_reads' HO424.out).2.2)); (case side4 => exact (Kd.R_reads' HO424.out).2.1); (case side5 => exact far_slice (IsS77.own_ne HI420.out HO424.out (by decide))); rintro e w18 ⟨rfl, hi, hb, hk⟩; refine ⟨_, rfl, ?_⟩; replace HO412 := Aside0.mk (Kd.R_mono (Kd.R_keep (IsS77.apart (show IsS77 w _ g420 t417 t418 t419 from IsS77.mi HI420) (mr HO412) (by decide)) hk (fun _ h => h.2)) (fun _ h => h.1)); replace HO415 := Aside0.mk (Kd.R_mono (Kd.R_keep (IsS77.apart (show IsS77 w _ g420 t417 t418 t419 from IsS77.mi HI420) (mr HO415) (by decide)) hk (fun _ h => h.2)) (fun _ h => h.1)); replace BK416 := Aside0.mk (KeepBut.blk hk (g' := gb416) (o := .cells #[.int .i64 t409, .slice Ao9 t410.length co9] 26 (0, 0)) (mb BK416) NB416_420.out (by simp)); replace HO424 := Aside0.mk (Kd.R_mono (Kd.R_keep (IsS77.apart (show IsS77 w _ g420 t417 t418 t419 from IsS77.mi HI420) (mr HO424) (by decide)) hk (fun _ h => h.2)) (fun _ h => h.1)); replace HB := Aside0.mk (hb); replace HI420 := Aside0.mk (hi); (try clear hb)))
 go_ret2
 exact ⟨_, by first | rfl | (simp [errW_none, errW_some] <;> rfl) | (simp [*, errW_none, errW_some] <;> rfl), by (with_reducible repeat (first | apply Kd.R_alloc | apply Kd.R_drewN | apply Kd.R_drew)); exact Kd.R_mono HO415.out (fun _ hk => trivial), IsS77.ms HB⟩

/-! ### impl_FormatConstraint: function 24 -/
def impl_FormatConstraint.f (k : Nat) (a0_0 : Int) (l0_1 : List Int) (l1 : List ByteArray) : Option (ByteArray) := (impl_FormatLin.f k a0_0 l0_1 l1).bind fun t429 => (if t429.toList = ([] : List UInt8) then (some (⟨#[]⟩ : ByteArray)) else (if t429.size + 5 ≤ 9223372036854775807 then (some (t429 ++ (⟨#[32, 62, 61, 32, 48]⟩ : ByteArray))) else (none)))
theorem impl_FormatConstraint.mono : ∀ a0 a1 a2 k, LeO (impl_FormatConstraint.f k a0 a1 a2) (impl_FormatConstraint.f (k + 1) a0 a1 a2) := by
 intro a0 a1 a2 k
 unfold impl_FormatConstraint.f
 repeat' with_reducible first
 | exact impl_FormatLin.mono _ _ _ _
 | exact LeO.refl _
 | exact LeO.none _
 | refine LeO.ite ?_ ?_
 | refine LeO.bind ?_ (fun _ => ?_)
set_option maxHeartbeats 8000000 in
set_option maxRecDepth 100000 in
theorem impl_FormatConstraint.calls (k : Nat) (a0_0 : Int) (A0_1 : Option Addr) (c0_1 : Nat) (l0_1 : List Int) (A1 : Option Addr) (c1 : Nat) (l1 : List ByteArray) (r : ByteArray) (w : World) (hr0_1 : Kd.C (Kd.int .i64) w A0_1 l0_1.length l0_1) (hc0_1 : l0_1.length ≤ c0_1) (hr1 : Kd.C Kd.string w A1 l1.length l1) (hc1 : l1.length ≤ c1) (h : impl_FormatConstraint.f k a0_0 l0_1 l1 = some r) (hTb_ : TbL w := by first | assumption | ((with_reducible repeat (first | apply tb_alloc | apply tb_drewN | apply tb_drew)); first | assumption | exact tb_of (by assumption) (by assumption) | exact tb_of (by assumption) ⟨below_set (below_set (Aside0.out (by assumption)) (Aside0.out (by assumption))) (Aside0.out (by assumption))⟩)) :
  Calls Tryz.prog 24 #[.agg #[.int .i64 a0_0, .slice A0_1 l0_1.length c0_1], .slice A1 l1.length c1] w fun e w' => e = .returned (.string r) ∧ Below w.heap.size w w' := by
 have hu26 := Tryz.underlying26
 have HR0_1 := Aside0.mk hr0_1
 have HC0_1 := Aside0.mk hc0_1
 clear hr0_1 hc0_1
 have HR1 := Aside0.mk hr1
 have HC1 := Aside0.mk hc1
 clear hr1 hc1
 have HB := Aside0.mk (Below.refl w.heap.size w)
 have H : ((impl_FormatLin.f k a0_0 l0_1 l1).bind fun t429 => (if t429.toList = ([] : List UInt8) then (some (⟨#[]⟩ : ByteArray)) else (if t429.size + 5 ≤ 9223372036854775807 then (some (t429 ++ (⟨#[32, 62, 61, 32, 48]⟩ : ByteArray))) else (none)))) = some r := h
 clear h
 replace H := Option.bind_eq_some_iff.mp H
 obtain ⟨t429, A30, H⟩ := H
 replace H : (if t429.toList = ([] : List UInt8) then (some (⟨#[]⟩ : ByteArray)) else (if t429.size + 5 ≤ 9223372036854775807 then (some (t429 ++ (⟨#[32, 62, 61, 32, 48]⟩ : ByteArray))) else (none))) = some r := H
 have A3 := Aside0.mk A30
 clear A30
 by_cases c4 : t429.toList = ([] : List UInt8)
 ·rw [if_pos c4] at H
  have c4b0 : (t429.toList == ([] : List UInt8)) = true := beq_iff_eq.mpr c4
  have c4b1 : (t429.toList != ([] : List UInt8)) = false := bne_eq_false_iff_eq.mpr c4
  clear c4
  obtain rfl := Option.some.inj H
  go_enter Tryz.func24, Tryz.ntmps24
  go_wp2_with (first | ((with_reducible refine gate_dst (N := 2) rfl ?_); refine box_event ?hg (N := 2) ?hd (cs := #[.int .i64 a0_0, .slice A0_1 l0_1.length c0_1]) (t := 26) ?hr ?_; (case hd => rfl); (case hg => rfl); (case hr => first | (go_simp; done) | (go_simp; rfl)); intro gb428 hg w5 hbox hb; have BK428 := Aside0.mk (hbox); have GW428 := gw hg HB; have GE428 := gw hg HB; replace HB := bs HB hb; clear hb hbox hg; obtain ⟨_, _, _, _⟩ := cFour BK428) | ((with_reducible refine gate_callee (f := 19) rfl ?_); refine gl (some 8) rfl rfl Tryz.func19 (by kernel_rfl) rfl #[.agg #[.int .i64 a0_0, .slice A0_1 l0_1.length c0_1], .slice A1 l1.length c1] rfl ?_; (with_reducible refine (impl_FormatLin.calls k a0_0 _ _ l0_1 _ _ l1 t429 _ ?side1 ?side2 ?side3 ?side4 A3.out).mono ?_); (case side1 => exact mc ((Kd.C_below HR0_1.out HB.out))); (case side2 => exact HC0_1.out); (case side3 => exact mc ((Kd.C_below HR1.out HB.out))); (case side4 => exact HC1.out); rintro e w7 ⟨rfl, hb⟩; refine ⟨_, rfl, ?_⟩; replace BK428 := bb BK428 hb; replace HB := bs HB hb; (try clear hb)))
  go_ret
  exact ⟨by first | rfl | (simp [errW_none, errW_some] <;> rfl) | (simp [*, errW_none, errW_some] <;> rfl), ms HB⟩
 rw [if_neg c4] at H
 have c4b0 : (t429.toList == ([] : List UInt8)) = false := beq_eq_false_iff_ne.mpr c4
 have c4b1 : (t429.toList != ([] : List UInt8)) = true := bne_iff_ne.mpr c4
 by_cases c8 : t429.size + 5 ≤ 9223372036854775807
 ·rw [if_pos c8] at H
  have c8b0 := eq_true c8
  have c8b1 : decide (t429.size + 5 ≤ 9223372036854775807) = true := decide_eq_true c8
  try have c8b2 : (9223372036854775807 < t429.size + 5) = False := eq_false (Nat.not_lt.2 c8)
  obtain rfl := Option.some.inj H
  go_enter Tryz.func24, Tryz.ntmps24
  go_wp2_with (first | ((with_reducible refine gate_dst (N := 2) rfl ?_); refine box_event ?hg (N := 2) ?hd (cs := #[.int .i64 a0_0, .slice A0_1 l0_1.length c0_1]) (t := 26) ?hr ?_; (case hd => rfl); (case hg => rfl); (case hr => first | (go_simp; done) | (go_simp; rfl)); intro gb428 hg w9 hbox hb; have BK428 := Aside0.mk (hbox); have GW428 := gw hg HB; have GE428 := gw hg HB; replace HB := bs HB hb; clear hb hbox hg; obtain ⟨_, _, _, _⟩ := cFour BK428) | ((with_reducible refine gate_callee (f := 19) rfl ?_); refine gl (some 8) rfl rfl Tryz.func19 (by kernel_rfl) rfl #[.agg #[.int .i64 a0_0, .slice A0_1 l0_1.length c0_1], .slice A1 l1.length c1] rfl ?_; (with_reducible refine (impl_FormatLin.calls k a0_0 _ _ l0_1 _ _ l1 t429 _ ?side1 ?side2 ?side3 ?side4 A3.out).mono ?_); (case side1 => exact mc ((Kd.C_below HR0_1.out HB.out))); (case side2 => exact HC0_1.out); (case side3 => exact mc ((Kd.C_below HR1.out HB.out))); (case side4 => exact HC1.out); rintro e w11 ⟨rfl, hb⟩; refine ⟨_, rfl, ?_⟩; replace BK428 := bb BK428 hb; replace HB := bs HB hb; (try clear hb)))
  go_ret
  exact ⟨by first | rfl | (simp [errW_none, errW_some] <;> rfl) | (simp [*, errW_none, errW_some] <;> rfl), ms HB⟩
 rw [if_neg c8] at H
 exact absurd H (by simp)

/-! ### laws_FnLinText: function 5 -/
mutual
def laws_FnLinText.j0 : Nat → List Int → Bool → Option (Bool)
 | 0, _, _ => none
 | k + 1, x0, x62 => if x62 = true then (some false) else ((spec_DrawParseLin.f k x0).bind fun bt454 => ((impl_ParseLin.f k bt454.1 bt454.2).bind fun bt458 => ((spec_ParseLin.f k bt454.1 bt454.2).bind fun bt464 => (if (bt458.2.2 != bt464.2.2) = true then (laws_FnLinText.j1 k x0 true) else (if bt458.2.2 = true then ((impl_FormatLin.f k bt458.1 bt458.2.1 bt454.2).bind fun t470 => (laws_FnLinText.j1 k x0 (t470.toList != bt454.1.toList))) else (laws_FnLinText.j1 k x0 false))))))
def laws_FnLinText.j1 : Nat → List Int → Bool → Option (Bool)
 | 0, _, _ => none
 | k + 1, x0, x92 => if x92 = true then (some false) else ((spec_DrawParseConstraint.f k x0).bind fun bt471 => ((impl_ParseConstraint.f k bt471.1 bt471.2).bind fun bt475 => ((spec_ParseConstraint.f k bt471.1 bt471.2).bind fun bt481 => (if (bt475.2.2 == bt481.2.2) = true then (if bt475.2.2 = true then ((impl_FormatConstraint.f k bt475.1 bt475.2.1 bt471.2).bind fun t487 => (some (t487.toList == bt471.1.toList))) else (some true)) else (some false)))))
end
def laws_FnLinText.f (k : Nat) (l0 : List Int) : Option (Bool) := (laws_big.f l0).bind fun t430 => (if t430 = true then (some true) else ((spec_DrawFormatLin.f k l0).bind fun bt431 => ((impl_FormatLin.f k bt431.1 bt431.2.1 bt431.2.2).bind fun t439 => ((impl_ParseLin.f k t439 bt431.2.2).bind fun bt440 => ((spec_ParseLin.f k t439 bt431.2.2).bind fun bt446 => ((spec_FormatLin.f k bt431.1 bt431.2.1 bt431.2.2).bind fun t452 => (if t439.toList = t452.toList then (if (bt440.2.2 != bt446.2.2) = true then (laws_FnLinText.j0 k l0 true) else (if bt440.2.2 = true then ((spec_EqualLin.f k bt440.1 bt440.2.1 bt431.1 bt431.2.1).bind fun t453 => (laws_FnLinText.j0 k l0 (!t453))) else (laws_FnLinText.j0 k l0 false))) else (laws_FnLinText.j0 k l0 true))))))))
theorem laws_FnLinText.mono_l : ∀ k, (∀ y0 y1, LeO (laws_FnLinText.j0 k y0 y1) (laws_FnLinText.j0 (k + 1) y0 y1)) ∧ (∀ y0 y1, LeO (laws_FnLinText.j1 k y0 y1) (laws_FnLinText.j1 (k + 1) y0 y1))
 | 0 => ⟨fun _ _ r h => by simp [laws_FnLinText.j0] at h, fun _ _ r h => by simp [laws_FnLinText.j1] at h⟩
 | k + 1 => by
  obtain ⟨ih0, ih1⟩ := laws_FnLinText.mono_l k
  refine ⟨?_, ?_⟩
  ·intro y0 y1
   unfold laws_FnLinText.j0
   repeat' with_reducible first
   | exact ih0 _ _
   | exact ih1 _ _
   | exact impl_FormatConstraint.mono _ _ _ _
   | exact impl_FormatLin.mono _ _ _ _
   | exact impl_ParseConstraint.mono _ _ _
   | exact impl_ParseLin.mono _ _ _
   | exact spec_DrawFormatLin.mono _ _
   | exact spec_DrawParseConstraint.mono _ _
   | exact spec_DrawParseLin.mono _ _
   | exact spec_EqualLin.mono _ _ _ _ _
   | exact spec_FormatLin.mono _ _ _ _
   | exact spec_ParseConstraint.mono _ _ _
   | exact spec_ParseLin.mono _ _ _
   | exact LeO.refl _
   | exact LeO.none _
   | refine LeO.ite ?_ ?_
   | refine LeO.bind ?_ (fun _ => ?_)
  intro y0 y1
  unfold laws_FnLinText.j1
  repeat' with_reducible first
  | exact ih0 _ _
  | exact ih1 _ _
  | exact impl_FormatConstraint.mono _ _ _ _
  | exact impl_FormatLin.mono _ _ _ _
  | exact impl_ParseConstraint.mono _ _ _
  | exact impl_ParseLin.mono _ _ _
  | exact spec_DrawFormatLin.mono _ _
  | exact spec_DrawParseConstraint.mono _ _
  | exact spec_DrawParseLin.mono _ _
  | exact spec_EqualLin.mono _ _ _ _ _
  | exact spec_FormatLin.mono _ _ _ _
  | exact spec_ParseConstraint.mono _ _ _
  | exact spec_ParseLin.mono _ _ _
  | exact LeO.refl _
  | exact LeO.none _
  | refine LeO.ite ?_ ?_
  | refine LeO.bind ?_ (fun _ => ?_)
theorem laws_FnLinText.mono : ∀ a0 k, LeO (laws_FnLinText.f k a0) (laws_FnLinText.f (k + 1) a0) := by
 intro a0 k
 obtain ⟨ih0, ih1⟩ := laws_FnLinText.mono_l k
 unfold laws_FnLinText.f
 repeat' with_reducible first
 | exact ih0 _ _
 | exact ih1 _ _
 | exact impl_FormatConstraint.mono _ _ _ _
 | exact impl_FormatLin.mono _ _ _ _
 | exact impl_ParseConstraint.mono _ _ _
 | exact impl_ParseLin.mono _ _ _
 | exact spec_DrawFormatLin.mono _ _
 | exact spec_DrawParseConstraint.mono _ _
 | exact spec_DrawParseLin.mono _ _
 | exact spec_EqualLin.mono _ _ _ _ _
 | exact spec_FormatLin.mono _ _ _ _
 | exact spec_ParseConstraint.mono _ _ _
 | exact spec_ParseLin.mono _ _ _
 | exact LeO.refl _
 | exact LeO.none _
 | refine LeO.ite ?_ ?_
 | refine LeO.bind ?_ (fun _ => ?_)
set_option maxHeartbeats 8000000 in
set_option maxRecDepth 100000 in
theorem laws_FnLinText.calls (k : Nat) (A0 : Option Addr) (c0 : Nat) (l0 : List Int) (r : Bool) (w : World) (hr0 : Kd.C (Kd.int .u8) w A0 l0.length l0) (hc0 : l0.length ≤ c0) (hT_ : r = true) (h : laws_FnLinText.f k l0 = some r) (hTb_ : TbL w := by first | assumption | ((with_reducible repeat (first | apply tb_alloc | apply tb_drewN | apply tb_drew)); first | assumption | exact tb_of (by assumption) (by assumption) | exact tb_of (by assumption) ⟨below_set (below_set (Aside0.out (by assumption)) (Aside0.out (by assumption))) (Aside0.out (by assumption))⟩)) :
  Calls Tryz.prog 5 #[.slice A0 l0.length c0] w fun e w' => e = .returned (.bool r) ∧ Below w.heap.size w w' := by
 have hu26 := Tryz.underlying26
 have HR0 := Aside0.mk hr0
 have HC0 := Aside0.mk hc0
 clear hr0 hc0
 have HB := Aside0.mk (Below.refl w.heap.size w)
 have H : ((laws_big.f l0).bind fun t430 => (if t430 = true then (some true) else ((spec_DrawFormatLin.f k l0).bind fun bt431 => ((impl_FormatLin.f k bt431.1 bt431.2.1 bt431.2.2).bind fun t439 => ((impl_ParseLin.f k t439 bt431.2.2).bind fun bt440 => ((spec_ParseLin.f k t439 bt431.2.2).bind fun bt446 => ((spec_FormatLin.f k bt431.1 bt431.2.1 bt431.2.2).bind fun t452 => (if t439.toList = t452.toList then (if (bt440.2.2 != bt446.2.2) = true then (laws_FnLinText.j0 k l0 true) else (if bt440.2.2 = true then ((spec_EqualLin.f k bt440.1 bt440.2.1 bt431.1 bt431.2.1).bind fun t453 => (laws_FnLinText.j0 k l0 (!t453))) else (laws_FnLinText.j0 k l0 false))) else (laws_FnLinText.j0 k l0 true))))))))) = some r := h
 clear h
 replace H := Option.bind_eq_some_iff.mp H
 obtain ⟨t430, A20, H⟩ := H
 replace H : (if t430 = true then (some true) else ((spec_DrawFormatLin.f k l0).bind fun bt431 => ((impl_FormatLin.f k bt431.1 bt431.2.1 bt431.2.2).bind fun t439 => ((impl_ParseLin.f k t439 bt431.2.2).bind fun bt440 => ((spec_ParseLin.f k t439 bt431.2.2).bind fun bt446 => ((spec_FormatLin.f k bt431.1 bt431.2.1 bt431.2.2).bind fun t452 => (if t439.toList = t452.toList then (if (bt440.2.2 != bt446.2.2) = true then (laws_FnLinText.j0 k l0 true) else (if bt440.2.2 = true then ((spec_EqualLin.f k bt440.1 bt440.2.1 bt431.1 bt431.2.1).bind fun t453 => (laws_FnLinText.j0 k l0 (!t453))) else (laws_FnLinText.j0 k l0 false))) else (laws_FnLinText.j0 k l0 true)))))))) = some r := H
 have A2 := Aside0.mk A20
 clear A20
 by_cases c3 : t430 = true
 ·subst c3
  have H1 : (some true) = some r := by rw [if_pos rfl] at H; exact H
  clear H
  have H := H1
  clear H1
  obtain rfl := Option.some.inj H
  go_enter Tryz.func5, Tryz.ntmps5
  go_wp2_with (first | ((with_reducible refine gate_callee (f := 17) rfl ?_); refine gl (some 23) rfl rfl Tryz.func17 (by kernel_rfl) rfl #[.slice A0 l0.length c0] rfl ?_; (with_reducible refine (laws_big.calls _ _ l0 true _ ?side1 ?side2 A2.out).mono ?_); (case side1 => repeat (first | exact HR0.out | (with_reducible refine Kd.C_alloc ?_ _) | (with_reducible refine Kd.C_drewN ?_ _) | (with_reducible refine Kd.C_drew ?_))); (case side2 => exact HC0.out); rintro e w' ⟨rfl, ⟨nd, rfl⟩⟩; refine ⟨_, rfl, ?_⟩))
  go_ret
  exact ⟨by first | rfl | (simp [errW_none, errW_some] <;> rfl) | (simp [*, errW_none, errW_some] <;> rfl), ms HB⟩
 replace c3 := Bool.eq_false_iff.mpr c3
 subst c3
 have H1 : ((spec_DrawFormatLin.f k l0).bind fun bt431 => ((impl_FormatLin.f k bt431.1 bt431.2.1 bt431.2.2).bind fun t439 => ((impl_ParseLin.f k t439 bt431.2.2).bind fun bt440 => ((spec_ParseLin.f k t439 bt431.2.2).bind fun bt446 => ((spec_FormatLin.f k bt431.1 bt431.2.1 bt431.2.2).bind fun t452 => (if t439.toList = t452.toList then (if (bt440.2.2 != bt446.2.2) = true then (laws_FnLinText.j0 k l0 true) else (if bt440.2.2 = true then ((spec_EqualLin.f k bt440.1 bt440.2.1 bt431.1 bt431.2.1).bind fun t453 => (laws_FnLinText.j0 k l0 (!t453))) else (laws_FnLinText.j0 k l0 false))) else (laws_FnLinText.j0 k l0 true))))))) = some r := by rw [if_neg (show ¬ (false = true) by decide)] at H; exact H
 clear H
 have H := H1
 clear H1
 replace H := Option.bind_eq_some_iff.mp H
 obtain ⟨⟨t431, t432, t435⟩, A40, H⟩ := H
 replace H : ((impl_FormatLin.f k t431 t432 t435).bind fun t439 => ((impl_ParseLin.f k t439 t435).bind fun bt440 => ((spec_ParseLin.f k t439 t435).bind fun bt446 => ((spec_FormatLin.f k t431 t432 t435).bind fun t452 => (if t439.toList = t452.toList then (if (bt440.2.2 != bt446.2.2) = true then (laws_FnLinText.j0 k l0 true) else (if bt440.2.2 = true then ((spec_EqualLin.f k bt440.1 bt440.2.1 t431 t432).bind fun t453 => (laws_FnLinText.j0 k l0 (!t453))) else (laws_FnLinText.j0 k l0 false))) else (laws_FnLinText.j0 k l0 true)))))) = some r := H
 have A4 := Aside0.mk A40
 clear A40
 replace H := Option.bind_eq_some_iff.mp H
 obtain ⟨t439, A50, H⟩ := H
 replace H : ((impl_ParseLin.f k t439 t435).bind fun bt440 => ((spec_ParseLin.f k t439 t435).bind fun bt446 => ((spec_FormatLin.f k t431 t432 t435).bind fun t452 => (if t439.toList = t452.toList then (if (bt440.2.2 != bt446.2.2) = true then (laws_FnLinText.j0 k l0 true) else (if bt440.2.2 = true then ((spec_EqualLin.f k bt440.1 bt440.2.1 t431 t432).bind fun t453 => (laws_FnLinText.j0 k l0 (!t453))) else (laws_FnLinText.j0 k l0 false))) else (laws_FnLinText.j0 k l0 true))))) = some r := H
 have A5 := Aside0.mk A50
 clear A50
 replace H := Option.bind_eq_some_iff.mp H
 obtain ⟨⟨t440, t441, t444⟩, A60, H⟩ := H
 replace H : ((spec_ParseLin.f k t439 t435).bind fun bt446 => ((spec_FormatLin.f k t431 t432 t435).bind fun t452 => (if t439.toList = t452.toList then (if (t444 != bt446.2.2) = true then (laws_FnLinText.j0 k l0 true) else (if t444 = true then ((spec_EqualLin.f k t440 t441 t431 t432).bind fun t453 => (laws_FnLinText.j0 k l0 (!t453))) else (laws_FnLinText.j0 k l0 false))) else (laws_FnLinText.j0 k l0 true)))) = some r := H
 have A6 := Aside0.mk A60
 clear A60
 replace H := Option.bind_eq_some_iff.mp H
 obtain ⟨⟨t446, t447, t450⟩, A70, H⟩ := H
 replace H : ((spec_FormatLin.f k t431 t432 t435).bind fun t452 => (if t439.toList = t452.toList then (if (t444 != t450) = true then (laws_FnLinText.j0 k l0 true) else (if t444 = true then ((spec_EqualLin.f k t440 t441 t431 t432).bind fun t453 => (laws_FnLinText.j0 k l0 (!t453))) else (laws_FnLinText.j0 k l0 false))) else (laws_FnLinText.j0 k l0 true))) = some r := H
 have A7 := Aside0.mk A70
 clear A70
 have HC8 := Aside0.mk H
 clear H
 go_enter Tryz.func5, Tryz.ntmps5
 go_upto_region 7 with (first | ((with_reducible refine gate_callee (f := 17) rfl ?_); refine gl (some 23) rfl rfl Tryz.func17 (by kernel_rfl) rfl #[.slice A0 l0.length c0] rfl ?_; (with_reducible refine (laws_big.calls _ _ l0 false _ ?side1 ?side2 A2.out).mono ?_); (case side1 => repeat (first | exact HR0.out | (with_reducible refine Kd.C_alloc ?_ _) | (with_reducible refine Kd.C_drewN ?_ _) | (with_reducible refine Kd.C_drew ?_))); (case side2 => exact HC0.out); rintro e w' ⟨rfl, ⟨nd, rfl⟩⟩; refine ⟨_, rfl, ?_⟩) | ((with_reducible refine gate_callee (f := 18) rfl ?_); refine gl (some 26) rfl rfl Tryz.func18 (by kernel_rfl) rfl #[.slice A0 l0.length c0] rfl ?_; (with_reducible refine (spec_DrawFormatLin.calls k _ _ l0 t431 t432 t435 _ ?side1 ?side2 A4.out).mono ?_); (case side1 => repeat (first | exact HR0.out | (with_reducible refine Kd.C_alloc ?_ _) | (with_reducible refine Kd.C_drewN ?_ _) | (with_reducible refine Kd.C_drew ?_))); (case side2 => exact HC0.out); rintro e w9 ⟨v433, v436, rfl, ho0, ho1, hb⟩; refine ⟨_, rfl, ?_⟩; have HO434 := Aside0.mk (Kd.R_lower ho0 (below_size (ms HB))); have HO437 := Aside0.mk (Kd.R_lower ho1 (below_size (ms HB))); replace HB := bs HB hb; (try clear hb); (try clear ho0); (try clear ho1)) | ((with_reducible refine gate_dst (N := 3) rfl ?_); refine box_event ?hg (N := 3) ?hd (cs := #[.int .i64 0, .slice none 0 0]) (t := 26) ?hr ?_; (case hd => rfl); (case hg => rfl); (case hr => first | (go_simp; done) | (go_simp; rfl)); intro gb438 hg w10 hbox hb; replace HO434 := rb HO434 hb; replace HO437 := rb HO437 hb; have BK438 := Aside0.mk (hbox); have GW438 := gw hg HB; have GE438 := gw hg HB; replace HB := bs HB hb; clear hb hbox hg; obtain ⟨hcz11_0, hcz11_1, hfz11_0, hfz11_1⟩ := cFour BK438; obtain ⟨Ao12, co12, eo12⟩ := Kd.R_slice HO434.out; subst eo12; obtain ⟨Ao13, co13, eo13⟩ := Kd.R_slice HO437.out; subst eo13) | ((with_reducible refine gate_callee (f := 19) rfl ?_); refine gl (some 31) rfl rfl Tryz.func19 (by kernel_rfl) rfl #[.agg #[.int .i64 t431, .slice Ao12 t432.length co12], .slice Ao13 t435.length co13] rfl ?_; (with_reducible refine (impl_FormatLin.calls k t431 _ _ t432 _ _ t435 t439 _ ?side1 ?side2 ?side3 ?side4 A5.out).mono ?_); (case side1 => refine (Kd.R_reads' (e := 3) (base := w.heap.size) (ok := fun k_ => True) (n := t432.length) (c := co12) ?_).2.2; exact (by (with_reducible repeat (first | apply Kd.R_alloc | apply Kd.R_drewN | apply Kd.R_drew)); exact (rTwo HO434 BK438))); (case side2 => exact (Kd.R_reads' HO434.out).2.1); (case side3 => refine (Kd.R_reads' (e := 9) (base := w.heap.size) (ok := fun k_ => True) (n := t435.length) (c := co13) ?_).2.2; exact (by (with_reducible repeat (first | apply Kd.R_alloc | apply Kd.R_drewN | apply Kd.R_drew)); exact (rTwo HO437 BK438))); (case side4 => exact (Kd.R_reads' HO437.out).2.1); rintro e w14 ⟨rfl, hb⟩; refine ⟨_, rfl, ?_⟩; have n0_ := Aside0.mk (Kd.R_below (by (with_reducible repeat (first | apply Kd.R_alloc | apply Kd.R_drewN | apply Kd.R_drew)); exact (rTwo HO434 BK438)) hb); have n1_ := Aside0.mk (Kd.R_below (by (with_reducible repeat (first | apply Kd.R_alloc | apply Kd.R_drewN | apply Kd.R_drew)); exact (rTwo HO437 BK438)) hb); have n2_ := bp BK438 hb; have n3_ := bs HB hb; clear HO434 HO437 BK438 HB; have HO434 := n0_; have HO437 := n1_; have BK438 := n2_; have HB := n3_; clear n0_ n1_ n2_ n3_; (try clear hb)) | ((with_reducible refine gate_callee (f := 9) rfl ?_); refine gl (some 35) rfl rfl Tryz.func9 (by kernel_rfl) rfl #[.string t439, .slice Ao13 t435.length co13] rfl ?_; (with_reducible refine (impl_ParseLin.calls k t439 _ _ t435 t440 t441 t444 _ ?side1 ?side2 A6.out).mono ?_); (case side1 => exact mc ((Kd.R_reads' HO437.out).2.2)); (case side2 => exact (Kd.R_reads' HO437.out).2.1); rintro e w15 ⟨v442, rfl, ho0, hb⟩; refine ⟨_, rfl, ?_⟩; replace HO437 := rb HO437 hb; have HO443 := Aside0.mk (Kd.R_lower (Kd.R_new' ho0 (Kd.R_lt (mr HO434))) (below_size (ms HB))); replace HO434 := rl HO434 ho0 hb; replace BK438 := bb BK438 hb; replace HB := bs HB hb; (try clear hb); (try clear ho0)) | ((with_reducible refine gate_dst (N := 6) rfl ?_); refine box_event ?hg (N := 6) ?hd (cs := #[.int .i64 0, .slice none 0 0]) (t := 26) ?hr ?_; (case hd => rfl); (case hg => rfl); (case hr => first | (go_simp; done) | (go_simp; rfl)); intro gb445 hg w16 hbox hb; replace HO434 := rb HO434 hb; replace HO437 := rb HO437 hb; replace HO443 := rb HO443 hb; have BK445 := Aside0.mk (hbox); have GW445 := gw hg HB; have GE445 := gw hg HB; replace HB := bs HB hb; have NB438_445 := nl hg BK438; have NB445_438 := ng hg BK438; replace BK438 := bb BK438 hb; clear hb hbox hg; have := NB445_438.out; have := NB438_445.out; obtain ⟨hcz18_0, hcz18_1, hfz18_0, hfz18_1⟩ := cFour BK445; obtain ⟨Ao19, co19, eo19⟩ := Kd.R_slice HO443.out; subst eo19) | ((with_reducible refine gate_callee (f := 7) rfl ?_); refine gl (some 41) rfl rfl Tryz.func7 (by kernel_rfl) rfl #[.string t439, .slice Ao13 t435.length co13] rfl ?_; (with_reducible refine (spec_ParseLin.calls k t439 _ _ t435 t446 t447 t450 _ ?side1 ?side2 A7.out).mono ?_); (case side1 => refine (Kd.R_reads' (e := 9) (base := w.heap.size) (ok := fun k_ => True) (n := t435.length) (c := co13) ?_).2.2; exact (by (with_reducible repeat (first | apply Kd.R_alloc | apply Kd.R_drewN | apply Kd.R_drew)); exact (rTwo HO437 BK445))); (case side2 => exact (Kd.R_reads' HO437.out).2.1); rintro e w20 ⟨v448, rfl, ho0, hb⟩; refine ⟨_, rfl, ?_⟩; have n0_ := Aside0.mk (Kd.R_elder' (by (with_reducible repeat (first | apply Kd.R_alloc | apply Kd.R_drewN | apply Kd.R_drew)); exact (rTwo HO434 BK445)) (Kd.R_base ho0) hb); have n1_ := Aside0.mk (Kd.R_below (by (with_reducible repeat (first | apply Kd.R_alloc | apply Kd.R_drewN | apply Kd.R_drew)); exact (rTwo HO437 BK445)) hb); have n2_ := Aside0.mk (Kd.R_elder' (by (with_reducible repeat (first | apply Kd.R_alloc | apply Kd.R_drewN | apply Kd.R_drew)); exact (rTwo HO443 BK445)) (Kd.R_base ho0) hb); have n3_ := Aside0.mk (Kd.R_lower (Kd.R_new' (Kd.R_new' ho0 (Kd.R_lt (by (with_reducible repeat (first | apply Kd.R_alloc | apply Kd.R_drewN | apply Kd.R_drew)); exact (rTwo HO434 BK445)))) (Kd.R_lt (by (with_reducible repeat (first | apply Kd.R_alloc | apply Kd.R_drewN | apply Kd.R_drew)); exact (rTwo HO443 BK445)))) (below_size (ms HB))); have n4_ := bf BK438 hb; have n5_ := bp BK445 hb; have n6_ := bs HB hb; clear HO434 HO437 HO443 BK438 BK445 HB; have HO434 := n0_; have HO437 := n1_; have HO443 := n2_; have HO449 := n3_; have BK438 := n4_; have BK445 := n5_; have HB := n6_; clear n0_ n1_ n2_ n3_ n4_ n5_ n6_; (try clear hb); (try clear ho0)) | ((with_reducible refine gate_dst (N := 8) rfl ?_); refine box_event ?hg (N := 8) ?hd (cs := #[.int .i64 0, .slice none 0 0]) (t := 26) ?hr ?_; (case hd => rfl); (case hg => rfl); (case hr => first | (go_simp; done) | (go_simp; rfl)); intro gb451 hg w21 hbox hb; replace HO434 := rb HO434 hb; replace HO437 := rb HO437 hb; replace HO443 := rb HO443 hb; replace HO449 := rb HO449 hb; have BK451 := Aside0.mk (hbox); have GW451 := gw hg HB; have GE451 := gw hg HB; replace HB := bs HB hb; have NB438_451 := nl hg BK438; have NB451_438 := ng hg BK438; replace BK438 := bb BK438 hb; have NB445_451 := nl hg BK445; have NB451_445 := ng hg BK445; replace BK445 := bb BK445 hb; clear hb hbox hg; have := NB451_438.out; have := NB438_451.out; have := NB451_445.out; have := NB445_451.out; obtain ⟨hcz24_0, hcz24_1, hfz24_0, hfz24_1⟩ := cFour BK451; obtain ⟨Ao25, co25, eo25⟩ := Kd.R_slice HO449.out; subst eo25))
 (try simp only [Act.put, List.setIfInBounds_toArray, List.set_cons_zero, List.set_cons_succ])
 go_cut [62] (fun v62 wc => ∃ (kq : Nat) (x62_7 : Bool), v62 = .bool x62_7 ∧ Aside0 (laws_FnLinText.j0 kq l0 x62_7 = some r) ∧ Aside0 (kq ≤ k) ∧ Aside0 (Kd.R (Kd.int .i64) 3 wc w.heap.size (fun k_ => some k_ ≠ ((.slice Ao19 t441.length co19) : Value).ownBlock ∧ some k_ ≠ ((.slice Ao25 t447.length co25) : Value).ownBlock) (.slice Ao12 t432.length co12) t432) ∧ Aside0 (Kd.R (Kd.int .i64) 3 wc w.heap.size (fun k_ => some k_ ≠ ((.slice Ao12 t432.length co12) : Value).ownBlock ∧ some k_ ≠ ((.slice Ao25 t447.length co25) : Value).ownBlock) (.slice Ao19 t441.length co19) t441) ∧ Aside0 (Kd.R (Kd.int .i64) 3 wc w.heap.size (fun k_ => some k_ ≠ ((.slice Ao12 t432.length co12) : Value).ownBlock ∧ some k_ ≠ ((.slice Ao19 t441.length co19) : Value).ownBlock) (.slice Ao25 t447.length co25) t447) ∧ Aside0 (wc.heap[gb438]? = some (.cells #[.int .i64 t431, (.slice Ao12 t432.length co12)] 26 (0, 0))) ∧ Aside0 (wc.heap[gb445]? = some (.cells #[.int .i64 t440, (.slice Ao19 t441.length co19)] 26 (0, 0))) ∧ Aside0 (wc.heap[gb451]? = some (.cells #[.int .i64 t446, (.slice Ao25 t447.length co25)] 26 (0, 0))) ∧ Aside0 (Below w.heap.size w wc))
 case first =>
  have H := HC8.out
  clear HC8
  replace H := Option.bind_eq_some_iff.mp H
  obtain ⟨t452, A260, H⟩ := H
  replace H : (if t439.toList = t452.toList then (if (t444 != t450) = true then (laws_FnLinText.j0 k l0 true) else (if t444 = true then ((spec_EqualLin.f k t440 t441 t431 t432).bind fun t453 => (laws_FnLinText.j0 k l0 (!t453))) else (laws_FnLinText.j0 k l0 false))) else (laws_FnLinText.j0 k l0 true)) = some r := H
  have A26 := Aside0.mk A260
  clear A260
  by_cases c27 : t439.toList = t452.toList
  ·rw [if_pos c27] at H
   have c27b0 : (t439.toList == t452.toList) = true := beq_iff_eq.mpr c27
   have c27b1 : (t439.toList != t452.toList) = false := bne_eq_false_iff_eq.mpr c27
   clear c27
   (first | rw [c27b0] | (simp only [i64_w, i32_w]; rw [c27b0]) | skip)
   by_cases c28 : (t444 != t450) = true
   ·rw [if_pos c28] at H
    have c28b0 : (t444 != t450) = true := c28
    (try (have c28b1 : decide (t444 = t450) = false := by simpa using c28))
    (try (have c28b2 : (t444 == t450) = false := by simpa using c28))
    (try (have c28b3 : ¬ (t444 = t450) := by simpa using c28))
    clear c28
    have H' := Aside0.mk H
    clear H
    have := NB438_445.out
    have := NB445_438.out
    have := NB438_451.out
    have := NB451_438.out
    obtain ⟨hcz31_0, hcz31_1, hfz31_0, hfz31_1⟩ := cFour BK438
    go_wp2_with (first | ((with_reducible refine gate_callee (f := 20) rfl ?_); refine gl (some 47) rfl rfl Tryz.func20 (by kernel_rfl) rfl #[.agg #[.int .i64 t431, .slice Ao12 t432.length co12], .slice Ao13 t435.length co13] rfl ?_; (with_reducible refine (spec_FormatLin.calls k t431 _ _ t432 _ _ t435 t452 _ ?side1 ?side2 ?side3 ?side4 A26.out).mono ?_); (case side1 => refine (Kd.R_reads' (e := 3) (base := w.heap.size) (ok := fun k_ => ((True ∧ some k_ ≠ (.slice Ao19 t441.length co19 : Value).ownBlock) ∧ some k_ ≠ (.slice Ao25 t447.length co25 : Value).ownBlock)) (n := t432.length) (c := co12) ?_).2.2; exact (by (with_reducible repeat (first | apply Kd.R_alloc | apply Kd.R_drewN | apply Kd.R_drew)); exact (rTwo HO434 BK451))); (case side2 => exact (Kd.R_reads' HO434.out).2.1); (case side3 => refine (Kd.R_reads' (e := 9) (base := w.heap.size) (ok := fun k_ => True) (n := t435.length) (c := co13) ?_).2.2; exact (by (with_reducible repeat (first | apply Kd.R_alloc | apply Kd.R_drewN | apply Kd.R_drew)); exact (rTwo HO437 BK451))); (case side4 => exact (Kd.R_reads' HO437.out).2.1); rintro e w32 ⟨rfl, hb⟩; refine ⟨_, rfl, ?_⟩; have n0_ := Aside0.mk (Kd.R_below (by (with_reducible repeat (first | apply Kd.R_alloc | apply Kd.R_drewN | apply Kd.R_drew)); exact (rTwo HO434 BK451)) hb); have n1_ := Aside0.mk (Kd.R_below (by (with_reducible repeat (first | apply Kd.R_alloc | apply Kd.R_drewN | apply Kd.R_drew)); exact (rTwo HO437 BK451)) hb); have n2_ := Aside0.mk (Kd.R_below (by (with_reducible repeat (first | apply Kd.R_alloc | apply Kd.R_drewN | apply Kd.R_drew)); exact (rTwo HO443 BK451)) hb); have n3_ := Aside0.mk (Kd.R_below (by (with_reducible repeat (first | apply Kd.R_alloc | apply Kd.R_drewN | apply Kd.R_drew)); exact (rTwo HO449 BK451)) hb); have n4_ := bf BK438 hb; have n5_ := bf BK445 hb; have n6_ := bp BK451 hb; have n7_ := bs HB hb; clear HO434 HO437 HO443 HO449 BK438 BK445 BK451 HB; have HO434 := n0_; have HO437 := n1_; have HO443 := n2_; have HO449 := n3_; have BK438 := n4_; have BK445 := n5_; have BK451 := n6_; have HB := n7_; clear n0_ n1_ n2_ n3_ n4_ n5_ n6_ n7_; (try clear hb)))
    go_meet
    case rel => exact ⟨_, (true), (by first | rfl | (simp; done) | (simp [*]; done)), H', ⟨by first | omega | exact Nat.le_refl _⟩, ⟨by (with_reducible repeat (first | apply Kd.R_alloc | apply Kd.R_drewN | apply Kd.R_drew)); exact Kd.R_mono HO434.out (fun _ hk => ⟨hk.1.2, hk.2⟩)⟩, ⟨by (with_reducible repeat (first | apply Kd.R_alloc | apply Kd.R_drewN | apply Kd.R_drew)); exact Kd.R_mono HO443.out (fun _ hk => ⟨hk.1.2, hk.2⟩)⟩, ⟨by (with_reducible repeat (first | apply Kd.R_alloc | apply Kd.R_drewN | apply Kd.R_drew)); exact Kd.R_mono HO449.out (fun _ hk => ⟨hk.1.2, hk.2⟩)⟩, ⟨mb BK438⟩, ⟨mb BK445⟩, ⟨mb BK451⟩, ⟨ms HB⟩⟩
   rw [if_neg c28] at H
   have c28b0 : (t444 != t450) = false := by simpa using c28
   (try (have c28b1 : decide (t444 = t450) = true := by simpa using c28))
   (try (have c28b2 : (t444 == t450) = true := by simpa using c28))
   clear c28
   by_cases c33 : t444 = true
   ·subst c33
    have H1 : ((spec_EqualLin.f k t440 t441 t431 t432).bind fun t453 => (laws_FnLinText.j0 k l0 (!t453))) = some r := by rw [if_pos rfl] at H; exact H
    clear H
    have H := H1
    clear H1
    replace H := Option.bind_eq_some_iff.mp H
    obtain ⟨t453, A340, H⟩ := H
    replace H : (laws_FnLinText.j0 k l0 (!t453)) = some r := H
    have A34 := Aside0.mk A340
    clear A340
    have H' := Aside0.mk H
    clear H
    have := NB438_445.out
    have := NB445_438.out
    have := NB438_451.out
    have := NB451_438.out
    obtain ⟨hcz37_0, hcz37_1, hfz37_0, hfz37_1⟩ := cFour BK438
    go_wp2_with (first | ((with_reducible refine gate_callee (f := 20) rfl ?_); refine gl (some 47) rfl rfl Tryz.func20 (by kernel_rfl) rfl #[.agg #[.int .i64 t431, .slice Ao12 t432.length co12], .slice Ao13 t435.length co13] rfl ?_; (with_reducible refine (spec_FormatLin.calls k t431 _ _ t432 _ _ t435 t452 _ ?side1 ?side2 ?side3 ?side4 A26.out).mono ?_); (case side1 => refine (Kd.R_reads' (e := 3) (base := w.heap.size) (ok := fun k_ => ((True ∧ some k_ ≠ (.slice Ao19 t441.length co19 : Value).ownBlock) ∧ some k_ ≠ (.slice Ao25 t447.length co25 : Value).ownBlock)) (n := t432.length) (c := co12) ?_).2.2; exact (by (with_reducible repeat (first | apply Kd.R_alloc | apply Kd.R_drewN | apply Kd.R_drew)); exact (rTwo HO434 BK451))); (case side2 => exact (Kd.R_reads' HO434.out).2.1); (case side3 => refine (Kd.R_reads' (e := 9) (base := w.heap.size) (ok := fun k_ => True) (n := t435.length) (c := co13) ?_).2.2; exact (by (with_reducible repeat (first | apply Kd.R_alloc | apply Kd.R_drewN | apply Kd.R_drew)); exact (rTwo HO437 BK451))); (case side4 => exact (Kd.R_reads' HO437.out).2.1); rintro e w38 ⟨rfl, hb⟩; refine ⟨_, rfl, ?_⟩; have n0_ := Aside0.mk (Kd.R_below (by (with_reducible repeat (first | apply Kd.R_alloc | apply Kd.R_drewN | apply Kd.R_drew)); exact (rTwo HO434 BK451)) hb); have n1_ := Aside0.mk (Kd.R_below (by (with_reducible repeat (first | apply Kd.R_alloc | apply Kd.R_drewN | apply Kd.R_drew)); exact (rTwo HO437 BK451)) hb); have n2_ := Aside0.mk (Kd.R_below (by (with_reducible repeat (first | apply Kd.R_alloc | apply Kd.R_drewN | apply Kd.R_drew)); exact (rTwo HO443 BK451)) hb); have n3_ := Aside0.mk (Kd.R_below (by (with_reducible repeat (first | apply Kd.R_alloc | apply Kd.R_drewN | apply Kd.R_drew)); exact (rTwo HO449 BK451)) hb); have n4_ := bf BK438 hb; have n5_ := bf BK445 hb; have n6_ := bp BK451 hb; have n7_ := bs HB hb; clear HO434 HO437 HO443 HO449 BK438 BK445 BK451 HB; have HO434 := n0_; have HO437 := n1_; have HO443 := n2_; have HO449 := n3_; have BK438 := n4_; have BK445 := n5_; have BK451 := n6_; have HB := n7_; clear n0_ n1_ n2_ n3_ n4_ n5_ n6_ n7_; (try clear hb); have := NB445_451.out; have := NB451_445.out; obtain ⟨hcz40_0, hcz40_1, hfz40_0, hfz40_1⟩ := cFour BK445; obtain ⟨hcz41_0, hcz41_1, hfz41_0, hfz41_1⟩ := cFour BK438) | (go_at_call 21; (with_reducible refine (spec_EqualLin.calls k t440 _ _ t441 t431 _ _ t432 t453 _ ?side1 ?side2 ?side3 ?side4 A34.out).mono ?_); (case side1 => exact mc ((Kd.R_reads' HO443.out).2.2)); (case side2 => exact (Kd.R_reads' HO443.out).2.1); (case side3 => exact mc ((Kd.R_reads' HO434.out).2.2)); (case side4 => exact (Kd.R_reads' HO434.out).2.1); rintro e w42 ⟨rfl, hb⟩; replace HO434 := rb HO434 hb; replace HO437 := rb HO437 hb; replace HO443 := rb HO443 hb; replace HO449 := rb HO449 hb; replace BK438 := bb BK438 hb; replace BK445 := bb BK445 hb; replace BK451 := bb BK451 hb; replace HB := bs HB hb; (try clear hb)))
    go_meet
    case rel => exact ⟨_, (!t453), (by first | rfl | (simp; done) | (simp [*]; done)), H', ⟨by first | omega | exact Nat.le_refl _⟩, ⟨by (with_reducible repeat (first | apply Kd.R_alloc | apply Kd.R_drewN | apply Kd.R_drew)); exact Kd.R_mono HO434.out (fun _ hk => ⟨hk.1.2, hk.2⟩)⟩, ⟨by (with_reducible repeat (first | apply Kd.R_alloc | apply Kd.R_drewN | apply Kd.R_drew)); exact Kd.R_mono HO443.out (fun _ hk => ⟨hk.1.2, hk.2⟩)⟩, ⟨by (with_reducible repeat (first | apply Kd.R_alloc | apply Kd.R_drewN | apply Kd.R_drew)); exact Kd.R_mono HO449.out (fun _ hk => ⟨hk.1.2, hk.2⟩)⟩, ⟨mb BK438⟩, ⟨mb BK445⟩, ⟨mb BK451⟩, ⟨ms HB⟩⟩
   replace c33 := Bool.eq_false_iff.mpr c33
   subst c33
   have H1 : (laws_FnLinText.j0 k l0 false) = some r := by rw [if_neg (show ¬ (false = true) by decide)] at H; exact H
   clear H
   have H := H1
   clear H1
   have H' := Aside0.mk H
   clear H
   have := NB438_445.out
   have := NB445_438.out
   have := NB438_451.out
   have := NB451_438.out
   obtain ⟨hcz45_0, hcz45_1, hfz45_0, hfz45_1⟩ := cFour BK438
   go_wp2_with (first | ((with_reducible refine gate_callee (f := 20) rfl ?_); refine gl (some 47) rfl rfl Tryz.func20 (by kernel_rfl) rfl #[.agg #[.int .i64 t431, .slice Ao12 t432.length co12], .slice Ao13 t435.length co13] rfl ?_; (with_reducible refine (spec_FormatLin.calls k t431 _ _ t432 _ _ t435 t452 _ ?side1 ?side2 ?side3 ?side4 A26.out).mono ?_); (case side1 => refine (Kd.R_reads' (e := 3) (base := w.heap.size) (ok := fun k_ => ((True ∧ some k_ ≠ (.slice Ao19 t441.length co19 : Value).ownBlock) ∧ some k_ ≠ (.slice Ao25 t447.length co25 : Value).ownBlock)) (n := t432.length) (c := co12) ?_).2.2; exact (by (with_reducible repeat (first | apply Kd.R_alloc | apply Kd.R_drewN | apply Kd.R_drew)); exact (rTwo HO434 BK451))); (case side2 => exact (Kd.R_reads' HO434.out).2.1); (case side3 => refine (Kd.R_reads' (e := 9) (base := w.heap.size) (ok := fun k_ => True) (n := t435.length) (c := co13) ?_).2.2; exact (by (with_reducible repeat (first | apply Kd.R_alloc | apply Kd.R_drewN | apply Kd.R_drew)); exact (rTwo HO437 BK451))); (case side4 => exact (Kd.R_reads' HO437.out).2.1); rintro e w46 ⟨rfl, hb⟩; refine ⟨_, rfl, ?_⟩; have n0_ := Aside0.mk (Kd.R_below (by (with_reducible repeat (first | apply Kd.R_alloc | apply Kd.R_drewN | apply Kd.R_drew)); exact (rTwo HO434 BK451)) hb); have n1_ := Aside0.mk (Kd.R_below (by (with_reducible repeat (first | apply Kd.R_alloc | apply Kd.R_drewN | apply Kd.R_drew)); exact (rTwo HO437 BK451)) hb); have n2_ := Aside0.mk (Kd.R_below (by (with_reducible repeat (first | apply Kd.R_alloc | apply Kd.R_drewN | apply Kd.R_drew)); exact (rTwo HO443 BK451)) hb); have n3_ := Aside0.mk (Kd.R_below (by (with_reducible repeat (first | apply Kd.R_alloc | apply Kd.R_drewN | apply Kd.R_drew)); exact (rTwo HO449 BK451)) hb); have n4_ := bf BK438 hb; have n5_ := bf BK445 hb; have n6_ := bp BK451 hb; have n7_ := bs HB hb; clear HO434 HO437 HO443 HO449 BK438 BK445 BK451 HB; have HO434 := n0_; have HO437 := n1_; have HO443 := n2_; have HO449 := n3_; have BK438 := n4_; have BK445 := n5_; have BK451 := n6_; have HB := n7_; clear n0_ n1_ n2_ n3_ n4_ n5_ n6_ n7_; (try clear hb)))
   go_meet
   case rel => exact ⟨_, (false), (by first | rfl | (simp; done) | (simp [*]; done)), H', ⟨by first | omega | exact Nat.le_refl _⟩, ⟨by (with_reducible repeat (first | apply Kd.R_alloc | apply Kd.R_drewN | apply Kd.R_drew)); exact Kd.R_mono HO434.out (fun _ hk => ⟨hk.1.2, hk.2⟩)⟩, ⟨by (with_reducible repeat (first | apply Kd.R_alloc | apply Kd.R_drewN | apply Kd.R_drew)); exact Kd.R_mono HO443.out (fun _ hk => ⟨hk.1.2, hk.2⟩)⟩, ⟨by (with_reducible repeat (first | apply Kd.R_alloc | apply Kd.R_drewN | apply Kd.R_drew)); exact Kd.R_mono HO449.out (fun _ hk => ⟨hk.1.2, hk.2⟩)⟩, ⟨mb BK438⟩, ⟨mb BK445⟩, ⟨mb BK451⟩, ⟨ms HB⟩⟩
  rw [if_neg c27] at H
  have c27b0 : (t439.toList == t452.toList) = false := beq_eq_false_iff_ne.mpr c27
  have c27b1 : (t439.toList != t452.toList) = true := bne_iff_ne.mpr c27
  (first | rw [c27b0] | (simp only [i64_w, i32_w]; rw [c27b0]) | skip)
  have H' := Aside0.mk H
  clear H
  have := NB438_445.out
  have := NB445_438.out
  have := NB438_451.out
  have := NB451_438.out
  obtain ⟨hcz49_0, hcz49_1, hfz49_0, hfz49_1⟩ := cFour BK438
  go_wp2_with (first | ((with_reducible refine gate_callee (f := 20) rfl ?_); refine gl (some 47) rfl rfl Tryz.func20 (by kernel_rfl) rfl #[.agg #[.int .i64 t431, .slice Ao12 t432.length co12], .slice Ao13 t435.length co13] rfl ?_; (with_reducible refine (spec_FormatLin.calls k t431 _ _ t432 _ _ t435 t452 _ ?side1 ?side2 ?side3 ?side4 A26.out).mono ?_); (case side1 => refine (Kd.R_reads' (e := 3) (base := w.heap.size) (ok := fun k_ => ((True ∧ some k_ ≠ (.slice Ao19 t441.length co19 : Value).ownBlock) ∧ some k_ ≠ (.slice Ao25 t447.length co25 : Value).ownBlock)) (n := t432.length) (c := co12) ?_).2.2; exact (by (with_reducible repeat (first | apply Kd.R_alloc | apply Kd.R_drewN | apply Kd.R_drew)); exact (rTwo HO434 BK451))); (case side2 => exact (Kd.R_reads' HO434.out).2.1); (case side3 => refine (Kd.R_reads' (e := 9) (base := w.heap.size) (ok := fun k_ => True) (n := t435.length) (c := co13) ?_).2.2; exact (by (with_reducible repeat (first | apply Kd.R_alloc | apply Kd.R_drewN | apply Kd.R_drew)); exact (rTwo HO437 BK451))); (case side4 => exact (Kd.R_reads' HO437.out).2.1); rintro e w50 ⟨rfl, hb⟩; refine ⟨_, rfl, ?_⟩; have n0_ := Aside0.mk (Kd.R_below (by (with_reducible repeat (first | apply Kd.R_alloc | apply Kd.R_drewN | apply Kd.R_drew)); exact (rTwo HO434 BK451)) hb); have n1_ := Aside0.mk (Kd.R_below (by (with_reducible repeat (first | apply Kd.R_alloc | apply Kd.R_drewN | apply Kd.R_drew)); exact (rTwo HO437 BK451)) hb); have n2_ := Aside0.mk (Kd.R_below (by (with_reducible repeat (first | apply Kd.R_alloc | apply Kd.R_drewN | apply Kd.R_drew)); exact (rTwo HO443 BK451)) hb); have n3_ := Aside0.mk (Kd.R_below (by (with_reducible repeat (first | apply Kd.R_alloc | apply Kd.R_drewN | apply Kd.R_drew)); exact (rTwo HO449 BK451)) hb); have n4_ := bf BK438 hb; have n5_ := bf BK445 hb; have n6_ := bp BK451 hb; have n7_ := bs HB hb; clear HO434 HO437 HO443 HO449 BK438 BK445 BK451 HB; have HO434 := n0_; have HO437 := n1_; have HO443 := n2_; have HO449 := n3_; have BK438 := n4_; have BK445 := n5_; have BK451 := n6_; have HB := n7_; clear n0_ n1_ n2_ n3_ n4_ n5_ n6_ n7_; (try clear hb)))
  go_meet
  case rel => exact ⟨_, (true), (by first | rfl | (simp; done) | (simp [*]; done)), H', ⟨by first | omega | exact Nat.le_refl _⟩, ⟨by (with_reducible repeat (first | apply Kd.R_alloc | apply Kd.R_drewN | apply Kd.R_drew)); exact Kd.R_mono HO434.out (fun _ hk => ⟨hk.1.2, hk.2⟩)⟩, ⟨by (with_reducible repeat (first | apply Kd.R_alloc | apply Kd.R_drewN | apply Kd.R_drew)); exact Kd.R_mono HO443.out (fun _ hk => ⟨hk.1.2, hk.2⟩)⟩, ⟨by (with_reducible repeat (first | apply Kd.R_alloc | apply Kd.R_drewN | apply Kd.R_drew)); exact Kd.R_mono HO449.out (fun _ hk => ⟨hk.1.2, hk.2⟩)⟩, ⟨mb BK438⟩, ⟨mb BK445⟩, ⟨mb BK451⟩, ⟨ms HB⟩⟩
 case rest =>
  clear HC8
  try clear c1
  try clear c2
  try clear p2
  try clear c3
  try clear c4
  try clear c5
  try clear c7
  try clear c9
  try clear c17
  try clear c18
  try clear c19
  try clear c20
  try clear c22
  try clear c23
  try clear c27
  try clear c27b0
  try clear c27b1
  try clear c28
  try clear c28b0
  try clear c28b1
  try clear c28b2
  try clear c29
  try clear c30
  try clear c33
  try clear c35
  try clear c36
  try clear c39
  try clear c43
  try clear c44
  try clear c47
  try clear c48
  try clear hcz11_0
  try clear hcz11_1
  try clear hcz18_0
  try clear hcz18_1
  try clear hcz24_0
  try clear hcz24_1
  try clear hcz31_0
  try clear hcz31_1
  try clear hcz37_0
  try clear hcz37_1
  try clear hcz40_0
  try clear hcz40_1
  try clear hcz41_0
  try clear hcz41_1
  try clear hcz45_0
  try clear hcz45_1
  try clear hcz49_0
  try clear hcz49_1
  try clear hfz11_0
  try clear hfz11_1
  try clear hfz18_0
  try clear hfz18_1
  try clear hfz24_0
  try clear hfz24_1
  try clear hfz31_0
  try clear hfz31_1
  try clear hfz37_0
  try clear hfz37_1
  try clear hfz40_0
  try clear hfz40_1
  try clear hfz41_0
  try clear hfz41_1
  try clear hfz45_0
  try clear hfz45_1
  try clear hfz49_0
  try clear hfz49_1
  obtain ⟨kq, x62_7, rfl, HA, HJ7, HO_439001, HO_446001, HO_452001, BK438, BK445, BK451, HB⟩ := hcut
  cases kq with
  | zero => exact absurd HA.out (by simp [laws_FnLinText.j0])
  | succ kj7 =>
   have H := HA.out
   clear HA
   simp only [laws_FnLinText.j0] at H
   by_cases c51 : x62_7 = true
   ·subst c51
    have H1 : (some false) = some r := by rw [if_pos rfl] at H; exact H
    clear H
    have H := H1
    clear H1
    obtain rfl := Option.some.inj H
    exact absurd hT_ (by decide)
   replace c51 := Bool.eq_false_iff.mpr c51
   subst c51
   have H1 : ((spec_DrawParseLin.f kj7 l0).bind fun bt454 => ((impl_ParseLin.f kj7 bt454.1 bt454.2).bind fun bt458 => ((spec_ParseLin.f kj7 bt454.1 bt454.2).bind fun bt464 => (if (bt458.2.2 != bt464.2.2) = true then (laws_FnLinText.j1 kj7 l0 true) else (if bt458.2.2 = true then ((impl_FormatLin.f kj7 bt458.1 bt458.2.1 bt454.2).bind fun t470 => (laws_FnLinText.j1 kj7 l0 (t470.toList != bt454.1.toList))) else (laws_FnLinText.j1 kj7 l0 false)))))) = some r := by rw [if_neg (show ¬ (false = true) by decide)] at H; exact H
   clear H
   have H := H1
   clear H1
   replace H := Option.bind_eq_some_iff.mp H
   obtain ⟨⟨t454, t455⟩, A520, H⟩ := H
   replace H : ((impl_ParseLin.f kj7 t454 t455).bind fun bt458 => ((spec_ParseLin.f kj7 t454 t455).bind fun bt464 => (if (bt458.2.2 != bt464.2.2) = true then (laws_FnLinText.j1 kj7 l0 true) else (if bt458.2.2 = true then ((impl_FormatLin.f kj7 bt458.1 bt458.2.1 t455).bind fun t470 => (laws_FnLinText.j1 kj7 l0 (t470.toList != t454.toList))) else (laws_FnLinText.j1 kj7 l0 false))))) = some r := H
   have A52 := Aside0.mk A520
   clear A520
   replace H := Option.bind_eq_some_iff.mp H
   obtain ⟨⟨t458, t459, t462⟩, A530, H⟩ := H
   replace H : ((spec_ParseLin.f kj7 t454 t455).bind fun bt464 => (if (t462 != bt464.2.2) = true then (laws_FnLinText.j1 kj7 l0 true) else (if t462 = true then ((impl_FormatLin.f kj7 t458 t459 t455).bind fun t470 => (laws_FnLinText.j1 kj7 l0 (t470.toList != t454.toList))) else (laws_FnLinText.j1 kj7 l0 false)))) = some r := H
   have A53 := Aside0.mk A530
   clear A530
   replace H := Option.bind_eq_some_iff.mp H
   obtain ⟨⟨t464, t465, t468⟩, A540, H⟩ := H
   replace H : (if (t462 != t468) = true then (laws_FnLinText.j1 kj7 l0 true) else (if t462 = true then ((impl_FormatLin.f kj7 t458 t459 t455).bind fun t470 => (laws_FnLinText.j1 kj7 l0 (t470.toList != t454.toList))) else (laws_FnLinText.j1 kj7 l0 false))) = some r := H
   have A54 := Aside0.mk A540
   clear A540
   have HC55 := Aside0.mk H
   clear H
   go_upto_region 12 with (first | ((with_reducible refine gate_callee (f := 22) rfl ?_); refine gl (some 65) rfl rfl Tryz.func22 (by kernel_rfl) rfl #[.slice A0 l0.length c0] rfl ?_; (with_reducible refine (spec_DrawParseLin.calls kj7 _ _ l0 t454 t455 _ ?side1 ?side2 A52.out).mono ?_); (case side1 => exact mc ((Kd.C_below HR0.out HB.out))); (case side2 => exact HC0.out); rintro e w56 ⟨v456, rfl, ho0, hb⟩; refine ⟨_, rfl, ?_⟩; replace HO_439001 := rb HO_439001 hb; replace HO_446001 := rb HO_446001 hb; replace HO_452001 := rb HO_452001 hb; have HO457 := Aside0.mk (Kd.R_lower ho0 (below_size (ms HB))); replace BK438 := bb BK438 hb; replace BK445 := bb BK445 hb; replace BK451 := bb BK451 hb; replace HB := bs HB hb; (try clear hb); (try clear ho0); obtain ⟨Ao57, co57, eo57⟩ := Kd.R_slice HO457.out; subst eo57) | ((with_reducible refine gate_callee (f := 9) rfl ?_); refine gl (some 71) rfl rfl Tryz.func9 (by kernel_rfl) rfl #[.string t454, .slice Ao57 t455.length co57] rfl ?_; (with_reducible refine (impl_ParseLin.calls kj7 t454 _ _ t455 t458 t459 t462 _ ?side1 ?side2 A53.out).mono ?_); (case side1 => exact mc ((Kd.R_reads' HO457.out).2.2)); (case side2 => exact (Kd.R_reads' HO457.out).2.1); rintro e w58 ⟨v460, rfl, ho0, hb⟩; refine ⟨_, rfl, ?_⟩; replace HO457 := rb HO457 hb; have HO461 := Aside0.mk (Kd.R_lower (Kd.R_new' (Kd.R_new' (Kd.R_new' ho0 (Kd.R_lt (mr HO_439001))) (Kd.R_lt (mr HO_446001))) (Kd.R_lt (mr HO_452001))) (below_size (ms HB))); replace HO_439001 := rl HO_439001 ho0 hb; replace HO_446001 := rl HO_446001 ho0 hb; replace HO_452001 := rl HO_452001 ho0 hb; replace BK438 := bb BK438 hb; replace BK445 := bb BK445 hb; replace BK451 := bb BK451 hb; replace HB := bs HB hb; (try clear hb); (try clear ho0)) | ((with_reducible refine gate_dst (N := 12) rfl ?_); refine box_event ?hg (N := 12) ?hd (cs := #[.int .i64 0, .slice none 0 0]) (t := 26) ?hr ?_; (case hd => rfl); (case hg => rfl); (case hr => first | (go_simp; done) | (go_simp; rfl)); intro gb463 hg w59 hbox hb; replace HO_439001 := rb HO_439001 hb; replace HO_446001 := rb HO_446001 hb; replace HO_452001 := rb HO_452001 hb; replace HO457 := rb HO457 hb; replace HO461 := rb HO461 hb; have BK463 := Aside0.mk (hbox); have GW463 := gw hg HB; have GE463 := gw hg HB; replace HB := bs HB hb; have NB438_463 := nl hg BK438; have NB463_438 := ng hg BK438; replace BK438 := bb BK438 hb; have NB445_463 := nl hg BK445; have NB463_445 := ng hg BK445; replace BK445 := bb BK445 hb; have NB451_463 := nl hg BK451; have NB463_451 := ng hg BK451; replace BK451 := bb BK451 hb; clear hb hbox hg; have := NB463_438.out; have := NB438_463.out; have := NB463_445.out; have := NB445_463.out; have := NB463_451.out; have := NB451_463.out; obtain ⟨hcz63_0, hcz63_1, hfz63_0, hfz63_1⟩ := cFour BK463; obtain ⟨Ao64, co64, eo64⟩ := Kd.R_slice HO461.out; subst eo64) | ((with_reducible refine gate_callee (f := 7) rfl ?_); refine gl (some 77) rfl rfl Tryz.func7 (by kernel_rfl) rfl #[.string t454, .slice Ao57 t455.length co57] rfl ?_; (with_reducible refine (spec_ParseLin.calls kj7 t454 _ _ t455 t464 t465 t468 _ ?side1 ?side2 A54.out).mono ?_); (case side1 => refine (Kd.R_reads' (e := 9) (base := w.heap.size) (ok := fun k_ => True) (n := t455.length) (c := co57) ?_).2.2; exact (by (with_reducible repeat (first | apply Kd.R_alloc | apply Kd.R_drewN | apply Kd.R_drew)); exact (rTwo HO457 BK463))); (case side2 => exact (Kd.R_reads' HO457.out).2.1); rintro e w65 ⟨v466, rfl, ho0, hb⟩; refine ⟨_, rfl, ?_⟩; have n0_ := Aside0.mk (Kd.R_elder' (by (with_reducible repeat (first | apply Kd.R_alloc | apply Kd.R_drewN | apply Kd.R_drew)); exact (rTwo HO_439001 BK463)) (Kd.R_base ho0) hb); have n1_ := Aside0.mk (Kd.R_elder' (by (with_reducible repeat (first | apply Kd.R_alloc | apply Kd.R_drewN | apply Kd.R_drew)); exact (rTwo HO_446001 BK463)) (Kd.R_base ho0) hb); have n2_ := Aside0.mk (Kd.R_elder' (by (with_reducible repeat (first | apply Kd.R_alloc | apply Kd.R_drewN | apply Kd.R_drew)); exact (rTwo HO_452001 BK463)) (Kd.R_base ho0) hb); have n3_ := Aside0.mk (Kd.R_below (by (with_reducible repeat (first | apply Kd.R_alloc | apply Kd.R_drewN | apply Kd.R_drew)); exact (rTwo HO457 BK463)) hb); have n4_ := Aside0.mk (Kd.R_elder' (by (with_reducible repeat (first | apply Kd.R_alloc | apply Kd.R_drewN | apply Kd.R_drew)); exact (rTwo HO461 BK463)) (Kd.R_base ho0) hb); have n5_ := Aside0.mk (Kd.R_lower (Kd.R_new' (Kd.R_new' (Kd.R_new' (Kd.R_new' ho0 (Kd.R_lt (by (with_reducible repeat (first | apply Kd.R_alloc | apply Kd.R_drewN | apply Kd.R_drew)); exact (rTwo HO_439001 BK463)))) (Kd.R_lt (by (with_reducible repeat (first | apply Kd.R_alloc | apply Kd.R_drewN | apply Kd.R_drew)); exact (rTwo HO_446001 BK463)))) (Kd.R_lt (by (with_reducible repeat (first | apply Kd.R_alloc | apply Kd.R_drewN | apply Kd.R_drew)); exact (rTwo HO_452001 BK463)))) (Kd.R_lt (by (with_reducible repeat (first | apply Kd.R_alloc | apply Kd.R_drewN | apply Kd.R_drew)); exact (rTwo HO461 BK463)))) (below_size (ms HB))); have n6_ := bf BK438 hb; have n7_ := bf BK445 hb; have n8_ := bf BK451 hb; have n9_ := bp BK463 hb; have n10_ := bs HB hb; clear HO_439001 HO_446001 HO_452001 HO457 HO461 BK438 BK445 BK451 BK463 HB; have HO_439001 := n0_; have HO_446001 := n1_; have HO_452001 := n2_; have HO457 := n3_; have HO461 := n4_; have HO467 := n5_; have BK438 := n6_; have BK445 := n7_; have BK451 := n8_; have BK463 := n9_; have HB := n10_; clear n0_ n1_ n2_ n3_ n4_ n5_ n6_ n7_ n8_ n9_ n10_; (try clear hb); (try clear ho0)) | ((with_reducible refine gate_dst (N := 14) rfl ?_); refine box_event ?hg (N := 14) ?hd (cs := #[.int .i64 0, .slice none 0 0]) (t := 26) ?hr ?_; (case hd => rfl); (case hg => rfl); (case hr => first | (go_simp; done) | (go_simp; rfl)); intro gb469 hg w66 hbox hb; replace HO_439001 := rb HO_439001 hb; replace HO_446001 := rb HO_446001 hb; replace HO_452001 := rb HO_452001 hb; replace HO457 := rb HO457 hb; replace HO461 := rb HO461 hb; replace HO467 := rb HO467 hb; have BK469 := Aside0.mk (hbox); have GW469 := gw hg HB; have GE469 := gw hg HB; replace HB := bs HB hb; have NB438_469 := nl hg BK438; have NB469_438 := ng hg BK438; replace BK438 := bb BK438 hb; have NB445_469 := nl hg BK445; have NB469_445 := ng hg BK445; replace BK445 := bb BK445 hb; have NB451_469 := nl hg BK451; have NB469_451 := ng hg BK451; replace BK451 := bb BK451 hb; have NB463_469 := nl hg BK463; have NB469_463 := ng hg BK463; replace BK463 := bb BK463 hb; clear hb hbox hg; have := NB469_438.out; have := NB438_469.out; have := NB469_445.out; have := NB445_469.out; have := NB469_451.out; have := NB451_469.out; have := NB469_463.out; have := NB463_469.out; obtain ⟨hcz71_0, hcz71_1, hfz71_0, hfz71_1⟩ := cFour BK469; obtain ⟨Ao72, co72, eo72⟩ := Kd.R_slice HO467.out; subst eo72))
   (try simp only [Act.put, List.setIfInBounds_toArray, List.set_cons_zero, List.set_cons_succ])
   go_cut [92] (fun v92 wc => ∃ (kq : Nat) (x92_54 : Bool), v92 = .bool x92_54 ∧ Aside0 (laws_FnLinText.j1 kq l0 x92_54 = some r) ∧ Aside0 (kq ≤ kj7) ∧ Aside0 (Kd.R (Kd.int .i64) 3 wc w.heap.size (fun k_ => some k_ ≠ ((.slice Ao19 t441.length co19) : Value).ownBlock ∧ some k_ ≠ ((.slice Ao25 t447.length co25) : Value).ownBlock ∧ some k_ ≠ ((.slice Ao64 t459.length co64) : Value).ownBlock ∧ some k_ ≠ ((.slice Ao72 t465.length co72) : Value).ownBlock) (.slice Ao12 t432.length co12) t432) ∧ Aside0 (Kd.R (Kd.int .i64) 3 wc w.heap.size (fun k_ => some k_ ≠ ((.slice Ao12 t432.length co12) : Value).ownBlock ∧ some k_ ≠ ((.slice Ao25 t447.length co25) : Value).ownBlock ∧ some k_ ≠ ((.slice Ao64 t459.length co64) : Value).ownBlock ∧ some k_ ≠ ((.slice Ao72 t465.length co72) : Value).ownBlock) (.slice Ao19 t441.length co19) t441) ∧ Aside0 (Kd.R (Kd.int .i64) 3 wc w.heap.size (fun k_ => some k_ ≠ ((.slice Ao12 t432.length co12) : Value).ownBlock ∧ some k_ ≠ ((.slice Ao19 t441.length co19) : Value).ownBlock ∧ some k_ ≠ ((.slice Ao64 t459.length co64) : Value).ownBlock ∧ some k_ ≠ ((.slice Ao72 t465.length co72) : Value).ownBlock) (.slice Ao25 t447.length co25) t447) ∧ Aside0 (Kd.R (Kd.int .i64) 3 wc w.heap.size (fun k_ => some k_ ≠ ((.slice Ao12 t432.length co12) : Value).ownBlock ∧ some k_ ≠ ((.slice Ao19 t441.length co19) : Value).ownBlock ∧ some k_ ≠ ((.slice Ao25 t447.length co25) : Value).ownBlock ∧ some k_ ≠ ((.slice Ao72 t465.length co72) : Value).ownBlock) (.slice Ao64 t459.length co64) t459) ∧ Aside0 (Kd.R (Kd.int .i64) 3 wc w.heap.size (fun k_ => some k_ ≠ ((.slice Ao12 t432.length co12) : Value).ownBlock ∧ some k_ ≠ ((.slice Ao19 t441.length co19) : Value).ownBlock ∧ some k_ ≠ ((.slice Ao25 t447.length co25) : Value).ownBlock ∧ some k_ ≠ ((.slice Ao64 t459.length co64) : Value).ownBlock) (.slice Ao72 t465.length co72) t465) ∧ Aside0 (wc.heap[gb438]? = some (.cells #[.int .i64 t431, (.slice Ao12 t432.length co12)] 26 (0, 0))) ∧ Aside0 (wc.heap[gb445]? = some (.cells #[.int .i64 t440, (.slice Ao19 t441.length co19)] 26 (0, 0))) ∧ Aside0 (wc.heap[gb451]? = some (.cells #[.int .i64 t446, (.slice Ao25 t447.length co25)] 26 (0, 0))) ∧ Aside0 (wc.heap[gb463]? = some (.cells #[.int .i64 t458, (.slice Ao64 t459.length co64)] 26 (0, 0))) ∧ Aside0 (wc.heap[gb469]? = some (.cells #[.int .i64 t464, (.slice Ao72 t465.length co72)] 26 (0, 0))) ∧ Aside0 (Below w.heap.size w wc))
   case first =>
    have H := HC55.out
    clear HC55
    by_cases c73 : (t462 != t468) = true
    ·rw [if_pos c73] at H
     have c73b0 : (t462 != t468) = true := c73
     (try (have c73b1 : decide (t462 = t468) = false := by simpa using c73))
     (try (have c73b2 : (t462 == t468) = false := by simpa using c73))
     (try (have c73b3 : ¬ (t462 = t468) := by simpa using c73))
     clear c73
     (first | rw [c73b0] | (simp only [i64_w, i32_w]; rw [c73b0]) | skip)
     have H' := Aside0.mk H
     clear H
     go_wp2
     go_meet
     case rel => exact ⟨_, (true), (by first | rfl | (simp; done) | (simp [*]; done)), H', ⟨by have := HJ7.out; first | omega | exact Nat.le_refl _⟩, ⟨by (with_reducible repeat (first | apply Kd.R_alloc | apply Kd.R_drewN | apply Kd.R_drew)); exact Kd.R_mono (Kd.R_far (p := ⟨gb469, 1, none⟩) (Kd.R_far (p := ⟨gb469, 0, none⟩) (Kd.R_types HO_439001.out BK469.out (by decide)) (fun _ hk => hk.2) (.int .i64 t464)) (fun _ hk => hk.2) (.slice Ao72 t465.length co72)) (fun _ hk => ⟨hk.1.1.1.1, ⟨hk.1.1.1.2, ⟨hk.1.1.2, hk.1.2⟩⟩⟩)⟩, ⟨by (with_reducible repeat (first | apply Kd.R_alloc | apply Kd.R_drewN | apply Kd.R_drew)); exact Kd.R_mono (Kd.R_far (p := ⟨gb469, 1, none⟩) (Kd.R_far (p := ⟨gb469, 0, none⟩) (Kd.R_types HO_446001.out BK469.out (by decide)) (fun _ hk => hk.2) (.int .i64 t464)) (fun _ hk => hk.2) (.slice Ao72 t465.length co72)) (fun _ hk => ⟨hk.1.1.1.1, ⟨hk.1.1.1.2, ⟨hk.1.1.2, hk.1.2⟩⟩⟩)⟩, ⟨by (with_reducible repeat (first | apply Kd.R_alloc | apply Kd.R_drewN | apply Kd.R_drew)); exact Kd.R_mono (Kd.R_far (p := ⟨gb469, 1, none⟩) (Kd.R_far (p := ⟨gb469, 0, none⟩) (Kd.R_types HO_452001.out BK469.out (by decide)) (fun _ hk => hk.2) (.int .i64 t464)) (fun _ hk => hk.2) (.slice Ao72 t465.length co72)) (fun _ hk => ⟨hk.1.1.1.1, ⟨hk.1.1.1.2, ⟨hk.1.1.2, hk.1.2⟩⟩⟩)⟩, ⟨by (with_reducible repeat (first | apply Kd.R_alloc | apply Kd.R_drewN | apply Kd.R_drew)); exact Kd.R_mono (Kd.R_far (p := ⟨gb469, 1, none⟩) (Kd.R_far (p := ⟨gb469, 0, none⟩) (Kd.R_types HO461.out BK469.out (by decide)) (fun _ hk => hk.2) (.int .i64 t464)) (fun _ hk => hk.2) (.slice Ao72 t465.length co72)) (fun _ hk => ⟨hk.1.1.1.1.2, ⟨hk.1.1.1.2, ⟨hk.1.1.2, hk.1.2⟩⟩⟩)⟩, ⟨by (with_reducible repeat (first | apply Kd.R_alloc | apply Kd.R_drewN | apply Kd.R_drew)); exact Kd.R_mono (Kd.R_far (p := ⟨gb469, 1, none⟩) (Kd.R_far (p := ⟨gb469, 0, none⟩) (Kd.R_types HO467.out BK469.out (by decide)) (fun _ hk => hk.2) (.int .i64 t464)) (fun _ hk => hk.2) (.slice Ao72 t465.length co72)) (fun _ hk => ⟨hk.1.1.1.1.2, ⟨hk.1.1.1.2, ⟨hk.1.1.2, hk.1.2⟩⟩⟩)⟩, ⟨mf BK438⟩, ⟨mf BK445⟩, ⟨mf BK451⟩, ⟨mf BK463⟩, ⟨mq BK469⟩, ⟨ms HB⟩⟩
    rw [if_neg c73] at H
    have c73b0 : (t462 != t468) = false := by simpa using c73
    (try (have c73b1 : decide (t462 = t468) = true := by simpa using c73))
    (try (have c73b2 : (t462 == t468) = true := by simpa using c73))
    clear c73
    (first | rw [c73b0] | (simp only [i64_w, i32_w]; rw [c73b0]) | skip)
    by_cases c74 : t462 = true
    ·subst c74
     have H1 : ((impl_FormatLin.f kj7 t458 t459 t455).bind fun t470 => (laws_FnLinText.j1 kj7 l0 (t470.toList != t454.toList))) = some r := by rw [if_pos rfl] at H; exact H
     clear H
     have H := H1
     clear H1
     replace H := Option.bind_eq_some_iff.mp H
     obtain ⟨t470, A750, H⟩ := H
     replace H : (laws_FnLinText.j1 kj7 l0 (t470.toList != t454.toList)) = some r := H
     have A75 := Aside0.mk A750
     clear A750
     have H' := Aside0.mk H
     clear H
     have := NB463_438.out
     have := NB438_463.out
     have := NB463_445.out
     have := NB445_463.out
     have := NB463_451.out
     have := NB451_463.out
     have := NB463_469.out
     have := NB469_463.out
     obtain ⟨hcz80_0, hcz80_1, hfz80_0, hfz80_1⟩ := cFour BK463
     go_wp2_with (first | (go_at_call 19; (with_reducible refine (impl_FormatLin.calls kj7 t458 _ _ t459 _ _ t455 t470 _ ?side1 ?side2 ?side3 ?side4 A75.out).mono ?_); (case side1 => refine (Kd.R_reads' (e := 3) (base := w.heap.size) (ok := fun k_ => ((((True ∧ some k_ ≠ (.slice Ao12 t432.length co12 : Value).ownBlock) ∧ some k_ ≠ (.slice Ao19 t441.length co19 : Value).ownBlock) ∧ some k_ ≠ (.slice Ao25 t447.length co25 : Value).ownBlock) ∧ some k_ ≠ (.slice Ao72 t465.length co72 : Value).ownBlock)) (n := t459.length) (c := co64) ?_).2.2; exact (by (with_reducible repeat (first | apply Kd.R_alloc | apply Kd.R_drewN | apply Kd.R_drew)); exact (rTwo HO461 BK469))); (case side2 => exact (Kd.R_reads' HO461.out).2.1); (case side3 => refine (Kd.R_reads' (e := 9) (base := w.heap.size) (ok := fun k_ => True) (n := t455.length) (c := co57) ?_).2.2; exact (by (with_reducible repeat (first | apply Kd.R_alloc | apply Kd.R_drewN | apply Kd.R_drew)); exact (rTwo HO457 BK469))); (case side4 => exact (Kd.R_reads' HO457.out).2.1); rintro e w81 ⟨rfl, hb⟩; have n0_ := Aside0.mk (Kd.R_below (by (with_reducible repeat (first | apply Kd.R_alloc | apply Kd.R_drewN | apply Kd.R_drew)); exact (rTwo HO_439001 BK469)) hb); have n1_ := Aside0.mk (Kd.R_below (by (with_reducible repeat (first | apply Kd.R_alloc | apply Kd.R_drewN | apply Kd.R_drew)); exact (rTwo HO_446001 BK469)) hb); have n2_ := Aside0.mk (Kd.R_below (by (with_reducible repeat (first | apply Kd.R_alloc | apply Kd.R_drewN | apply Kd.R_drew)); exact (rTwo HO_452001 BK469)) hb); have n3_ := Aside0.mk (Kd.R_below (by (with_reducible repeat (first | apply Kd.R_alloc | apply Kd.R_drewN | apply Kd.R_drew)); exact (rTwo HO457 BK469)) hb); have n4_ := Aside0.mk (Kd.R_below (by (with_reducible repeat (first | apply Kd.R_alloc | apply Kd.R_drewN | apply Kd.R_drew)); exact (rTwo HO461 BK469)) hb); have n5_ := Aside0.mk (Kd.R_below (by (with_reducible repeat (first | apply Kd.R_alloc | apply Kd.R_drewN | apply Kd.R_drew)); exact (rTwo HO467 BK469)) hb); have n6_ := bf BK438 hb; have n7_ := bf BK445 hb; have n8_ := bf BK451 hb; have n9_ := bf BK463 hb; have n10_ := bp BK469 hb; have n11_ := bs HB hb; clear HO_439001 HO_446001 HO_452001 HO457 HO461 HO467 BK438 BK445 BK451 BK463 BK469 HB; have HO_439001 := n0_; have HO_446001 := n1_; have HO_452001 := n2_; have HO457 := n3_; have HO461 := n4_; have HO467 := n5_; have BK438 := n6_; have BK445 := n7_; have BK451 := n8_; have BK463 := n9_; have BK469 := n10_; have HB := n11_; clear n0_ n1_ n2_ n3_ n4_ n5_ n6_ n7_ n8_ n9_ n10_ n11_; (try clear hb)))
     go_meet
     case rel => exact ⟨_, ((t470.toList != t454.toList)), (by first | rfl | (simp; done) | (simp [*]; done)), H', ⟨by have := HJ7.out; first | omega | exact Nat.le_refl _⟩, ⟨by (with_reducible repeat (first | apply Kd.R_alloc | apply Kd.R_drewN | apply Kd.R_drew)); exact Kd.R_mono HO_439001.out (fun _ hk => ⟨hk.1.1.1, ⟨hk.1.1.2, ⟨hk.1.2, hk.2⟩⟩⟩)⟩, ⟨by (with_reducible repeat (first | apply Kd.R_alloc | apply Kd.R_drewN | apply Kd.R_drew)); exact Kd.R_mono HO_446001.out (fun _ hk => ⟨hk.1.1.1, ⟨hk.1.1.2, ⟨hk.1.2, hk.2⟩⟩⟩)⟩, ⟨by (with_reducible repeat (first | apply Kd.R_alloc | apply Kd.R_drewN | apply Kd.R_drew)); exact Kd.R_mono HO_452001.out (fun _ hk => ⟨hk.1.1.1, ⟨hk.1.1.2, ⟨hk.1.2, hk.2⟩⟩⟩)⟩, ⟨by (with_reducible repeat (first | apply Kd.R_alloc | apply Kd.R_drewN | apply Kd.R_drew)); exact Kd.R_mono HO461.out (fun _ hk => ⟨hk.1.1.1.2, ⟨hk.1.1.2, ⟨hk.1.2, hk.2⟩⟩⟩)⟩, ⟨by (with_reducible repeat (first | apply Kd.R_alloc | apply Kd.R_drewN | apply Kd.R_drew)); exact Kd.R_mono HO467.out (fun _ hk => ⟨hk.1.1.1.2, ⟨hk.1.1.2, ⟨hk.1.2, hk.2⟩⟩⟩)⟩, ⟨mb BK438⟩, ⟨mb BK445⟩, ⟨mb BK451⟩, ⟨mb BK463⟩, ⟨mb BK469⟩, ⟨ms HB⟩⟩
    replace c74 := Bool.eq_false_iff.mpr c74
    subst c74
    have H1 : (laws_FnLinText.j1 kj7 l0 false) = some r := by rw [if_neg (show ¬ (false = true) by decide)] at H; exact H
    clear H
    have H := H1
    clear H1
    have H' := Aside0.mk H
    clear H
    go_wp2
    go_meet
    case rel => exact ⟨_, (false), (by first | rfl | (simp; done) | (simp [*]; done)), H', ⟨by have := HJ7.out; first | omega | exact Nat.le_refl _⟩, ⟨by (with_reducible repeat (first | apply Kd.R_alloc | apply Kd.R_drewN | apply Kd.R_drew)); exact Kd.R_mono (Kd.R_far (p := ⟨gb469, 1, none⟩) (Kd.R_far (p := ⟨gb469, 0, none⟩) (Kd.R_types HO_439001.out BK469.out (by decide)) (fun _ hk => hk.2) (.int .i64 t464)) (fun _ hk => hk.2) (.slice Ao72 t465.length co72)) (fun _ hk => ⟨hk.1.1.1.1, ⟨hk.1.1.1.2, ⟨hk.1.1.2, hk.1.2⟩⟩⟩)⟩, ⟨by (with_reducible repeat (first | apply Kd.R_alloc | apply Kd.R_drewN | apply Kd.R_drew)); exact Kd.R_mono (Kd.R_far (p := ⟨gb469, 1, none⟩) (Kd.R_far (p := ⟨gb469, 0, none⟩) (Kd.R_types HO_446001.out BK469.out (by decide)) (fun _ hk => hk.2) (.int .i64 t464)) (fun _ hk => hk.2) (.slice Ao72 t465.length co72)) (fun _ hk => ⟨hk.1.1.1.1, ⟨hk.1.1.1.2, ⟨hk.1.1.2, hk.1.2⟩⟩⟩)⟩, ⟨by (with_reducible repeat (first | apply Kd.R_alloc | apply Kd.R_drewN | apply Kd.R_drew)); exact Kd.R_mono (Kd.R_far (p := ⟨gb469, 1, none⟩) (Kd.R_far (p := ⟨gb469, 0, none⟩) (Kd.R_types HO_452001.out BK469.out (by decide)) (fun _ hk => hk.2) (.int .i64 t464)) (fun _ hk => hk.2) (.slice Ao72 t465.length co72)) (fun _ hk => ⟨hk.1.1.1.1, ⟨hk.1.1.1.2, ⟨hk.1.1.2, hk.1.2⟩⟩⟩)⟩, ⟨by (with_reducible repeat (first | apply Kd.R_alloc | apply Kd.R_drewN | apply Kd.R_drew)); exact Kd.R_mono (Kd.R_far (p := ⟨gb469, 1, none⟩) (Kd.R_far (p := ⟨gb469, 0, none⟩) (Kd.R_types HO461.out BK469.out (by decide)) (fun _ hk => hk.2) (.int .i64 t464)) (fun _ hk => hk.2) (.slice Ao72 t465.length co72)) (fun _ hk => ⟨hk.1.1.1.1.2, ⟨hk.1.1.1.2, ⟨hk.1.1.2, hk.1.2⟩⟩⟩)⟩, ⟨by (with_reducible repeat (first | apply Kd.R_alloc | apply Kd.R_drewN | apply Kd.R_drew)); exact Kd.R_mono (Kd.R_far (p := ⟨gb469, 1, none⟩) (Kd.R_far (p := ⟨gb469, 0, none⟩) (Kd.R_types HO467.out BK469.out (by decide)) (fun _ hk => hk.2) (.int .i64 t464)) (fun _ hk => hk.2) (.slice Ao72 t465.length co72)) (fun _ hk => ⟨hk.1.1.1.1.2, ⟨hk.1.1.1.2, ⟨hk.1.1.2, hk.1.2⟩⟩⟩)⟩, ⟨mf BK438⟩, ⟨mf BK445⟩, ⟨mf BK451⟩, ⟨mf BK463⟩, ⟨mq BK469⟩, ⟨ms HB⟩⟩
   case rest =>
    clear HC55
    try clear c1
    try clear c2
    try clear p2
    try clear c3
    try clear c4
    try clear c5
    try clear c6
    try clear c7
    try clear c9
    try clear c17
    try clear c18
    try clear c19
    try clear c20
    try clear c22
    try clear c23
    try clear c27
    try clear c27b0
    try clear c27b1
    try clear c28
    try clear c28b0
    try clear c28b1
    try clear c28b2
    try clear c29
    try clear c30
    try clear c33
    try clear c35
    try clear c36
    try clear c39
    try clear c43
    try clear c44
    try clear c47
    try clear c48
    try clear c51
    try clear c60
    try clear c61
    try clear c62
    try clear c67
    try clear c68
    try clear c69
    try clear c70
    try clear c73
    try clear c73b0
    try clear c73b1
    try clear c73b2
    try clear c74
    try clear c76
    try clear c77
    try clear c78
    try clear c79
    try clear hcz11_0
    try clear hcz11_1
    try clear hcz18_0
    try clear hcz18_1
    try clear hcz24_0
    try clear hcz24_1
    try clear hcz31_0
    try clear hcz31_1
    try clear hcz37_0
    try clear hcz37_1
    try clear hcz40_0
    try clear hcz40_1
    try clear hcz41_0
    try clear hcz41_1
    try clear hcz45_0
    try clear hcz45_1
    try clear hcz49_0
    try clear hcz49_1
    try clear hcz63_0
    try clear hcz63_1
    try clear hcz71_0
    try clear hcz71_1
    try clear hcz80_0
    try clear hcz80_1
    try clear hfz11_0
    try clear hfz11_1
    try clear hfz18_0
    try clear hfz18_1
    try clear hfz24_0
    try clear hfz24_1
    try clear hfz31_0
    try clear hfz31_1
    try clear hfz37_0
    try clear hfz37_1
    try clear hfz40_0
    try clear hfz40_1
    try clear hfz41_0
    try clear hfz41_1
    try clear hfz45_0
    try clear hfz45_1
    try clear hfz49_0
    try clear hfz49_1
    try clear hfz63_0
    try clear hfz63_1
    try clear hfz71_0
    try clear hfz71_1
    try clear hfz80_0
    try clear hfz80_1
    try clear p2
    obtain ⟨kq, x92_54, rfl, HA, HJ54, HO_439001, HO_446001, HO_452001, HO_464001, HO_470001, BK438, BK445, BK451, BK463, BK469, HB⟩ := hcut
    cases kq with
    | zero => exact absurd HA.out (by simp [laws_FnLinText.j1])
    | succ kj54 =>
     have H := HA.out
     clear HA
     simp only [laws_FnLinText.j1] at H
     by_cases c82 : x92_54 = true
     ·subst c82
      have H1 : (some false) = some r := by rw [if_pos rfl] at H; exact H
      clear H
      have H := H1
      clear H1
      obtain rfl := Option.some.inj H
      exact absurd hT_ (by decide)
     replace c82 := Bool.eq_false_iff.mpr c82
     subst c82
     have H1 : ((spec_DrawParseConstraint.f kj54 l0).bind fun bt471 => ((impl_ParseConstraint.f kj54 bt471.1 bt471.2).bind fun bt475 => ((spec_ParseConstraint.f kj54 bt471.1 bt471.2).bind fun bt481 => (if (bt475.2.2 == bt481.2.2) = true then (if bt475.2.2 = true then ((impl_FormatConstraint.f kj54 bt475.1 bt475.2.1 bt471.2).bind fun t487 => (some (t487.toList == bt471.1.toList))) else (some true)) else (some false))))) = some r := by rw [if_neg (show ¬ (false = true) by decide)] at H; exact H
     clear H
     have H := H1
     clear H1
     replace H := Option.bind_eq_some_iff.mp H
     obtain ⟨⟨t471, t472⟩, A830, H⟩ := H
     replace H : ((impl_ParseConstraint.f kj54 t471 t472).bind fun bt475 => ((spec_ParseConstraint.f kj54 t471 t472).bind fun bt481 => (if (bt475.2.2 == bt481.2.2) = true then (if bt475.2.2 = true then ((impl_FormatConstraint.f kj54 bt475.1 bt475.2.1 t472).bind fun t487 => (some (t487.toList == t471.toList))) else (some true)) else (some false)))) = some r := H
     have A83 := Aside0.mk A830
     clear A830
     replace H := Option.bind_eq_some_iff.mp H
     obtain ⟨⟨t475, t476, t479⟩, A840, H⟩ := H
     replace H : ((spec_ParseConstraint.f kj54 t471 t472).bind fun bt481 => (if (t479 == bt481.2.2) = true then (if t479 = true then ((impl_FormatConstraint.f kj54 t475 t476 t472).bind fun t487 => (some (t487.toList == t471.toList))) else (some true)) else (some false))) = some r := H
     have A84 := Aside0.mk A840
     clear A840
     replace H := Option.bind_eq_some_iff.mp H
     obtain ⟨⟨t481, t482, t485⟩, A850, H⟩ := H
     replace H : (if (t479 == t485) = true then (if t479 = true then ((impl_FormatConstraint.f kj54 t475 t476 t472).bind fun t487 => (some (t487.toList == t471.toList))) else (some true)) else (some false)) = some r := H
     have A85 := Aside0.mk A850
     clear A850
     by_cases c86 : (t479 == t485) = true
     ·rw [if_pos c86] at H
      have c86b0 : (t479 == t485) = true := c86
      (try (have c86b1 : decide (t479 = t485) = true := by simpa using c86))
      (try (have c86b2 : (t479 == t485) = true := by simpa using c86))
      clear c86
      by_cases c87 : t479 = true
      ·subst c87
       have H1 : ((impl_FormatConstraint.f kj54 t475 t476 t472).bind fun t487 => (some (t487.toList == t471.toList))) = some r := by rw [if_pos rfl] at H; exact H
       clear H
       have H := H1
       clear H1
       replace H := Option.bind_eq_some_iff.mp H
       obtain ⟨t487, A880, H⟩ := H
       replace H : (some (t487.toList == t471.toList)) = some r := H
       have A88 := Aside0.mk A880
       clear A880
       obtain rfl := Option.some.inj H
       go_wp2_with (first | ((with_reducible refine gate_callee (f := 23) rfl ?_); refine gl (some 95) rfl rfl Tryz.func23 (by kernel_rfl) rfl #[.slice A0 l0.length c0] rfl ?_; (with_reducible refine (spec_DrawParseConstraint.calls kj54 _ _ l0 t471 t472 _ ?side1 ?side2 A83.out).mono ?_); (case side1 => exact mc ((Kd.C_below HR0.out HB.out))); (case side2 => exact HC0.out); rintro e w89 ⟨v473, rfl, ho0, hb⟩; refine ⟨_, rfl, ?_⟩; replace HO_439001 := rb HO_439001 hb; replace HO_446001 := rb HO_446001 hb; replace HO_452001 := rb HO_452001 hb; replace HO_464001 := rb HO_464001 hb; replace HO_470001 := rb HO_470001 hb; have HO474 := Aside0.mk (Kd.R_lower ho0 (below_size (ms HB))); replace BK438 := bb BK438 hb; replace BK445 := bb BK445 hb; replace BK451 := bb BK451 hb; replace BK463 := bb BK463 hb; replace BK469 := bb BK469 hb; replace HB := bs HB hb; (try clear hb); (try clear ho0); obtain ⟨Ao90, co90, eo90⟩ := Kd.R_slice HO474.out; subst eo90) | ((with_reducible refine gate_callee (f := 16) rfl ?_); refine gl (some 101) rfl rfl Tryz.func16 (by kernel_rfl) rfl #[.string t471, .slice Ao90 t472.length co90] rfl ?_; (with_reducible refine (impl_ParseConstraint.calls kj54 t471 _ _ t472 t475 t476 true _ ?side1 ?side2 A84.out).mono ?_); (case side1 => exact mc ((Kd.R_reads' HO474.out).2.2)); (case side2 => exact (Kd.R_reads' HO474.out).2.1); rintro e w91 ⟨v477, rfl, ho0, hb⟩; refine ⟨_, rfl, ?_⟩; replace HO474 := rb HO474 hb; have HO478 := Aside0.mk (Kd.R_lower (Kd.R_new' (Kd.R_new' (Kd.R_new' (Kd.R_new' (Kd.R_new' ho0 (Kd.R_lt (mr HO_439001))) (Kd.R_lt (mr HO_446001))) (Kd.R_lt (mr HO_452001))) (Kd.R_lt (mr HO_464001))) (Kd.R_lt (mr HO_470001))) (below_size (ms HB))); replace HO_439001 := rl HO_439001 ho0 hb; replace HO_446001 := rl HO_446001 ho0 hb; replace HO_452001 := rl HO_452001 ho0 hb; replace HO_464001 := rl HO_464001 ho0 hb; replace HO_470001 := rl HO_470001 ho0 hb; replace BK438 := bb BK438 hb; replace BK445 := bb BK445 hb; replace BK451 := bb BK451 hb; replace BK463 := bb BK463 hb; replace BK469 := bb BK469 hb; replace HB := bs HB hb; (try clear hb); (try clear ho0)) | ((with_reducible refine gate_dst (N := 18) rfl ?_); refine box_event ?hg (N := 18) ?hd (cs := #[.int .i64 0, .slice none 0 0]) (t := 26) ?hr ?_; (case hd => rfl); (case hg => rfl); (case hr => first | (go_simp; done) | (go_simp; rfl)); intro gb480 hg w92 hbox hb; replace HO_439001 := rb HO_439001 hb; replace HO_446001 := rb HO_446001 hb; replace HO_452001 := rb HO_452001 hb; replace HO_464001 := rb HO_464001 hb; replace HO_470001 := rb HO_470001 hb; replace HO474 := rb HO474 hb; replace HO478 := rb HO478 hb; have BK480 := Aside0.mk (hbox); have GW480 := gw hg HB; have GE480 := gw hg HB; replace HB := bs HB hb; have NB438_480 := nl hg BK438; have NB480_438 := ng hg BK438; replace BK438 := bb BK438 hb; have NB445_480 := nl hg BK445; have NB480_445 := ng hg BK445; replace BK445 := bb BK445 hb; have NB451_480 := nl hg BK451; have NB480_451 := ng hg BK451; replace BK451 := bb BK451 hb; have NB463_480 := nl hg BK463; have NB480_463 := ng hg BK463; replace BK463 := bb BK463 hb; have NB469_480 := nl hg BK469; have NB480_469 := ng hg BK469; replace BK469 := bb BK469 hb; clear hb hbox hg; have := NB480_438.out; have := NB438_480.out; have := NB480_445.out; have := NB445_480.out; have := NB480_451.out; have := NB451_480.out; have := NB480_463.out; have := NB463_480.out; have := NB480_469.out; have := NB469_480.out; obtain ⟨_, _, _, _⟩ := cFour BK480; obtain ⟨Ao99, co99, eo99⟩ := Kd.R_slice HO478.out; subst eo99) | ((with_reducible refine gate_callee (f := 15) rfl ?_); refine gl (some 107) rfl rfl Tryz.func15 (by kernel_rfl) rfl #[.string t471, .slice Ao90 t472.length co90] rfl ?_; (with_reducible refine (spec_ParseConstraint.calls kj54 t471 _ _ t472 t481 t482 t485 _ ?side1 ?side2 A85.out).mono ?_); (case side1 => refine (Kd.R_reads' (e := 9) (base := w.heap.size) (ok := fun k_ => True) (n := t472.length) (c := co90) ?_).2.2; exact (by (with_reducible repeat (first | apply Kd.R_alloc | apply Kd.R_drewN | apply Kd.R_drew)); exact (rTwo HO474 BK480))); (case side2 => exact (Kd.R_reads' HO474.out).2.1); rintro e w100 ⟨v483, rfl, ho0, hb⟩; refine ⟨_, rfl, ?_⟩; have n0_ := Aside0.mk (Kd.R_elder' (by (with_reducible repeat (first | apply Kd.R_alloc | apply Kd.R_drewN | apply Kd.R_drew)); exact (rTwo HO_439001 BK480)) (Kd.R_base ho0) hb); have n1_ := Aside0.mk (Kd.R_elder' (by (with_reducible repeat (first | apply Kd.R_alloc | apply Kd.R_drewN | apply Kd.R_drew)); exact (rTwo HO_446001 BK480)) (Kd.R_base ho0) hb); have n2_ := Aside0.mk (Kd.R_elder' (by (with_reducible repeat (first | apply Kd.R_alloc | apply Kd.R_drewN | apply Kd.R_drew)); exact (rTwo HO_452001 BK480)) (Kd.R_base ho0) hb); have n3_ := Aside0.mk (Kd.R_elder' (by (with_reducible repeat (first | apply Kd.R_alloc | apply Kd.R_drewN | apply Kd.R_drew)); exact (rTwo HO_464001 BK480)) (Kd.R_base ho0) hb); have n4_ := Aside0.mk (Kd.R_elder' (by (with_reducible repeat (first | apply Kd.R_alloc | apply Kd.R_drewN | apply Kd.R_drew)); exact (rTwo HO_470001 BK480)) (Kd.R_base ho0) hb); have n5_ := Aside0.mk (Kd.R_below (by (with_reducible repeat (first | apply Kd.R_alloc | apply Kd.R_drewN | apply Kd.R_drew)); exact (rTwo HO474 BK480)) hb); have n6_ := Aside0.mk (Kd.R_elder' (by (with_reducible repeat (first | apply Kd.R_alloc | apply Kd.R_drewN | apply Kd.R_drew)); exact (rTwo HO478 BK480)) (Kd.R_base ho0) hb); have n7_ := Aside0.mk (Kd.R_lower (Kd.R_new' (Kd.R_new' (Kd.R_new' (Kd.R_new' (Kd.R_new' (Kd.R_new' ho0 (Kd.R_lt (by (with_reducible repeat (first | apply Kd.R_alloc | apply Kd.R_drewN | apply Kd.R_drew)); exact (rTwo HO_439001 BK480)))) (Kd.R_lt (by (with_reducible repeat (first | apply Kd.R_alloc | apply Kd.R_drewN | apply Kd.R_drew)); exact (rTwo HO_446001 BK480)))) (Kd.R_lt (by (with_reducible repeat (first | apply Kd.R_alloc | apply Kd.R_drewN | apply Kd.R_drew)); exact (rTwo HO_452001 BK480)))) (Kd.R_lt (by (with_reducible repeat (first | apply Kd.R_alloc | apply Kd.R_drewN | apply Kd.R_drew)); exact (rTwo HO_464001 BK480)))) (Kd.R_lt (by (with_reducible repeat (first | apply Kd.R_alloc | apply Kd.R_drewN | apply Kd.R_drew)); exact (rTwo HO_470001 BK480)))) (Kd.R_lt (by (with_reducible repeat (first | apply Kd.R_alloc | apply Kd.R_drewN | apply Kd.R_drew)); exact (rTwo HO478 BK480)))) (below_size (ms HB))); have n8_ := bf BK438 hb; have n9_ := bf BK445 hb; have n10_ := bf BK451 hb; have n11_ := bf BK463 hb; have n12_ := bf BK469 hb; have n13_ := bp BK480 hb; have n14_ := bs HB hb; clear HO_439001 HO_446001 HO_452001 HO_464001 HO_470001 HO474 HO478 BK438 BK445 BK451 BK463 BK469 BK480 HB; have HO_439001 := n0_; have HO_446001 := n1_; have HO_452001 := n2_; have HO_464001 := n3_; have HO_470001 := n4_; have HO474 := n5_; have HO478 := n6_; have HO484 := n7_; have BK438 := n8_; have BK445 := n9_; have BK451 := n10_; have BK463 := n11_; have BK469 := n12_; have BK480 := n13_; have HB := n14_; clear n0_ n1_ n2_ n3_ n4_ n5_ n6_ n7_ n8_ n9_ n10_ n11_ n12_ n13_ n14_; (try clear hb); (try clear ho0)) | ((with_reducible refine gate_dst (N := 20) rfl ?_); refine box_event ?hg (N := 20) ?hd (cs := #[.int .i64 0, .slice none 0 0]) (t := 26) ?hr ?_; (case hd => rfl); (case hg => rfl); (case hr => first | (go_simp; done) | (go_simp; rfl)); intro gb486 hg w101 hbox hb; replace HO_439001 := rb HO_439001 hb; replace HO_446001 := rb HO_446001 hb; replace HO_452001 := rb HO_452001 hb; replace HO_464001 := rb HO_464001 hb; replace HO_470001 := rb HO_470001 hb; replace HO474 := rb HO474 hb; replace HO478 := rb HO478 hb; replace HO484 := rb HO484 hb; have BK486 := Aside0.mk (hbox); have GW486 := gw hg HB; have GE486 := gw hg HB; replace HB := bs HB hb; have NB438_486 := nl hg BK438; have NB486_438 := ng hg BK438; replace BK438 := bb BK438 hb; have NB445_486 := nl hg BK445; have NB486_445 := ng hg BK445; replace BK445 := bb BK445 hb; have NB451_486 := nl hg BK451; have NB486_451 := ng hg BK451; replace BK451 := bb BK451 hb; have NB463_486 := nl hg BK463; have NB486_463 := ng hg BK463; replace BK463 := bb BK463 hb; have NB469_486 := nl hg BK469; have NB486_469 := ng hg BK469; replace BK469 := bb BK469 hb; have NB480_486 := nl hg BK480; have NB486_480 := ng hg BK480; replace BK480 := bb BK480 hb; clear hb hbox hg; have := NB486_438.out; have := NB438_486.out; have := NB486_445.out; have := NB445_486.out; have := NB486_451.out; have := NB451_486.out; have := NB486_463.out; have := NB463_486.out; have := NB486_469.out; have := NB469_486.out; have := NB486_480.out; have := NB480_486.out; obtain ⟨_, _, _, _⟩ := cFour BK486; obtain ⟨Ao109, co109, eo109⟩ := Kd.R_slice HO484.out; subst eo109; obtain ⟨_, _, _, _⟩ := cFour BK480) | (go_at_call 24; (with_reducible refine (impl_FormatConstraint.calls kj54 t475 _ _ t476 _ _ t472 t487 _ ?side1 ?side2 ?side3 ?side4 A88.out).mono ?_); (case side1 => refine (Kd.R_reads' (e := 3) (base := w.heap.size) (ok := fun k_ => ((((((True ∧ some k_ ≠ (.slice Ao12 t432.length co12 : Value).ownBlock) ∧ some k_ ≠ (.slice Ao19 t441.length co19 : Value).ownBlock) ∧ some k_ ≠ (.slice Ao25 t447.length co25 : Value).ownBlock) ∧ some k_ ≠ (.slice Ao64 t459.length co64 : Value).ownBlock) ∧ some k_ ≠ (.slice Ao72 t465.length co72 : Value).ownBlock) ∧ some k_ ≠ (.slice Ao109 t482.length co109 : Value).ownBlock)) (n := t476.length) (c := co99) ?_).2.2; exact (by (with_reducible repeat (first | apply Kd.R_alloc | apply Kd.R_drewN | apply Kd.R_drew)); exact (rTwo HO478 BK486))); (case side2 => exact (Kd.R_reads' HO478.out).2.1); (case side3 => refine (Kd.R_reads' (e := 9) (base := w.heap.size) (ok := fun k_ => True) (n := t472.length) (c := co90) ?_).2.2; exact (by (with_reducible repeat (first | apply Kd.R_alloc | apply Kd.R_drewN | apply Kd.R_drew)); exact (rTwo HO474 BK486))); (case side4 => exact (Kd.R_reads' HO474.out).2.1); rintro e w111 ⟨rfl, hb⟩; have n0_ := Aside0.mk (Kd.R_below (by (with_reducible repeat (first | apply Kd.R_alloc | apply Kd.R_drewN | apply Kd.R_drew)); exact (rTwo HO_439001 BK486)) hb); have n1_ := Aside0.mk (Kd.R_below (by (with_reducible repeat (first | apply Kd.R_alloc | apply Kd.R_drewN | apply Kd.R_drew)); exact (rTwo HO_446001 BK486)) hb); have n2_ := Aside0.mk (Kd.R_below (by (with_reducible repeat (first | apply Kd.R_alloc | apply Kd.R_drewN | apply Kd.R_drew)); exact (rTwo HO_452001 BK486)) hb); have n3_ := Aside0.mk (Kd.R_below (by (with_reducible repeat (first | apply Kd.R_alloc | apply Kd.R_drewN | apply Kd.R_drew)); exact (rTwo HO_464001 BK486)) hb); have n4_ := Aside0.mk (Kd.R_below (by (with_reducible repeat (first | apply Kd.R_alloc | apply Kd.R_drewN | apply Kd.R_drew)); exact (rTwo HO_470001 BK486)) hb); have n5_ := Aside0.mk (Kd.R_below (by (with_reducible repeat (first | apply Kd.R_alloc | apply Kd.R_drewN | apply Kd.R_drew)); exact (rTwo HO474 BK486)) hb); have n6_ := Aside0.mk (Kd.R_below (by (with_reducible repeat (first | apply Kd.R_alloc | apply Kd.R_drewN | apply Kd.R_drew)); exact (rTwo HO478 BK486)) hb); have n7_ := Aside0.mk (Kd.R_below (by (with_reducible repeat (first | apply Kd.R_alloc | apply Kd.R_drewN | apply Kd.R_drew)); exact (rTwo HO484 BK486)) hb); have n8_ := bf BK438 hb; have n9_ := bf BK445 hb; have n10_ := bf BK451 hb; have n11_ := bf BK463 hb; have n12_ := bf BK469 hb; have n13_ := bf BK480 hb; have n14_ := bp BK486 hb; have n15_ := bs HB hb; clear HO_439001 HO_446001 HO_452001 HO_464001 HO_470001 HO474 HO478 HO484 BK438 BK445 BK451 BK463 BK469 BK480 BK486 HB; have HO_439001 := n0_; have HO_446001 := n1_; have HO_452001 := n2_; have HO_464001 := n3_; have HO_470001 := n4_; have HO474 := n5_; have HO478 := n6_; have HO484 := n7_; have BK438 := n8_; have BK445 := n9_; have BK451 := n10_; have BK463 := n11_; have BK469 := n12_; have BK480 := n13_; have BK486 := n14_; have HB := n15_; clear n0_ n1_ n2_ n3_ n4_ n5_ n6_ n7_ n8_ n9_ n10_ n11_ n12_ n13_ n14_ n15_; (try clear hb)))
       go_ret
       exact ⟨by first | rfl | (simp [errW_none, errW_some] <;> rfl) | (simp [*, errW_none, errW_some] <;> rfl), ms HB⟩
      replace c87 := Bool.eq_false_iff.mpr c87
      subst c87
      have H1 : (some true) = some r := by rw [if_neg (show ¬ (false = true) by decide)] at H; exact H
      clear H
      have H := H1
      clear H1
      obtain rfl := Option.some.inj H
      go_wp2_with (first | ((with_reducible refine gate_callee (f := 23) rfl ?_); refine gl (some 95) rfl rfl Tryz.func23 (by kernel_rfl) rfl #[.slice A0 l0.length c0] rfl ?_; (with_reducible refine (spec_DrawParseConstraint.calls kj54 _ _ l0 t471 t472 _ ?side1 ?side2 A83.out).mono ?_); (case side1 => exact mc ((Kd.C_below HR0.out HB.out))); (case side2 => exact HC0.out); rintro e w112 ⟨v473, rfl, ho0, hb⟩; refine ⟨_, rfl, ?_⟩; replace HO_439001 := rb HO_439001 hb; replace HO_446001 := rb HO_446001 hb; replace HO_452001 := rb HO_452001 hb; replace HO_464001 := rb HO_464001 hb; replace HO_470001 := rb HO_470001 hb; have HO474 := Aside0.mk (Kd.R_lower ho0 (below_size (ms HB))); replace BK438 := bb BK438 hb; replace BK445 := bb BK445 hb; replace BK451 := bb BK451 hb; replace BK463 := bb BK463 hb; replace BK469 := bb BK469 hb; replace HB := bs HB hb; (try clear hb); (try clear ho0); obtain ⟨Ao113, co113, eo113⟩ := Kd.R_slice HO474.out; subst eo113) | ((with_reducible refine gate_callee (f := 16) rfl ?_); refine gl (some 101) rfl rfl Tryz.func16 (by kernel_rfl) rfl #[.string t471, .slice Ao113 t472.length co113] rfl ?_; (with_reducible refine (impl_ParseConstraint.calls kj54 t471 _ _ t472 t475 t476 false _ ?side1 ?side2 A84.out).mono ?_); (case side1 => exact mc ((Kd.R_reads' HO474.out).2.2)); (case side2 => exact (Kd.R_reads' HO474.out).2.1); rintro e w114 ⟨v477, rfl, ho0, hb⟩; refine ⟨_, rfl, ?_⟩; replace HO474 := rb HO474 hb; have HO478 := Aside0.mk (Kd.R_lower (Kd.R_new' (Kd.R_new' (Kd.R_new' (Kd.R_new' (Kd.R_new' ho0 (Kd.R_lt (mr HO_439001))) (Kd.R_lt (mr HO_446001))) (Kd.R_lt (mr HO_452001))) (Kd.R_lt (mr HO_464001))) (Kd.R_lt (mr HO_470001))) (below_size (ms HB))); replace HO_439001 := rl HO_439001 ho0 hb; replace HO_446001 := rl HO_446001 ho0 hb; replace HO_452001 := rl HO_452001 ho0 hb; replace HO_464001 := rl HO_464001 ho0 hb; replace HO_470001 := rl HO_470001 ho0 hb; replace BK438 := bb BK438 hb; replace BK445 := bb BK445 hb; replace BK451 := bb BK451 hb; replace BK463 := bb BK463 hb; replace BK469 := bb BK469 hb; replace HB := bs HB hb; (try clear hb); (try clear ho0)) | ((with_reducible refine gate_dst (N := 18) rfl ?_); refine box_event ?hg (N := 18) ?hd (cs := #[.int .i64 0, .slice none 0 0]) (t := 26) ?hr ?_; (case hd => rfl); (case hg => rfl); (case hr => first | (go_simp; done) | (go_simp; rfl)); intro gb480 hg w115 hbox hb; replace HO_439001 := rb HO_439001 hb; replace HO_446001 := rb HO_446001 hb; replace HO_452001 := rb HO_452001 hb; replace HO_464001 := rb HO_464001 hb; replace HO_470001 := rb HO_470001 hb; replace HO474 := rb HO474 hb; replace HO478 := rb HO478 hb; have BK480 := Aside0.mk (hbox); have GW480 := gw hg HB; have GE480 := gw hg HB; replace HB := bs HB hb; have NB438_480 := nl hg BK438; have NB480_438 := ng hg BK438; replace BK438 := bb BK438 hb; have NB445_480 := nl hg BK445; have NB480_445 := ng hg BK445; replace BK445 := bb BK445 hb; have NB451_480 := nl hg BK451; have NB480_451 := ng hg BK451; replace BK451 := bb BK451 hb; have NB463_480 := nl hg BK463; have NB480_463 := ng hg BK463; replace BK463 := bb BK463 hb; have NB469_480 := nl hg BK469; have NB480_469 := ng hg BK469; replace BK469 := bb BK469 hb; clear hb hbox hg; have := NB480_438.out; have := NB438_480.out; have := NB480_445.out; have := NB445_480.out; have := NB480_451.out; have := NB451_480.out; have := NB480_463.out; have := NB463_480.out; have := NB480_469.out; have := NB469_480.out; obtain ⟨_, _, _, _⟩ := cFour BK480; obtain ⟨Ao122, co122, eo122⟩ := Kd.R_slice HO478.out; subst eo122) | ((with_reducible refine gate_callee (f := 15) rfl ?_); refine gl (some 107) rfl rfl Tryz.func15 (by kernel_rfl) rfl #[.string t471, .slice Ao113 t472.length co113] rfl ?_; (with_reducible refine (spec_ParseConstraint.calls kj54 t471 _ _ t472 t481 t482 t485 _ ?side1 ?side2 A85.out).mono ?_); (case side1 => refine (Kd.R_reads' (e := 9) (base := w.heap.size) (ok := fun k_ => True) (n := t472.length) (c := co113) ?_).2.2; exact (by (with_reducible repeat (first | apply Kd.R_alloc | apply Kd.R_drewN | apply Kd.R_drew)); exact (rTwo HO474 BK480))); (case side2 => exact (Kd.R_reads' HO474.out).2.1); rintro e w123 ⟨v483, rfl, ho0, hb⟩; refine ⟨_, rfl, ?_⟩; have n0_ := Aside0.mk (Kd.R_elder' (by (with_reducible repeat (first | apply Kd.R_alloc | apply Kd.R_drewN | apply Kd.R_drew)); exact (rTwo HO_439001 BK480)) (Kd.R_base ho0) hb); have n1_ := Aside0.mk (Kd.R_elder' (by (with_reducible repeat (first | apply Kd.R_alloc | apply Kd.R_drewN | apply Kd.R_drew)); exact (rTwo HO_446001 BK480)) (Kd.R_base ho0) hb); have n2_ := Aside0.mk (Kd.R_elder' (by (with_reducible repeat (first | apply Kd.R_alloc | apply Kd.R_drewN | apply Kd.R_drew)); exact (rTwo HO_452001 BK480)) (Kd.R_base ho0) hb); have n3_ := Aside0.mk (Kd.R_elder' (by (with_reducible repeat (first | apply Kd.R_alloc | apply Kd.R_drewN | apply Kd.R_drew)); exact (rTwo HO_464001 BK480)) (Kd.R_base ho0) hb); have n4_ := Aside0.mk (Kd.R_elder' (by (with_reducible repeat (first | apply Kd.R_alloc | apply Kd.R_drewN | apply Kd.R_drew)); exact (rTwo HO_470001 BK480)) (Kd.R_base ho0) hb); have n5_ := Aside0.mk (Kd.R_below (by (with_reducible repeat (first | apply Kd.R_alloc | apply Kd.R_drewN | apply Kd.R_drew)); exact (rTwo HO474 BK480)) hb); have n6_ := Aside0.mk (Kd.R_elder' (by (with_reducible repeat (first | apply Kd.R_alloc | apply Kd.R_drewN | apply Kd.R_drew)); exact (rTwo HO478 BK480)) (Kd.R_base ho0) hb); have n7_ := Aside0.mk (Kd.R_lower (Kd.R_new' (Kd.R_new' (Kd.R_new' (Kd.R_new' (Kd.R_new' (Kd.R_new' ho0 (Kd.R_lt (by (with_reducible repeat (first | apply Kd.R_alloc | apply Kd.R_drewN | apply Kd.R_drew)); exact (rTwo HO_439001 BK480)))) (Kd.R_lt (by (with_reducible repeat (first | apply Kd.R_alloc | apply Kd.R_drewN | apply Kd.R_drew)); exact (rTwo HO_446001 BK480)))) (Kd.R_lt (by (with_reducible repeat (first | apply Kd.R_alloc | apply Kd.R_drewN | apply Kd.R_drew)); exact (rTwo HO_452001 BK480)))) (Kd.R_lt (by (with_reducible repeat (first | apply Kd.R_alloc | apply Kd.R_drewN | apply Kd.R_drew)); exact (rTwo HO_464001 BK480)))) (Kd.R_lt (by (with_reducible repeat (first | apply Kd.R_alloc | apply Kd.R_drewN | apply Kd.R_drew)); exact (rTwo HO_470001 BK480)))) (Kd.R_lt (by (with_reducible repeat (first | apply Kd.R_alloc | apply Kd.R_drewN | apply Kd.R_drew)); exact (rTwo HO478 BK480)))) (below_size (ms HB))); have n8_ := bf BK438 hb; have n9_ := bf BK445 hb; have n10_ := bf BK451 hb; have n11_ := bf BK463 hb; have n12_ := bf BK469 hb; have n13_ := bp BK480 hb; have n14_ := bs HB hb; clear HO_439001 HO_446001 HO_452001 HO_464001 HO_470001 HO474 HO478 BK438 BK445 BK451 BK463 BK469 BK480 HB; have HO_439001 := n0_; have HO_446001 := n1_; have HO_452001 := n2_; have HO_464001 := n3_; have HO_470001 := n4_; have HO474 := n5_; have HO478 := n6_; have HO484 := n7_; have BK438 := n8_; have BK445 := n9_; have BK451 := n10_; have BK463 := n11_; have BK469 := n12_; have BK480 := n13_; have HB := n14_; clear n0_ n1_ n2_ n3_ n4_ n5_ n6_ n7_ n8_ n9_ n10_ n11_ n12_ n13_ n14_; (try clear hb); (try clear ho0)) | ((with_reducible refine gate_dst (N := 20) rfl ?_); refine box_event ?hg (N := 20) ?hd (cs := #[.int .i64 0, .slice none 0 0]) (t := 26) ?hr ?_; (case hd => rfl); (case hg => rfl); (case hr => first | (go_simp; done) | (go_simp; rfl)); intro gb486 hg w124 hbox hb; replace HO_439001 := rb HO_439001 hb; replace HO_446001 := rb HO_446001 hb; replace HO_452001 := rb HO_452001 hb; replace HO_464001 := rb HO_464001 hb; replace HO_470001 := rb HO_470001 hb; replace HO474 := rb HO474 hb; replace HO478 := rb HO478 hb; replace HO484 := rb HO484 hb; have BK486 := Aside0.mk (hbox); have GW486 := gw hg HB; have GE486 := gw hg HB; replace HB := bs HB hb; have NB438_486 := nl hg BK438; have NB486_438 := ng hg BK438; replace BK438 := bb BK438 hb; have NB445_486 := nl hg BK445; have NB486_445 := ng hg BK445; replace BK445 := bb BK445 hb; have NB451_486 := nl hg BK451; have NB486_451 := ng hg BK451; replace BK451 := bb BK451 hb; have NB463_486 := nl hg BK463; have NB486_463 := ng hg BK463; replace BK463 := bb BK463 hb; have NB469_486 := nl hg BK469; have NB486_469 := ng hg BK469; replace BK469 := bb BK469 hb; have NB480_486 := nl hg BK480; have NB486_480 := ng hg BK480; replace BK480 := bb BK480 hb; clear hb hbox hg; have := NB486_438.out; have := NB438_486.out; have := NB486_445.out; have := NB445_486.out; have := NB486_451.out; have := NB451_486.out; have := NB486_463.out; have := NB463_486.out; have := NB486_469.out; have := NB469_486.out; have := NB486_480.out; have := NB480_486.out; obtain ⟨_, _, _, _⟩ := cFour BK486; obtain ⟨Ao132, co132, eo132⟩ := Kd.R_slice HO484.out; subst eo132))
      go_ret
      exact ⟨by first | rfl | (simp [errW_none, errW_some] <;> rfl) | (simp [*, errW_none, errW_some] <;> rfl), ms HB⟩
     rw [if_neg c86] at H
     have c86b0 : (t479 == t485) = false := by simpa using c86
     (try (have c86b1 : decide (t479 = t485) = false := by simpa using c86))
     (try (have c86b2 : (t479 == t485) = false := by simpa using c86))
     (try (have c86b3 : ¬ (t479 = t485) := by simpa using c86))
     clear c86
     obtain rfl := Option.some.inj H
     exact absurd hT_ (by decide)

/-- THE ONE PURE STATEMENT of laws_FnLinText. -/
def laws_FnLinText.Pure : Prop := ∀ (l0 : List Int), (l0.length ≤ 9223372036854775807 ∧ ∀ x0 ∈ l0, (Lit.int .u8 x0).wf = true) → ∃ k, laws_FnLinText.f k l0 = some true

end Go.Proofs.YtmdjhmggogfbdaaGreatDoor.QFnLinText
