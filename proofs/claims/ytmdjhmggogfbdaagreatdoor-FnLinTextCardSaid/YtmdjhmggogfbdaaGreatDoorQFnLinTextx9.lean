-- Made by a program of this claim's own (wip/print): not the kit's print as it stands.
import Derived.Test.YtmdjhmggogfbdaaGreatDoorUFnLinTextTri
import Derived.Test.YtmdjhmggogfbdaaGreatDoorQFnLinTextx0
import Derived.Test.YtmdjhmggogfbdaaGreatDoorQFnLinTextx6
import Derived.Test.YtmdjhmggogfbdaaGreatDoorQFnLinTextx7
namespace Go.Proofs.YtmdjhmggogfbdaaGreatDoor.QFnLinText
open Go.RowKit Go.Proofs.YtmdjhmggogfbdaaGreatDoorV.PrintWords Go.Proofs.YtmdjhmggogfbdaaGreatDoorV.PrintLast Go.Proofs.YtmdjhmggogfbdaaGreatDoorV.PrintMore
attribute [local go_sem] max2_int min2_int max_two min_two max_three min_three max_four min_four   -- for this text's walks alone
set_option linter.unusedVariables false
set_option linter.unusedSimpArgs false

def impl_ParseInt.f (a0 : ByteArray) : Option (Int × Bool) := if a0.size > 13 then some (0, false) else match Lib.atoi a0.data.toList with
 | none => some (0, false)
 | some n => if -999999999999 ≤ n ∧ n ≤ 999999999999 ∧ (⟨(Lib.itoa n).toArray⟩ : ByteArray) = a0 then some (n, true) else some (0, false)
set_option maxHeartbeats 8000000 in
set_option maxRecDepth 100000 in
theorem impl_ParseInt.calls (a0 : ByteArray) (r1 : Int) (r2 : Bool) (w : World) (h : impl_ParseInt.f a0 = some (r1, r2)) (hTb_ : TbL w := by first | assumption | ((with_reducible repeat (first | apply tb_alloc | apply tb_drewN | apply tb_drew)); first | assumption | exact tb_of (by assumption) (by assumption) | exact tb_of (by assumption) ⟨below_set (below_set (Aside0.out (by assumption)) (Aside0.out (by assumption))) (Aside0.out (by assumption))⟩)) :
  Calls Tryz.prog 82 #[.string a0] w fun e w' => e = .returned (.tuple #[.int .i64 r1, .bool r2]) ∧ Below w.heap.size w w' := by
 have HB := Aside0.mk (Below.refl w.heap.size w)
 unfold impl_ParseInt.f at h
 by_cases h13 : a0.size > 13
 ·rw [if_pos h13] at h
  obtain ⟨rfl, rfl⟩ : 0 = r1 ∧ false = r2 := by simpa using h
  have b0 : decide ((13 : Int) < (a0.size : Int)) = true := decide_eq_true (by omega)
  have b1 : decide (13 < a0.size) = true := decide_eq_true (by omega)
  go_enter Tryz.func82, Tryz.ntmps82
  go_wp2
  go_ret2
  exact ⟨rfl, HB.out⟩
 ·rw [if_neg h13] at h
  have b0 : decide ((13 : Int) < (a0.size : Int)) = false := decide_eq_false (by omega)
  have b1 : decide (13 < a0.size) = false := decide_eq_false (by omega)
  have hs : a0.size ≤ 18 := by omega
  have b2 : decide ((18 : Int) < (a0.size : Int)) = false := decide_eq_false (by omega)
  obtain ⟨tp, p, hv⟩ := hTb_.2.1 "strconv.ErrSyntax" (by simp)
  cases ha : Lib.atoi a0.data.toList with
  | none =>
   rw [ha] at h
   obtain ⟨rfl, rfl⟩ : 0 = r1 ∧ false = r2 := by simpa using h
   clear hTb_
   go_enter Tryz.func82, Tryz.ntmps82
   go_wp2_with (go_at_call 94; refine (Tryz.strconv_Atoi_err_var a0 hs ha tp p w hv).mono ?_; rintro e w1 ⟨N, rfl, h1, h2, hb⟩; clear h1 h2; have HB1 := Aside0.mk hb; clear hb)
   go_ret2
   exact ⟨rfl, HB1.out⟩
  | some n =>
   rw [ha] at h
   have hT := Aside0.mk hTb_
   clear hTb_ hv
   by_cases hl : -999999999999 ≤ n
   ·by_cases hh : n ≤ 999999999999
    ·have hw : impl_within.f n (-999999999999) 999999999999 = some true := by unfold impl_within.f; rw [if_pos (show n ≥ -999999999999 from hl)]; simp [hh]
     have hf : impl_FormatInt.f n = some ⟨(Lib.itoa n).toArray⟩ := by simp only [impl_FormatInt.f, strconv_Itoa_72.f]; rw [if_pos ⟨by omega, by omega⟩]; rfl
     by_cases he : (⟨(Lib.itoa n).toArray⟩ : ByteArray) = a0
     ·rw [show (match some n with | none => some ((0 : Int), false) | some n => if -999999999999 ≤ n ∧ n ≤ 999999999999 ∧ (⟨(Lib.itoa n).toArray⟩ : ByteArray) = a0 then some (n, true) else some (0, false)) = some (n, true) from if_pos ⟨hl, hh, he⟩] at h
      obtain ⟨rfl, rfl⟩ : n = r1 ∧ true = r2 := by simpa using h
      rw [he] at hf
      clear he
      go_enter Tryz.func82, Tryz.ntmps82
      go_wp2_with (first | (go_at_call 94; refine (Tryz.strconv_Atoi a0 n hs ha w).mono ?_; rintro e w1 ⟨rfl, t, hw1⟩; have HB1 : Aside0 (Below w.heap.size w w1) := ⟨by rw [hw1]; exact Lib.bytesWorld_below _ _ _⟩; clear hw1) | (go_at_call 60; refine (impl_within.calls n (-999999999999) 999999999999 true _ hw).mono ?_; rintro e w2 ⟨rfl, ⟨nd, rfl⟩⟩) | (go_at_call 49; refine (impl_FormatInt.calls n _ _ hf (Tb.on hT.out (by repeat (first | exact HB1.out | apply pw_below_drewN)))).mono ?_; rintro e w3 ⟨rfl, hb⟩; have HB3 := Aside0.mk (Below.trans (by repeat (first | exact HB1.out | apply pw_below_drewN)) (hb.mono HB1.out.size)); clear hb))
      go_ret2
      exact ⟨rfl, HB3.out⟩
     ·rw [show (match some n with | none => some ((0 : Int), false) | some n => if -999999999999 ≤ n ∧ n ≤ 999999999999 ∧ (⟨(Lib.itoa n).toArray⟩ : ByteArray) = a0 then some (n, true) else some (0, false)) = some (0, false) from if_neg (fun x => he x.2.2)] at h
      obtain ⟨rfl, rfl⟩ : 0 = r1 ∧ false = r2 := by simpa using h
      generalize hz : (⟨(Lib.itoa n).toArray⟩ : ByteArray) = z at he hf
      have bz : (z.toList == a0.toList) = false := by rw [beq_eq_false_iff_ne, Lib.toList_data, Lib.toList_data]; exact fun e => he (ByteArray.ext (Array.toList_inj.1 e))
      have bz2 : ¬ z.toList = a0.toList := by simpa using bz
      go_enter Tryz.func82, Tryz.ntmps82
      go_wp2_with (first | (go_at_call 94; refine (Tryz.strconv_Atoi a0 n hs ha w).mono ?_; rintro e w1 ⟨rfl, t, hw1⟩; have HB1 : Aside0 (Below w.heap.size w w1) := ⟨by rw [hw1]; exact Lib.bytesWorld_below _ _ _⟩; clear hw1) | (go_at_call 60; refine (impl_within.calls n (-999999999999) 999999999999 true _ hw).mono ?_; rintro e w2 ⟨rfl, ⟨nd, rfl⟩⟩) | (go_at_call 49; refine (impl_FormatInt.calls n _ _ hf (Tb.on hT.out (by repeat (first | exact HB1.out | apply pw_below_drewN)))).mono ?_; rintro e w3 ⟨rfl, hb⟩; have HB3 := Aside0.mk (Below.trans (by repeat (first | exact HB1.out | apply pw_below_drewN)) (hb.mono HB1.out.size)); clear hb))
      go_ret2
      exact ⟨rfl, HB3.out⟩
    ·have hw : impl_within.f n (-999999999999) 999999999999 = some false := by unfold impl_within.f; rw [if_pos (show n ≥ -999999999999 from hl)]; simp; omega
     rw [show (match some n with | none => some ((0 : Int), false) | some n => if -999999999999 ≤ n ∧ n ≤ 999999999999 ∧ (⟨(Lib.itoa n).toArray⟩ : ByteArray) = a0 then some (n, true) else some (0, false)) = some (0, false) from if_neg (fun x => hh x.2.1)] at h
     obtain ⟨rfl, rfl⟩ : 0 = r1 ∧ false = r2 := by simpa using h
     go_enter Tryz.func82, Tryz.ntmps82
     go_wp2_with (first | (go_at_call 94; refine (Tryz.strconv_Atoi a0 n hs ha w).mono ?_; rintro e w1 ⟨rfl, t, hw1⟩; have HB1 : Aside0 (Below w.heap.size w w1) := ⟨by rw [hw1]; exact Lib.bytesWorld_below _ _ _⟩; clear hw1) | (go_at_call 60; refine (impl_within.calls n (-999999999999) 999999999999 false _ hw).mono ?_; rintro e w2 ⟨rfl, ⟨nd, rfl⟩⟩))
     go_ret2
     exact ⟨rfl, by repeat (first | exact HB1.out | apply pw_below_drewN)⟩
   ·have hw : impl_within.f n (-999999999999) 999999999999 = some false := by unfold impl_within.f; rw [if_neg (show ¬ n ≥ -999999999999 from hl)]
    rw [show (match some n with | none => some ((0 : Int), false) | some n => if -999999999999 ≤ n ∧ n ≤ 999999999999 ∧ (⟨(Lib.itoa n).toArray⟩ : ByteArray) = a0 then some (n, true) else some (0, false)) = some (0, false) from if_neg (fun x => hl x.1)] at h
    obtain ⟨rfl, rfl⟩ : 0 = r1 ∧ false = r2 := by simpa using h
    go_enter Tryz.func82, Tryz.ntmps82
    go_wp2_with (first | (go_at_call 94; refine (Tryz.strconv_Atoi a0 n hs ha w).mono ?_; rintro e w1 ⟨rfl, t, hw1⟩; have HB1 : Aside0 (Below w.heap.size w w1) := ⟨by rw [hw1]; exact Lib.bytesWorld_below _ _ _⟩; clear hw1) | (go_at_call 60; refine (impl_within.calls n (-999999999999) 999999999999 false _ hw).mono ?_; rintro e w2 ⟨rfl, ⟨nd, rfl⟩⟩))
    go_ret2
    exact ⟨rfl, by repeat (first | exact HB1.out | apply pw_below_drewN)⟩

/-! ### impl_ParseNumber: function 59 -/
def impl_ParseNumber.f (a0 : ByteArray) : Option (Int × Bool) := (impl_ParseInt.f a0).bind fun bt194 => (if bt194.2 = true then ((impl_within.f bt194.1 0 999999).bind fun t196 => (if t196 = true then (some (bt194.1, true)) else (some (0, false)))) else (some (0, false)))
set_option maxHeartbeats 8000000 in
set_option maxRecDepth 100000 in
theorem impl_ParseNumber.calls (a0 : ByteArray) (r1 : Int) (r2 : Bool) (w : World) (h : impl_ParseNumber.f a0 = some (r1, r2)) (hTb_ : TbL w := by first | assumption | ((with_reducible repeat (first | apply tb_alloc | apply tb_drewN | apply tb_drew)); first | assumption | exact tb_of (by assumption) (by assumption) | exact tb_of (by assumption) ⟨below_set (below_set (Aside0.out (by assumption)) (Aside0.out (by assumption))) (Aside0.out (by assumption))⟩)) :
  Calls Tryz.prog 59 #[.string a0] w fun e w' => e = .returned (.tuple #[.int .i64 r1, .bool r2]) ∧ Below w.heap.size w w' := by
 have HB := Aside0.mk (Below.refl w.heap.size w)
 have H : ((impl_ParseInt.f a0).bind fun bt194 => (if bt194.2 = true then ((impl_within.f bt194.1 0 999999).bind fun t196 => (if t196 = true then (some (bt194.1, true)) else (some (0, false)))) else (some (0, false)))) = some (r1, r2) := h
 clear h
 replace H := Option.bind_eq_some_iff.mp H
 obtain ⟨⟨t194, t195⟩, A20, H⟩ := H
 replace H : (if t195 = true then ((impl_within.f t194 0 999999).bind fun t196 => (if t196 = true then (some (t194, true)) else (some (0, false)))) else (some (0, false))) = some (r1, r2) := H
 have A2 := Aside0.mk A20
 clear A20
 by_cases c3 : t195 = true
 ·subst c3
  have H1 : ((impl_within.f t194 0 999999).bind fun t196 => (if t196 = true then (some (t194, true)) else (some (0, false)))) = some (r1, r2) := by rw [if_pos rfl] at H; exact H
  clear H
  have H := H1
  clear H1
  replace H := Option.bind_eq_some_iff.mp H
  obtain ⟨t196, A40, H⟩ := H
  replace H : (if t196 = true then (some (t194, true)) else (some (0, false))) = some (r1, r2) := H
  have A4 := Aside0.mk A40
  clear A40
  by_cases c5 : t196 = true
  ·subst c5
   have H1 : (some (t194, true)) = some (r1, r2) := by rw [if_pos rfl] at H; exact H
   clear H
   have H := H1
   clear H1
   simp only [Option.some.injEq, Prod.mk.injEq] at H
   obtain ⟨rfl, rfl⟩ := H
   go_enter Tryz.func59, Tryz.ntmps59
   go_wp2_with (first | ((with_reducible refine gate_callee (f := 82) rfl ?_); refine gl (some 8) rfl rfl Tryz.func82 (by kernel_rfl) rfl #[.string a0] rfl ?_; (with_reducible refine (impl_ParseInt.calls a0 t194 true _ A2.out).mono ?_); rintro e w6 ⟨rfl, hb⟩; refine ⟨_, rfl, ?_⟩; replace HB := bs HB hb; (try clear hb)) | (go_at_call 60; (with_reducible refine (impl_within.calls t194 0 999999 true _ A4.out).mono ?_); rintro e w' ⟨rfl, ⟨nd, rfl⟩⟩))
   go_ret2
   exact ⟨by first | rfl | (simp [errW_none, errW_some] <;> rfl) | (simp [*, errW_none, errW_some] <;> rfl), ms HB⟩
  ·replace c5 := Bool.eq_false_iff.mpr c5
   subst c5
   have H1 : (some (0, false)) = some (r1, r2) := by rw [if_neg (show ¬ (false = true) by decide)] at H; exact H
   clear H
   have H := H1
   clear H1
   simp only [Option.some.injEq, Prod.mk.injEq] at H
   obtain ⟨rfl, rfl⟩ := H
   go_enter Tryz.func59, Tryz.ntmps59
   go_wp2_with (first | ((with_reducible refine gate_callee (f := 82) rfl ?_); refine gl (some 8) rfl rfl Tryz.func82 (by kernel_rfl) rfl #[.string a0] rfl ?_; (with_reducible refine (impl_ParseInt.calls a0 t194 true _ A2.out).mono ?_); rintro e w7 ⟨rfl, hb⟩; refine ⟨_, rfl, ?_⟩; replace HB := bs HB hb; (try clear hb)) | (go_at_call 60; (with_reducible refine (impl_within.calls t194 0 999999 false _ A4.out).mono ?_); rintro e w' ⟨rfl, ⟨nd, rfl⟩⟩))
   go_ret2
   exact ⟨by first | rfl | (simp [errW_none, errW_some] <;> rfl) | (simp [*, errW_none, errW_some] <;> rfl), ms HB⟩
 ·replace c3 := Bool.eq_false_iff.mpr c3
  subst c3
  have H1 : (some (0, false)) = some (r1, r2) := by rw [if_neg (show ¬ (false = true) by decide)] at H; exact H
  clear H
  have H := H1
  clear H1
  simp only [Option.some.injEq, Prod.mk.injEq] at H
  obtain ⟨rfl, rfl⟩ := H
  go_enter Tryz.func59, Tryz.ntmps59
  go_wp2_with (first | ((with_reducible refine gate_callee (f := 82) rfl ?_); refine gl (some 8) rfl rfl Tryz.func82 (by kernel_rfl) rfl #[.string a0] rfl ?_; (with_reducible refine (impl_ParseInt.calls a0 t194 false _ A2.out).mono ?_); rintro e w8 ⟨rfl, hb⟩; refine ⟨_, rfl, ?_⟩; replace HB := bs HB hb; (try clear hb)))
  go_ret2
  exact ⟨by first | rfl | (simp [errW_none, errW_some] <;> rfl) | (simp [*, errW_none, errW_some] <;> rfl), ms HB⟩

end Go.Proofs.YtmdjhmggogfbdaaGreatDoor.QFnLinText
