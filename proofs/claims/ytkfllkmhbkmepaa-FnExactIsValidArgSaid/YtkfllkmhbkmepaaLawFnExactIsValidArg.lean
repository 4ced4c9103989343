/- The law FnExactIsValidArg holds: whatever comes in that can be read as data, the call returns true and leaves its arguments as they were. -/
import Derived.Test.YtkfllkmhbkmepaaRows
import Derived.Test.YtkfllkmhbkmepaaQFnExactIsValidArgx8
import Derived.Test.YtkfllkmhbkmepaaPureFnExactIsValidArg
import Derived.Test.YtkfllkmhbkmepaaOpn
import Derived.WalkKit
import Derived.ProofKit
import Derived.OpenShut
import Derived.ShutString
import Derived.ChangeOld
import Derived.Below
import Derived.SizedLaws
import Derived.Carry
namespace Go.Proofs.Ytkfllkmhbkmepaa.fnExactIsValidArg
open Go.ChangeShapes Go.WideShapes Go.ChangeAt Go.RowKit Go.Proofs.Ytkfllkmhbkmepaa Go.Proofs.Ytkfllkmhbkmepaa.QFnExactIsValidArg Go.Proofs.YtkfllkmhbkmepaaV.PrintWords
open Go.ChangeMaps (open_string shut_string)
set_option linter.unusedVariables false
theorem own : ownKnob Try.prog.godebug = none := by kernel_rfl
theorem laidOut : laidOutB Try.prog = true := by kernel_rfl
set_option maxRecDepth 100000 in
theorem lifted (os : Os) (started : os.Started) (H : Type) (enc : TypeId × Value → H) :
    ReturnsInHanded {} Try.checked os 13 .any (Rows.fnExactIsValidArgSpec.pre6 enc Try.prog Try.f13 Rows.fnExactIsValidArgRow.domain false) (Rows.fnExactIsValidArgSpec.post enc Try.prog Try.f13 false true false false) := by
  refine returnsInHanded_of_change_sized (C := Try.checked) own started (by kernel_rfl) Try.func13
    (ChangeSpec.witness6 (enc := enc) (C := Try.checked) false ⟨#[], #[(.agg #[(.bool false), (.slice none 0 0), (.string ⟨#[]⟩)])], []⟩ 8 (by kernel_rfl) (by kernel_rfl) (by kernel_rfl) (by kernel_rfl)) ?_
  intro W base args ds gs before hval0 hW hcnd hsz0 _
  have hval : ∀ (j : Nat) t v, Try.f13.params[j]? = some t → args[j]? = some v → Value.okWide Try.prog W .any base t v := hval0
  have hW' := hW
  obtain ⟨p, q, hA0, hV, rfl, hfz, hnd⟩ := hW
  have hA : DataW.TrodAll enc Try.prog W 0 (fun _ => true) true Try.f13.params.toList args.toList ds p := hA0
  rw [Try.params13] at hA hval
  obtain ⟨v0, vs0, d0, ds0, p0, q0, hargs, rfl, rfl, h0, r0⟩ := trodAll_cons hA
  obtain ⟨rfl, rfl, rfl⟩ := trodAll_nil r0
  obtain rfl : args = #[v0] := by cases args; simp_all
  obtain ⟨rfl, rfl⟩ := trodVars_none hV
  have k0 := h0
  have lt0 : ∀ x ∈ p0, x.block < W.heap.size := by obtain ⟨m, hm⟩ := k0; exact DataW.trod_lt m _ _ _ hm
  obtain ⟨y0, cs0, rfl, hK0, g0⟩ := Opn.Opn.arg_struct (d := k68) Try.underlying68 (Opn.Opn.iso (Opn.Opn.struct3 Try.underlying68 (Opn.Opn.bool Try.underlying4) (Opn.Opn.slice Try.underlying66 (by kernel_rfl) (Opn.Opn.iso (Opn.Opn.struct2 Try.underlying35 (Opn.Opn.int Try.underlying3) (Opn.Opn.slice Try.underlying33 (by kernel_rfl) (Opn.Opn.iso (Opn.Opn.struct2 Try.underlying118 (Opn.Opn.int Try.underlying3) (Opn.Opn.string Try.underlying9) rfl (by kernel_rfl) rfl (by kernel_rfl) (by kernel_rfl)) (fun x : S118 => (x.f0, x.f1)) (fun y => ⟨y.1, y.2⟩) (fun _ => rfl))) rfl (by kernel_rfl) rfl (by kernel_rfl) (by kernel_rfl)) (fun x : S35 => (x.f0, x.f1)) (fun y => ⟨y.1, y.2⟩) (fun _ => rfl))) (Opn.Opn.string Try.underlying9) rfl (by kernel_rfl) rfl (by kernel_rfl) rfl (by kernel_rfl) (by kernel_rfl)) (fun x : S68 => (x.f0, x.f1, x.f2)) (fun y => ⟨y.1, y.2.1, y.2.2⟩) (fun _ => rfl)) (hval 0 68 v0 rfl rfl) h0
  obtain ⟨A0_1, c0_1, e0, hc0_1, hr0_1⟩ := k68_open hK0
  obtain rfl : cs0 = (#[.bool y0.f0, .slice A0_1 y0.f1.length c0_1, .string y0.f2] : Array Value) := Array.toList_inj.mp e0
  obtain ⟨g0_0, g0_1, g0_2⟩ := g0
  clear hA0 hval0 hsz0
  obtain ⟨k, h⟩ := Pure.FnExactIsValidArg y0.f0 y0.f1 y0.f2 g0_1 g0_2
  refine (laws_FnExactIsValidArg.calls k y0.f0 _ _ y0.f1 y0.f2 true W hr0_1 hc0_1 h).mono fun e W' ⟨he, bel⟩ => ?_
  subst he
  exact ⟨_, rfl, _, _, _, [], _, [], hW', trodAll_mk1 (shut_bool Try.underlying4 _), (trodAll_cons_mk (Below.trod laidOut (by kernel_rfl) (of_decide_eq_true (by kernel_rfl)) k0 bel lt0) trodAll_mk0), rfl, bel.frame _, fun h => by cases h⟩
theorem over : Rows.fnExactIsValidArgRow.holds Try.pinned (OpenSpec.ofChange Rows.fnExactIsValidArgSpec) :=
  OpenClaim.holds_of_wide 13 Try.f13 rfl rfl rfl rfl rfl rfl rfl ⟨rfl, rfl, rfl, rfl, rfl⟩ rfl rfl rfl rfl rfl (by kernel_rfl) Try.func13 (by kernel_rfl)
    (of_decide_eq_true (by kernel_rfl)) (by unfold Func.isWrapper; first | (rw [if_pos (by decide +kernel)]; kernel_rfl) | (rw [if_neg (by decide +kernel)]; exact ⟨rfl, rfl⟩))
    (fun os started H enc _ => lifted os started H enc)
theorem proved : Rows.FnExactIsValidArgSaid := over
#print axioms proved
end Go.Proofs.Ytkfllkmhbkmepaa.fnExactIsValidArg
namespace Go.Proofs.Ytkfllkmhbkmepaa
/-- The row, under a short name, for the claim. -/
theorem fnExactIsValidArg_holds : Rows.FnExactIsValidArgSaid := fnExactIsValidArg.proved
end Go.Proofs.Ytkfllkmhbkmepaa
