/- The law FnExactFindFarkas holds: whatever comes in that can be read as data, the call returns true and leaves its arguments as they were. -/
import Derived.Test.YtlencemmlgkflaaRows
import Derived.Test.YtlencemmlgkflaaQFnExactFindFarkasx15
import Derived.Test.YtlencemmlgkflaaPureFnExactFindFarkas
import Derived.Test.YtlencemmlgkflaaUFnExactFindFarkasOpn
import Derived.WalkKit
import Derived.ProofKit
import Derived.OpenShut
import Derived.ShutString
import Derived.ChangeOld
import Derived.Below
import Derived.SizedLaws
import Derived.Carry
namespace Go.Proofs.Ytlencemmlgkflaa.fnExactFindFarkas
open Go.ChangeShapes Go.WideShapes Go.ChangeAt Go.RowKit Go.Proofs.Ytlencemmlgkflaa Go.Proofs.Ytlencemmlgkflaa.QFnExactFindFarkas Go.Proofs.YtlencemmlgkflaaV.PrintWords
open Go.ChangeMaps (open_string shut_string)
set_option linter.unusedVariables false
theorem own : ownKnob Try.prog.godebug = none := by kernel_rfl
theorem laidOut : laidOutB Try.prog = true := by kernel_rfl
set_option maxRecDepth 100000 in
theorem lifted (os : Os) (started : os.Started) (H : Type) (enc : TypeId × Value → H) :
    ReturnsInHanded {} Try.checked os 8 .any (Rows.fnExactFindFarkasSpec.pre6 enc Try.prog Try.f8 Rows.fnExactFindFarkasRow.domain false) (Rows.fnExactFindFarkasSpec.post enc Try.prog Try.f8 false true false false) := by
  refine returnsInHanded_of_change_sized (C := Try.checked) own started (by kernel_rfl) Try.func8
    (ChangeSpec.witness6 (enc := enc) (C := Try.checked) false ⟨#[], #[(.agg #[(.int .i64 0), (.slice none 0 0)]), (.agg #[(.int .i64 0), (.slice none 0 0)])], []⟩ 8 (by kernel_rfl) (by kernel_rfl) (by kernel_rfl) (by kernel_rfl)) ?_
  intro W base args ds gs before hval0 hW hcnd hsz0 _
  have hval : ∀ (j : Nat) t v, Try.f8.params[j]? = some t → args[j]? = some v → Value.okWide Try.prog W .any base t v := hval0
  have hW' := hW
  obtain ⟨p, q, hA0, hV, rfl, hfz, hnd⟩ := hW
  have hA : DataW.TrodAll enc Try.prog W 0 (fun _ => true) true Try.f8.params.toList args.toList ds p := hA0
  rw [Try.params8] at hA hval
  obtain ⟨v0, vs0, d0, ds0, p0, q0, hargs, rfl, rfl, h0, r0⟩ := trodAll_cons hA
  obtain ⟨v1, vs1, d1, ds1, p1, q1, rfl, rfl, rfl, h1, r1⟩ := trodAll_cons r0
  obtain ⟨rfl, rfl, rfl⟩ := trodAll_nil r1
  obtain rfl : args = #[v0, v1] := by cases args; simp_all
  obtain ⟨rfl, rfl⟩ := trodVars_none hV
  have k0 := h0
  have lt0 : ∀ x ∈ p0, x.block < W.heap.size := by obtain ⟨m, hm⟩ := k0; exact DataW.trod_lt m _ _ _ hm
  obtain ⟨y0, cs0, rfl, hK0, g0⟩ := Opn.Opn.arg_struct (d := k42) Try.underlying42 (Opn.Opn.iso (Opn.Opn.struct2 Try.underlying42 (Opn.Opn.int Try.underlying3) (Opn.Opn.slice Try.underlying40 (by kernel_rfl) (Opn.Opn.iso (Opn.Opn.struct2 Try.underlying43 (Opn.Opn.int Try.underlying3) (Opn.Opn.slice Try.underlying27 (by kernel_rfl) (Opn.Opn.int Try.underlying3)) rfl (by kernel_rfl) rfl (by kernel_rfl) (by kernel_rfl)) (fun x : S43 => (x.f0, x.f1)) (fun y => ⟨y.1, y.2⟩) (fun _ => rfl))) rfl (by kernel_rfl) rfl (by kernel_rfl) (by kernel_rfl)) (fun x : S42 => (x.f0, x.f1)) (fun y => ⟨y.1, y.2⟩) (fun _ => rfl)) (hval 0 42 v0 rfl rfl) h0
  obtain ⟨A0_1, c0_1, e0, hc0_1, hr0_1⟩ := k42_open hK0
  obtain rfl : cs0 = (#[.int .i64 y0.f0, .slice A0_1 y0.f1.length c0_1] : Array Value) := Array.toList_inj.mp e0
  obtain ⟨g0_0, g0_1⟩ := g0
  have k1 := h1
  have lt1 : ∀ x ∈ p1, x.block < W.heap.size := by obtain ⟨m, hm⟩ := k1; exact DataW.trod_lt m _ _ _ hm
  obtain ⟨y1, cs1, rfl, hK1, g1⟩ := Opn.Opn.arg_struct (d := k43) Try.underlying43 (Opn.Opn.iso (Opn.Opn.struct2 Try.underlying43 (Opn.Opn.int Try.underlying3) (Opn.Opn.slice Try.underlying27 (by kernel_rfl) (Opn.Opn.int Try.underlying3)) rfl (by kernel_rfl) rfl (by kernel_rfl) (by kernel_rfl)) (fun x : S43 => (x.f0, x.f1)) (fun y => ⟨y.1, y.2⟩) (fun _ => rfl)) (hval 1 43 v1 rfl rfl) h1
  obtain ⟨A1_1, c1_1, e1, hc1_1, hr1_1⟩ := k43_open hK1
  obtain rfl : cs1 = (#[.int .i64 y1.f0, .slice A1_1 y1.f1.length c1_1] : Array Value) := Array.toList_inj.mp e1
  obtain ⟨g1_0, g1_1⟩ := g1
  clear hA0 hval0 hsz0
  obtain ⟨k, h⟩ := Pure.FnExactFindFarkas y0.f0 y0.f1 y1.f0 y1.f1 g0_0 g0_1 g1_0 g1_1
  refine (laws_FnExactFindFarkas.calls k y0.f0 _ _ y0.f1 y1.f0 _ _ y1.f1 true W hr0_1 hc0_1 hr1_1 hc1_1 rfl h).mono fun e W' ⟨he, bel⟩ => ?_
  subst he
  exact ⟨_, rfl, _, _, _, [], _, [], hW', trodAll_mk1 (shut_bool Try.underlying4 _), (trodAll_cons_mk (Below.trod laidOut (by kernel_rfl) (of_decide_eq_true (by kernel_rfl)) k0 bel lt0) (trodAll_cons_mk (Below.trod laidOut (by kernel_rfl) (of_decide_eq_true (by kernel_rfl)) k1 bel lt1) trodAll_mk0)), rfl, bel.frame _, fun h => by cases h⟩
theorem over : Rows.fnExactFindFarkasRow.holds Try.pinned (OpenSpec.ofChange Rows.fnExactFindFarkasSpec) :=
  OpenClaim.holds_of_wide 8 Try.f8 rfl rfl rfl rfl rfl rfl rfl ⟨rfl, rfl, rfl, rfl, rfl⟩ rfl rfl rfl rfl rfl (by kernel_rfl) Try.func8 (by kernel_rfl)
    (of_decide_eq_true (by kernel_rfl)) (by unfold Func.isWrapper; first | (rw [if_pos (by decide +kernel)]; kernel_rfl) | (rw [if_neg (by decide +kernel)]; exact ⟨rfl, rfl⟩))
    (fun os started H enc _ => lifted os started H enc)
theorem proved : Rows.FnExactFindFarkasSaid := over
#print axioms proved
end Go.Proofs.Ytlencemmlgkflaa.fnExactFindFarkas
namespace Go.Proofs.Ytlencemmlgkflaa
/-- The row, under a short name, for the claim. -/
theorem fnExactFindFarkas_holds : Rows.FnExactFindFarkasSaid := fnExactFindFarkas.proved
end Go.Proofs.Ytlencemmlgkflaa
