/- What comes in as data at a type is a value of the kind that the printed contracts read: a number, a bool, a string, a slice of what can be so read, a struct of two or three such fields. -/
import Derived.Test.YtlencemmlgkflaaUFnExactFindFarkasWords
import Derived.Deep.Slices
import Derived.ChangeSame
import Derived.OpenShut
import Derived.DataElems
import Derived.Lib.SmallJoins
namespace Go.Proofs.Ytlencemmlgkflaa.Opn
open Go.ChangeShapes Go.WideShapes Go.RowKit Go.Deep Go.Proofs.YtlencemmlgkflaaV.PrintWords
set_option linter.unusedVariables false

/-- At type t reads a value of kind d, and it is good. -/
def Opn {α : Type} (P : Program) (t : TypeId) (d : Kd α) (good : α → Prop) : Prop :=
  ∀ (H : Type) (enc : TypeId × Value → H) (w : World) (base : Nat) (spare : Nat → Bool) (held : Bool) (fuel : Nat) (cs : List Value) (x : DataW H × List MemPlace),
    DataW.trod enc P w base spare held fuel t cs = some x → ∃ y, d.K w y cs ∧ good y

theorem Opn.int {P : Program} {t : TypeId} {k : IntKind} (ht : P.underlying t = some (.int k)) : Opn P t (Kd.int k) (fun n => (Lit.int k n).wf = true) := by
  intro H enc w base spare held fuel cs x h
  obtain ⟨n, rfl, _, hw⟩ := DataW.trod_int ht h
  exact ⟨n, rfl, hw⟩
theorem Opn.bool {P : Program} {t : TypeId} (ht : P.underlying t = some .bool) : Opn P t Kd.bool (fun _ => True) := by
  intro H enc w base spare held fuel cs x h
  obtain ⟨b, rfl, _⟩ := DataW.trod_bool ht h
  exact ⟨b, rfl, trivial⟩
theorem Opn.string {P : Program} {t : TypeId} (ht : P.underlying t = some .string) : Opn P t Kd.string (fun s => s.size ≤ 9223372036854775807) := by
  intro H enc w base spare held fuel cs x h
  obtain ⟨s, rfl, _, hs⟩ := DataW.trod_string ht h
  exact ⟨s, rfl, by unfold maxLen at hs; omega⟩
theorem choose_list {α : Type} (Q : Nat → α → Prop) : ∀ n, (∀ i, i < n → ∃ y, Q i y) → ∃ xs : List α, xs.length = n ∧ ∀ i y, xs[i]? = some y → Q i y := by
  intro n
  induction n with
  | zero => intro _; exact ⟨[], rfl, fun i y h => by simp at h⟩
  | succ n ih =>
    intro h
    obtain ⟨xs, hl, hx⟩ := ih (fun i hi => h i (by omega))
    obtain ⟨y, hy⟩ := h n (by omega)
    refine ⟨xs ++ [y], by simp [hl], fun i z hz => ?_⟩
    by_cases e : i < n
    · rw [List.getElem?_append_left (by omega)] at hz; exact hx i z hz
    · have hi : i < (xs ++ [y]).length := (List.getElem?_eq_some_iff.1 hz).1
      have : i = n := by simp [hl] at hi; omega
      subst this
      rw [List.getElem?_append_right (by omega)] at hz
      simp [hl] at hz
      rw [← hz]; exact hy
theorem Opn.slice {α : Type} {P : Program} {t e : TypeId} {d : Kd α} {good : α → Prop} (ht : P.underlying t = some (.slice e)) (hc : P.cellsOf e = d.sz) (he : Opn P e d good) :
    Opn P t (Kd.slice e d) (fun xs => xs.length ≤ 9223372036854775807 ∧ ∀ x ∈ xs, good x) := by
  intro H enc w base spare held fuel cs x h
  rcases open_slice ht h with ⟨rfl, _⟩ | ⟨a, len, cap, m, n, D, Pl, rfl, hb, hl, hm, hmm, _, hx⟩
  · exact ⟨[], ⟨none, 0, rfl, Nat.le_refl _, rfl, by simp, fun h => by simp at h⟩, by simp, by simp⟩
  · have hlm : len ≤ m := by rw [hmm]; split <;> omega
    obtain ⟨xs, hxl, hxs⟩ := choose_list (fun i y => ∃ c, w.cells? base (a.add (i * P.cellsOf e)) (P.cellsOf e) = some c ∧ d.K w y c ∧ good y) len (fun i hi => by
      obtain ⟨c, h1, h2⟩ := hx i (by omega)
      obtain ⟨y, h3, h4⟩ := he H enc w base spare held n c _ h2
      exact ⟨y, c, h1, h3, h4⟩)
    subst hxl
    refine ⟨xs, ⟨some a, cap, rfl, hl, rfl, by unfold maxLen at hm; omega, fun _ => ⟨a, rfl, fun j p hp => ?_⟩⟩, by unfold maxLen at hm; omega, fun y hy => ?_⟩
    · obtain ⟨c, h1, h2, h3⟩ := hxs j p hp
      obtain ⟨_, hcl, hcell⟩ := World.cells?_some h1
      refine ⟨c, by rw [hcl, hc], h2, fun i u hu => ?_⟩
      have hi : i < c.length := (List.getElem?_eq_some_iff.1 hu).1
      have := hcell i (by omega)
      rw [Addr.add_add, hc] at this
      rw [this]; exact hu
    · obtain ⟨j, hj⟩ := List.mem_iff_getElem?.1 hy
      exact (hxs j y hj).choose_spec.2.2
theorem Opn.struct2 {α β : Type} {P : Program} {t : TypeId} {f0 f1 : Field} {a : Kd α} {b : Kd β} {g0 : α → Prop} {g1 : β → Prop} (ht : P.underlying t = some (.struct #[f0, f1]))
    (h0 : Opn P f0.type a g0) (h1 : Opn P f1.type b g1) (o0 : f0.offset = 0) (c0 : P.cellsOf f0.type = a.sz) (o1 : f1.offset = a.sz) (c1 : P.cellsOf f1.type = b.sz) (ct : P.cellsOf t = a.sz + b.sz) :
    Opn P t (Kd.pair a b) (fun y => g0 y.1 ∧ g1 y.2) := by
  intro H enc w base spare held fuel cs x h
  obtain ⟨y0, y1, n, _, hl, e0, e1⟩ := trod_struct2 ht h
  obtain ⟨p, hp, gp⟩ := h0 H enc w base spare held n _ _ e0
  obtain ⟨q, hq, gq⟩ := h1 H enc w base spare held n _ _ e1
  refine ⟨(p, q), ⟨_, _, ?_, hp, hq⟩, gp, gq⟩
  rw [o0, c0, o1, c1, List.drop_zero, List.take_of_length_le (l := cs.drop a.sz) (by rw [List.length_drop]; omega), List.take_append_drop]
theorem Opn.struct3 {α β γ : Type} {P : Program} {t : TypeId} {f0 f1 f2 : Field} {a : Kd α} {b : Kd β} {c : Kd γ} {g0 : α → Prop} {g1 : β → Prop} {g2 : γ → Prop} (ht : P.underlying t = some (.struct #[f0, f1, f2]))
    (h0 : Opn P f0.type a g0) (h1 : Opn P f1.type b g1) (h2 : Opn P f2.type c g2) (o0 : f0.offset = 0) (c0 : P.cellsOf f0.type = a.sz) (o1 : f1.offset = a.sz) (c1 : P.cellsOf f1.type = b.sz) (o2 : f2.offset = a.sz + b.sz) (c2 : P.cellsOf f2.type = c.sz) (ct : P.cellsOf t = a.sz + (b.sz + c.sz)) :
    Opn P t (Kd.pair a (Kd.pair b c)) (fun y => g0 y.1 ∧ g1 y.2.1 ∧ g2 y.2.2) := by
  intro H enc w base spare held fuel cs x h
  obtain ⟨xs, n, _, _, hl, hlen, hf⟩ := DataW.trod_struct ht h
  match xs, hlen with
  | [y0, y1, y2], _ =>
    have e0 := hf 0 f0 rfl
    have e1 := hf 1 f1 rfl
    have e2 := hf 2 f2 rfl
    obtain ⟨p, hp, gp⟩ := h0 H enc w base spare held n _ _ e0
    obtain ⟨q, hq, gq⟩ := h1 H enc w base spare held n _ _ e1
    obtain ⟨r, hr, gr⟩ := h2 H enc w base spare held n _ _ e2
    refine ⟨(p, q, r), ⟨_, _, ?_, hp, _, _, rfl, hq, hr⟩, gp, gq, gr⟩
    rw [o0, c0, o1, c1, o2, c2, List.drop_zero, List.take_of_length_le (l := cs.drop (a.sz + b.sz)) (by rw [List.length_drop]; omega), ← List.drop_drop, List.take_append_drop, List.take_append_drop]
theorem Opn.iso {α β : Type} {P : Program} {t : TypeId} {d : Kd α} {g : α → Prop} (h : Opn P t d g) (f : β → α) (b : α → β) (hb : ∀ y, f (b y) = y) : Opn P t (Kd.iso d f) (fun x => g (f x)) := by
  intro H enc w base spare held fuel cs x hx
  obtain ⟨y, hy, gy⟩ := h H enc w base spare held fuel cs x hx
  exact ⟨b y, by show d.K w (f (b y)) cs; rw [hb]; exact hy, by show g (f (b y)); rw [hb]; exact gy⟩
/-- A slice that came in. -/
theorem Opn.arg_slice {α H : Type} {enc : TypeId × Value → H} {P : Program} {t e : TypeId} {d : Kd α} {good : α → Prop} {W : World} {base : Nat} {sp : Nat → Bool} {hd : Bool} {A : Option Addr} {len cap : Nat} {x : DataW H} {ps : List MemPlace}
    (ho : Opn P t (Kd.slice e d) (fun xs => xs.length ≤ 9223372036854775807 ∧ ∀ x ∈ xs, good x)) (h : DataW.Trod enc P W base sp hd t (.slice A len cap) x ps) :
    ∃ xs : List α, len = xs.length ∧ xs.length ≤ cap ∧ d.C W A xs.length xs ∧ xs.length ≤ 9223372036854775807 ∧ ∀ x ∈ xs, good x := by
  obtain ⟨fuel, hf⟩ := h
  obtain ⟨xs, ⟨A', c', e1, hl, hC⟩, g1, g2⟩ := ho H enc W base sp hd fuel _ _ hf
  simp only [Value.cells, List.cons.injEq, and_true, Value.slice.injEq] at e1
  obtain ⟨rfl, rfl, rfl⟩ := e1
  exact ⟨xs, rfl, hl, hC, g1, g2⟩
/-- A struct that came in. -/
theorem Opn.arg_struct {α H : Type} {enc : TypeId × Value → H} {P : Program} {t : TypeId} {d : Kd α} {good : α → Prop} {W : World} {base b0 : Nat} {r : Reach} {sp : Nat → Bool} {hd : Bool} {v : Value} {x : DataW H} {ps : List MemPlace} {fs : Array Field}
    (ht : P.underlying t = some (.struct fs)) (ho : Opn P t d good) (hv : Value.okWide P W r b0 t v) (h : DataW.Trod enc P W base sp hd t v x ps) :
    ∃ y cs, v = .agg cs ∧ d.K W y cs.toList ∧ good y := by
  obtain ⟨cs, rfl, _⟩ := okWide_struct ht hv
  obtain ⟨fuel, hf⟩ := h
  obtain ⟨y, hy, gy⟩ := ho H enc W base sp hd fuel _ _ hf
  exact ⟨y, cs, rfl, hy, gy⟩
theorem agg_eq {cs : Array Value} {l : List Value} (h : cs.toList = l) : Value.agg cs = Value.agg l.toArray := by rw [← h]
end Go.Proofs.Ytlencemmlgkflaa.Opn
