-- Made by a program of this claim's own (wip/print): not the kit's print as it stands.
import Derived.Test.YtlencemmlgkflaaUFnEntailedMore
namespace Go.Proofs.YtlencemmlgkflaaV.PrintWords
open Go.RowKit
def Tb (P : Program) (ts : List (String × Array Value)) (es : List String) (gs : List Nat) (w : World) : Prop :=
  (∀ x ∈ ts, w.var? P x.1 = some x.2) ∧ (∀ n ∈ es, ∃ tp p, w.var? P n = some #[.iface tp p]) ∧ (∀ g ∈ gs, ∃ m, w.cell? ⟨g, 0, none⟩ = some (.int .i64 m))
theorem tb_var {P : Program} {n : String} {cs : Array Value} {w w' : World} (h : w.var? P n = some cs) (hb : Below w.heap.size w w') : w'.var? P n = some cs := by
  unfold World.var? at *
  cases hg : P.globalNamed n with
  | none => simp [hg] at h
  | some g =>
    simp only [hg, Option.bind_some] at h ⊢
    have hlt : g < w.heap.size := by
      rcases Nat.lt_or_ge g w.heap.size with h' | h'
      · exact h'
      · rw [Array.getElem?_eq_none h'] at h; simp at h
    rw [hb.block g hlt]
    exact h
theorem Tb.on {P : Program} {ts : List (String × Array Value)} {es : List String} {gs : List Nat} {w w' : World} (h : Tb P ts es gs w) (hb : Below w.heap.size w w') : Tb P ts es gs w' :=
  ⟨fun x hx => tb_var (h.1 x hx) hb, fun n hn => let ⟨tp, p, e⟩ := h.2.1 n hn; ⟨tp, p, tb_var e hb⟩, fun g hg => let ⟨m, e⟩ := h.2.2 g hg; ⟨m, (hb.cell (World.block_lt_of_cell? w _ e)).trans e⟩⟩
theorem own_len {A : Option Addr} {n m c c' : Nat} : (Value.slice A n c).ownBlock = (Value.slice A m c').ownBlock := by cases A <;> rfl
namespace Kd
end Kd
end Go.Proofs.YtlencemmlgkflaaV.PrintWords

