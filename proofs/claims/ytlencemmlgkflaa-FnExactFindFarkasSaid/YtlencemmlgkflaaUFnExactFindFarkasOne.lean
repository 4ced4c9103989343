-- Made by a program of this claim's own (wip/print): not the kit's print as it stands.
import Derived.Test.YtlencemmlgkflaaUFnExactFindFarkasMore
namespace Go.Proofs.YtlencemmlgkflaaV.PrintWords
open Go.RowKit
theorem one_R {α : Type} {d : Kd α} {e : Nat} {w : World} {base : Nat} {ok : Nat → Prop} {v : Value} {xs : List α} (h : Aside0 (d.R e w base ok v xs)) : v.oneCell' = true := by obtain ⟨_, _, rfl⟩ := Kd.R_slice h.out; rfl
theorem one_S {α : Type} {d : Kd α} {e : Nat} {w : World} {base : Nat} {ok : Nat → Prop} {v : Value} {xs : List α} (h : Aside0 (d.S e w base ok v xs)) : v.oneCell' = true := by obtain ⟨_, _, rfl⟩ := Kd.S_slice h.out; rfl
theorem one_N {α : Type} {d : Kd α} {e : Nat} {w : World} {base : Nat} {ok : Nat → Prop} {v : Value} {xs : List α} (h : Aside0 (d.N e w base ok v xs)) : v.oneCell' = true := by obtain ⟨_, _, rfl⟩ := Kd.N_slice h.out; rfl
theorem one_V {α : Type} {d : Kd α} {e : Nat} {w : World} {base : Nat} {ok : Nat → Prop} {v : Value} {xs : List α} (h : Aside0 (d.V e w base ok v xs)) : v.oneCell' = true := by obtain ⟨_, _, rfl⟩ := Kd.V_slice h.out; rfl
theorem run_one (P : Program) {v : Value} (h : v.oneCell' = true) : ∀ (a : Addr) (w : World), (store a v).run P w = stored P w a v .plain := fun a w => run_store P w a v .plain h
def Tb (P : Program) (ts : List (String × Array Value)) (es : List String) (gs : List Nat) (w : World) : Prop :=
  (∀ x ∈ ts, w.var? P x.1 = some x.2) ∧ (∀ n ∈ es, ∃ tp p, w.var? P n = some #[.iface tp p]) ∧ (∀ g ∈ gs, ∃ m, w.cell? ⟨g, 0, none⟩ = some (.int .i64 m))
theorem tb_var {P : Program} {n : String} {cs : Array Value} {w w' : World} (h : w.var? P n = some cs) (hb : Below w.heap.size w w') : w'.var? P n = some cs := by
  unfold World.var? at *
  cases hg : P.globalNamed n with
  | none => simp [hg] at h
  | some g =>
    simp only [hg, Option.bind_some] at h ⊢
    have hlt : g < w.heap.size := by
      rcases Nat.lt_or_ge g w.heap.size with h' | h'
      · exact h'
      · rw [Array.getElem?_eq_none h'] at h; simp at h
    rw [hb.block g hlt]
    exact h
theorem Tb.on {P : Program} {ts : List (String × Array Value)} {es : List String} {gs : List Nat} {w w' : World} (h : Tb P ts es gs w) (hb : Below w.heap.size w w') : Tb P ts es gs w' :=
  ⟨fun x hx => tb_var (h.1 x hx) hb, fun n hn => let ⟨tp, p, e⟩ := h.2.1 n hn; ⟨tp, p, tb_var e hb⟩, fun g hg => let ⟨m, e⟩ := h.2.2 g hg; ⟨m, (hb.cell (World.block_lt_of_cell? w _ e)).trans e⟩⟩
namespace Kd
def AndM {α : Type} (d : Kd α) : Prop := ∀ {w : World} {base : Nat} {ok1 ok2 : Nat → Prop} {x : α} {cs : List Value}, d.M w base ok1 x cs → d.M w base ok2 x cs → d.M w base (fun k => ok1 k ∧ ok2 k) x cs
theorem andM_scalar {α : Type} (enc : α → Value) (h1 : ∀ x, (enc x).oneCell' = true) : AndM (scalar enc h1) := fun h _ => h
theorem R_and2 {α : Type} {d : Kd α} {e : Nat} {w : World} {base : Nat} {ok1 ok2 : Nat → Prop} {v : Value} {xs : List α} (hE : d.E = []) (h1 : d.R e w base ok1 v xs) (h2 : d.R e w base ok2 v xs) : d.R e w base (fun k => ok1 k ∧ ok2 k) v xs :=
  R_mono (R_tight hE h1) (fun k hk => ⟨h1.1 k hk.symm, h2.1 k hk.symm⟩)
theorem andM_slice {α : Type} {d : Kd α} (e : Nat) (hE : d.E = []) : AndM (slice e d) := by
  rintro w base ok1 ok2 x cs ⟨v, rfl, h1⟩ ⟨v', e', h2⟩
  obtain rfl : v = v' := by simpa using e'
  exact ⟨v, rfl, R_and2 hE h1 h2⟩
theorem andM_pair {α β : Type} {a : Kd α} {b : Kd β} (ha : AndM a) (hb : AndM b) : AndM (pair a b) := by
  rintro w base ok1 ok2 x cs ⟨c0, c1, rfl, h0, h1⟩ ⟨c0', c1', e, h0', h1'⟩
  obtain ⟨rfl, rfl⟩ := List.append_inj e ((a.K_len (a.K_of_M h0)).trans (a.K_len (a.K_of_M h0')).symm)
  exact ⟨_, _, rfl, ha h0 h0', hb h1 h1'⟩
theorem andM_iso {α β : Type} (d : Kd α) (f : β → α) (h : AndM d) : AndM (iso d f) := fun h1 h2 => h h1 h2
theorem own_same {w : World} {b b' : Nat} {e : TypeId} {s n : Nat} {v : Value} {xs ys : List Value} (h : w.ownsRow b e s v n xs) (h' : w.ownsRow b' e s v n ys) : xs = ys := by
  obtain ⟨l1, h⟩ := h
  obtain ⟨l2, h'⟩ := h'
  rcases h with ⟨rfl, hn⟩ | ⟨g, cap, cur, rfl, _, hh, _, _, _, ht⟩
  · rcases h' with ⟨_, hn'⟩ | ⟨g', cap', cur', hv, _⟩
    · rw [hn, Nat.zero_mul] at l1 l2
      rw [List.eq_nil_of_length_eq_zero l1, List.eq_nil_of_length_eq_zero l2]
    · cases hv
  · rcases h' with ⟨hv, _⟩ | ⟨g', cap', cur', hv, _, hh', _, _, _, ht'⟩
    · cases hv
    · injection hv with ha _ _
      injection ha with ha
      injection ha with ha
      subst ha
      rw [hh] at hh'
      injection hh' with hh'
      injection hh' with hh' _ _
      subst hh'
      exact ht.symm.trans ht'
theorem S_and2 {α : Type} {d : Kd α} {e : Nat} {w : World} {base : Nat} {ok1 ok2 : Nat → Prop} {v : Value} {xs : List α} (hM : AndM d) (h1 : S d e w base ok1 v xs) (h2 : S d e w base ok2 v xs) : S d e w base (fun k => ok1 k ∧ ok2 k) v xs := by
  obtain ⟨f, h0, inner, ho, hr⟩ := h1
  obtain ⟨f', h0', inner', ho', hr'⟩ := h2
  obtain rfl := own_same ho ho'
  exact ⟨f, fun k hk => ⟨h0 k hk, h0' k hk⟩, inner, ho, hr.1, fun j p hj => d.M_mono (fun k hk => ⟨⟨⟨hk.1.1.1, hk.2.1.1⟩, hk.1.1.2⟩, hk.1.2⟩) (hM (hr.2 j p hj) (hr'.2 j p hj))⟩
theorem R_newer {α : Type} {d : Kd α} {e : Nat} {w : World} {base b' N : Nat} {ok ok' : Nat → Prop} {v : Value} {xs : List α} (hE : d.E = []) (h : d.R e w b' ok' v xs) (t : d.R e w base ok v xs) (hN : N ≤ b') : d.R e w base (fun k => ok k ∧ N ≤ k) v xs :=
  R_mono (R_tight hE t) (fun k hk => ⟨t.1 k hk.symm, Nat.le_trans hN (R_base h k hk.symm)⟩)
theorem S_newer {α : Type} {d : Kd α} {e : Nat} {w : World} {base b' N : Nat} {ok ok' : Nat → Prop} {v : Value} {xs : List α} (hM : AndM d) (h : S d e w b' ok' v xs) (t : S d e w base ok v xs) (hN : N ≤ b') (hb : base ≤ b') : S d e w base (fun k => ok k ∧ N ≤ k) v xs :=
  S_and2 hM t (S_lower (S_mono (S_bound h) (fun _ hk => Nat.le_trans hN hk.2.1)) hb)
theorem kS {α : Type} {d : Kd α} {e : Nat} {w W W2 : World} {base : Nat} {ok P : Nat → Prop} {v : Value} {xs : List α} (h : S d e w base ok v xs) (hk : Kept W W2 P) (hne : ∀ k, ok k → ¬ P k) (p : S d e w base ok v xs → S d e W base ok v xs) : S d e W2 base ok v xs := S_kept (p h) hk hne
theorem kR {α : Type} {d : Kd α} {e : Nat} {w W W2 : World} {base : Nat} {ok P : Nat → Prop} {v : Value} {xs : List α} (h : d.R e w base ok v xs) (hk : Kept W W2 P) (hne : ∀ k, ok k → ¬ P k) (p : d.R e w base ok v xs → d.R e W base ok v xs) : d.R e W2 base ok v xs := R_kept (p h) hk hne
end Kd
end Go.Proofs.YtlencemmlgkflaaV.PrintWords

