/- The scheduler: rows of one's own of flows. -/
import Derived.Test.YtbbcongfaoopcaaF2
namespace Go.Proofs.Ytbbcongfaoopcaa
open Go.ChangeShapes Go.WideShapes Go.ChangeAt Go.RowKit Go.Maps
set_option linter.unusedVariables false
set_option linter.unusedSimpArgs false
open BigFrame Pk Fq Vr Fa

namespace Fa
def OwnF (w : World) (B : Nat) (v : Value) (W Z : Nat → Int) (D : Nat → Bool) (n : Nat) : Prop := w.ownsRow B 67 3 v n (rowF W Z D n)
theorem OwnF.lt {w : World} {B : Nat} {v : Value} {W Z : Nat → Int} {D : Nat → Bool} {n : Nat} (h : OwnF w B v W Z D n) {q : Nat} (hq : v.ownBlock = some q) : B ≤ q ∧ q < w.heap.size := by
  unfold OwnF at h
  exact h.lt q hq
theorem OwnF.bel {w w' : World} {B : Nat} {v : Value} {W Z : Nat → Int} {D : Nat → Bool} {n : Nat} (h : OwnF w B v W Z D n) (k : Below w.heap.size w w') : OwnF w' B v W Z D n := by
  refine ⟨h.1, ?_⟩
  rcases h.2 with hh | ⟨g, cap, cur, h1, h2, h3, h4⟩
  · exact .inl hh
  · exact .inr ⟨g, cap, cur, h1, h2, (k.block g (Array.getElem?_eq_some_iff.1 h3).1).trans h3, h4⟩
theorem OwnF.set {w : World} {B : Nat} {v : Value} {W Z : Nat → Int} {D : Nat → Bool} {n : Nat} (h : OwnF w B v W Z D n) {q o : Nat} (hq : v.ownBlock ≠ some q) (x : Value) : OwnF (w.setCell ⟨q, o, none⟩ x) B v W Z D n := by
  refine ⟨h.1, ?_⟩
  rcases h.2 with hh | ⟨g, cap, cur, h1, h2, h3, h4⟩
  · exact .inl hh
  · exact .inr ⟨g, cap, cur, h1, h2, (Below.heap_setCell _ ⟨q, o, none⟩ _ _ (fun e => hq (by rw [h1]; simp [Value.ownBlock]; exact e))).trans h3, h4⟩
theorem info_fl : (Try.prog.info? 67).map (fun i => (i.zero, i.size, i.bytes)) = some (some (.agg #[.int .i64 0, .int .i64 0, .bool false]), 3, 24) := by kernel_rfl
theorem wpList_appF {w : World} {ops : Array Oper} {rest : List Oper} {o : Oper} {a : Act} {Q : Exit → Act → World → Prop} (hgd : o.guard = none) (s x : Operand)
    (ho : o.op = .call { callee := .builtin .append, args := #[s, x], argTypes := #[63, 63] }) (B : Nat) (v : Value) (W Z : Nat → Int) (D : Nat → Bool) (n : Nat) (hs : a.eval s = v) (hown : OwnF w B v W Z D n) (hB : B ≤ w.heap.size)
    {q c : Nat} (hx : a.eval x = .slice (some ⟨q, 0, none⟩) 1 c) (hk : Blk w q (flC W Z D n)) (hl : n ≤ 1000000)
    (h : ∀ (a' : Option Addr) (n' c' : Nat) w', OwnF w' B (.slice a' n' c') W Z D (n + 1) → n' = n + 1 → w'.heap.size ≥ w.heap.size → w.grownBy w' v.ownBlock → ((Value.slice a' n' c').ownBlock = v.ownBlock ∨ (Value.slice a' n' c').ownBlock = some w.heap.size) → wpList Try.prog ops Q rest (a.put o.dst (.slice a' n' c')) w') : wpList Try.prog ops Q (o :: rest) a w := by
  obtain ⟨i0, hi0, hz0, hz1, hz2⟩ := info_parts info_fl
  refine wpList_append_own_at w hgd s x 63 ho B 67 i0 _ 3 24 Try.underlying63 hi0 hz0 hz1 hz2 rfl (by omega) v n (rowF W Z D n) hs hown ⟨q, 0, none⟩ 1 c (flC W Z D n) hx rfl (fun j u hj => ?_) (by intro u hu; simp [flC] at hu; rcases hu with rfl | rfl | rfl <;> rfl) (by unfold maxLen; omega) (by omega) hB (fun v' w' h1 h2 _ h4 => ?_)
  · have := hk.c j u hj
    rw [Addr.add_lit, Nat.zero_add]
    exact this
  · have h3 : OwnF w' B v' W Z D (n + 1) := by
      unfold OwnF
      rw [rowF_succ]
      exact h1
    rcases h3.2 with ⟨e, e2⟩ | ⟨g, cap, cur, e, _⟩
    · simp at e2
    · subst e
      exact h _ _ _ w' h3 rfl h2.size h2 h4
end Fa
end Go.Proofs.Ytbbcongfaoopcaa
