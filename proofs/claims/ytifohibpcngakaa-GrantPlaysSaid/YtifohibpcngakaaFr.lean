/- The frame as a set: what a set of blocks names stays as it was. -/
import Derived.Test.YtifohibpcngakaaBase
namespace Go.Proofs.Ytifohibpcngakaa
open Go.ChangeShapes Go.WideShapes Go.ChangeAt Go.RowKit
set_option linter.unusedVariables false
set_option linter.unusedSimpArgs false
open BigFrame Bs

namespace Bs
theorem mwS {m : Nat → Prop} {w : World} (h : ∀ b, m b → b < w.heap.size) {p : Addr} {v : Value} : ∀ b, m b → b < (w.setCell p v).heap.size := fun b hb => by simpa using h b hb
theorem mwB {m : Nat → Prop} {w w' : World} (h : ∀ b, m b → b < w.heap.size) (k : w.heap.size ≤ w'.heap.size) : ∀ b, m b → b < w'.heap.size := fun b hb => Nat.lt_of_lt_of_le (h b hb) k
/-- So much is kept: all blocks of a set. -/
structure Kp (m : Nat → Prop) (w w' : World) : Prop where
  b : Below 0 w w'
  k : ∀ i, m i → i < w.heap.size → w'.heap[i]? = w.heap[i]?
theorem Kp.size {m : Nat → Prop} {w w' : World} (h : Kp m w w') : w.heap.size ≤ w'.heap.size := h.b.size
theorem Kp.refl (m : Nat → Prop) (w : World) : Kp m w w := ⟨Below.refl _ _, fun _ _ _ => rfl⟩
theorem Kp.trans {m : Nat → Prop} {u v w : World} (h : Kp m u v) (k : Kp m v w) : Kp m u w :=
  ⟨h.b.trans k.b, fun i h1 h2 => (k.k i h1 (Nat.lt_of_lt_of_le h2 h.b.size)).trans (h.k i h1 h2)⟩
theorem Kp.of {m : Nat → Prop} {w w' : World} (h : Below w.heap.size w w') : Kp m w w' := ⟨h.mono (Nat.zero_le _), fun i _ h2 => h.block i h2⟩
theorem Kp.setCell {m : Nat → Prop} {u w : World} (h : Kp m u w) {p : Addr} (hp : ¬ m p.block) (v : Value) : Kp m u (w.setCell p v) :=
  ⟨h.b.setCell (Nat.zero_le _) v, fun i h1 h2 => (Below.heap_setCell w p v i (fun e => hp (e ▸ h1))).trans (h.k i h1 h2)⟩
theorem Kp.drew {m : Nat → Prop} {u w : World} (h : Kp m u w) : Kp m u w.drew := ⟨h.b.drew, h.k⟩
theorem Kp.sub {m m2 : Nat → Prop} {u w : World} (h : Kp m u w) (hs : ∀ i, m2 i → m i) : Kp m2 u w := ⟨h.b, fun i h1 h2 => h.k i (hs i h1) h2⟩
theorem Kp.blk {m : Nat → Prop} {w w' : World} (h : Kp m w w') {b : Nat} {l : List Value} (hb : Blk w b l) (hm : m b) : Blk w' b l := by
  have e := h.k b hm hb.l
  exact ⟨fun i x hx => (World.cell?_of_block e).trans (hb.c i x hx), fun o => (World.frozen?_of_block e).trans (hb.f o), Nat.lt_of_lt_of_le hb.l h.b.size⟩
/-- All but one block is as it was. -/
structure Onl (a : Nat) (m : Nat → Prop) (w w' : World) : Prop where
  b : Kp m w w'
  k : ∀ i, i < w.heap.size → i ≠ a → w'.heap[i]? = w.heap[i]?
theorem Onl.blk {a : Nat} {m : Nat → Prop} {w w' : World} (h : Onl a m w w') {b : Nat} {l : List Value} (hb : Blk w b l) (hne : b ≠ a) : Blk w' b l := by
  have e := h.k b hb.l hne
  exact ⟨fun i x hx => (World.cell?_of_block e).trans (hb.c i x hx), fun o => (World.frozen?_of_block e).trans (hb.f o), Nat.lt_of_lt_of_le hb.l h.b.size⟩
theorem Onl.refl (a : Nat) (m : Nat → Prop) (w : World) : Onl a m w w := ⟨Kp.refl _ _, fun _ _ _ => rfl⟩
theorem Onl.trans {a : Nat} {m : Nat → Prop} {u v w : World} (h : Onl a m u v) (k : Onl a m v w) : Onl a m u w :=
  ⟨h.b.trans k.b, fun i h1 h2 => (k.k i (Nat.lt_of_lt_of_le h1 h.b.size) h2).trans (h.k i h1 h2)⟩
theorem Onl.set {a : Nat} {m : Nat → Prop} (w : World) (hm : ¬ m a) (o : Nat) (v : Value) : Onl a m w (w.setCell ⟨a, o, none⟩ v) :=
  ⟨(Kp.refl m w).setCell (p := ⟨a, o, none⟩) hm _, fun i h1 h2 => Below.heap_setCell _ ⟨a, o, none⟩ _ i h2⟩
theorem Onl.bel {a : Nat} {m : Nat → Prop} {w w' : World} (h : Below w.heap.size w w') (hm : ∀ b, m b → b < w.heap.size) : Onl a m w w' :=
  ⟨Kp.of h, fun i h1 h2 => h.block i h1⟩
/-- A row of values laid over another. -/
def layS : List Value → Nat → List Value → List Value
  | l, _, [] => l
  | l, o, v :: r => layS (l.set o v) (o + 1) r
theorem Blk.sets {b : Nat} : ∀ (vs : List Value) {u : World} {l : List Value} (o : Nat), Blk u b l → o + vs.length ≤ l.length → Blk (u.setCells b o vs) b (layS l o vs)
  | [], _, _, _, h, _ => h
  | v :: r, u, l, o, h, hl => by
    simp only [List.length_cons] at hl
    exact Blk.sets r (o + 1) (h.set (show o < l.length by omega) v) (by simp; omega)
theorem Blk.othS {b q : Nat} (hne : b ≠ q) : ∀ (vs : List Value) {u : World} {l : List Value} (o : Nat), Blk u b l → Blk (u.setCells q o vs) b l
  | [], _, _, _, h => h
  | v :: r, u, l, o, h => Blk.othS hne r (o + 1) (h.other hne v)
theorem mwSs {m : Nat → Prop} {q : Nat} : ∀ (vs : List Value) {w : World} (o : Nat), (∀ b, m b → b < w.heap.size) → ∀ b, m b → b < (w.setCells q o vs).heap.size
  | [], _, _, h => h
  | v :: r, w, o, h => mwSs r (o + 1) (mwS h)
theorem Onl.sets {a : Nat} {m : Nat → Prop} (hm : ¬ m a) : ∀ (vs : List Value) (w : World) (o : Nat), Onl a m w (w.setCells a o vs)
  | [], w, _ => Onl.refl a m w
  | v :: r, w, o => (Onl.set w hm o v).trans (Onl.sets hm r _ (o + 1))
theorem Onl.newS {a rb : Nat} {m : Nat → Prop} {w : World} (h1 : w.heap.size ≤ rb) (hm : ¬ m rb) : ∀ (vs : List Value) {V : World} (o : Nat), Onl a m w V → Onl a m w (V.setCells rb o vs)
  | [], _, _, h => h
  | v :: r, V, o, h => Onl.newS h1 hm r (o + 1) ⟨h.b.setCell (p := ⟨rb, o, none⟩) hm _, fun i hi hne => (Below.heap_setCell _ ⟨rb, o, none⟩ _ i (by show i ≠ rb; omega)).trans (h.k i hi hne)⟩
theorem Onl.drew {a : Nat} {m : Nat → Prop} {u w : World} (h : Onl a m u w) : Onl a m u w.drew := ⟨h.b.drew, h.k⟩
/-- Two blocks whose first cells differ are two. -/
theorem blk_ne {w : World} {b c : Nat} {x y : Value} {l k : List Value} (h : Blk w b (x :: l)) (h2 : Blk w c (y :: k)) (hne : x ≠ y) : b ≠ c := fun e => by
  subst e
  have h3 := h.c 0 _ rfl
  have h4 := h2.c 0 _ rfl
  rw [h3] at h4
  exact hne (by injection h4)
theorem Kp.bel {m : Nat → Prop} {w w' : World} (h : Kp m w w') {B : Nat} (hm : ∀ i, i < B → m i) (hB : B ≤ w.heap.size) : Below B w w' :=
  ⟨h.b.os, h.b.tape, h.b.output, h.b.size, fun k hk => h.k k (hm k hk) (Nat.lt_of_lt_of_le hk hB)⟩
/-- What was there, and some blocks more. -/
def mm (B : Nat) (l : List Nat) : Nat → Prop := fun b => b < B ∨ b ∈ l
theorem mm_not {B a : Nat} {l : List Nat} (h : B ≤ a) (h2 : a ∉ l) : ¬ mm B l a := fun h3 => h3.elim (fun h4 => by omega) h2
theorem mm_ge {B a : Nat} {l : List Nat} (h : ¬ mm B l a) : B ≤ a ∧ a ∉ l := ⟨Nat.le_of_not_lt fun h2 => h (.inl h2), fun h2 => h (.inr h2)⟩
theorem mm_one {B c s : Nat} (h : B ≤ s) (h2 : c < s) : ∀ b, mm B [c] b → b < s := fun b hb => hb.elim (fun h3 => by omega) (fun h3 => by have : b = c := by simpa using h3
                                                                                                                                          omega)
theorem mm_two {B c d s : Nat} (h : B ≤ s) (h2 : c < s) (h3 : d < s) : ∀ b, mm B [c, d] b → b < s := fun b hb => hb.elim (fun h3 => by omega) (fun h4 => by
  have : b = c ∨ b = d := by simpa using h4
  omega)
theorem mm_nil {B s : Nat} (h : B ≤ s) : ∀ b, mm B [] b → b < s := fun b hb => hb.elim (fun h3 => by omega) (fun h3 => by simp at h3)
theorem mm_lt {B : Nat} {l : List Nat} {i : Nat} (h : i < B) : mm B l i := .inl h
theorem mm_sub {B : Nat} {l k : List Nat} (h : ∀ x, x ∈ k → x ∈ l) : ∀ i, mm B k i → mm B l i := fun i hi => hi.elim .inl (fun q => .inr (h i q))
theorem mm_lst {B s : Nat} {l : List Nat} (h : B ≤ s) (h2 : ∀ x ∈ l, x < s) : ∀ b, mm B l b → b < s := fun b hb => hb.elim (fun h3 => by omega) (fun h3 => h2 b h3)
theorem own_blk {w : World} {base size n g cap : Nat} {e : TypeId} {xs : List Value} (h : w.ownsRow base e size (.slice (some ⟨g, 0, none⟩) n cap) n xs) (hl : g < w.heap.size) : Blk w g xs :=
  ⟨fun i x hx => by
    have hi : i < xs.length := (List.getElem?_eq_some_iff.1 hx).1
    rw [h.cellAt i (by rw [← h.1]; exact hi)]; exact hx, fun o => h.frozenAt o, hl⟩
theorem own_cap {w : World} {base size n g cap : Nat} {e : TypeId} {xs : List Value} (h : w.ownsRow base e size (.slice (some ⟨g, 0, none⟩) n cap) n xs) : n ≤ cap ∧ (cap : Int) ≤ 9223372036854775807 := by
  rcases h.2 with ⟨e, _⟩ | ⟨q', cap', cur, e, h1, h2, h3, h4, h5, h6⟩
  · cases e
  · cases e
    unfold maxLen at h4
    exact ⟨h3, by omega⟩
theorem mod_ex (a M : Int) (h : 0 < M) (h2 : M ≤ 1099511627776) : ∃ F : Int, (0 ≤ F ∧ F < M) ∧ (wrap64 (a.tmod M + M)).tmod M = F := by
  have h1 : a.tmod M < M := Int.tmod_lt_of_pos a h
  have h3 : -M < a.tmod M := Int.lt_tmod_of_pos a h
  have e : wrap64 (a.tmod M + M) = a.tmod M + M := by unfold wrap64; omega
  rw [e]
  have h4 : (a.tmod M + M).tmod M < M := Int.tmod_lt_of_pos _ h
  have h5 : 0 ≤ (a.tmod M + M).tmod M := Int.tmod_nonneg _ (by omega)
  exact ⟨_, ⟨h5, h4⟩, rfl⟩
theorem mod1_ex (a M : Int) (h : 0 < M) (h2 : M ≤ 1099511627776) : ∃ F : Int, (1 ≤ F ∧ F ≤ M) ∧ wrap64 (1 + (wrap64 (a.tmod M + M)).tmod M) = F := by
  obtain ⟨F, ⟨h1, h3⟩, e⟩ := mod_ex a M h h2
  rw [e]
  exact ⟨1 + F, by omega, by unfold wrap64; omega⟩
theorem adv_ex (a S M : Int) (h : 0 ≤ S ∧ S ≤ 1125899906842624) (hM : 0 < M) (h2 : M ≤ 1099511627776) : ∃ F : Int, (S ≤ F ∧ F < S + M) ∧ wrap64 (S + (wrap64 (a.tmod M + M)).tmod M) = F := by
  obtain ⟨F, ⟨h1, h3⟩, e⟩ := mod_ex a M hM h2
  rw [e]
  exact ⟨S + F, by omega, by unfold wrap64; omega⟩
end Bs
end Go.Proofs.Ytifohibpcngakaa
