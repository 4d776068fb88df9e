/- The scheduler: rows of one's own of bools; the invariant. -/
import Derived.Test.YtkefkophlhcbiaaF13
namespace Go.Proofs.Ytkefkophlhcbiaa
open Go.ChangeShapes Go.WideShapes Go.ChangeAt Go.RowKit Go.Maps
set_option linter.unusedVariables false
set_option linter.unusedSimpArgs false
open BigFrame Pk Fq Vr Fa

namespace Fa
def bC (R : Nat → Bool) (n : Nat) : List Value := (List.range n).map fun i => .bool (R i)
theorem bC_succ (R : Nat → Bool) (n : Nat) : bC R (n + 1) = bC R n ++ [.bool (R n)] := by simp [bC, List.range_succ]
theorem bC_len (R : Nat → Bool) (n : Nat) : (bC R n).length = n := by simp [bC]
theorem bC_at (R : Nat → Bool) (n i : Nat) (h : i < n) : (bC R n)[i]? = some (.bool (R i)) := by simp [bC, h]
def OwnB (w : World) (B : Nat) (v : Value) (R : Nat → Bool) (n : Nat) : Prop := w.ownsRow B 4 1 v n (bC R n)
theorem OwnB.lt {w : World} {B : Nat} {v : Value} {R : Nat → Bool} {n : Nat} (h : OwnB w B v R n) {q : Nat} (hq : v.ownBlock = some q) : B ≤ q ∧ q < w.heap.size := by
  unfold OwnB at h
  exact h.lt q hq
theorem OwnB.kf {w w' : World} {B : Nat} {v : Value} {R : Nat → Bool} {n : Nat} {l : List Nat} (h : OwnB w B v R n) (k : KF l w w') (hl : ∀ q, v.ownBlock = some q → q ∉ l) : OwnB w' B v R n := by
  refine ⟨h.1, ?_⟩
  rcases h.2 with hh | ⟨g, cap, cur, h1, h2, h3, h4⟩
  · exact .inl hh
  · exact .inr ⟨g, cap, cur, h1, h2, (k.k g (Array.getElem?_eq_some_iff.1 h3).1 (hl g (by rw [h1]; rfl))).trans h3, h4⟩
theorem OwnB.nil (w : World) (B : Nat) (R : Nat → Bool) : OwnB w B (.slice none 0 0) R 0 := ⟨rfl, .inl ⟨rfl, rfl⟩⟩
theorem OwnB.at_ {w : World} {B : Nat} {a : Option Addr} {n c : Nat} {R : Nat → Bool} (h : OwnB w B (.slice a n c) R n) (hn : 0 < n) : ∃ g, a = some ⟨g, 0, none⟩ ∧ B ≤ g ∧ BoolsAt w (some ⟨g, 0, none⟩) g 0 n R := by
  unfold OwnB at h
  obtain ⟨g, cap, e, hb, hl⟩ := h.form hn
  cases e
  refine ⟨g, rfl, hb, fun _ => rfl, fun _ => hl, fun i hi => ?_⟩
  rw [Nat.zero_add, h.cellAt i (by omega)]
  exact bC_at R n i hi
theorem info_bool : (Try.prog.info? 4).map (fun i => (i.zero, i.size, i.bytes)) = some (some (.bool false), 1, 1) := by kernel_rfl
theorem wpList_appB {w : World} {ops : Array Oper} {rest : List Oper} {o : Oper} {a : Act} {Q : Exit → Act → World → Prop} (hgd : o.guard = none) (s x : Operand)
    (ho : o.op = .call { callee := .builtin .append, args := #[s, x], argTypes := #[112, 112] }) (B : Nat) (v : Value) (R : Nat → Bool) (n : Nat) (hs : a.eval s = v) (hown : OwnB w B v R n) (hB : B ≤ w.heap.size)
    {q c : Nat} (hx : a.eval x = .slice (some ⟨q, 0, none⟩) 1 c) (hk : Blk w q [.bool (R n)]) (hl : n ≤ 1000000)
    (h : ∀ (a' : Option Addr) (n' c' : Nat) w', OwnB w' B (.slice a' n' c') R (n + 1) → n' = n + 1 → w'.heap.size ≥ w.heap.size → w.grownBy w' v.ownBlock → ((Value.slice a' n' c').ownBlock = v.ownBlock ∨ (Value.slice a' n' c').ownBlock = some w.heap.size) → wpList Try.prog ops Q rest (a.put o.dst (.slice a' n' c')) w') : wpList Try.prog ops Q (o :: rest) a w := by
  obtain ⟨i0, hi0, hz0, hz1, hz2⟩ := info_parts info_bool
  refine wpList_append_own_at w hgd s x 112 ho B 4 i0 _ 1 1 Try.underlying112 hi0 hz0 hz1 hz2 rfl (by omega) v n (bC R n) hs hown ⟨q, 0, none⟩ 1 c [.bool (R n)] hx rfl (fun j u hj => ?_) (by intro u hu; simp at hu; rcases hu with rfl; rfl) (by unfold maxLen; omega) (by omega) hB (fun v' w' h1 h2 _ h4 => ?_)
  · have := hk.c j u hj
    rw [Addr.add_lit, Nat.zero_add]
    exact this
  · have h3 : OwnB w' B v' R (n + 1) := by
      unfold OwnB
      rw [bC_succ]
      exact h1
    rcases h3.2 with ⟨e, e2⟩ | ⟨g, cap, cur, e, _⟩
    · simp at e2
    · subst e
      exact h _ _ _ w' h3 rfl h2.size h2 h4
/-- A row that grows leaves all else. -/
theorem KF.grown {l : List Nat} {u w w' : World} {b : Option Nat} (h : KF l u w) (g : w.grownBy w' b) (hb : ∀ q, b = some q → u.heap.size ≤ q) : KF l u w' :=
  ⟨h.b.grown g (Nat.zero_le _) (fun _ _ => Nat.zero_le _), fun i h1 h2 => (g.block i (Nat.lt_of_lt_of_le h1 h.b.size) (fun e => by have := hb i e.symm; omega)).trans (h.k i h1 h2)⟩
/-- The same, where the row is named. -/
theorem KF.grown2 {u w w' : World} {b : Option Nat} {l : List Nat} (h : KF l u w) (g : w.grownBy w' b) (hb : ∀ q, b = some q → q ∈ l) : KF l u w' :=
  ⟨h.b.grown g (Nat.zero_le _) (fun _ _ => Nat.zero_le _), fun i h1 h2 => (g.block i (Nat.lt_of_lt_of_le h1 h.b.size) (fun e => h2 (hb i e.symm))).trans (h.k i h1 h2)⟩
theorem KF.alloc {l : List Nat} {u w : World} (h : KF l u w) (o : Obj) : KF l u (w.alloc o) := h.trans (KF.of ((Below.refl _ _).alloc (Nat.le_refl _) _))
theorem FD.grown {w w' : World} {f lb cl tb ct N : Nat} {ALL V : Int} {W Z : Nat → Int} {D : Nat → Bool} {S F : Nat → Int} (d : FD w f lb cl tb ct N ALL V W Z D S F) {O : Obj} {b : Option Nat} (g : (w.alloc O).grownBy w' b) (hb : ∀ q, b = some q → q ≠ f ∧ q ≠ lb ∧ q ≠ tb) : FD w' f lb cl tb ct N ALL V W Z D S F := by
  have k : KF b.toList w w' := KF.grown2 ((KF.refl b.toList w).alloc O) g (fun q e => by rw [e]; simp)
  have hm : ∀ x, x ∈ b.toList → b = some x := fun x hx => by simpa using hx
  exact k.fd d (fun e => (hb _ (hm _ e)).1 rfl) (fun e => (hb _ (hm _ e)).2.1 rfl) (fun e => (hb _ (hm _ e)).2.2 rfl)
/-- What holds of a scheduler: how far its times went, its weights, its sizes. -/
structure Inv (M ALL V : Int) (N : Nat) (W Z : Nat → Int) (D : Nat → Bool) (S F : Nat → Int) : Prop where
  far : Far M V N S F
  w : ∀ i, i < N → 1 ≤ W i ∧ W i ≤ 16 ∧ W i ≤ ALL
  all : ALL ≤ 128
  z : ∀ i, i < N → 0 ≤ Z i ∧ Z i ≤ 1500
  d : ∀ i, i < N → D i = true → 0 < Z i
def nof : Nat → Bool := fun _ => false
/-- What is told of all heads. -/
structure Sched where
  V : Int
  Z : Nat → Int
  D : Nat → Bool
  S : Nat → Int
  F : Nat → Int
def toldN (m : Nat) (ALL V : Int) (W Z : Nat → Int) (D : Nat → Bool) (S F h : Nat → Int) : Sched := ⟨V, mix m h Z, mixb m nof D, mix m (S1 V ALL W Z D S F h) S, mix m (F1 V ALL W Z D S F h) F⟩
theorem headOk {s : Int} (h : headBad s = false) : 0 ≤ s ∧ s ≤ 1500 := by
  unfold headBad at h
  simp at h
  omega
theorem Inv.told {M ALL V : Int} {N : Nat} {W Z : Nat → Int} {D : Nat → Bool} {S F h : Nat → Int} (H : Inv M ALL V N W Z D S F) (hh : ∀ i, i < N → headBad (h i) = false) (m : Nat) :
    Inv (M + CM) ALL V N W (toldN m ALL V W Z D S F h).Z (toldN m ALL V W Z D S F h).D (toldN m ALL V W Z D S F h).S (toldN m ALL V W Z D S F h).F := by
  have hV := H.far.1
  have hVM := H.far.2.1
  refine ⟨⟨hV, by unfold CM; omega, fun i hi => ?_⟩, H.w, H.all, fun i hi => ?_, fun i hi => ?_⟩
  · have h1 := H.far.2.2 i hi
    have h2 := headOk (hh i hi)
    have h3 := H.w i hi
    simp only [toldN, mix]
    by_cases q : i < m
    · rw [if_pos q, if_pos q]
      have hc : h i = 0 ∨ 1 ≤ costI (h i) (W i) ALL := by
        by_cases e : h i = 0
        · exact .inl e
        · exact .inr (cost_pos (by omega) h2.2 h3.1 h3.2.1 h3.2.2 H.all).1
      have hc2 : 0 ≤ costI (h i) (W i) ALL ∧ costI (h i) (W i) ALL ≤ CM := by
        rcases costI_bd (h i) (W i) ALL with e | e
        · rw [e]; unfold CM; omega
        · unfold CM; omega
      have b1 := hr_bd (s := S i) (f := F i) (z := Z i) (n := h i) (c := costI (h i) (W i) ALL) (d := D i) h1.1 h1.2.1 hc hV
      have b2 := hr_up (s := S i) (f := F i) (z := Z i) (n := h i) (c := costI (h i) (W i) ALL) (d := D i) h1.2.1 hc2.2 hVM h1.2.2 hc2.1
      exact ⟨b1.1, b1.2, b2⟩
    · rw [if_neg q, if_neg q]
      unfold CM
      omega
  · simp only [toldN, mix]
    split
    · exact headOk (hh i hi)
    · exact H.z i hi
  · simp only [toldN, mixb, mix]
    split
    · intro e; cases e
    · exact H.d i hi
end Fa
end Go.Proofs.Ytkefkophlhcbiaa
