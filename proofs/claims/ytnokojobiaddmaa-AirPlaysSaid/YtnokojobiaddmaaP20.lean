/- The document: ways that are cut. -/
import Derived.Test.YtnokojobiaddmaaP19
namespace Go.Proofs.Ytnokojobiaddmaa
open Go.ChangeShapes Go.WideShapes Go.ChangeAt Go.RowKit Go.Maps
set_option linter.unusedVariables false
set_option linter.unusedSimpArgs false
open BigFrame Bs By Am Ar

namespace Ar
def cellsP (p : Int × Int) : List Value := [.int .i64 p.1, .int .i64 p.2]
def rowP (l : List (Int × Int)) : List Value := l.flatMap cellsP
theorem rowP_snoc (l : List (Int × Int)) (p : Int × Int) : rowP (l ++ [p]) = rowP l ++ cellsP p := by simp [rowP]
theorem rowP_len (l : List (Int × Int)) : (rowP l).length = l.length * 2 := by
  induction l with
  | nil => rfl
  | cons a l ih => simp only [rowP, List.flatMap_cons, List.length_append, List.length_cons] at *; rw [ih]; simp [cellsP]; omega
theorem rowP_at (l : List (Int × Int)) (i j : Nat) (p : Int × Int) (hi : l[i]? = some p) (hj : j < 2) : (rowP l)[i * 2 + j]? = (cellsP p)[j]? := by
  induction l generalizing i with
  | nil => simp at hi
  | cons a l ih =>
    have e : rowP (a :: l) = cellsP a ++ rowP l := by simp [rowP]
    rw [e]
    cases i with
    | zero =>
      simp at hi; subst hi
      rw [List.getElem?_append_left (by simp [cellsP]; omega)]
      simp
    | succ i =>
      rw [List.getElem?_append_right (by simp [cellsP]; omega), show (i + 1) * 2 + j - (cellsP a).length = i * 2 + j by simp [cellsP]; omega]
      exact ih i (by simpa using hi)
theorem cellsP_one (p : Int × Int) : ∀ u ∈ cellsP p, u.oneCell' = true := by
  intro u hu
  simp [cellsP] at hu
  rcases hu with rfl | rfl <;> rfl
/-- The document's air. -/
structure RF (m : Nat) (w : World) (g base : Nat) (lv : Value) (l : List RM) (cv : Value) (ps : List (Int × Int)) : Prop where
  ra : RA 52 cv w g base lv l
  k : w.ownsRow base 80 2 cv ps.length (rowP ps)
  ge : m ≤ g
abbrev nilV : Value := .slice none 0 0
section
variable {m : Nat} {w w' : World} {g base : Nat} {lv lv' cv : Value} {l l' : List RM} {ps : List (Int × Int)}
theorem RF.bel (h : RF m w g base lv l cv ps) (k : Below w.heap.size w w') : RF m w' g base lv l cv ps := ⟨h.ra.bel k, own_bel h.k k, h.ge⟩
theorem own_fx {gs : List Nat} {mv mv' v : Value} {e : TypeId} {size n : Nat} {xs : List Value} (h : w.ownsRow base e size v n xs) (k : Fx gs mv mv' w w') (h1 : ∀ b, v.ownBlock = some b → b ∉ gs ∧ mv.ownBlock ≠ some b) : w'.ownsRow base e size v n xs := by
  refine ⟨h.1, ?_⟩
  rcases h.2 with hh | ⟨q, cap, cur, e1, e2, e3, e4⟩
  · exact .inl hh
  · subst e1
    have := h1 q rfl
    exact .inr ⟨q, cap, cur, rfl, e2, (k.blk q (Array.getElem?_eq_some_iff.1 e3).1 this.1 this.2).trans e3, e4⟩
/-- Rows of two types are two rows. -/
theorem own_ne {e e' : TypeId} {size size' n n' base' : Nat} {v v' : Value} {xs xs' : List Value} (h : w.ownsRow base e size v n xs) (h' : w.ownsRow base' e' size' v' n' xs') (hn : e ≠ e') (b : Nat) (hb : v.ownBlock = some b) : v'.ownBlock ≠ some b := fun hb' => by
  rcases h.2 with ⟨rfl, _⟩ | ⟨q, cap, cur, rfl, _, h3, _⟩
  · cases hb
  · rcases h'.2 with ⟨rfl, _⟩ | ⟨q', cap', cur', rfl, _, h3', _⟩
    · cases hb'
    · simp [Value.ownBlock] at hb hb'
      subst hb
      subst hb'
      rw [h3] at h3'
      cases h3'
      exact hn rfl
theorem own_mono {e : TypeId} {size n base' : Nat} {v : Value} {xs : List Value} (h : w.ownsRow base' e size v n xs) (hb : base ≤ base') : w.ownsRow base e size v n xs := by
  refine ⟨h.1, ?_⟩
  rcases h.2 with hh | ⟨q, cap, cur, e1, e2, e3⟩
  · exact .inl hh
  · exact .inr ⟨q, cap, cur, e1, by omega, e3⟩
theorem own_shape {e : TypeId} {size n : Nat} {v : Value} {xs : List Value} (h : w.ownsRow base e size v n xs) : ∃ a cap, v = .slice a n cap := by
  rcases h.2 with ⟨e, e2⟩ | ⟨q, cap, cur, hh, _⟩
  · exact ⟨none, 0, by rw [e, e2]⟩
  · exact ⟨_, cap, hh⟩
theorem own_pair {w : World} {base n cap : Nat} {a : Option Addr} {ps : List (Int × Int)} {k : Nat} {p : Int × Int} (h : w.ownsRow base 80 2 (.slice a n cap) n (rowP ps)) (hk : ps[k]? = some p) (hl : ps.length = n) : ∃ q, a = some ⟨q, 0, none⟩ ∧ w.cell? ⟨q, k * 2, none⟩ = some (.int .i64 p.1) ∧ w.cell? ⟨q, k * 2 + 1, none⟩ = some (.int .i64 p.2) := by
  have hkl := (List.getElem?_eq_some_iff.1 hk).1
  have h2 := h.2
  rcases h2 with ⟨e, e2⟩ | ⟨q, cap', cur, e, _⟩
  · omega
  · have e' : a = some ⟨q, 0, none⟩ := by cases e; rfl
    subst e'
    refine ⟨q, rfl, ?_, ?_⟩
    · rw [h.cellAt (k * 2) (by omega), ← Nat.add_zero (k * 2), rowP_at ps k 0 p hk (by omega)]; rfl
    · rw [h.cellAt (k * 2 + 1) (by omega), rowP_at ps k 1 p hk (by omega)]; rfl
theorem take_snocP {l : List (Int × Int)} {k : Nat} {y : Int × Int} (h : l[k]? = some y) : l.take (k + 1) = l.take k ++ [y] := by
  rw [List.take_add_one, h]; rfl
theorem Fx.grown {O : Obj} {v v5 : Value} {w w5 : World} (hg : (w.alloc O).grownBy w5 v.ownBlock) (hat : v5.ownBlock = v.ownBlock ∨ v5.ownBlock = some (w.alloc O).heap.size) : Fx [] v v5 w w5 :=
  ⟨((Below.refl 0 w).alloc (Nat.zero_le _) O).grown hg (Nat.zero_le _) (fun k hk => Nat.zero_le _), fun b hb _ h3 => (hg.block b (by simp; omega) (Ne.symm h3)).trans (Below.heap_alloc w O b hb), fun b hb h3 e => by
    rcases hat with h | h
    · rw [h] at e; exact h3 e
    · rw [h] at e
      have e := Option.some.inj e
      simp at e
      omega⟩
theorem pair_ne : 34 ≠ 80 := by decide
end
def keepP (f t : Int) (p : Int × Int) : Bool := p.1 != f || p.2 != t
def CutP (m g base : Nat) (lv : Value) (l : List RM) (ps : List (Int × Int)) (w : World) (e : Ending) (w' : World) : Prop :=
  ∃ cv, e = .returned (.int .i64 0) ∧ RF m w' g base lv l cv ps ∧ Fx [g] nilV nilV w w' ∧ ∀ b, cv.ownBlock = some b → w.heap.size ≤ b
end Ar
theorem info_pair : (Try.prog.info? 80).map (fun i => (i.zero, i.size, i.bytes)) = some (some (.agg #[.int .i64 0, .int .i64 0]), 2, 16) := by kernel_rfl

set_option maxRecDepth 100000 in
set_option maxHeartbeats 8000000 in
theorem risCut_c {m : Nat} {w : World} {g base : Nat} {lv cv : Value} {l : List RM} {ps : List (Int × Int)} (h : RF m w g base lv l cv ps) (f t : Int) (hn : ps.length ≤ 5000) :
    Calls Try.prog 43 #[.pointer (some ⟨g, 0, none⟩), .agg #[.int .i64 f, .int .i64 t]] w fun e w' => e = .returned (.bool (decide ((f, t) ∈ ps))) ∧ Below w.heap.size w w' := by
  have hb0 : Below w.heap.size w (w.alloc (.cells #[.int .i64 f, .int .i64 t] 80)) := (Below.refl _ _).alloc (Nat.le_refl _) _
  have bx := HT.new w #[.int .i64 f, .int .i64 t] 80
  have h1 := h.bel hb0
  obtain ⟨a, cap, rfl⟩ := own_shape h1.k
  obtain ⟨N, hN⟩ : ∃ N, ps.length = N := ⟨_, rfl⟩
  have hnz : (N : Int) ≤ 5000 := by omega
  rw [hN] at h1
  clear h hn
  replace h1 := Lib.hid h1
  replace bx := Lib.hid bx
  replace hb0 := Lib.hid hb0
  replace hN := Lib.hid hN
  go_enter Try.func43, Try.ntmps43
  go_upto_region 1 with fail
  replace h1 := h1.out
  replace bx := bx.out
  replace hb0 := hb0.out
  generalize (w.alloc (.cells #[.int .i64 f, .int .i64 t] 80)) = W1 at h1 bx hb0 ⊢
  generalize hxb : w.heap.size = xb at bx ⊢
  replace hxb := Lib.hid hxb
  have c1 := h1.ra.c1
  have x0 := bx.c 0 _ rfl
  have x1 := bx.c 1 _ rfl
  replace h1 := Lib.hid h1
  replace hb0 := Lib.hid hb0
  replace bx := Lib.hid bx
  go_wp2_with fail
  go_loopw [5] (fun i wr => ∃ k : Nat, k ≤ N ∧ i = .int .i64 (k : Nat) ∧ (f, t) ∉ ps.take k ∧ Below W1.heap.size W1 wr) (fun i _ => N - (intOf i).toNat)
  case atStart => exact ⟨0, by omega, rfl, by simp, Below.refl _ _⟩
  case round =>
    obtain ⟨k, hk, rfl, hF, hB⟩ := hrel
    have c1 := cellB hB c1
    have x0 := cellB hB x0
    have x1 := cellB hB x1
    by_cases hlt : k < N
    · have hlt' : (k : Int) < (N : Int) := by omega
      have hk0 : (0 : Int) ≤ (k : Int) := by omega
      obtain ⟨p, hp⟩ : ∃ p, ps[k]? = some p := ⟨_, List.getElem?_eq_getElem (show k < ps.length by have := hN.out; omega)⟩
      obtain ⟨q, rfl, y0, y1⟩ := own_pair (by have := h1.out.k; rw [hN.out] at this; exact this) hp hN.out
      replace y0 := cellB hB y0
      replace y1 := cellB hB y1
      obtain ⟨pf, pt⟩ := p
      simp only at y0 y1
      have hts := take_snocP hp
      have hmem : (pf, pt) ∈ ps := List.mem_of_getElem? hp
      replace hB := Lib.hid hB
      clear hp
      by_cases e1 : pf = f
      · by_cases e2 : pt = t
        · subst e1
          subst e2
          have hD : decide ((pf, pt) ∈ ps) = true := decide_eq_true hmem
          replace hD := Lib.hid hD
          clear hts hmem hF
          go_wp2_with fail
          go_quiet (fail)
          go_wp2_with fail
          go_ret
          exact ⟨by rw [hD.out]; rfl, bDrew (bNext hb0.out hB.out (Nat.le_refl _)) _⟩
        ·
          have hF2 := Lib.hid (show (f, t) ∉ ps.take (k + 1) by rw [hts]; simp only [List.mem_append, List.mem_singleton, Prod.mk.injEq]; rintro (h | ⟨h1, h2⟩); exact hF h; exact e2 h2.symm)
          subst e1
          have eb : (pt == t) = false := by simpa using e2
          clear hts hmem hF e2
          go_wp2_with fail
          go_quiet (fail)
          go_wp2_with fail
          go_roundw
          case rel => exact ⟨k + 1, by omega, by go_num, hF2.out, bDrew hB.out _⟩
          case measure => simp [intOf]; omega
      ·
        have hF2 := Lib.hid (show (f, t) ∉ ps.take (k + 1) by rw [hts]; simp only [List.mem_append, List.mem_singleton, Prod.mk.injEq]; rintro (h | ⟨h1, h2⟩); exact hF h; exact e1 h1.symm)
        have eb : (pf == f) = false := by simpa using e1
        clear hts hmem hF e1
        go_wp2_with fail
        go_quiet (fail)
        go_wp2_with fail
        go_roundw
        case rel => exact ⟨k + 1, by omega, by go_num, hF2.out, bDrew hB.out _⟩
        case measure => simp [intOf]; omega
    · obtain rfl : k = N := by omega
      have hD : decide ((f, t) ∈ ps) = false := decide_eq_false (by rwa [List.take_of_length_le (by rw [hN.out]; exact Nat.le_refl _)] at hF)
      replace hD := Lib.hid hD
      clear hF
      have hB2 := Lib.hid (bNext hb0.out hB (Nat.le_refl _))
      go_wp2_with fail
      go_ret
      exact ⟨by rw [hD.out]; rfl, hB2.out⟩
end Go.Proofs.Ytnokojobiaddmaa
