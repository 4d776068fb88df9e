/- The reference's scheduler: its state. -/
import Derived.Test.YtbbcongfaoopcaaF19
namespace Go.Proofs.Ytbbcongfaoopcaa
open Go.ChangeShapes Go.WideShapes Go.ChangeAt Go.RowKit Go.Maps
set_option linter.unusedVariables false
set_option linter.unusedSimpArgs false
open BigFrame Pk Fq Vr Fa

namespace Fa
def iC (W : Nat → Int) (n : Nat) : List Value := (List.range n).map fun i => .int .i64 (W i)
theorem iC_succ (W : Nat → Int) (n : Nat) : iC W (n + 1) = iC W n ++ [.int .i64 (W n)] := by simp [iC, List.range_succ]
theorem iC_len (W : Nat → Int) (n : Nat) : (iC W n).length = n := by simp [iC]
theorem iC_at (W : Nat → Int) (n i : Nat) (h : i < n) : (iC W n)[i]? = some (.int .i64 (W i)) := by simp [iC, h]
theorem iC_set (W : Nat → Int) (k : Nat) (x : Int) (n : Nat) : (iC W n).set k (.int .i64 x) = iC (up W k x) n := by
  apply List.ext_getElem?
  intro i
  rw [List.getElem?_set]
  by_cases e : k = i
  · subst e
    by_cases h : k < n
    · rw [if_pos rfl, if_pos (by rw [iC_len]; exact h), iC_at _ _ _ h, up_at]
    · rw [if_pos rfl, if_neg (by rw [iC_len]; exact h)]
      rw [List.getElem?_eq_none (by rw [iC_len]; omega)]
  · rw [if_neg e]
    by_cases h : i < n
    · rw [iC_at _ _ _ h, iC_at _ _ _ h]; simp only [up]; rw [if_neg (fun q => e q.symm)]
    · rw [List.getElem?_eq_none (by rw [iC_len]; omega), List.getElem?_eq_none (by rw [iC_len]; omega)]
theorem bC_set (W : Nat → Bool) (k : Nat) (x : Bool) (n : Nat) : (bC W n).set k (.bool x) = bC (upb W k x) n := by
  apply List.ext_getElem?
  intro i
  rw [List.getElem?_set]
  by_cases e : k = i
  · subst e
    by_cases h : k < n
    · rw [if_pos rfl, if_pos (by rw [bC_len]; exact h), bC_at _ _ _ h]; simp [upb]
    · rw [if_pos rfl, if_neg (by rw [bC_len]; exact h)]
      rw [List.getElem?_eq_none (by rw [bC_len]; omega)]
  · rw [if_neg e]
    by_cases h : i < n
    · rw [bC_at _ _ _ h, bC_at _ _ _ h]; simp only [upb]; rw [if_neg (fun q => e q.symm)]
    · rw [List.getElem?_eq_none (by rw [bC_len]; omega), List.getElem?_eq_none (by rw [bC_len]; omega)]
/-- The blocks of the reference's scheduler. -/
structure RB where
  r : Nat
  wb : Nat
  wc : Nat
  sb : Nat
  sc : Nat
  db : Nat
  dc : Nat
/-- The reference's scheduler in memory. -/
structure RF (w : World) (B : RB) (tb ct N : Nat) (ALL V : Int) (W Z : Nat → Int) (D : Nat → Bool) (S F : Nat → Int) : Prop where
  b : Blk w B.r [.slice (some ⟨B.wb, 0, none⟩) N B.wc, .int .i64 ALL, .int .i64 V, .slice (some ⟨tb, 0, none⟩) N ct, .slice (some ⟨B.sb, 0, none⟩) N B.sc, .slice (some ⟨B.db, 0, none⟩) N B.dc]
  wr : Blk w B.wb (iC W N)
  s : Blk w B.sb (iC Z N)
  d : Blk w B.db (bC D N)
  t : TagsAt w (some ⟨tb, 0, none⟩) tb 0 N S F
  tf : ∀ o, w.frozen? ⟨tb, o, none⟩ = false
  a1 : B.r ≠ B.wb
  a2 : B.r ≠ B.sb
  a3 : B.r ≠ B.db
  a4 : B.r ≠ tb
  a5 : B.wb ≠ B.sb
  a6 : B.wb ≠ B.db
  a7 : B.wb ≠ tb
  a8 : B.sb ≠ B.db
  a9 : B.sb ≠ tb
  a10 : B.db ≠ tb
  n1 : 1 ≤ N
  n8 : N ≤ 8
variable {w w' : World} {B : RB} {tb ct N : Nat} {ALL V : Int} {W Z : Nat → Int} {D : Nat → Bool} {S F : Nat → Int}
theorem RF.tl (h : RF w B tb ct N ALL V W Z D S F) : tb < w.heap.size := h.t.hb (by have := h.n1; omega)
theorem RF.kf {l : List Nat} (k : KF l w w') (h : RF w B tb ct N ALL V W Z D S F) (h1 : B.r ∉ l) (h2 : B.wb ∉ l) (h3 : B.sb ∉ l) (h4 : B.db ∉ l) (h5 : tb ∉ l) : RF w' B tb ct N ALL V W Z D S F :=
  ⟨k.blk h.b h1, k.blk h.wr h2, k.blk h.s h3, k.blk h.d h4, k.tags h.t (fun _ => h5), fun o => (World.frozen?_of_block (k.k tb h.tl h5)).trans (h.tf o), h.a1, h.a2, h.a3, h.a4, h.a5, h.a6, h.a7, h.a8, h.a9, h.a10, h.n1, h.n8⟩
theorem RF.bel (h : RF w B tb ct N ALL V W Z D S F) (k : Below w.heap.size w w') : RF w' B tb ct N ALL V W Z D S F :=
  h.kf (KF.of (l := []) k) (by simp) (by simp) (by simp) (by simp) (by simp)
theorem RF.flow (h : RF w B tb ct N ALL V W Z D S F) {k : Nat} (hk : k < N) :
    w.cell? ⟨B.wb, k, none⟩ = some (.int .i64 (W k)) ∧ w.cell? ⟨B.sb, k, none⟩ = some (.int .i64 (Z k)) ∧ w.cell? ⟨B.db, k, none⟩ = some (.bool (D k)) ∧ w.cell? ⟨tb, k * 2, none⟩ = some (.int .i64 (S k)) ∧ w.cell? ⟨tb, k * 2 + 1, none⟩ = some (.int .i64 (F k)) :=
  ⟨h.wr.c _ _ (iC_at W N k hk), h.s.c _ _ (iC_at Z N k hk), h.d.c _ _ (bC_at D N k hk), by have := h.t.c0 k hk; simpa using this, by have := h.t.c1 k hk; simpa using this⟩
/-- The times are laid anew. -/
theorem RF.setV {g c : Nat} {V2 : Int} {S2 F2 : Nat → Int} (h : RF w B tb ct N ALL V W Z D S F) (T : TagsAt w (some ⟨g, 0, none⟩) g 0 N S2 F2) (hf : ∀ o, w.frozen? ⟨g, o, none⟩ = false) (h1 : g ≠ B.r) (h2 : g ≠ B.wb) (h3 : g ≠ B.sb) (h4 : g ≠ B.db) :
    RF ((w.setCell ⟨B.r, 2, none⟩ (.int .i64 V2)).setCell ⟨B.r, 3, none⟩ (.slice (some ⟨g, 0, none⟩) N c)) B g c N ALL V2 W Z D S2 F2 := by
  have := h.a1
  have := h.a2
  have := h.a3
  exact ⟨(h.b.set (i := 2) (by simp) (.int .i64 V2)).set (i := 3) (by simp) _, (h.wr.other (by omega) _).other (by omega) _, (h.s.other (by omega) _).other (by omega) _, (h.d.other (by omega) _).other (by omega) _, (T.set_other (fun _ => h1) _).set_other (fun _ => h1) _,
    fun o => (World.frozen?_setCell _ _ _ _).trans ((World.frozen?_setCell _ _ _ _).trans (hf o)), h.a1, h.a2, h.a3, fun e => h1 e.symm, h.a5, h.a6, fun e => h2 e.symm, h.a8, fun e => h3 e.symm, fun e => h4 e.symm, h.n1, h.n8⟩
theorem RF.setFin {k : Nat} (h : RF w B tb ct N ALL V W Z D S F) (hk : k < N) (x : Int) : RF (w.setCell ⟨tb, k * 2 + 1, none⟩ (.int .i64 x)) B tb ct N ALL V W Z D S (up F k x) :=
  ⟨h.b.other h.a4 _, h.wr.other h.a7 _, h.s.other h.a9 _, h.d.other h.a10 _, by have := h.t.set_finish k hk x; rw [Nat.zero_add] at this; exact this, fun o => (World.frozen?_setCell _ _ _ _).trans (h.tf o), h.a1, h.a2, h.a3, h.a4, h.a5, h.a6, h.a7, h.a8, h.a9, h.a10, h.n1, h.n8⟩
theorem RF.setSize {k : Nat} (h : RF w B tb ct N ALL V W Z D S F) (hk : k < N) (x : Int) : RF (w.setCell ⟨B.sb, k, none⟩ (.int .i64 x)) B tb ct N ALL V W (up Z k x) D S F :=
  ⟨h.b.other h.a2 _, h.wr.other h.a5 _, by have := h.s.set (i := k) (by rw [iC_len]; exact hk) (.int .i64 x); rw [iC_set] at this; exact this, h.d.other (fun e => h.a8 e.symm) _, h.t.set_other (fun _ e => h.a9 e.symm) _, fun o => (World.frozen?_setCell _ _ _ _).trans (h.tf o), h.a1, h.a2, h.a3, h.a4, h.a5, h.a6, h.a7, h.a8, h.a9, h.a10, h.n1, h.n8⟩
theorem RF.setServed {k : Nat} (h : RF w B tb ct N ALL V W Z D S F) (hk : k < N) (x : Bool) : RF (w.setCell ⟨B.db, k, none⟩ (.bool x)) B tb ct N ALL V W Z (upb D k x) S F :=
  ⟨h.b.other h.a3 _, h.wr.other h.a6 _, h.s.other h.a8 _, by have := h.d.set (i := k) (by rw [bC_len]; exact hk) (.bool x); rw [bC_set] at this; exact this, h.t.set_other (fun _ e => h.a10 e.symm) _, fun o => (World.frozen?_setCell _ _ _ _).trans (h.tf o), h.a1, h.a2, h.a3, h.a4, h.a5, h.a6, h.a7, h.a8, h.a9, h.a10, h.n1, h.n8⟩
theorem virXF_ok {V c st : Int} {N : Nat} {S F : Nat → Int} {k : Nat} {w : World} {e : Ending} {w' : World} (h : VirXF (tagR V N S F (k : Int) c st) w e w') (hok : tagOk V N S F (k : Int) c st) :
    ∃ (g c' : Nat), e = .returned (.tuple #[.agg #[.int .i64 V, .slice (some ⟨g, 0, none⟩) N c'], .int .i64 0]) ∧ TagsAt w' (some ⟨g, 0, none⟩) g 0 N (up S k st) (up F k (st + c)) ∧ w.heap.size ≤ g ∧ (∀ o, w'.frozen? ⟨g, o, none⟩ = false) ∧ Below w.heap.size w w' := by
  unfold tagR at h
  rw [if_pos hok] at h
  obtain ⟨a, g, c', rfl, T, hg, hb⟩ := h
  have hN : 0 < N := by have := hok.2.1; have := hok.2.2.1; omega
  obtain rfl := T.ha hN
  rw [Int.toNat_natCast] at T
  exact ⟨g, c', rfl, T, (hg hN).1, (hg hN).2, hb⟩
/-- The blocks that a pick of the reference writes. -/
def RB.l (B : RB) (tb : Nat) : List Nat := [B.r, B.sb, B.db, tb]
end Fa
end Go.Proofs.Ytbbcongfaoopcaa
