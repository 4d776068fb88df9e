/- Rows by what they say: made. -/
import Derived.Test.YtbiodlhiilmgkaaCt5
namespace Go.Proofs.Ytbiodlhiilmgkaa
open Go.ChangeShapes Go.WideShapes Go.ChangeAt Go.RowKit
set_option linter.unusedVariables false
set_option linter.unusedSimpArgs false
open BigFrame Bs Rw Ct

namespace Ct
/-- Rows that are told, and whether they could be. -/
structure RR where
  b : Int
  t : Int
  l : List En
  e : Int
def madeR (b t : Int) (l : List En) : RR := if 4096 < l.length then ⟨0, 0, [], 3⟩ else if chk b t l then ⟨b, t, l, 0⟩ else ⟨0, 0, [], 90⟩
def addR (b t : Int) (l m : List En) : RR := if chk b t l then madeR b t (l ++ m) else ⟨0, 0, [], 90⟩
def cutR (b t : Int) (l : List En) (i : Int) : RR := if chk b t l then (if b ≤ i ∧ i ≤ b + l.length then ⟨i, tl t l (i - b).toNat, l.drop (i - b).toNat, 0⟩ else ⟨0, 0, [], 4⟩) else ⟨0, 0, [], 90⟩
def RowsP (w : World) (r : RR) (e : Ending) (w' : World) : Prop :=
  ∃ a n c, e = .returned (.tuple #[.agg #[.int .i64 r.b, .int .i64 r.t, .slice a n c], .int .i64 r.e]) ∧ LAt w' a n c r.l ∧ Far w.heap.size a n ∧ Below w.heap.size w w'
theorem nu8_int (k : Int) : ∀ x, Value.int .i64 k ≠ .int .u8 x := fun x h => by cases h
theorem nu8_slice (a : Option Addr) (n c : Nat) : ∀ x, Value.slice a n c ≠ .int .u8 x := fun x h => by cases h
end Ct

set_option maxRecDepth 100000 in
set_option maxHeartbeats 4000000 in
theorem made_c (b t : Int) (a0 : Option Addr) (n0 c0 : Nat) (a : Option Addr) (n c : Nat) (l : List En) (w : World) (h : LAt w a n c l) (hw : Wfl l) (hb : I64 b) (ht : I64 t) (hs : l.length ≤ 4096 → Sml l) :
    Calls Try.prog 31 #[.agg #[.int .i64 b, .int .i64 t, .slice a0 n0 c0], .slice a n c] w (RowsP w (madeR b t l)) := by
  have hl := h.len
  have b1 : (n : Int) ≤ 9223372036854775807 := by have := h.le; have := h.mx; omega
  have hB0 : Below w.heap.size w ((w.alloc (.cells #[.int .i64 b, .int .i64 t, .slice a0 n0 c0] 24)).alloc (.cells #[.int .i64 0, .int .i64 0, .slice none 0 0] 24)) := ((Below.refl _ _).alloc (Nat.le_refl _) _).alloc (by simp) _
  by_cases hn : 4096 < n
  · have k : (4096 : Int) < (n : Int) := by omega
    have hm := Lib.hid (show madeR b t l = ⟨0, 0, [], 3⟩ by unfold madeR; rw [if_pos (by omega)])
    clear h hs hl
    go_enter Try.func31, Try.ntmps31
    go_wp2_with fail
    refine bodyPost_ret (v := .tuple #[.agg #[.int .i64 0, .int .i64 0, .slice none 0 0], .int .i64 3]) (by simp [results, Try.results31, go_sem]) rfl ?_
    rw [hm.out]
    exact ⟨_, _, _, rfl, LAt.nil _ _ _ (by omega), Far.zero _ _, hB0⟩
  · have k : ¬ (4096 : Int) < (n : Int) := by omega
    have hs' := hs (by omega)
    have hcp := Lib.hid (copied_c a n c l _ (h.bel hB0) hs')
    have bx := ((blk_new w [.int .i64 b, .int .i64 t, .slice a0 n0 c0] 24).bel ((Below.refl _ _).alloc (Nat.le_refl _) (.cells #[.int .i64 0, .int .i64 0, .slice none 0 0] 24)))
    have rs := blk_new (w.alloc (.cells #[.int .i64 b, .int .i64 t, .slice a0 n0 c0] 24)) [.int .i64 0, .int .i64 0, .slice none 0 0] 24
    rw [World.size_alloc] at rs
    replace bx := Lib.hid bx
    replace rs := Lib.hid rs
    replace hB0 := Lib.hid hB0
    replace hl := Lib.hid hl
    clear h hs
    go_enter Try.func31, Try.ntmps31
    go_wp2_with fail
    refine hcp.out.mono ?_
    rintro e w1 ⟨a1, c1, rfl, hL1, hF1, hb1⟩
    have bx1 := bx.out.bel hb1
    have rs1 := rs.out.bel hb1
    have hB1 := bNext hB0.out hb1 (Nat.le_refl _)
    rw [World.size_alloc, World.size_alloc] at hF1
    have hs1 := hb1.size
    rw [World.size_alloc, World.size_alloc] at hs1
    have p0 := bx1.c 0 _ rfl
    have p1 := bx1.c 1 _ rfl
    have p2 := bx1.c 2 _ rfl
    have pf := bx1.f 2
    have bx2 := bx1.set (i := 2) (by simp) (.slice a1 n c1)
    have rs2 := rs1.other (q := w.heap.size) (o := 2) (by omega) (.slice a1 n c1)
    have hB2 := hB1.setCell (p := ⟨w.heap.size, 2, none⟩) (Nat.le_refl _) (.slice a1 n c1)
    have hL2 := hL1.setFar hF1 (show w.heap.size < w.heap.size + 1 + 1 by omega) p2 (nu8_slice _ _ _) (.slice a1 n c1)
    have hck := Lib.hid (check_l b t a1 n c1 l _ hL2 hw hb ht)
    replace bx2 := Lib.hid bx2
    replace rs2 := Lib.hid rs2
    replace hB2 := Lib.hid hB2
    replace hL2 := Lib.hid hL2
    replace hF1 := Lib.hid hF1
    clear bx1 rs1 hB1 hL1 hb1 hcp
    cases hc : chk b t l with
    | true =>
      have hm := Lib.hid (show madeR b t l = ⟨b, t, l, 0⟩ by unfold madeR; rw [if_neg (by have := hl.out; omega), hc]; rfl)
      rw [hc] at hck
      clear hc
      go_wp2_with fail
      refine hck.out.mono ?_
      rintro e w3 ⟨rfl, hb3⟩
      have bx3 := bx2.out.bel hb3
      have rs3 := rs2.out.bel hb3
      have hB3 := bNext hB2.out hb3 (Nat.le_refl _)
      have hL3 := hL2.out.bel hb3
      have q0 := bx3.c 0 _ rfl
      have q1 := bx3.c 1 _ rfl
      have q2 := bx3.c 2 _ rfl
      have r0 := rs3.c 0 _ rfl
      have r1 := rs3.c 1 _ rfl
      have r2 := rs3.c 2 _ rfl
      have rf := rs3.f 0
      have rf1 := rs3.f 1
      have rf2 := rs3.f 2
      have rs4 := ((rs3.set (i := 0) (by simp) (.int .i64 b)).set (i := 1) (by simp) (.int .i64 t)).set (i := 2) (by simp) (.slice a1 n c1)
      have s0 := Lib.hid (rs4.c 0 _ rfl)
      have s1 := Lib.hid (rs4.c 1 _ rfl)
      have s2 := Lib.hid (rs4.c 2 _ rfl)
      have hL4 := ((hL3.setFar hF1.out (show w.heap.size + 1 < w.heap.size + 1 + 1 by omega) r0 (nu8_int _) (.int .i64 b)).setFar hF1.out (show w.heap.size + 1 < w.heap.size + 1 + 1 by omega) ((World.cell?_setCell_other _ _ _ _ (by simp)).trans r1) (nu8_int _) (.int .i64 t)).setFar hF1.out (show w.heap.size + 1 < w.heap.size + 1 + 1 by omega) ((World.cell?_setCell_other _ _ _ _ (by simp)).trans ((World.cell?_setCell_other _ _ _ _ (by simp)).trans r2)) (nu8_slice _ _ _) (.slice a1 n c1)
      have hB4 := ((hB3.setCell (p := ⟨w.heap.size + 1, 0, none⟩) (by show _ ≤ w.heap.size + 1; omega) (.int .i64 b)).setCell (p := ⟨w.heap.size + 1, 1, none⟩) (by show _ ≤ w.heap.size + 1; omega) (.int .i64 t)).setCell (p := ⟨w.heap.size + 1, 2, none⟩) (by show _ ≤ w.heap.size + 1; omega) (.slice a1 n c1)
      replace hL4 := Lib.hid hL4
      replace hB4 := Lib.hid hB4
      clear bx3 rs3 hB3 hL3 rs4 hb3 hck bx2 rs2 hB2
      go_wp2_with fail
      refine bodyPost_ret (v := .tuple #[.agg #[.int .i64 b, .int .i64 t, .slice a1 n c1], .int .i64 0]) (by simp [results, Try.results31, go_sem, s0.out, s1.out, s2.out]) rfl ?_
      rw [hm.out]
      exact ⟨_, _, _, rfl, hL4.out, hF1.out.mono (by omega), hB4.out⟩
    | false =>
      have hm := Lib.hid (show madeR b t l = ⟨0, 0, [], 90⟩ by unfold madeR; rw [if_neg (by have := hl.out; omega), hc]; rfl)
      rw [hc] at hck
      clear hc
      go_wp2_with fail
      refine hck.out.mono ?_
      rintro e w3 ⟨rfl, hb3⟩
      have rs3 := rs2.out.bel hb3
      have hB3 := bNext hB2.out hb3 (Nat.le_refl _)
      have r0 := rs3.c 0 _ rfl
      have r1 := rs3.c 1 _ rfl
      have r2 := rs3.c 2 _ rfl
      have rf := rs3.f 0
      have rf1 := rs3.f 1
      have rf2 := rs3.f 2
      have rs4 := ((rs3.set (i := 0) (by simp) (.int .i64 0)).set (i := 1) (by simp) (.int .i64 0)).set (i := 2) (by simp) (.slice none 0 0)
      have s0 := Lib.hid (rs4.c 0 _ rfl)
      have s1 := Lib.hid (rs4.c 1 _ rfl)
      have s2 := Lib.hid (rs4.c 2 _ rfl)
      have hB4 := ((hB3.setCell (p := ⟨w.heap.size + 1, 0, none⟩) (by show _ ≤ w.heap.size + 1; omega) (.int .i64 0)).setCell (p := ⟨w.heap.size + 1, 1, none⟩) (by show _ ≤ w.heap.size + 1; omega) (.int .i64 0)).setCell (p := ⟨w.heap.size + 1, 2, none⟩) (by show _ ≤ w.heap.size + 1; omega) (.slice none 0 0)
      replace hB4 := Lib.hid hB4
      clear rs3 hB3 rs4 hb3 hck bx2 rs2 hB2
      go_wp2_with fail
      refine bodyPost_ret (v := .tuple #[.agg #[.int .i64 0, .int .i64 0, .slice none 0 0], .int .i64 90]) (by simp [results, Try.results31, go_sem, s0.out, s1.out, s2.out]) rfl ?_
      rw [hm.out]
      exact ⟨_, _, _, rfl, LAt.nil _ _ _ (by omega), Far.zero _ _, hB4.out⟩
end Go.Proofs.Ytbiodlhiilmgkaa
