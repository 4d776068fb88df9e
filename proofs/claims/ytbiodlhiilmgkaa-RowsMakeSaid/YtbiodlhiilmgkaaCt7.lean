/- Rows by what they say: the reference's made; Term; Cut. -/
import Derived.Test.YtbiodlhiilmgkaaCt6
namespace Go.Proofs.Ytbiodlhiilmgkaa
open Go.ChangeShapes Go.WideShapes Go.ChangeAt Go.RowKit
set_option linter.unusedVariables false
set_option linter.unusedSimpArgs false
open BigFrame Bs Rw Ct

namespace Ct
/-- Where 's[l:..:m]' begins. -/
@[irreducible] def cutA (a : Option Addr) (l m s : Nat) : Option Addr := if m = l then a else a.map (·.add (l * s))
theorem sliced_cut (a : Option Addr) (l h m s : Nat) : sliced a l h m s = .slice (cutA a l m s) (h - l) (m - l) := by unfold sliced cutA; rfl
theorem LAt.cut {w : World} {a : Option Addr} {n cap : Nat} {l : List En} (h : LAt w a n cap l) {k hh m : Nat} (h1 : k ≤ hh) (h2 : hh ≤ n) (h3 : hh ≤ m) (h4 : m ≤ cap) : LAt w (cutA a k m 5) (hh - k) (m - k) ((l.take hh).drop k) := by
  have hmx := h.mx
  have hu := h.upto h2 h3 (by omega)
  unfold cutA
  by_cases e : m = k
  · rw [if_pos e]
    have e2 : hh = k := by omega
    have e3 : (l.take hh).drop k = [] := by rw [e2]; simp
    rw [e3, e2, Nat.sub_self]
    exact LAt.nil _ _ _ (by omega)
  · rw [if_neg e]
    by_cases e2 : hh = 0
    · have e3 : k = 0 := by omega
      subst e2; subst e3
      rw [List.take_zero, List.drop_nil, Nat.sub_self]
      exact LAt.nil _ _ _ (by omega)
    · obtain ⟨es, q1, q2⟩ := hu
      obtain ⟨b, o, rfl, _⟩ := q1.row (by omega)
      have := LAt.from_ ⟨es, q1, q2⟩ h1
      rw [Option.map_some, Addr.add_lit]
      exact this
/-! Three stores into a block that is known whole. -/
theorem blk_set3 {u : World} {b : Nat} {x0 x1 x2 : Value} (h : Blk u b [x0, x1, x2]) (v0 v1 v2 : Value) : Blk (((u.setCell ⟨b, 0, none⟩ v0).setCell ⟨b, 1, none⟩ v1).setCell ⟨b, 2, none⟩ v2) b [v0, v1, v2] :=
  ((h.set (i := 0) (by simp) v0).set (i := 1) (by simp) v1).set (i := 2) (by simp) v2
theorem blk_oth3 {u : World} {b q : Nat} {l : List Value} (h : Blk u b l) (hne : b ≠ q) (v0 v1 v2 : Value) : Blk (((u.setCell ⟨q, 0, none⟩ v0).setCell ⟨q, 1, none⟩ v1).setCell ⟨q, 2, none⟩ v2) b l :=
  ((h.other hne v0).other hne v1).other hne v2
theorem below_set3 {B : Nat} {a u : World} {b : Nat} (h : Below B a u) (hb : B ≤ b) (v0 v1 v2 : Value) : Below B a (((u.setCell ⟨b, 0, none⟩ v0).setCell ⟨b, 1, none⟩ v1).setCell ⟨b, 2, none⟩ v2) :=
  ((h.setCell (p := ⟨b, 0, none⟩) hb v0).setCell (p := ⟨b, 1, none⟩) hb v1).setCell (p := ⟨b, 2, none⟩) hb v2
theorem LAt.set3 {w : World} {a : Option Addr} {n c m b : Nat} {l : List En} (h : LAt w a n c l) (hf : Far m a n) (hb : b < m) {y0 y1 : Int} {y2 : Option Addr} {y3 y4 : Nat} (rs : Blk w b [.int .i64 y0, .int .i64 y1, .slice y2 y3 y4]) (v0 v1 v2 : Value) :
    LAt (((w.setCell ⟨b, 0, none⟩ v0).setCell ⟨b, 1, none⟩ v1).setCell ⟨b, 2, none⟩ v2) a n c l :=
  ((h.setFar hf hb (rs.c 0 _ rfl) (nu8_int _) v0).setFar hf hb ((World.cell?_setCell_other _ _ _ _ (by simp)).trans (rs.c 1 _ rfl)) (nu8_int _) v1).setFar hf hb ((World.cell?_setCell_other _ _ _ _ (by simp)).trans ((World.cell?_setCell_other _ _ _ _ (by simp)).trans (rs.c 2 _ rfl))) (nu8_slice _ _ _) v2
/-- What 'Term' tells of rows that may be. -/
def termT (b t : Int) (l : List En) (i : Int) : Int := if b ≤ i ∧ i ≤ b + l.length then tl t l (i - b).toNat else 0
def termB (b : Int) (l : List En) (i : Int) : Bool := decide (b ≤ i ∧ i ≤ b + l.length)
end Ct
attribute [local go_sem ↓] sliced_cut

set_option maxRecDepth 100000 in
set_option maxHeartbeats 4000000 in
theorem rmade_c (b t : Int) (a : Option Addr) (n c : Nat) (l : List En) (w : World) (h : LAt w a n c l) (hw : Wfl l) (hb : I64 b) (ht : I64 t) (hs : l.length ≤ 4096 → Sml l) :
    Calls Try.prog 34 #[.int .i64 b, .int .i64 t, .slice a n c] w (RowsP w (madeR b t l)) := by
  have hl := h.len
  have b1 : (n : Int) ≤ 9223372036854775807 := by have := h.le; have := h.mx; omega
  have hB0 : Below w.heap.size w (w.alloc (.cells #[.int .i64 0, .int .i64 0, .slice none 0 0] 24)) := (Below.refl _ _).alloc (Nat.le_refl _) _
  by_cases hn : 4096 < n
  · have k : (4096 : Int) < (n : Int) := by omega
    have hm := Lib.hid (show madeR b t l = ⟨0, 0, [], 3⟩ by unfold madeR; rw [if_pos (by omega)])
    clear h hs hl
    go_enter Try.func34, Try.ntmps34
    go_wp2_with fail
    refine bodyPost_ret (v := .tuple #[.agg #[.int .i64 0, .int .i64 0, .slice none 0 0], .int .i64 3]) (by simp [results, Try.results34, go_sem]) rfl ?_
    rw [hm.out]
    exact ⟨_, _, _, rfl, LAt.nil _ _ _ (by omega), Far.zero _ _, hB0⟩
  · have k : ¬ (4096 : Int) < (n : Int) := by omega
    have hs' := hs (by omega)
    have hcp := Lib.hid (rcopied_c a n c l _ (h.bel hB0) hs')
    have rs := blk_new w [.int .i64 0, .int .i64 0, .slice none 0 0] 24
    replace rs := Lib.hid rs
    replace hB0 := Lib.hid hB0
    replace hl := Lib.hid hl
    clear h hs
    go_enter Try.func34, Try.ntmps34
    go_wp2_with fail
    refine hcp.out.mono ?_
    rintro e w1 ⟨a1, c1, rfl, hL1, hF1, hb1⟩
    have rs1 := rs.out.bel hb1
    have hB1 := bNext hB0.out hb1 (Nat.le_refl _)
    rw [World.size_alloc] at hF1
    have hs1 := hb1.size
    rw [World.size_alloc] at hs1
    have hb2 : Below w1.heap.size w1 (w1.alloc (.cells #[.int .i64 b, .int .i64 t, .slice a1 n c1] 24)) := (Below.refl _ _).alloc (Nat.le_refl _) _
    have bx2 := blk_new w1 [.int .i64 b, .int .i64 t, .slice a1 n c1] 24
    have rs2 := rs1.bel hb2
    have hB2 := bNext hB1 hb2 (Nat.le_refl _)
    have hL2 := hL1.bel hb2
    have hck := Lib.hid (rcheck_l b t a1 n c1 l _ hL2 hw hb ht)
    replace bx2 := Lib.hid bx2
    replace rs2 := Lib.hid rs2
    replace hB2 := Lib.hid hB2
    replace hL2 := Lib.hid hL2
    replace hF1 := Lib.hid hF1
    clear rs1 hB1 hL1 hb1 hcp hb2
    cases hc : chk b t l with
    | true =>
      have hm := Lib.hid (show madeR b t l = ⟨b, t, l, 0⟩ by unfold madeR; rw [if_neg (by have := hl.out; omega), hc]; rfl)
      rw [hc] at hck
      clear hc
      go_wp2_with fail
      refine hck.out.mono ?_
      rintro e w3 ⟨rfl, hb3⟩
      have bx3 := bx2.out.bel hb3
      have rs3 := rs2.out.bel hb3
      have hB3 := bNext hB2.out hb3 (Nat.le_refl _)
      have hL3 := hL2.out.bel hb3
      have q0 := bx3.c 0 _ rfl
      have q1 := bx3.c 1 _ rfl
      have q2 := bx3.c 2 _ rfl
      have r0 := rs3.c 0 _ rfl
      have r1 := rs3.c 1 _ rfl
      have r2 := rs3.c 2 _ rfl
      have rf := rs3.f 0
      have rf1 := rs3.f 1
      have rf2 := rs3.f 2
      have rs4 := blk_set3 rs3 (.int .i64 b) (.int .i64 t) (.slice a1 n c1)
      have s0 := Lib.hid (rs4.c 0 _ rfl)
      have s1 := Lib.hid (rs4.c 1 _ rfl)
      have s2 := Lib.hid (rs4.c 2 _ rfl)
      have hL4 := Lib.hid (hL3.set3 hF1.out (show w.heap.size < w.heap.size + 1 by omega) rs3 (.int .i64 b) (.int .i64 t) (.slice a1 n c1))
      have hB4 := Lib.hid (below_set3 hB3 (Nat.le_refl _) (.int .i64 b) (.int .i64 t) (.slice a1 n c1))
      clear bx3 rs3 hB3 hL3 rs4 hb3 hck bx2 rs2 hB2
      go_wp2_with fail
      refine bodyPost_ret (v := .tuple #[.agg #[.int .i64 b, .int .i64 t, .slice a1 n c1], .int .i64 0]) (by simp [results, Try.results34, go_sem, s0.out, s1.out, s2.out]) rfl ?_
      rw [hm.out]
      exact ⟨_, _, _, rfl, hL4.out, hF1.out.mono (by omega), hB4.out⟩
    | false =>
      have hm := Lib.hid (show madeR b t l = ⟨0, 0, [], 90⟩ by unfold madeR; rw [if_neg (by have := hl.out; omega), hc]; rfl)
      rw [hc] at hck
      clear hc
      go_wp2_with fail
      refine hck.out.mono ?_
      rintro e w3 ⟨rfl, hb3⟩
      have rs3 := rs2.out.bel hb3
      have hB3 := bNext hB2.out hb3 (Nat.le_refl _)
      have r0 := rs3.c 0 _ rfl
      have r1 := rs3.c 1 _ rfl
      have r2 := rs3.c 2 _ rfl
      have rf := rs3.f 0
      have rf1 := rs3.f 1
      have rf2 := rs3.f 2
      have rs4 := blk_set3 rs3 (.int .i64 0) (.int .i64 0) (.slice none 0 0)
      have s0 := Lib.hid (rs4.c 0 _ rfl)
      have s1 := Lib.hid (rs4.c 1 _ rfl)
      have s2 := Lib.hid (rs4.c 2 _ rfl)
      have hB4 := Lib.hid (below_set3 hB3 (Nat.le_refl _) (.int .i64 0) (.int .i64 0) (.slice none 0 0))
      clear rs3 hB3 rs4 hb3 hck bx2 rs2 hB2
      go_wp2_with fail
      refine bodyPost_ret (v := .tuple #[.agg #[.int .i64 0, .int .i64 0, .slice none 0 0], .int .i64 90]) (by simp [results, Try.results34, go_sem, s0.out, s1.out, s2.out]) rfl ?_
      rw [hm.out]
      exact ⟨_, _, _, rfl, LAt.nil _ _ _ (by omega), Far.zero _ _, hB4.out⟩

set_option maxRecDepth 100000 in
set_option maxHeartbeats 4000000 in
/-- 'Term' of rows that may be. -/
theorem term_c (b t i : Int) (a : Option Addr) (n c : Nat) (l : List En) (w : World) (h : LAt w a n c l) (hw : Wfl l) (hb : I64 b) (ht : I64 t) (hi : I64 i) (hc : chk b t l = true) :
    Calls Try.prog 30 #[.agg #[.int .i64 b, .int .i64 t, .slice a n c], .int .i64 i] w fun e w' => e = .returned (.tuple #[.int .i64 (termT b t l i), .bool (termB b l i)]) ∧ Below w.heap.size w w' := by
  have hl := h.len
  obtain ⟨g1, _⟩ := chk_iff.1 hc
  have hB0 : Below w.heap.size w (w.alloc (.cells #[.int .i64 b, .int .i64 t, .slice a n c] 24)) := (Below.refl _ _).alloc (Nat.le_refl _) _
  have bx := blk_new w [.int .i64 b, .int .i64 t, .slice a n c] 24
  have hla := Lib.hid (last_l b t a n c l w.heap.size _ (h.bel hB0) hw hb ht hc (bx.c 0 _ rfl) (bx.c 1 _ rfl) (bx.c 2 _ rfl))
  have hck := Lib.hid (fun u (hu : Below w.heap.size w u) => check_l b t a n c l u (h.bel hu) hw hb ht)
  rw [hc] at hck
  have g2 : 0 ≤ b := g1.1
  have g3 : (l.length : Int) ≤ 4096 := by omega
  have g4 : b ≤ 1099511627776 := by omega
  have hi1 := hi.1
  have hi2 := hi.2
  have hln : Hid (n = l.length) := hl
  have H := Lib.hid h
  replace bx := Lib.hid bx
  replace hB0 := Lib.hid hB0
  clear hc g1 h hl
  unfold I64 at hi
  go_enter Try.func30, Try.ntmps30
  go_wp2_with fail
  refine hla.out.mono ?_
  rintro e w1 ⟨rfl, hb1⟩
  have hB1 := bNext hB0.out hb1 (Nat.le_refl _)
  have bx1 := bx.out.bel hb1
  have p0 := bx1.c 0 _ rfl
  have p1 := bx1.c 1 _ rfl
  have p2 := bx1.c 2 _ rfl
  replace bx1 := Lib.hid bx1
  replace hB1 := Lib.hid hB1
  clear hb1
  go_wp2_with fail
  refine (hck.out _ hB1.out).mono ?_
  rintro e w2 ⟨rfl, hb2⟩
  have hB2 := bNext hB1.out hb2 (Nat.le_refl _)
  have bx2 := bx1.out.bel hb2
  have q0 := bx2.c 0 _ rfl
  have q1 := bx2.c 1 _ rfl
  have q2 := bx2.c 2 _ rfl
  replace bx2 := Lib.hid bx2
  replace hB2 := Lib.hid hB2
  clear hb2 bx1 hB1 p0 p1 p2 hla hck
  by_cases h1 : i < b
  · have e1 := Lib.hid (show termT b t l i = 0 by unfold termT; rw [if_neg (by omega)])
    have e2 := Lib.hid (show termB b l i = false by unfold termB; exact decide_eq_false (by omega))
    go_wp2_with fail
    go_ret2
    exact ⟨by rw [e1.out, e2.out]; rfl, hB2.out⟩
  by_cases h2 : b + l.length < i
  · have e1 := Lib.hid (show termT b t l i = 0 by unfold termT; rw [if_neg (by omega)])
    have e2 := Lib.hid (show termB b l i = false by unfold termB; exact decide_eq_false (by omega))
    go_wp2_with fail
    go_ret2
    exact ⟨by rw [e1.out, e2.out]; rfl, hB2.out⟩
  by_cases h3 : i = b
  · subst h3
    have e1 := Lib.hid (show termT i t l i = t by unfold termT; rw [if_pos (by omega), Int.sub_self]; rfl)
    have e2 := Lib.hid (show termB i l i = true by unfold termB; exact decide_eq_true (by omega))
    go_wp2_with fail
    go_ret2
    exact ⟨by rw [e1.out, e2.out]; rfl, hB2.out⟩
  · obtain ⟨k, hk⟩ : ∃ k : Nat, i - b - 1 = (k : Int) := ⟨(i - b - 1).toNat, by omega⟩
    have hkl : k < l.length := by omega
    obtain ⟨y, hy⟩ : ∃ y, l[k]? = some y := ⟨_, List.getElem?_eq_getElem hkl⟩
    have hi0 : i = b + 1 + (k : Int) := by omega
    have e1 := Lib.hid (show termT b t l i = y.term by
      unfold termT tl
      rw [if_pos (by omega), if_neg (by omega), show (i - b).toNat - 1 = k by omega, List.getD_eq_getElem?_getD, hy]; rfl)
    have e2 := Lib.hid (show termB b l i = true by unfold termB; exact decide_eq_true (by omega))
    obtain ⟨gg, o, x, rfl, hgg, hx, hhas⟩ := (H.out.bel hB2.out).ent hy
    have x0 := hx.1
    rw [hhas.t] at x0
    have hb3 : (i == b) = false := by simpa using h3
    have hk2 : (k : Int) < (n : Int) := by have := hln.out; omega
    clear hx hhas hy hi0
    replace h3 := Lib.hid h3
    go_wp2_with fail
    go_ret2
    exact ⟨by rw [e1.out, e2.out]; rfl, hB2.out⟩

set_option maxRecDepth 100000 in
set_option maxHeartbeats 4000000 in
/-- The reference's 'Term' of rows that may be. -/
theorem rterm_c (b t i : Int) (a : Option Addr) (n c : Nat) (l : List En) (w : World) (h : LAt w a n c l) (hw : Wfl l) (hb : I64 b) (ht : I64 t) (hi : I64 i) (hc : chk b t l = true) :
    Calls Try.prog 33 #[.agg #[.int .i64 b, .int .i64 t, .slice a n c], .int .i64 i] w fun e w' => e = .returned (.tuple #[.int .i64 (termT b t l i), .bool (termB b l i)]) ∧ Below w.heap.size w w' := by
  have hl := h.len
  obtain ⟨g1, _⟩ := chk_iff.1 hc
  have hB0 : Below w.heap.size w (w.alloc (.cells #[.int .i64 b, .int .i64 t, .slice a n c] 24)) := (Below.refl _ _).alloc (Nat.le_refl _) _
  have bx := blk_new w [.int .i64 b, .int .i64 t, .slice a n c] 24
  have hla := Lib.hid (rlast_l b t a n c l _ (h.bel hB0) hw hb ht hc)
  have hck := Lib.hid (fun u (hu : Below w.heap.size w u) => rcheck_l b t a n c l u (h.bel hu) hw hb ht)
  rw [hc] at hck
  have g2 : 0 ≤ b := g1.1
  have g3 : (l.length : Int) ≤ 4096 := by omega
  have g4 : b ≤ 1099511627776 := by omega
  have hi1 := hi.1
  have hi2 := hi.2
  have hln : Hid (n = l.length) := hl
  have H := Lib.hid h
  replace bx := Lib.hid bx
  replace hB0 := Lib.hid hB0
  clear hc g1 h hl
  unfold I64 at hi
  have key : ∀ w1, Below w.heap.size w w1 → Blk w1 w.heap.size [.int .i64 b, .int .i64 t, .slice a n c] → True := fun _ _ _ => trivial
  clear key
  by_cases h1 : i < b
  · have e1 := Lib.hid (show termT b t l i = 0 by unfold termT; rw [if_neg (by omega)])
    have e2 := Lib.hid (show termB b l i = false by unfold termB; exact decide_eq_false (by omega))
    go_enter Try.func33, Try.ntmps33
    go_wp2_with fail
    refine hla.out.mono ?_
    rintro e w1 ⟨rfl, hb1⟩
    have hB1 := bNext hB0.out hb1 (Nat.le_refl _)
    have bx1 := bx.out.bel hb1
    have p0 := bx1.c 0 _ rfl
    have p1 := bx1.c 1 _ rfl
    have p2 := bx1.c 2 _ rfl
    replace bx1 := Lib.hid bx1
    replace hB1 := Lib.hid hB1
    clear hb1
    go_wp2_with fail
    refine (hck.out _ hB1.out).mono ?_
    rintro e w2 ⟨rfl, hb2⟩
    have hB2 := bNext hB1.out hb2 (Nat.le_refl _)
    have bx2 := bx1.out.bel hb2
    have q0 := bx2.c 0 _ rfl
    have q1 := bx2.c 1 _ rfl
    have q2 := bx2.c 2 _ rfl
    replace bx2 := Lib.hid bx2
    replace hB2 := Lib.hid hB2
    clear hb2 bx1 hB1 p0 p1 p2 hla hck
    go_wp2_with fail
    go_ret2
    exact ⟨by rw [e1.out, e2.out]; rfl, hB2.out⟩
  by_cases h2 : b + l.length < i
  · have e1 := Lib.hid (show termT b t l i = 0 by unfold termT; rw [if_neg (by omega)])
    have e2 := Lib.hid (show termB b l i = false by unfold termB; exact decide_eq_false (by omega))
    go_enter Try.func33, Try.ntmps33
    go_wp2_with fail
    refine hla.out.mono ?_
    rintro e w1 ⟨rfl, hb1⟩
    have hB1 := bNext hB0.out hb1 (Nat.le_refl _)
    have bx1 := bx.out.bel hb1
    have p0 := bx1.c 0 _ rfl
    have p1 := bx1.c 1 _ rfl
    have p2 := bx1.c 2 _ rfl
    replace bx1 := Lib.hid bx1
    replace hB1 := Lib.hid hB1
    clear hb1
    go_wp2_with fail
    refine (hck.out _ hB1.out).mono ?_
    rintro e w2 ⟨rfl, hb2⟩
    have hB2 := bNext hB1.out hb2 (Nat.le_refl _)
    have bx2 := bx1.out.bel hb2
    have q0 := bx2.c 0 _ rfl
    have q1 := bx2.c 1 _ rfl
    have q2 := bx2.c 2 _ rfl
    replace bx2 := Lib.hid bx2
    replace hB2 := Lib.hid hB2
    clear hb2 bx1 hB1 p0 p1 p2 hla hck
    go_wp2_with fail
    go_ret2
    exact ⟨by rw [e1.out, e2.out]; rfl, hB2.out⟩
  by_cases h3 : i = b
  · subst h3
    have e1 := Lib.hid (show termT i t l i = t by unfold termT; rw [if_pos (by omega), Int.sub_self]; rfl)
    have e2 := Lib.hid (show termB i l i = true by unfold termB; exact decide_eq_true (by omega))
    go_enter Try.func33, Try.ntmps33
    go_wp2_with fail
    refine hla.out.mono ?_
    rintro e w1 ⟨rfl, hb1⟩
    have hB1 := bNext hB0.out hb1 (Nat.le_refl _)
    have bx1 := bx.out.bel hb1
    have p0 := bx1.c 0 _ rfl
    have p1 := bx1.c 1 _ rfl
    have p2 := bx1.c 2 _ rfl
    replace bx1 := Lib.hid bx1
    replace hB1 := Lib.hid hB1
    clear hb1
    go_wp2_with fail
    refine (hck.out _ hB1.out).mono ?_
    rintro e w2 ⟨rfl, hb2⟩
    have hB2 := bNext hB1.out hb2 (Nat.le_refl _)
    have bx2 := bx1.out.bel hb2
    have q0 := bx2.c 0 _ rfl
    have q1 := bx2.c 1 _ rfl
    have q2 := bx2.c 2 _ rfl
    replace bx2 := Lib.hid bx2
    replace hB2 := Lib.hid hB2
    clear hb2 bx1 hB1 p0 p1 p2 hla hck
    go_wp2_with fail
    go_ret2
    exact ⟨by rw [e1.out, e2.out]; rfl, hB2.out⟩
  · obtain ⟨k, hk⟩ : ∃ k : Nat, i - b - 1 = (k : Int) := ⟨(i - b - 1).toNat, by omega⟩
    have hkl : k < l.length := by omega
    obtain ⟨y, hy⟩ : ∃ y, l[k]? = some y := ⟨_, List.getElem?_eq_getElem hkl⟩
    have hi0 : i = b + 1 + (k : Int) := by omega
    have e1 := Lib.hid (show termT b t l i = y.term by
      unfold termT tl
      rw [if_pos (by omega), if_neg (by omega), show (i - b).toNat - 1 = k by omega, List.getD_eq_getElem?_getD, hy]; rfl)
    have e2 := Lib.hid (show termB b l i = true by unfold termB; exact decide_eq_true (by omega))
    have hb3 : (i == b) = false := by simpa using h3
    have hk2 : (k : Int) < (n : Int) := by have := hln.out; omega
    clear hi0
    replace h3 := Lib.hid h3
    replace hy := Lib.hid hy
    go_enter Try.func33, Try.ntmps33
    go_wp2_with fail
    refine hla.out.mono ?_
    rintro e w1 ⟨rfl, hb1⟩
    have hB1 := bNext hB0.out hb1 (Nat.le_refl _)
    have bx1 := bx.out.bel hb1
    have p0 := bx1.c 0 _ rfl
    have p1 := bx1.c 1 _ rfl
    have p2 := bx1.c 2 _ rfl
    replace bx1 := Lib.hid bx1
    replace hB1 := Lib.hid hB1
    clear hb1
    go_wp2_with fail
    refine (hck.out _ hB1.out).mono ?_
    rintro e w2 ⟨rfl, hb2⟩
    have hB2 := bNext hB1.out hb2 (Nat.le_refl _)
    have bx2 := bx1.out.bel hb2
    have q0 := bx2.c 0 _ rfl
    have q1 := bx2.c 1 _ rfl
    have q2 := bx2.c 2 _ rfl
    replace bx2 := Lib.hid bx2
    replace hB2 := Lib.hid hB2
    clear hb2 bx1 hB1 p0 p1 p2 hla hck
    obtain ⟨gg, o, x, rfl, hgg, hx, hhas⟩ := (H.out.bel hB2.out).ent hy.out
    have x0 := hx.1
    rw [hhas.t] at x0
    clear hx hhas hy
    go_wp2_with fail
    go_ret2
    exact ⟨by rw [e1.out, e2.out]; rfl, hB2.out⟩
end Go.Proofs.Ytbiodlhiilmgkaa
