/- Rows by what they say: what Put answers; Put that is refused. -/
import Derived.Test.YtbiodlhiilmgkaaCt13
import Derived.Test.YtbiodlhiilmgkaaCt9
import Derived.Deep.DeepCutAuto
import Derived.Deep.CutBlock
namespace Go.Proofs.Ytbiodlhiilmgkaa
open Go.ChangeShapes Go.WideShapes Go.ChangeAt Go.RowKit
set_option linter.unusedVariables false
set_option linter.unusedSimpArgs false
open BigFrame Bs Rw Ct

namespace Ct
/-- How many entries ahead are of the same terms. -/
def matchN : List En → List En → Nat
  | x :: xs, y :: ys => if x.term = y.term then matchN xs ys + 1 else 0
  | _, _ => 0
theorem matchN_le : ∀ (xs ys : List En), matchN xs ys ≤ xs.length ∧ matchN xs ys ≤ ys.length
  | [], _ => by simp [matchN]
  | _ :: _, [] => by simp [matchN]
  | x :: xs, y :: ys => by
    have := matchN_le xs ys
    unfold matchN
    split <;> simp <;> omega
theorem matchN_in : ∀ (xs ys : List En) (j : Nat), j < matchN xs ys → ∃ x y, xs[j]? = some x ∧ ys[j]? = some y ∧ x.term = y.term
  | [], _, j, h => by simp [matchN] at h
  | _ :: _, [], j, h => by simp [matchN] at h
  | x :: xs, y :: ys, j, h => by
    unfold matchN at h
    split at h
    · rename_i he
      cases j with
      | zero => exact ⟨x, y, rfl, rfl, he⟩
      | succ j =>
        obtain ⟨a, b, h1, h2, h3⟩ := matchN_in xs ys j (by omega)
        exact ⟨a, b, by simpa using h1, by simpa using h2, h3⟩
    · omega
theorem matchN_at : ∀ (xs ys : List En), xs[matchN xs ys]? = none ∨ ys[matchN xs ys]? = none ∨ ∃ x y, xs[matchN xs ys]? = some x ∧ ys[matchN xs ys]? = some y ∧ x.term ≠ y.term
  | [], _ => .inl (by simp [matchN])
  | _ :: _, [] => .inr (.inl (by simp [matchN]))
  | x :: xs, y :: ys => by
    unfold matchN
    split
    · rcases matchN_at xs ys with h | h | ⟨a, b, h1, h2, h3⟩
      · exact .inl (by simpa using h)
      · exact .inr (.inl (by simpa using h))
      · exact .inr (.inr ⟨a, b, by simpa using h1, by simpa using h2, h3⟩)
    · rename_i he
      exact .inr (.inr ⟨x, y, rfl, rfl, he⟩)
/-- The rows behind Put: entries m come behind place k of l. -/
def putL (l m : List En) (k : Nat) : List En := if matchN (l.drop k) m < m.length then l.take (k + matchN (l.drop k) m) ++ m.drop (matchN (l.drop k) m) else l
structure PR where
  r : RR
  s : Int
  ok : Bool
def putT (r : RR) (s : Int) : PR := if r.e = 0 then ⟨r, s, true⟩ else ⟨r, 0, false⟩
def putR (b t : Int) (l : List En) (i τ : Int) (m : List En) : PR :=
  if chk b t l = false then ⟨⟨0, 0, [], 90⟩, 0, false⟩
  else if 16 < m.length ∨ chk i τ m = false then ⟨⟨0, 0, [], 2⟩, 0, false⟩
  else if b + l.length < i then ⟨⟨b, t, l, 0⟩, b + l.length, false⟩
  else if i < b ∧ i + m.length < b then ⟨⟨b, t, l, 0⟩, b, false⟩
  else if i < b then putT (madeR b t (putL l (m.drop (b - i).toNat) 0)) (i + m.length)
  else if termT b t l i ≠ τ then ⟨⟨b, t, l, 0⟩, max (i - 1) b, false⟩
  else putT (madeR b t (putL l m (i - b).toNat)) (i + m.length)
def PutP (w : World) (p : PR) (e : Ending) (w' : World) : Prop :=
  ∃ a n c, e = .returned (.tuple #[.agg #[.int .i64 p.r.b, .int .i64 p.r.t, .slice a n c], .int .i64 p.s, .bool p.ok, .int .i64 p.r.e]) ∧ LAt w' a n c p.r.l ∧ Below w.heap.size w w'
end Ct
attribute [local go_sem ↓] sliced_cut

set_option maxRecDepth 100000 in
set_option maxHeartbeats 4000000 in
theorem put_rows (b t i τ : Int) (a a2 : Option Addr) (n c m c2 : Nat) (l l2 : List En) (w : World) (h : LAt w a n c l) (hw : Wfl l) (hb : I64 b) (ht : I64 t) (hc : chk b t l = false) :
    Calls Try.prog 10 #[.agg #[.int .i64 b, .int .i64 t, .slice a n c], .int .i64 i, .int .i64 τ, .slice a2 m c2] w (PutP w (putR b t l i τ l2)) := by
  have hB0 : Below w.heap.size w ((w.alloc (.cells #[.int .i64 b, .int .i64 t, .slice a n c] 24)).alloc (.cells #[.int .i64 0, .int .i64 0, .slice none 0 0] 24)) := ((Below.refl _ _).alloc (Nat.le_refl _) _).alloc (by simp) _
  have rs := blk_new (w.alloc (.cells #[.int .i64 b, .int .i64 t, .slice a n c] 24)) [.int .i64 0, .int .i64 0, .slice none 0 0] 24
  rw [World.size_alloc] at rs
  replace rs := Lib.hid rs
  have hck := Lib.hid (check_l b t a n c l _ (h.bel hB0) hw hb ht)
  replace hB0 := Lib.hid hB0
  have hm := Lib.hid (show putR b t l i τ l2 = ⟨⟨0, 0, [], 90⟩, 0, false⟩ by unfold putR; rw [if_pos hc])
  rw [hc] at hck
  clear hc h
  go_enter Try.func10, Try.ntmps10
  go_wp2_with fail
  (go_step3; go_wp2_with fail)
  refine hck.out.mono ?_
  rintro e w1 ⟨rfl, hb1⟩
  have rs1 := rs.out.bel hb1
  have hB1 := bNext hB0.out hb1 (Nat.le_refl _)
  have r0 := rs1.c 0 _ rfl
  have r1 := rs1.c 1 _ rfl
  have r2 := rs1.c 2 _ rfl
  have rf := rs1.f 0
  have rf1 := rs1.f 1
  have rf2 := rs1.f 2
  have rs4 := blk_set3 rs1 (.int .i64 0) (.int .i64 0) (.slice none 0 0)
  have s0 := Lib.hid (rs4.c 0 _ rfl)
  have s1 := Lib.hid (rs4.c 1 _ rfl)
  have s2 := Lib.hid (rs4.c 2 _ rfl)
  have hB4 := Lib.hid (below_set3 hB1 (show w.heap.size ≤ w.heap.size + 1 by omega) (.int .i64 0) (.int .i64 0) (.slice none 0 0))
  clear rs1 hB1 rs4 hb1 hck rs hB0
  go_wp2_with fail
  try rw [Exit.noGoto_ret]
  refine bodyPost_ret (v := .tuple #[.agg #[.int .i64 0, .int .i64 0, .slice none 0 0], .int .i64 0, .bool false, .int .i64 90]) (by simp [results, Try.results10, go_sem, s0.out, s1.out, s2.out]) rfl ?_
  rw [hm.out]
  exact ⟨_, _, _, rfl, LAt.nil _ _ _ (by omega), hB4.out⟩

set_option maxRecDepth 100000 in
set_option maxHeartbeats 4000000 in
theorem put_arg (b t i τ : Int) (a a2 : Option Addr) (n c m c2 : Nat) (l l2 : List En) (w : World) (h : LAt w a n c l) (h2 : LAt w a2 m c2 l2) (hw : Wfl l) (hw2 : Wfl l2) (hb : I64 b) (ht : I64 t) (hi : I64 i) (hτ : I64 τ) (hc : chk b t l = true) (hbad : 16 < l2.length ∨ chk i τ l2 = false) :
    Calls Try.prog 10 #[.agg #[.int .i64 b, .int .i64 t, .slice a n c], .int .i64 i, .int .i64 τ, .slice a2 m c2] w (PutP w (putR b t l i τ l2)) := by
  have hB0 : Below w.heap.size w ((w.alloc (.cells #[.int .i64 b, .int .i64 t, .slice a n c] 24)).alloc (.cells #[.int .i64 0, .int .i64 0, .slice none 0 0] 24)) := ((Below.refl _ _).alloc (Nat.le_refl _) _).alloc (by simp) _
  have rs := blk_new (w.alloc (.cells #[.int .i64 b, .int .i64 t, .slice a n c] 24)) [.int .i64 0, .int .i64 0, .slice none 0 0] 24
  rw [World.size_alloc] at rs
  replace rs := Lib.hid rs
  have hck := Lib.hid (check_l b t a n c l _ (h.bel hB0) hw hb ht)
  replace hB0 := Lib.hid hB0
  have hm := Lib.hid (show putR b t l i τ l2 = ⟨⟨0, 0, [], 2⟩, 0, false⟩ by unfold putR; rw [if_neg (by simp [hc]), if_pos hbad])
  have hck2 := Lib.hid (fun u (hu : Below w.heap.size w u) => check_l i τ a2 m c2 l2 u (h2.bel hu) hw2 hi hτ)
  have hml := h2.len
  have hm63 : (m : Int) ≤ 9223372036854775807 := by have := h2.le; have := h2.mx; omega
  rw [hc] at hck
  clear hc h h2
  by_cases h16 : 16 < m
  · have k16 : (16 : Int) < (m : Int) := by omega
    have d16 : decide ((16 : Int) < (m : Int)) = true := decide_eq_true (by omega)
    clear hck2 hbad hml
    go_enter Try.func10, Try.ntmps10
    go_wp2_with fail
    (go_step3; go_wp2_with fail)
    refine hck.out.mono ?_
    rintro e w1 ⟨rfl, hb1⟩
    have rs1 := rs.out.bel hb1
    have hB1 := bNext hB0.out hb1 (Nat.le_refl _)
    have r0 := rs1.c 0 _ rfl
    have r1 := rs1.c 1 _ rfl
    have r2 := rs1.c 2 _ rfl
    have rf := rs1.f 0
    have rf1 := rs1.f 1
    have rf2 := rs1.f 2
    have rs4 := blk_set3 rs1 (.int .i64 0) (.int .i64 0) (.slice none 0 0)
    have s0 := Lib.hid (rs4.c 0 _ rfl)
    have s1 := Lib.hid (rs4.c 1 _ rfl)
    have s2 := Lib.hid (rs4.c 2 _ rfl)
    have hB4 := Lib.hid (below_set3 hB1 (show w.heap.size ≤ w.heap.size + 1 by omega) (.int .i64 0) (.int .i64 0) (.slice none 0 0))
    clear rs1 hB1 rs4 hb1 hck rs hB0
    go_wp2_with fail
    try rw [Exit.noGoto_ret]
    refine bodyPost_ret (v := .tuple #[.agg #[.int .i64 0, .int .i64 0, .slice none 0 0], .int .i64 0, .bool false, .int .i64 2]) (by simp [results, Try.results10, go_sem, s0.out, s1.out, s2.out]) rfl ?_
    rw [hm.out]
    exact ⟨_, _, _, rfl, LAt.nil _ _ _ (by omega), hB4.out⟩
  · have k16 : ¬ (16 : Int) < (m : Int) := by omega
    have d16 : decide ((16 : Int) < (m : Int)) = false := decide_eq_false (by omega)
    have hc2 : chk i τ l2 = false := hbad.resolve_left (by omega)
    rw [hc2] at hck2
    clear hc2 hbad hml h16
    go_enter Try.func10, Try.ntmps10
    go_wp2_with fail
    (go_step3; go_wp2_with fail)
    refine hck.out.mono ?_
    rintro e w1 ⟨rfl, hb1⟩
    have rs1 := Lib.hid (rs.out.bel hb1)
    have hB1 := Lib.hid (bNext hB0.out hb1 (Nat.le_refl _))
    clear hb1 hck rs hB0
    go_wp2_with fail
    refine (hck2.out _ hB1.out).mono ?_
    rintro e w2 ⟨rfl, hb2⟩
    have rs2 := rs1.out.bel hb2
    have hB2 := bNext hB1.out hb2 (Nat.le_refl _)
    have r0 := rs2.c 0 _ rfl
    have r1 := rs2.c 1 _ rfl
    have r2 := rs2.c 2 _ rfl
    have rf := rs2.f 0
    have rf1 := rs2.f 1
    have rf2 := rs2.f 2
    have rs4 := blk_set3 rs2 (.int .i64 0) (.int .i64 0) (.slice none 0 0)
    have s0 := Lib.hid (rs4.c 0 _ rfl)
    have s1 := Lib.hid (rs4.c 1 _ rfl)
    have s2 := Lib.hid (rs4.c 2 _ rfl)
    have hB4 := Lib.hid (below_set3 hB2 (show w.heap.size ≤ w.heap.size + 1 by omega) (.int .i64 0) (.int .i64 0) (.slice none 0 0))
    clear rs2 hB2 rs4 hb2 rs1 hB1 hck2
    go_wp2_with fail
    try rw [Exit.noGoto_ret]
    refine bodyPost_ret (v := .tuple #[.agg #[.int .i64 0, .int .i64 0, .slice none 0 0], .int .i64 0, .bool false, .int .i64 2]) (by simp [results, Try.results10, go_sem, s0.out, s1.out, s2.out]) rfl ?_
    rw [hm.out]
    exact ⟨_, _, _, rfl, LAt.nil _ _ _ (by omega), hB4.out⟩
set_option maxRecDepth 100000 in
set_option maxHeartbeats 4000000 in
theorem rput_rows (b t i τ : Int) (a a2 : Option Addr) (n c m c2 : Nat) (l l2 : List En) (w : World) (h : LAt w a n c l) (hw : Wfl l) (hb : I64 b) (ht : I64 t) (hc : chk b t l = false) :
    Calls Try.prog 11 #[.agg #[.int .i64 b, .int .i64 t, .slice a n c], .int .i64 i, .int .i64 τ, .slice a2 m c2] w (PutP w (putR b t l i τ l2)) := by
  have hB0 : Below w.heap.size w ((w.alloc (.cells #[.int .i64 b, .int .i64 t, .slice a n c] 24)).alloc (.cells #[.int .i64 0, .int .i64 0, .slice none 0 0] 24)) := ((Below.refl _ _).alloc (Nat.le_refl _) _).alloc (by simp) _
  have rs := blk_new (w.alloc (.cells #[.int .i64 b, .int .i64 t, .slice a n c] 24)) [.int .i64 0, .int .i64 0, .slice none 0 0] 24
  rw [World.size_alloc] at rs
  replace rs := Lib.hid rs
  have hck := Lib.hid (rcheck_l b t a n c l _ (h.bel hB0) hw hb ht)
  replace hB0 := Lib.hid hB0
  have hm := Lib.hid (show putR b t l i τ l2 = ⟨⟨0, 0, [], 90⟩, 0, false⟩ by unfold putR; rw [if_pos hc])
  rw [hc] at hck
  clear hc h
  go_enter Try.func11, Try.ntmps11
  go_wp2_with fail
  skip
  refine hck.out.mono ?_
  rintro e w1 ⟨rfl, hb1⟩
  have rs1 := rs.out.bel hb1
  have hB1 := bNext hB0.out hb1 (Nat.le_refl _)
  have r0 := rs1.c 0 _ rfl
  have r1 := rs1.c 1 _ rfl
  have r2 := rs1.c 2 _ rfl
  have rf := rs1.f 0
  have rf1 := rs1.f 1
  have rf2 := rs1.f 2
  have rs4 := blk_set3 rs1 (.int .i64 0) (.int .i64 0) (.slice none 0 0)
  have s0 := Lib.hid (rs4.c 0 _ rfl)
  have s1 := Lib.hid (rs4.c 1 _ rfl)
  have s2 := Lib.hid (rs4.c 2 _ rfl)
  have hB4 := Lib.hid (below_set3 hB1 (show w.heap.size ≤ w.heap.size + 1 by omega) (.int .i64 0) (.int .i64 0) (.slice none 0 0))
  clear rs1 hB1 rs4 hb1 hck rs hB0
  go_wp2_with fail
  skip
  refine bodyPost_ret (v := .tuple #[.agg #[.int .i64 0, .int .i64 0, .slice none 0 0], .int .i64 0, .bool false, .int .i64 90]) (by simp [results, Try.results11, go_sem, s0.out, s1.out, s2.out]) rfl ?_
  rw [hm.out]
  exact ⟨_, _, _, rfl, LAt.nil _ _ _ (by omega), hB4.out⟩

set_option maxRecDepth 100000 in
set_option maxHeartbeats 4000000 in
theorem rput_arg (b t i τ : Int) (a a2 : Option Addr) (n c m c2 : Nat) (l l2 : List En) (w : World) (h : LAt w a n c l) (h2 : LAt w a2 m c2 l2) (hw : Wfl l) (hw2 : Wfl l2) (hb : I64 b) (ht : I64 t) (hi : I64 i) (hτ : I64 τ) (hc : chk b t l = true) (hbad : 16 < l2.length ∨ chk i τ l2 = false) :
    Calls Try.prog 11 #[.agg #[.int .i64 b, .int .i64 t, .slice a n c], .int .i64 i, .int .i64 τ, .slice a2 m c2] w (PutP w (putR b t l i τ l2)) := by
  have hB0 : Below w.heap.size w ((w.alloc (.cells #[.int .i64 b, .int .i64 t, .slice a n c] 24)).alloc (.cells #[.int .i64 0, .int .i64 0, .slice none 0 0] 24)) := ((Below.refl _ _).alloc (Nat.le_refl _) _).alloc (by simp) _
  have rs := blk_new (w.alloc (.cells #[.int .i64 b, .int .i64 t, .slice a n c] 24)) [.int .i64 0, .int .i64 0, .slice none 0 0] 24
  rw [World.size_alloc] at rs
  replace rs := Lib.hid rs
  have hck := Lib.hid (rcheck_l b t a n c l _ (h.bel hB0) hw hb ht)
  replace hB0 := Lib.hid hB0
  have hm := Lib.hid (show putR b t l i τ l2 = ⟨⟨0, 0, [], 2⟩, 0, false⟩ by unfold putR; rw [if_neg (by simp [hc]), if_pos hbad])
  have hck2 := Lib.hid (fun u (hu : Below w.heap.size w u) => rcheck_l i τ a2 m c2 l2 u (h2.bel hu) hw2 hi hτ)
  have hml := h2.len
  have hm63 : (m : Int) ≤ 9223372036854775807 := by have := h2.le; have := h2.mx; omega
  rw [hc] at hck
  clear hc h h2
  by_cases h16 : 16 < m
  · have k16 : (16 : Int) < (m : Int) := by omega
    have d16 : decide ((16 : Int) < (m : Int)) = true := decide_eq_true (by omega)
    clear hck2 hbad hml
    go_enter Try.func11, Try.ntmps11
    go_wp2_with fail
    skip
    refine hck.out.mono ?_
    rintro e w1 ⟨rfl, hb1⟩
    have rs1 := rs.out.bel hb1
    have hB1 := bNext hB0.out hb1 (Nat.le_refl _)
    have r0 := rs1.c 0 _ rfl
    have r1 := rs1.c 1 _ rfl
    have r2 := rs1.c 2 _ rfl
    have rf := rs1.f 0
    have rf1 := rs1.f 1
    have rf2 := rs1.f 2
    have rs4 := blk_set3 rs1 (.int .i64 0) (.int .i64 0) (.slice none 0 0)
    have s0 := Lib.hid (rs4.c 0 _ rfl)
    have s1 := Lib.hid (rs4.c 1 _ rfl)
    have s2 := Lib.hid (rs4.c 2 _ rfl)
    have hB4 := Lib.hid (below_set3 hB1 (show w.heap.size ≤ w.heap.size + 1 by omega) (.int .i64 0) (.int .i64 0) (.slice none 0 0))
    clear rs1 hB1 rs4 hb1 hck rs hB0
    go_wp2_with fail
    skip
    refine bodyPost_ret (v := .tuple #[.agg #[.int .i64 0, .int .i64 0, .slice none 0 0], .int .i64 0, .bool false, .int .i64 2]) (by simp [results, Try.results11, go_sem, s0.out, s1.out, s2.out]) rfl ?_
    rw [hm.out]
    exact ⟨_, _, _, rfl, LAt.nil _ _ _ (by omega), hB4.out⟩
  · have k16 : ¬ (16 : Int) < (m : Int) := by omega
    have d16 : decide ((16 : Int) < (m : Int)) = false := decide_eq_false (by omega)
    have hc2 : chk i τ l2 = false := hbad.resolve_left (by omega)
    rw [hc2] at hck2
    clear hc2 hbad hml h16
    go_enter Try.func11, Try.ntmps11
    go_wp2_with fail
    skip
    refine hck.out.mono ?_
    rintro e w1 ⟨rfl, hb1⟩
    have rs1 := Lib.hid (rs.out.bel hb1)
    have hB1 := Lib.hid (bNext hB0.out hb1 (Nat.le_refl _))
    clear hb1 hck rs hB0
    go_wp2_with fail
    refine (hck2.out _ hB1.out).mono ?_
    rintro e w2 ⟨rfl, hb2⟩
    have rs2 := rs1.out.bel hb2
    have hB2 := bNext hB1.out hb2 (Nat.le_refl _)
    have r0 := rs2.c 0 _ rfl
    have r1 := rs2.c 1 _ rfl
    have r2 := rs2.c 2 _ rfl
    have rf := rs2.f 0
    have rf1 := rs2.f 1
    have rf2 := rs2.f 2
    have rs4 := blk_set3 rs2 (.int .i64 0) (.int .i64 0) (.slice none 0 0)
    have s0 := Lib.hid (rs4.c 0 _ rfl)
    have s1 := Lib.hid (rs4.c 1 _ rfl)
    have s2 := Lib.hid (rs4.c 2 _ rfl)
    have hB4 := Lib.hid (below_set3 hB2 (show w.heap.size ≤ w.heap.size + 1 by omega) (.int .i64 0) (.int .i64 0) (.slice none 0 0))
    clear rs2 hB2 rs4 hb2 rs1 hB1 hck2
    go_wp2_with fail
    skip
    refine bodyPost_ret (v := .tuple #[.agg #[.int .i64 0, .int .i64 0, .slice none 0 0], .int .i64 0, .bool false, .int .i64 2]) (by simp [results, Try.results11, go_sem, s0.out, s1.out, s2.out]) rfl ?_
    rw [hm.out]
    exact ⟨_, _, _, rfl, LAt.nil _ _ _ (by omega), hB4.out⟩
end Go.Proofs.Ytbiodlhiilmgkaa
