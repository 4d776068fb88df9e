/- The walk of VoteBegins. -/
import Derived.Test.YthahlfabcjnkhaaBegin5
import Derived.Test.YthahlfabcjnkhaaVoteNewer
namespace Go.Proofs.Ythahlfabcjnkhaa
open Go.ChangeShapes Go.WideShapes Go.ChangeAt Go.RowKit
set_option linter.unusedVariables false
set_option linter.unusedSimpArgs false
open Rw Vt R10 Bg

/-- What both tell of a begin. -/
theorem both_begin (t v b : Int) (r : Rw.R) (s : Nat) (hs : s < 256) (self : Int) (hw : RWf r) : ∃ (h0 h1 h2 er S T I L : Int) (l : List Int), l.length ≤ 7 ∧
    (∀ u, RAt u r → Calls Try.prog 70 #[.agg #[.int .i64 t, .int .i64 v, .int .i64 b], r.val, .int .u8 s, .int .i64 self] u fun e w' => ∃ a c, e = .returned (.tuple #[.agg #[.int .i64 h0, .int .i64 h1, .int .i64 h2], .slice a l.length c, .int .i64 er]) ∧ AsksAt w' a S T I L l ∧ Below u.heap.size u w') ∧
    (∀ u, RAt u r → Calls Try.prog 71 #[.agg #[.int .i64 t, .int .i64 v, .int .i64 b], r.val, .int .u8 s, .int .i64 self] u fun e w' => ∃ a c, e = .returned (.tuple #[.agg #[.int .i64 h0, .int .i64 h1, .int .i64 h2], .slice a l.length c, .int .i64 er]) ∧ AsksAt w' a S T I L l ∧ Below u.heap.size u w') := by
  by_cases h : Rw.chkB r = false ∨ hasB s self = false
  · refine ⟨0, 0, 0, (if Rw.chkB r = true then 2 else 90), 0, 0, 0, 0, [], by simp, fun u hu => (begin_no t v b r s hs self u hw hu h).mono ?_, fun u hu => (rbegin_no t v b r s hs self u hw hu h).mono ?_⟩
    · rintro e w' ⟨rfl, hb⟩
      exact ⟨none, 0, rfl, fun hh => absurd hh (by simp), hb⟩
    · rintro e w' ⟨rfl, hb⟩
      exact ⟨none, 0, rfl, fun hh => absurd hh (by simp), hb⟩
  · have hc : Rw.chkB r = true := by
      cases q : Rw.chkB r with
      | true => rfl
      | false => exact absurd (.inl q) h
    have hh : hasB s self = true := by
      cases q : hasB s self with
      | true => rfl
      | false => exact absurd (.inr q) h
    exact ⟨_, _, _, _, _, _, _, _, _, asksN_len s self 7, fun u hu => begin_ok t v b r s hs self u hw hu hc hh, fun u hu => rbegin_ok t v b r s hs self u hw hu hc hh⟩

set_option maxRecDepth 100000 in
set_option maxHeartbeats 3200000 in
theorem begins_h (w : World) (t v b : Int) (r : Rw.R) (s : Nat) (hs : s < 256) (self : Int) (hw : RWf r) (hr : RAt w r) :
    Calls Try.prog 18 #[.agg #[.int .i64 t, .int .i64 v, .int .i64 b], r.val, .int .u8 s, .int .i64 self] w fun e w' => e = .returned (.bool true) ∧ Below w.heap.size w w' := by
  have HR := Lib.hid hr
  clear hr
  by_cases hg : 300 < r.n
  · unfold R.val
    go_enter Try.func18, Try.ntmps18
    go_wp2_with fail
    refine (great_c r _).mono ?_
    rw [decide_eq_true hg]
    rintro e w1 ⟨rfl, hb1⟩
    have hB1 := belowNext (((Below.refl w.heap.size w).alloc (Nat.le_refl _) _).alloc (by simp) _) hb1 (Nat.le_refl _)
    go_wp2_with fail
    refine (wakes10_c _).mono ?_
    rintro e w2 ⟨rfl, hb2⟩
    go_wp2
    go_ret
    exact ⟨rfl, belowNext hB1 hb2 (Nat.le_refl _)⟩
  · obtain ⟨h0, h1, h2, er, S, T, I, L, l, hl, cA, cR⟩ := both_begin t v b r s hs self hw
    have CA := Lib.hid cA
    have CR := Lib.hid cR
    clear cA cR hw
    obtain ⟨N, hN⟩ : ∃ N, l.length = N := ⟨_, rfl⟩
    unfold R.val
    go_enter Try.func18, Try.ntmps18
    go_wp2_with fail
    refine (great_c r _).mono ?_
    rw [decide_eq_false hg]
    rintro e w1 ⟨rfl, hb1⟩
    have hB1 := belowNext (((Below.refl w.heap.size w).alloc (Nat.le_refl _) _).alloc (by simp) _) hb1 (Nat.le_refl _)
    obtain ⟨hc1, hf1⟩ := bcell hb1
    have hs1 : w.heap.size + 2 ≤ w1.heap.size := by have := hb1.size; simp at this; omega
    have x0 : w1.cell? ⟨w.heap.size, 0, none⟩ = some (.int .i64 t) := by go_simp
    have x1 : w1.cell? ⟨w.heap.size, 1, none⟩ = some (.int .i64 v) := by go_simp
    have x2 : w1.cell? ⟨w.heap.size, 2, none⟩ = some (.int .i64 b) := by go_simp
    have y0 : w1.cell? ⟨w.heap.size + 1, 0, none⟩ = some (.int .i64 r.base) := by go_simp
    have y1 : w1.cell? ⟨w.heap.size + 1, 1, none⟩ = some (.int .i64 r.term) := by go_simp
    have y2 : w1.cell? ⟨w.heap.size + 1, 2, none⟩ = some (.slice r.a r.n r.cap) := by go_simp
    clear hb1 hc1 hf1
    go_wp2_with fail
    refine (CA.out _ (HR.out.below hB1)).mono ?_
    rw [hN]
    rintro e w2 ⟨a1, c1, rfl, hA1, hb2⟩
    have hB2 := belowNext hB1 hb2 (Nat.le_refl _)
    have hs2 := hb2.size
    have hQ := (Below.refl w2.heap.size w2).alloc (Nat.le_refl _) (.cells #[.int .i64 h0, .int .i64 h1, .int .i64 h2] 53)
    have K : ∀ b' o, b' < w1.heap.size → (w2.alloc (.cells #[.int .i64 h0, .int .i64 h1, .int .i64 h2] 53)).cell? ⟨b', o, none⟩ = w1.cell? ⟨b', o, none⟩ := fun b' o hb => (hQ.cell (p := ⟨b', o, none⟩) (by simp only; omega)).trans (hb2.cell (p := ⟨b', o, none⟩) hb)
    replace x0 := (K _ _ (by omega)).trans x0
    replace x1 := (K _ _ (by omega)).trans x1
    replace x2 := (K _ _ (by omega)).trans x2
    replace y0 := (K _ _ (by omega)).trans y0
    replace y1 := (K _ _ (by omega)).trans y1
    replace y2 := (K _ _ (by omega)).trans y2
    have hBQ := belowNext hB2 hQ (Nat.le_refl _)
    have hA2 := Lib.hid (hA1.below hQ)
    have q0 : (w2.alloc (.cells #[.int .i64 h0, .int .i64 h1, .int .i64 h2] 53)).cell? ⟨w2.heap.size, 0, none⟩ = some (.int .i64 h0) := by go_simp
    have q1 : (w2.alloc (.cells #[.int .i64 h0, .int .i64 h1, .int .i64 h2] 53)).cell? ⟨w2.heap.size, 1, none⟩ = some (.int .i64 h1) := by go_simp
    have q2 : (w2.alloc (.cells #[.int .i64 h0, .int .i64 h1, .int .i64 h2] 53)).cell? ⟨w2.heap.size, 2, none⟩ = some (.int .i64 h2) := by go_simp
    have hqs : (w2.alloc (.cells #[.int .i64 h0, .int .i64 h1, .int .i64 h2] 53)).heap.size = w2.heap.size + 1 := by simp
    clear K hQ hA1 hb2 hB2 hB1 CA
    go_wp2_with fail
    generalize (w2.alloc (.cells #[.int .i64 h0, .int .i64 h1, .int .i64 h2] 53)) = W at x0 x1 x2 y0 y1 y2 hBQ hA2 q0 q1 q2 hqs ⊢
    refine (CR.out _ (HR.out.below hBQ)).mono ?_
    rw [hN]
    rintro e w4 ⟨a2, c2, rfl, hA4, hb4⟩
    have hB4 := belowNext hBQ hb4 (Nat.le_refl _)
    have hs4 := hb4.size
    have hQ := (Below.refl w4.heap.size w4).alloc (Nat.le_refl _) (.cells #[.int .i64 h0, .int .i64 h1, .int .i64 h2] 53)
    have K : ∀ o, (w4.alloc (.cells #[.int .i64 h0, .int .i64 h1, .int .i64 h2] 53)).cell? ⟨w2.heap.size, o, none⟩ = W.cell? ⟨w2.heap.size, o, none⟩ := fun o => (hQ.cell (p := ⟨w2.heap.size, o, none⟩) (by simp only; omega)).trans (hb4.cell (p := ⟨w2.heap.size, o, none⟩) (by simp only; omega))
    replace q0 := (K _).trans q0
    replace q1 := (K _).trans q1
    replace q2 := (K _).trans q2
    have B1 := (hA2.out.below hb4).below hQ
    have B2 := hA4.below hQ
    have hBZ := belowNext hB4 hQ (Nat.le_refl _)
    have cs := sameAll_asks S T I L l a1 a2 c1 c2 _ hl B1 B2
    rw [hN] at cs
    replace cs := Lib.hid cs
    clear K hQ B1 B2 hA2 hA4 hb4 hB4 hBQ CR x0 x1 x2 y0 y1 y2
    go_wp2_with fail
    refine cs.out.mono ?_
    rintro e w5 ⟨rfl, hb5⟩
    have hB5 := belowNext hBZ hb5 (Nat.le_refl _)
    clear cs hb5
    go_wp2_with fail
    refine (wakes10_c _).mono ?_
    rintro e w9 ⟨rfl, hb9⟩
    go_wp2
    go_ret
    exact ⟨rfl, belowNext hB5 hb9 (Nat.le_refl _)⟩

theorem voteBegins_walk (w : World) (v0 : Value) (a0 : XT_Hard) (v1 : Value) (a1 : XT_Rows) (a2 a3 : Int) (w0 : Is_Hard w v0 a0) (w1 : Is_Rows w v1 a1) (w2 : (Lit.int .u8 a2).wf = true) (w3 : (Lit.int .i64 a3).wf = true) :
    Calls Try.prog 18 #[v0, v1, .int .u8 a2, .int .i64 a3] w fun e w' => e = .returned (.bool true) ∧ Below w.heap.size w w' := by
  obtain ⟨rfl, _⟩ := w0
  obtain ⟨rfl, hw, hr⟩ := w1
  have h2 : 0 ≤ a2 ∧ a2 ≤ 255 := by
    simp [Lit.wf, IntKind.min, IntKind.max, IntKind.signed, IntKind.bits] at w2
    omega
  obtain ⟨s, rfl⟩ : ∃ k : Nat, a2 = (k : Int) := ⟨a2.toNat, by omega⟩
  exact begins_h w a0.t a0.v a0.b a1 s (by omega) a3 hw hr
end Go.Proofs.Ythahlfabcjnkhaa
