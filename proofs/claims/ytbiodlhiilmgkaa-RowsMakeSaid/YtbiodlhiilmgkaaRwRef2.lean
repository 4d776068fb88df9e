/- The contracts of the reference weirref09 (Check, Last): each as one walk over rows that lie in memory. -/
import Derived.Test.YtbiodlhiilmgkaaRwRef
namespace Go.Proofs.Ytbiodlhiilmgkaa
open Go.ChangeShapes Go.WideShapes Go.ChangeAt Go.RowKit
set_option linter.unusedVariables false
set_option linter.unusedSimpArgs false
open Rw

theorem rhead_of_chk {r : Rw.R} (h : Rw.chkB r = true) : Rw.headP r := by unfold Rw.chkB at h; exact (of_decide_eq_true h).1

set_option maxHeartbeats 2000000 in
theorem rcheck_good (base term : Int) (a : Option Addr) (n cap : Nat) (e : Nat → Rw.Ent) (w : World) (hw : RWf ⟨base, term, a, n, cap, e⟩) (h : Rw.headP ⟨base, term, a, n, cap, e⟩) (hr : RAt w ⟨base, term, a, n, cap, e⟩) (z1 z2 : Bool) (hz1 : (base == 0) = z1) (hz2 : (term == 0) = z2) :
    Calls Try.prog 13 #[.agg #[.int .i64 base, .int .i64 term, .slice a n cap]] w fun e' w' => e' = .returned (.int .i64 (chkE ⟨base, term, a, n, cap, e⟩)) ∧ Below w.heap.size w w' := by
  obtain ⟨h1, h2, h3, h4, h5, hwf⟩ := hw
  have HH := Lib.hid h
  obtain ⟨g1, g2, g3, g4, g5⟩ := h
  simp only at h1 h2 h3 h4 h5 g1 g2 g3 g4 g5
  obtain rfl : z1 = z2 := by
    subst hz1; subst hz2
    rcases g5 with ⟨q1, q2⟩ | ⟨q1, q2⟩
    · rw [q1, q2]
    · have e1 : (base == 0) = false := by simpa using q1
      have e2 : (term == 0) = false := by simpa using q2
      rw [e1, e2]
  clear g5
  have g2' : (n : Int) ≤ 4096 := by omega
  go_enter Try.func13, Try.ntmps13
  go_wp2
  go_loopw [3, 4] (fun t i wr => ∃ k : Nat, k ≤ n ∧ i = .int .i64 k ∧ t = .int .i64 (Rw.tb ⟨base, term, a, n, cap, e⟩ k) ∧ (∀ j, j < k → Rw.mayB (e j) (Rw.tb ⟨base, term, a, n, cap, e⟩ j) = true) ∧ Below (w.heap.size + 1) (w.alloc (.cells #[.int .i64 base, .int .i64 term, .slice a n cap] 24)) wr) (fun _ i _ => n - (intOf i).toNat)
  case atStart => exact ⟨0, by omega, rfl, rfl, fun j hj => absurd hj (by omega), Below.refl _ _⟩
  case round =>
    obtain ⟨k, hk, rfl, rfl, hall, hB⟩ := hrel
    have HA := Lib.hid hall
    clear hall
    obtain ⟨x0, x1, x2⟩ := box_cells w (.int .i64 base) (.int .i64 term) (.slice a n cap) 24
    replace x0 := (hB.cell (p := ⟨w.heap.size, 0, none⟩) (by simp)).trans x0
    replace x1 := (hB.cell (p := ⟨w.heap.size, 1, none⟩) (by simp)).trans x1
    replace x2 := (hB.cell (p := ⟨w.heap.size, 2, none⟩) (by simp)).trans x2
    have hBw : Below w.heap.size w wr := ((Below.refl w.heap.size w).alloc (Nat.le_refl _) _).trans (hB.mono (by omega))
    by_cases hlt : k < n
    · obtain ⟨b, off, ha, hb, he⟩ := hr (show 0 < n by omega)
      simp only at ha
      subst ha
      have hx := (he k hlt).below hBw hb
      simp only at hx
      have hsz : w.heap.size < wr.heap.size := by have := hB.size; simp at this; omega
      have hsb : b < wr.heap.size := by omega
      obtain ⟨hx0, hx1, hx2, hx3, hx4⟩ := hx
      have hwe : EWf (e k) := hwf k hlt
      clear he
      cases hm : Rw.mayB (e k) (Rw.tb ⟨base, term, some ⟨b, off, none⟩, n, cap, e⟩ k) with
      | true =>
        go_wp2_with fail
        refine (rentry_c (e k) _ _ hwe).mono ?_
        rintro e' w1 ⟨rfl, hb1⟩
        have y2 := (hb1.cell (p := ⟨w.heap.size, 2, none⟩) hsz).trans x2
        have y0 := (hb1.cell (p := ⟨b, off + k * 5, none⟩) hsb).trans hx0
        go_wp2
        go_roundw
        case rel =>
          refine ⟨k + 1, by omega, by go_num, ?_, ?_, hB.trans (hb1.mono (by omega))⟩
          · show Value.int .i64 (e k).term = .int .i64 (Rw.tb _ (k + 1))
            unfold Rw.tb
            simp
          · intro j hj
            rcases Nat.lt_or_eq_of_le (Nat.lt_succ_iff.1 hj) with h | rfl
            · exact HA.out j h
            · exact hm
        case measure => simp [intOf]; omega
      | false =>
        have hno := Lib.hid (show chkE ⟨base, term, some ⟨b, off, none⟩, n, cap, e⟩ = 90 from chkE_no (by
          unfold Rw.chkB
          rw [decide_eq_false_iff_not]
          intro hh
          have := hh.2 k hlt
          simp only at this
          rw [hm] at this
          cases this))
        go_wp2_with fail
        refine (rentry_c (e k) _ _ hwe).mono ?_
        rintro e' w1 ⟨rfl, hb1⟩
        go_wp2
        go_ret
        exact ⟨ret_int hno.out.symm, belowNext hBw hb1 (Nat.le_refl _)⟩
    · obtain rfl : k = n := by omega
      have hok := Lib.hid (show chkE ⟨base, term, a, k, cap, e⟩ = 0 from chkE_ok (by
        unfold Rw.chkB
        rw [decide_eq_true_eq]
        exact ⟨HH.out, HA.out⟩))
      go_wp2
      go_ret
      exact ⟨ret_int hok.out.symm, hBw⟩

/-- **The reference's 'Check'.** -/
theorem rcheck_c (r : Rw.R) (w : World) (hw : RWf r) (hr : RAt w r) :
    Calls Try.prog 13 #[r.val] w fun e' w' => e' = .returned (.int .i64 (chkE r)) ∧ Below w.heap.size w w' := by
  by_cases h : Rw.headP r
  · exact rcheck_good r.base r.term r.a r.n r.cap r.e w hw h hr _ _ rfl rfl
  · have hno : chkE r = 90 := chkE_no (by unfold Rw.chkB; rw [decide_eq_false_iff_not]; exact fun hh => h hh.1)
    rw [hno]
    exact rcheck_bad r w hw h



/-- What 'Last' tells. -/
def lstI (r : Rw.R) : Int := if Rw.chkB r then Rw.lastI r else 0
def lstT (r : Rw.R) : Int := if Rw.chkB r then Rw.lastT r else 0

theorem rlast_c (base term : Int) (a : Option Addr) (n cap : Nat) (e : Nat → Rw.Ent) (w : World) (hw : RWf ⟨base, term, a, n, cap, e⟩) (hr : RAt w ⟨base, term, a, n, cap, e⟩) :
    Calls Try.prog 14 #[.agg #[.int .i64 base, .int .i64 term, .slice a n cap]] w fun e' w' => e' = .returned (.tuple #[.int .i64 (lstI ⟨base, term, a, n, cap, e⟩), .int .i64 (lstT ⟨base, term, a, n, cap, e⟩)]) ∧ Below w.heap.size w w' := by
  obtain ⟨x0, x1, x2⟩ := box_cells w (.int .i64 base) (.int .i64 term) (.slice a n cap) 24
  have hb0 := (Below.refl w.heap.size w).alloc (Nat.le_refl _) (.cells #[.int .i64 base, .int .i64 term, .slice a n cap] 24)
  cases hc : Rw.chkB ⟨base, term, a, n, cap, e⟩ with
  | false =>
    have hz := chkE_no hc
    have e1 := Lib.hid (show lstI ⟨base, term, a, n, cap, e⟩ = 0 by unfold lstI; rw [hc]; rfl)
    have e2 := Lib.hid (show lstT ⟨base, term, a, n, cap, e⟩ = 0 by unfold lstT; rw [hc]; rfl)
    clear hc
    go_enter Try.func14, Try.ntmps14
    go_wp2_with fail
    refine (rcheck_c ⟨base, term, a, n, cap, e⟩ _ hw (hr.below hb0)).mono ?_
    rintro e' w1 ⟨rfl, hb1⟩
    go_wp2
    go_ret2
    exact ⟨by rw [e1.out, e2.out]; rfl, belowNext hb0 hb1 (Nat.le_refl _)⟩
  | true =>
    have hz := chkE_ok hc
    obtain ⟨g1, g2, g3, g4, _⟩ := rhead_of_chk hc
    simp only at g1 g2 g3 g4
    have e1 := Lib.hid (show lstI ⟨base, term, a, n, cap, e⟩ = base + n by unfold lstI; rw [hc]; rfl)
    have e2 := Lib.hid (show lstT ⟨base, term, a, n, cap, e⟩ = Rw.tb ⟨base, term, a, n, cap, e⟩ n by unfold lstT; rw [hc]; rfl)
    clear hc
    have g2' : (n : Int) ≤ 4096 := by omega
    by_cases hn : 0 < n
    · obtain ⟨b, off, ha, hb, he⟩ := hr hn
      simp only at ha
      subst ha
      have hx := (he (n - 1) (by simp only; omega)).1
      simp only at hx
      have hl : Hid (Rw.tb ⟨base, term, some ⟨b, off, none⟩, n, cap, e⟩ n = (e (n - 1)).term) := by
        show (if n = 0 then _ else _) = _
        rw [if_neg (by omega)]
      have hr' := hr.below hb0
      clear he hr
      have hn0 : ((n : Int) == 0) = false := by simp; omega
      have h' : (0 : Int) < n := by omega
      have et : ((n : Int) - 1).toNat = n - 1 := by omega
      go_enter Try.func14, Try.ntmps14
      go_wp2_with fail
      refine (rcheck_c ⟨base, term, some ⟨b, off, none⟩, n, cap, e⟩ _ hw hr').mono ?_
      rintro e' w1 ⟨rfl, hb1⟩
      have y0 := (hb1.cell (p := ⟨w.heap.size, 0, none⟩) (by simp)).trans x0
      have y1 := (hb1.cell (p := ⟨w.heap.size, 1, none⟩) (by simp)).trans x1
      have y2 := (hb1.cell (p := ⟨w.heap.size, 2, none⟩) (by simp)).trans x2
      have hb2 := belowNext hb0 hb1 (Nat.le_refl _)
      have y3 := (hb2.cell (p := ⟨b, off + (n - 1) * 5, none⟩) hb).trans hx
      go_wp2
      go_quiet (fail)
      go_wp2
      go_ret2
      exact ⟨by rw [e1.out, e2.out, hl.out]; rfl, below_drewN hb2 _⟩
    · obtain rfl : n = 0 := by omega
      go_enter Try.func14, Try.ntmps14
      go_wp2_with fail
      refine (rcheck_c ⟨base, term, a, 0, cap, e⟩ _ hw (hr.below hb0)).mono ?_
      rintro e' w1 ⟨rfl, hb1⟩
      have y0 := (hb1.cell (p := ⟨w.heap.size, 0, none⟩) (by simp)).trans x0
      have y1 := (hb1.cell (p := ⟨w.heap.size, 1, none⟩) (by simp)).trans x1
      have y2 := (hb1.cell (p := ⟨w.heap.size, 2, none⟩) (by simp)).trans x2
      have hb2 := belowNext hb0 hb1 (Nat.le_refl _)
      go_wp2
      go_quiet (fail)
      go_wp2
      go_ret2
      exact ⟨by rw [e1.out, e2.out]; simp [Rw.tb], below_drewN hb2 _⟩
end Go.Proofs.Ytbiodlhiilmgkaa
