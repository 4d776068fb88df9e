/- The contracts of package rows (Check, Last, Newer): each as one walk over rows that lie in memory. -/
import Derived.Test.YtbiodlhiilmgkaaRw
namespace Go.Proofs.Ytbiodlhiilmgkaa
open Go.ChangeShapes Go.WideShapes Go.ChangeAt Go.RowKit
set_option linter.unusedVariables false
set_option linter.unusedSimpArgs false
open Rw

theorem ret_int {k : IntKind} {a b : Int} (h : a = b) : Ending.returned (.int k a) = .returned (.int k b) := by rw [h]
theorem ret_bool {a b : Bool} (h : a = b) : Ending.returned (.bool a) = .returned (.bool b) := by rw [h]

/-- What 'Check' answers. -/
def chkE (r : Rw.R) : Int := if Rw.chkB r then 0 else 90
theorem chkE_ok {r : Rw.R} (h : Rw.chkB r = true) : chkE r = 0 := by unfold chkE; rw [if_pos h]
theorem chkE_no {r : Rw.R} (h : Rw.chkB r = false) : chkE r = 90 := by unfold chkE; rw [if_neg (by simp [h])]

set_option maxHeartbeats 2000000 in
theorem check_good (base term : Int) (a : Option Addr) (n cap : Nat) (e : Nat → Rw.Ent) (w : World) (hw : RWf ⟨base, term, a, n, cap, e⟩) (h : Rw.headP ⟨base, term, a, n, cap, e⟩) (hr : RAt w ⟨base, term, a, n, cap, e⟩) (z1 z2 : Bool) (hz1 : (base == 0) = z1) (hz2 : (term == 0) = z2) :
    Calls Try.prog 24 #[.agg #[.int .i64 base, .int .i64 term, .slice a n cap]] w fun e' w' => e' = .returned (.int .i64 (chkE ⟨base, term, a, n, cap, e⟩)) ∧ Below w.heap.size w w' := by
  obtain ⟨h1, h2, h3, h4, h5, _⟩ := hw
  have HH := Lib.hid h
  obtain ⟨g1, g2, g3, g4, g5⟩ := h
  simp only at h1 h2 h3 h4 h5 g1 g2 g3 g4 g5
  obtain rfl : z1 = z2 := by
    subst hz1; subst hz2
    rcases g5 with ⟨q1, q2⟩ | ⟨q1, q2⟩
    · rw [q1, q2]
    · have e1 : (base == 0) = false := by simpa using q1
      have e2 : (term == 0) = false := by simpa using q2
      rw [e1, e2]
  clear g5
  have g2' : (n : Int) ≤ 4096 := by omega
  go_enter Try.func24, Try.ntmps24
  go_wp2
  go_loopw [3, 42] (fun t i wr => ∃ k : Nat, k ≤ n ∧ i = .int .i64 k ∧ t = .int .i64 (Rw.tb ⟨base, term, a, n, cap, e⟩ k) ∧ (∀ j, j < k → Rw.mayB (e j) (Rw.tb ⟨base, term, a, n, cap, e⟩ j) = true) ∧ Below (w.heap.size + 1) (w.alloc (.cells #[.int .i64 base, .int .i64 term, .slice a n cap] 24)) wr) (fun _ i _ => n - (intOf i).toNat)
  case atStart => exact ⟨0, by omega, rfl, rfl, fun j hj => absurd hj (by omega), Below.refl _ _⟩
  case round =>
    obtain ⟨k, hk, rfl, rfl, hall, hB⟩ := hrel
    have HA := Lib.hid hall
    clear hall
    obtain ⟨x0, x1, x2⟩ := box_cells w (.int .i64 base) (.int .i64 term) (.slice a n cap) 24
    replace x0 := (hB.cell (p := ⟨w.heap.size, 0, none⟩) (by simp)).trans x0
    replace x1 := (hB.cell (p := ⟨w.heap.size, 1, none⟩) (by simp)).trans x1
    replace x2 := (hB.cell (p := ⟨w.heap.size, 2, none⟩) (by simp)).trans x2
    have hBw : Below w.heap.size w wr := ((Below.refl w.heap.size w).alloc (Nat.le_refl _) _).trans (hB.mono (by omega))
    by_cases hlt : k < n
    · obtain ⟨b, off, ha, hb, he⟩ := hr (show 0 < n by omega)
      simp only at ha
      subst ha
      have hx := (he k hlt).below hBw hb
      simp only at hx
      have hsz : w.heap.size < wr.heap.size := by have := hB.size; simp at this; omega
      have hsb : b < wr.heap.size := by omega
      have hx0 := hx.1
      have HX := Lib.hid hx
      clear hx he
      cases hm : Rw.mayB (e k) (Rw.tb ⟨base, term, some ⟨b, off, none⟩, n, cap, e⟩ k) with
      | true =>
        go_wp2_with fail
        refine (rwmay_c (e k) _ b (off + k * 5) _ HX.out).mono ?_
        rintro e' w1 ⟨rfl, hb1⟩
        have y2 := (hb1.cell (p := ⟨w.heap.size, 2, none⟩) hsz).trans x2
        have y0 := (hb1.cell (p := ⟨b, off + k * 5, none⟩) hsb).trans hx0
        go_wp2
        go_roundw
        case rel =>
          refine ⟨k + 1, by omega, by go_num, ?_, ?_, hB.trans (hb1.mono (by omega))⟩
          · show Value.int .i64 (e k).term = .int .i64 (Rw.tb _ (k + 1))
            unfold Rw.tb
            simp
          · intro j hj
            rcases Nat.lt_or_eq_of_le (Nat.lt_succ_iff.1 hj) with h | rfl
            · exact HA.out j h
            · exact hm
        case measure => simp [intOf]; omega
      | false =>
        have hno := Lib.hid (show chkE ⟨base, term, some ⟨b, off, none⟩, n, cap, e⟩ = 90 from chkE_no (by
          unfold Rw.chkB
          rw [decide_eq_false_iff_not]
          intro hh
          have := hh.2 k hlt
          simp only at this
          rw [hm] at this
          cases this))
        go_wp2_with fail
        refine (rwmay_c (e k) _ b (off + k * 5) _ HX.out).mono ?_
        rintro e' w1 ⟨rfl, hb1⟩
        go_wp2
        go_ret
        exact ⟨ret_int hno.out.symm, belowNext hBw hb1 (Nat.le_refl _)⟩
    · obtain rfl : k = n := by omega
      have hok := Lib.hid (show chkE ⟨base, term, a, k, cap, e⟩ = 0 from chkE_ok (by
        unfold Rw.chkB
        rw [decide_eq_true_eq]
        exact ⟨HH.out, HA.out⟩))
      go_wp2
      go_ret
      exact ⟨ret_int hok.out.symm, hBw⟩

/-- **'Check'.** -/
theorem check_c (r : Rw.R) (w : World) (hw : RWf r) (hr : RAt w r) :
    Calls Try.prog 24 #[r.val] w fun e' w' => e' = .returned (.int .i64 (chkE r)) ∧ Below w.heap.size w w' := by
  by_cases h : Rw.headP r
  · exact check_good r.base r.term r.a r.n r.cap r.e w hw h hr _ _ rfl rfl
  · have hno : chkE r = 90 := chkE_no (by unfold Rw.chkB; rw [decide_eq_false_iff_not]; exact fun hh => h hh.1)
    rw [hno]
    exact check_bad r w hw h


theorem last_c (base term : Int) (a : Option Addr) (n cap : Nat) (e : Nat → Rw.Ent) (B : Nat) (w : World) (hb0 : 0 ≤ base) (hb1 : base ≤ 1099511627776) (hn : n ≤ 4096) (hr : RAt w ⟨base, term, a, n, cap, e⟩)
    (x0 : w.cell? ⟨B, 0, none⟩ = some (.int .i64 base)) (x1 : w.cell? ⟨B, 1, none⟩ = some (.int .i64 term)) (x2 : w.cell? ⟨B, 2, none⟩ = some (.slice a n cap)) :
    Calls Try.prog 29 #[.pointer (some ⟨B, 0, none⟩)] w fun e' w' => e' = .returned (.tuple #[.int .i64 (Rw.lastI ⟨base, term, a, n, cap, e⟩), .int .i64 (Rw.lastT ⟨base, term, a, n, cap, e⟩)]) ∧ Below w.heap.size w w' := by
  have hn' : (n : Int) ≤ 4096 := by omega
  by_cases h : 0 < n
  · obtain ⟨b, off, ha, hb, he⟩ := hr h
    simp only at ha
    subst ha
    have hx := (he (n - 1) (by simp only; omega)).1
    simp only at hx
    have hl : Hid (Rw.lastT ⟨base, term, some ⟨b, off, none⟩, n, cap, e⟩ = (e (n - 1)).term) := by
      show Rw.tb _ n = _
      unfold Rw.tb
      rw [if_neg (by omega)]
    clear he hr
    have h' : (0 : Int) < n := by omega
    have e1 : ((n : Int) - 1).toNat = n - 1 := by omega
    go_enter Try.func29, Try.ntmps29
    go_wp2
    go_quiet (fail)
    go_wp2
    go_ret2
    exact ⟨by rw [hl.out]; rfl, drewN_below _ _⟩
  · obtain rfl : n = 0 := by omega
    clear hr
    go_enter Try.func29, Try.ntmps29
    go_wp2
    go_quiet (fail)
    go_wp2
    go_ret2
    exact ⟨by simp [Rw.lastI, Rw.lastT, Rw.tb], drewN_below _ _⟩
end Go.Proofs.Ytbiodlhiilmgkaa
