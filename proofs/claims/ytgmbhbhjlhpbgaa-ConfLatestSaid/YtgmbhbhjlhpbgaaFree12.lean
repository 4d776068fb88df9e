/- The contracts of conf.Free and of its reference's. -/
import Derived.Test.YtgmbhbhjlhpbgaaTerm12
import Derived.Test.YtgmbhbhjlhpbgaaLat12b
namespace Go.Proofs.Ytgmbhbhjlhpbgaa
open Go.ChangeShapes Go.WideShapes Go.ChangeAt Go.RowKit
set_option linter.unusedVariables false
set_option linter.unusedSimpArgs false
open Rw Lt
theorem max_foldF (a b : Int) : (if a < b then b else a) = max a b := by omega
theorem min_foldF (a b : Int) : (if a < b then a else b) = min a b := by omega
attribute [local go_sem] max_foldF min_foldF

namespace Lt
def freeQ (r : Rw.R) (term commit : Int) (k : Nat) : Prop := 1 ≤ r.base + k ∧ r.base + k ≤ commit ∧ Rw.tb r k = term
def freeB (r : Rw.R) (s term commit : Int) : Bool := decide ((latV r s).2 ≤ commit) && (List.range (r.n + 1)).any (fun k => decide (1 ≤ r.base + k ∧ r.base + k ≤ commit ∧ Rw.tb r k = term))
theorem freeB_true {r : Rw.R} {s term commit : Int} {k : Nat} (h : (latV r s).2 ≤ commit) (hk : k ≤ r.n) (hq : freeQ r term commit k) : freeB r s term commit = true := by
  unfold freeB
  rw [decide_eq_true h, Bool.true_and, List.any_eq_true]
  exact ⟨k, List.mem_range.2 (by omega), decide_eq_true hq⟩
theorem freeB_false {r : Rw.R} {s term commit : Int} (h : ∀ k, k ≤ r.n → ¬ freeQ r term commit k) : freeB r s term commit = false := by
  unfold freeB
  rw [Bool.and_eq_false_iff]
  right
  rw [List.any_eq_false]
  intro k hk
  have := h k (by have := List.mem_range.1 hk; omega)
  simpa [freeQ] using this
theorem freeB_late {r : Rw.R} {s term commit : Int} (h : commit < (latV r s).2) : freeB r s term commit = false := by
  unfold freeB
  rw [decide_eq_false (by omega)]; rfl
def freeE (r : Rw.R) (s term commit : Int) : Int := if Rw.chkB r then (if freeB r s term commit then 0 else 130) else 90
theorem freeE_no {r : Rw.R} {s term commit : Int} (h : Rw.chkB r = false) : freeE r s term commit = 90 := by unfold freeE; rw [h]; rfl
theorem freeE_ok {r : Rw.R} {s term commit : Int} (h : Rw.chkB r = true) (hf : freeB r s term commit = true) : freeE r s term commit = 0 := by unfold freeE; rw [h, hf]; rfl
theorem freeE_busy {r : Rw.R} {s term commit : Int} (h : Rw.chkB r = true) (hf : freeB r s term commit = false) : freeE r s term commit = 130 := by unfold freeE; rw [h, hf]; rfl
end Lt
theorem ret_i {a b : Int} (h : a = b) : Ending.returned (.int .i64 a) = .returned (.int .i64 b) := by rw [h]

set_option maxRecDepth 100000 in
set_option maxHeartbeats 3200000 in
theorem rfree_c (r : Rw.R) (s term commit : Int) (w : World) (hw : RWf r) (hr : RAt w r) :
    Calls Try.prog 48 #[r.val, .int .u8 s, .int .i64 term, .int .i64 commit] w fun e' w' => e' = .returned (.int .i64 (freeE r s term commit)) ∧ Below w.heap.size w w' := by
  obtain ⟨base, rterm, a, n, cap, e⟩ := r
  obtain ⟨x0, x1, x2⟩ := box_cells w (.int .i64 base) (.int .i64 rterm) (.slice a n cap) 54
  have hb0 := (Below.refl w.heap.size w).alloc (Nat.le_refl _) (.cells #[.int .i64 base, .int .i64 rterm, .slice a n cap] 54)
  have HR := Lib.hid hr
  have HW := Lib.hid hw
  clear hr hw
  have lc := fun u hu => rlatest_c ⟨base, rterm, a, n, cap, e⟩ s u HW.out hu
  cases hc : Rw.chkB ⟨base, rterm, a, n, cap, e⟩ with
  | false =>
    have hz := chkE_no hc
    have hf := Lib.hid (freeE_no (s := s) (term := term) (commit := commit) hc)
    rw [hz] at lc
    clear hc
    unfold R.val at lc ⊢
    simp only at lc ⊢
    go_enter Try.func48, Try.ntmps48
    go_wp2_with fail
    refine (lc _ (HR.out.below hb0)).mono ?_
    rintro e' w1 ⟨rfl, hb1⟩
    go_wp2
    go_ret
    exact ⟨ret_i hf.out.symm, belowNext hb0 hb1 (Nat.le_refl _)⟩
  | true =>
    have hz := chkE_ok hc
    obtain ⟨g1, g2, g3, g4, _⟩ := head_of hc
    simp only at g1 g2 g3 g4
    have g2' : (n : Int) ≤ 4096 := by omega
    rw [hz] at lc
    obtain ⟨LI, hLI⟩ : ∃ x, (latV ⟨base, rterm, a, n, cap, e⟩ s).2 = x := ⟨_, rfl⟩
    rw [hLI] at lc
    have HC := Lib.hid hc
    clear hc
    by_cases hlate : commit < LI
    · have hf := Lib.hid (freeE_busy HC.out (freeB_late (term := term) (by rw [hLI]; exact hlate)))
      clear hLI
      unfold R.val at lc ⊢
      simp only at lc ⊢
      go_enter Try.func48, Try.ntmps48
      go_wp2_with fail
      refine (lc _ (HR.out.below hb0)).mono ?_
      rintro e' w1 ⟨rfl, hb1⟩
      go_wp2
      go_ret
      exact ⟨ret_i hf.out.symm, belowNext hb0 hb1 (Nat.le_refl _)⟩
    · have hle := Lib.hid (show (latV ⟨base, rterm, a, n, cap, e⟩ s).2 ≤ commit by rw [hLI]; omega)
      clear hLI
      unfold R.val at lc ⊢
      simp only at lc ⊢
      go_enter Try.func48, Try.ntmps48
      go_wp2_with fail
      refine (lc _ (HR.out.below hb0)).mono ?_
      rintro e' w1 ⟨rfl, hb1⟩
      have y0 := (hb1.cell (p := ⟨w.heap.size, 0, none⟩) (by simp)).trans x0
      have y1 := (hb1.cell (p := ⟨w.heap.size, 1, none⟩) (by simp)).trans x1
      have y2 := (hb1.cell (p := ⟨w.heap.size, 2, none⟩) (by simp)).trans x2
      have hb2 := belowNext hb0 hb1 (Nat.le_refl _)
      have hrw := HR.out.below hb2
      clear x0 x1 x2 hb1
      go_wp2_with fail
      go_loopw [12] (fun i wr => ∃ (k : Nat), k ≤ n ∧ i = .int .i64 (k : Nat) ∧ (∀ j, j < k → ¬ freeQ ⟨base, rterm, a, n, cap, e⟩ term commit (j + 1)) ∧ wr = w1) (fun i _ => n - (intOf i).toNat)
      case atStart => exact ⟨0, Nat.zero_le _, rfl, fun j h => by omega, rfl⟩
      case round =>
        obtain ⟨k, hk, rfl, hno, rfl⟩ := hrel
        by_cases hlt : k < n
        · have hlt' : (k : Int) < (n : Int) := by omega
          obtain ⟨b, off, ha, hb, he⟩ := hrw (by first | omega | (simp only; omega))
          simp only at ha
          subst ha
          obtain ⟨c0, _⟩ := he k hlt
          simp only at c0
          have htb := Lib.hid (show Rw.tb ⟨base, rterm, some ⟨b, off, none⟩, n, cap, e⟩ (k + 1) = (e k).term by unfold Rw.tb; rw [if_neg (by omega)]; rfl)
          clear he hrw
          by_cases q1 : base + (k : Int) + 1 ≤ commit
          · by_cases q2 : (e k).term = term
            · have hf := Lib.hid (freeE_ok HC.out (freeB_true (k := k + 1) (term := term) (commit := commit) hle.out (by first | omega | (simp only; omega)) ⟨by first | omega | (simp only; omega), by first | omega | (simp only; omega), by rw [htb.out]; exact q2⟩))
              clear hno
              go_wp2_with fail
              go_ret
              exact ⟨ret_i hf.out.symm, hb2⟩
            · have hno' := Lib.hid (show ∀ j, j < k + 1 → ¬ freeQ ⟨base, rterm, some ⟨b, off, none⟩, n, cap, e⟩ term commit (j + 1) from fun j h => by
                by_cases hj : j = k
                · subst hj; intro h; exact q2 (htb.out ▸ h.2.2)
                · exact hno j (by omega))
              clear hno
              go_wp2_with fail
              go_roundw
              case rel => exact ⟨k + 1, by omega, by simp, hno'.out, by trivial⟩
              case measure => simp [intOf]; omega
          · have hno' := Lib.hid (show ∀ j, j < k + 1 → ¬ freeQ ⟨base, rterm, some ⟨b, off, none⟩, n, cap, e⟩ term commit (j + 1) from fun j h => by
              by_cases hj : j = k
              · subst hj; intro h; have := h.2.1; simp only at this; omega
              · exact hno j (by omega))
            clear hno
            go_wp2_with fail
            go_roundw
            case rel => exact ⟨k + 1, by omega, by simp, hno'.out, by trivial⟩
            case measure => simp [intOf]; omega
        · obtain rfl : k = n := by omega
          by_cases q : freeQ ⟨base, rterm, a, k, cap, e⟩ term commit 0
          · have hf := Lib.hid (freeE_ok HC.out (freeB_true (k := 0) (term := term) (commit := commit) hle.out (Nat.zero_le _) q))
            obtain ⟨p1, p2, p3⟩ := q
            have p1' : 0 < base := by simp only at p1; omega
            have p2' : base ≤ commit := by simp only at p2; omega
            have p3' : rterm = term := p3
            clear p1 p2 p3 hno
            go_wp2_with fail
            go_ret
            exact ⟨ret_i hf.out.symm, hb2⟩
          · have hf := Lib.hid (freeE_busy HC.out (freeB_false (s := s) (r := ⟨base, rterm, a, k, cap, e⟩) (term := term) (commit := commit) (fun j hj => by
              cases j with
              | zero => exact q
              | succ j => exact hno j (by simp only at hj; omega))))
            have hq : ¬ (base ≤ commit ∧ 0 < base ∧ rterm = term) := fun h => q ⟨by first | omega | (simp only; omega), by first | omega | (simp only; omega), h.2.2⟩
            clear hno q
            by_cases q1 : base ≤ commit
            · by_cases q2 : 0 < base
              · have q3 : ¬ rterm = term := fun h => hq ⟨q1, q2, h⟩
                clear hq
                go_wp2_with fail
                go_ret
                exact ⟨ret_i hf.out.symm, hb2⟩
              · clear hq
                go_wp2_with fail
                go_ret
                exact ⟨ret_i hf.out.symm, hb2⟩
            · clear hq
              go_wp2_with fail
              go_ret
              exact ⟨ret_i hf.out.symm, hb2⟩
end Go.Proofs.Ytgmbhbhjlhpbgaa
