/- The judge: the bound. -/
import Derived.Test.YtjdkpoggcpckcaaJ3
namespace Go.Proofs.Ytjdkpoggcpckcaa
open Go.ChangeShapes Go.WideShapes Go.ChangeAt Go.RowKit
set_option linter.unusedVariables false
set_option linter.unusedSimpArgs false
open BigFrame Bs Jd

namespace Jd
@[irreducible] def mx (a b : Int) : Int := max a b
@[irreducible] def mn (a b : Int) : Int := min a b
theorem mx_eq (a b : Int) : mx a b = max a b := by unfold mx; rfl
theorem mn_eq (a b : Int) : mn a b = min a b := by unfold mn; rfl
theorem mx_fold (a b : Int) : (if a < b then b else a) = mx a b := by rw [mx_eq]; omega
theorem mn_fold (a b : Int) : (if a < b then a else b) = mn a b := by rw [mn_eq]; omega
theorem tickI_bd (t : Int) : 0 ≤ tickI t ∧ tickI t ≤ 1099511627776 := by unfold tickI; omega
theorem bst_end {Y : Nat → Nat → Int} {M : Nat} (tn from_ t : Int) (h : ∀ i, i < M → 0 ≤ Y i 0 ∧ Y i 0 ≤ 1099511627776) (p : Nat) (hp : p ≤ M) : 0 ≤ (bst Y M tn from_ t p).2.2 ∧ (bst Y M tn from_ t p).2.2 ≤ 1099511627777 := by
  induction p with
  | zero => simp [bst]
  | succ p ih =>
    have h1 := ih (by omega)
    have h2 := h (M - 1 - p) (by omega)
    unfold bst bstep
    split
    · exact h1
    · split
      · simp only; omega
      · simp only; omega
end Jd
attribute [local go_sem] mx_fold mn_fold

set_option maxRecDepth 100000 in
set_option maxHeartbeats 4000000 in
theorem jbound_c (a : Option Addr) (b off M c : Nat) (Y : Nat → Nat → Int) (tn s t h : Int) (w : World) (T : IntRows w a b off M 4 Y) (hM : M ≤ 1000) (hY : ∀ i, i < M → (0 ≤ Y i 2 ∧ Y i 2 ≤ 1000000) ∧ 0 ≤ Y i 3 ∧ Y i 3 ≤ 1000000) :
    Calls Try.prog 10 #[.slice a M c, .int .i64 tn, .int .i64 s, .int .i64 t, .int .i64 h] w fun e w' => e = .returned (.int .i64 (boundI Y M tn s t h)) ∧ Below w.heap.size w w' := by
  replace T := Lib.hid T
  replace hY := Lib.hid hY
  have ht0 := tickI_bd t
  have hs0 := tickI_bd s
  have hh0 := tickI_bd h
  by_cases hle : tickI t ≤ tickI s
  · have hb : boundI Y M tn s t h = 0 := by unfold boundI; rw [if_pos hle]
    rw [hb]
    clear hb
    obtain ⟨s', hs'⟩ : ∃ s', tickI s = s' := ⟨_, rfl⟩
    obtain ⟨t', ht'⟩ : ∃ t', tickI t = t' := ⟨_, rfl⟩
    rw [hs', ht'] at hle
    have es : mn 1099511627776 (mx s 0) = s' := by rw [mn_eq, mx_eq, ← hs']; unfold tickI; omega
    have et : mn 1099511627776 (mx t 0) = t' := by rw [mn_eq, mx_eq, ← ht']; unfold tickI; omega
    clear ht0 hs0 hh0 hs' ht'
    go_enter Try.func10, Try.ntmps10
    go_wp2_with fail
    go_ret
    exact ⟨rfl, Below.refl _ _⟩
  · have hb : boundI Y M tn s t h = 1000 * (bst Y M tn (tickI s - tickI h) (tickI t) M).2.1 + (bst Y M tn (tickI s - tickI h) (tickI t) M).1 * (tickI t - tickI s) := by unfold boundI; rw [if_neg hle]
    rw [hb]
    clear hb
    obtain ⟨s', hs'⟩ : ∃ s', tickI s = s' := ⟨_, rfl⟩
    obtain ⟨t', ht'⟩ : ∃ t', tickI t = t' := ⟨_, rfl⟩
    obtain ⟨h', hh'⟩ : ∃ h', tickI h = h' := ⟨_, rfl⟩
    rw [hs', ht', hh']
    rw [hs'] at hs0 hle
    rw [ht'] at ht0 hle
    rw [hh'] at hh0
    have es : mn 1099511627776 (mx s 0) = s' := by rw [mn_eq, mx_eq, ← hs']; unfold tickI; omega
    have et : mn 1099511627776 (mx t 0) = t' := by rw [mn_eq, mx_eq, ← ht']; unfold tickI; omega
    have eh : mn 1099511627776 (mx h 0) = h' := by rw [mn_eq, mx_eq, ← hh']; unfold tickI; omega
    clear hs' ht' hh'
    obtain ⟨f, hf⟩ : ∃ f, s' - h' = f := ⟨_, rfl⟩
    have f0 : -1099511627776 ≤ f := by omega
    have f1 : f ≤ 1099511627776 := by omega
    rw [hf]
    replace hf := Lib.hid hf
    go_enter Try.func10, Try.ntmps10
    go_upto_region 5 with fail
    rw [hf.out]
    clear es et eh
    go_wp2_with fail
    go_loopw [12, 13, 14, 15] (fun s12 s13 s14 s15 wr => ∃ p : Nat, p ≤ M ∧ s12 = .int .i64 (bst Y M tn f t' p).1 ∧ s13 = .int .i64 (bst Y M tn f t' p).2.1 ∧ s14 = .int .i64 (bst Y M tn f t' p).2.2 ∧ s15 = .int .i64 ((M : Int) - 1 - (p : Int)) ∧ Below w.heap.size w wr) (fun _ _ _ s15 _ => (intOf s15 + 1).toNat)
    case atStart => exact ⟨0, Nat.zero_le _, rfl, rfl, rfl, by simp, Below.refl _ _⟩
    case round =>
      obtain ⟨p, hp, rfl, rfl, rfl, rfl, hB⟩ := hrel
      have hbb := bst_bd tn f t' hY.out p hp
      by_cases hlt : p < M
      · obtain ⟨j, hj⟩ : ∃ j : Nat, (M : Int) - 1 - (p : Int) = (j : Int) := ⟨M - 1 - p, by omega⟩
        have hjM : j < M := by omega
        have hjp : M - 1 - p = j := by omega
        have hjz : (j : Int) < (M : Int) := by omega
        have hnext : (j : Int) - 1 = (M : Int) - 1 - ((p + 1 : Nat) : Int) := by omega
        have hstep : bst Y M tn f t' (p + 1) = bstep tn f t' (Y j) (bst Y M tn f t' p) := by rw [← hjp]; rfl
        rw [hj]
        replace hnext := Lib.hid hnext
        obtain rfl := T.out.ha (by omega)
        have T1 := T.out.bel hB
        have x0 := T1.c0 j hjM (by omega)
        have x1 := T1.c j 1 hjM (by omega)
        have x2 := T1.c j 2 hjM (by omega)
        have x3 := T1.c j 3 hjM (by omega)
        clear T1
        obtain ⟨z, hz⟩ : ∃ z, bst Y M tn f t' p = z := ⟨_, rfl⟩
        rw [hz] at hbb hstep ⊢
        obtain ⟨r, bb, e⟩ := z
        simp only at hbb ⊢
        unfold bstep at hstep
        simp only at hstep
        have hjd : decide ((j : Int) ≥ 0) = true := by simp
        by_cases h1 : Y j 1 = tn
        · rw [if_neg (fun q => q h1)] at hstep
          have e1 : (Y j 1 != tn) = false := by simp [h1]
          replace h1 := Lib.hid h1
          by_cases h2 : Y j 0 ≤ t'
          · by_cases h3 : f ≤ e
            · rw [if_pos ⟨h2, h3⟩] at hstep
              replace hstep := Lib.hid hstep
              clear hz
              go_wp2_with fail
              go_big_quiet (fail)
              go_wp2_with fail
              go_roundw
              case rel => exact ⟨p + 1, by omega, by rw [hstep.out]; simp only [mx_eq], by rw [hstep.out]; simp only [mx_eq], by rw [hstep.out], by rw [← hnext.out], bDrew hB nq⟩
              case measure => simp [intOf] <;> omega
            · rw [if_neg (fun q => h3 q.2)] at hstep
              replace hstep := Lib.hid hstep
              clear hz
              go_wp2_with fail
              go_roundw
              case rel => exact ⟨p + 1, by omega, by rw [hstep.out], by rw [hstep.out], by rw [hstep.out], by rw [← hnext.out], hB⟩
              case measure => simp [intOf] <;> omega
          · rw [if_neg (fun q => h2 q.1)] at hstep
            replace hstep := Lib.hid hstep
            clear hz
            go_wp2_with fail
            go_roundw
            case rel => exact ⟨p + 1, by omega, by rw [hstep.out], by rw [hstep.out], by rw [hstep.out], by rw [← hnext.out], hB⟩
            case measure => simp [intOf] <;> omega
        · rw [if_pos h1] at hstep
          have e1 : (Y j 1 != tn) = true := by simpa using h1
          replace h1 := Lib.hid h1
          replace hstep := Lib.hid hstep
          clear hz
          go_wp2_with fail
          go_roundw
          case rel => exact ⟨p + 1, by omega, by rw [hstep.out], by rw [hstep.out], by rw [hstep.out], by rw [← hnext.out], hB⟩
          case measure => simp [intOf] <;> omega
      · obtain rfl : p = M := by omega
        have hneg : ((p : Int) - 1 - (p : Int)) = -1 := by omega
        rw [hneg]
        clear hneg
        obtain ⟨z, hz⟩ : ∃ z, bst Y p tn f t' p = z := ⟨_, rfl⟩
        rw [hz] at hbb ⊢
        obtain ⟨r, bb, e⟩ := z
        simp only at hbb ⊢
        obtain ⟨⟨b1, b2⟩, b3, b4⟩ := hbb
        have m0 : 0 ≤ r * (t' - s') := Int.mul_nonneg b1 (by omega)
        have m1 : r * (t' - s') ≤ 1099511627776000000 := Int.le_trans (Int.mul_le_mul b2 (show t' - s' ≤ 1099511627776 by omega) (by omega) (by omega)) (by omega)
        obtain ⟨m, hm⟩ : ∃ m, r * (t' - s') = m := ⟨_, rfl⟩
        rw [hm] at m0 m1
        replace hz := Lib.hid hz
        have hw : wrap64 (r * (t' - s')) = m := by rw [hm]; unfold wrap64; omega
        replace hm := Lib.hid hm
        go_wp2_with fail
        refine bodyPost_ret (v := .int .i64 (1000 * bb + m)) (by simp [results, Try.results10, go_sem]) rfl ⟨?_, hB⟩
        rw [hz.out, ← hm.out]
end Go.Proofs.Ytjdkpoggcpckcaa
