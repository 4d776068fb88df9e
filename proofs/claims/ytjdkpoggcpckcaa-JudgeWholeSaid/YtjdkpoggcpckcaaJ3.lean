/- The judge: what went out, and the bound. -/
import Derived.Test.YtjdkpoggcpckcaaJ2
namespace Go.Proofs.Ytjdkpoggcpckcaa
open Go.ChangeShapes Go.WideShapes Go.ChangeAt Go.RowKit
set_option linter.unusedVariables false
set_option linter.unusedSimpArgs false
open BigFrame Bs Jd
attribute [local go_sem] Bs.max_fold Bs.min_fold

namespace Jd
/-- What went out. -/
def outI (X : Nat → Nat → Int) (tn s t : Int) : Nat → Int
  | 0 => 0
  | n + 1 => outI X tn s t n + if X n 2 = tn ∧ s < X n 0 ∧ X n 0 ≤ t then X n 4 else 0
theorem outI_bd {X : Nat → Nat → Int} (tn s t : Int) {N : Nat} (h : ∀ i, i < N → 0 ≤ X i 4 ∧ X i 4 ≤ 1500) (n : Nat) (hn : n ≤ N) : 0 ≤ outI X tn s t n ∧ outI X tn s t n ≤ 1500 * n := by
  induction n with
  | zero => simp [outI]
  | succ n ih =>
    have h1 := ih (by omega)
    have h2 := h n (by omega)
    unfold outI
    split <;> omega
/-- A tick within its bounds. -/
def tickI (t : Int) : Int := min (max t 0) 1099511627776
/-- Rate, burst, and till when the next one is in force: behind the last p policies. -/
def bstep (tn from_ t : Int) (y : Nat → Int) (z : Int × Int × Int) : Int × Int × Int :=
  if y 1 ≠ tn then z else if y 0 ≤ t ∧ from_ ≤ z.2.2 then (max z.1 (y 2), max z.2.1 (y 3), y 0) else (z.1, z.2.1, y 0)
def bst (Y : Nat → Nat → Int) (M : Nat) (tn from_ t : Int) : Nat → Int × Int × Int
  | 0 => (0, 0, 1099511627777)
  | p + 1 => bstep tn from_ t (Y (M - 1 - p)) (bst Y M tn from_ t p)
theorem bst_bd {Y : Nat → Nat → Int} {M : Nat} (tn from_ t : Int) (h : ∀ i, i < M → (0 ≤ Y i 2 ∧ Y i 2 ≤ 1000000) ∧ 0 ≤ Y i 3 ∧ Y i 3 ≤ 1000000) (p : Nat) (hp : p ≤ M) :
    (0 ≤ (bst Y M tn from_ t p).1 ∧ (bst Y M tn from_ t p).1 ≤ 1000000) ∧ 0 ≤ (bst Y M tn from_ t p).2.1 ∧ (bst Y M tn from_ t p).2.1 ≤ 1000000 := by
  induction p with
  | zero => simp [bst]
  | succ p ih =>
    have h1 := ih (by omega)
    have h2 := h (M - 1 - p) (by omega)
    unfold bst bstep
    split
    · exact h1
    · split
      · simp only; omega
      · exact h1
def boundI (Y : Nat → Nat → Int) (M : Nat) (tn s t h : Int) : Int :=
  if tickI t ≤ tickI s then 0 else 1000 * (bst Y M tn (tickI s - tickI h) (tickI t) M).2.1 + (bst Y M tn (tickI s - tickI h) (tickI t) M).1 * (tickI t - tickI s)
end Jd

set_option maxRecDepth 100000 in
set_option maxHeartbeats 4000000 in
theorem jout_c (a : Option Addr) (b off N c : Nat) (X : Nat → Nat → Int) (tn s t : Int) (w : World) (T : IntRows w a b off N 6 X) (hN : N ≤ 1000) (hX : ∀ i, i < N → 0 ≤ X i 4 ∧ X i 4 ≤ 1500) :
    Calls Try.prog 9 #[.slice a N c, .int .i64 tn, .int .i64 s, .int .i64 t] w fun e w' => e = .returned (.int .i64 (outI X tn s t N)) ∧ Below w.heap.size w w' := by
  replace T := Lib.hid T
  replace hX := Lib.hid hX
  go_enter Try.func9, Try.ntmps9
  go_wp2_with fail
  go_loopw [9, 11, 14] (fun s9 _ s14 wr => ∃ kk : Nat, kk ≤ N ∧ s9 = .int .i64 (outI X tn s t kk) ∧ s14 = .int .i64 (kk : Nat) ∧ Below w.heap.size w wr) (fun _ _ s14 _ => N - (intOf s14).toNat)
  case atStart => exact ⟨0, Nat.zero_le _, rfl, rfl, Below.refl _ _⟩
  case round =>
    obtain ⟨kk, hkk, rfl, rfl, hB⟩ := hrel
    by_cases hlt : kk < N
    · have hltz : (kk : Int) < (N : Int) := by omega
      obtain rfl := T.out.ha (by omega)
      have T1 := T.out.bel hB
      have x0 := T1.c0 kk hlt (by omega)
      have x1 := T1.c kk 1 hlt (by omega)
      have x2 := T1.c kk 2 hlt (by omega)
      have x3 := T1.c kk 3 hlt (by omega)
      have x4 := T1.c kk 4 hlt (by omega)
      have x5 := T1.c kk 5 hlt (by omega)
      obtain ⟨y0, y1⟩ := hX.out kk hlt
      obtain ⟨o0, o1⟩ := outI_bd tn s t hX.out kk (by omega)
      have hstep : outI X tn s t (kk + 1) = outI X tn s t kk + if X kk 2 = tn ∧ s < X kk 0 ∧ X kk 0 ≤ t then X kk 4 else 0 := rfl
      obtain ⟨O, hO⟩ : ∃ O, outI X tn s t kk = O := ⟨_, rfl⟩
      rw [hO] at o0 o1 hstep ⊢
      have hB2 := bNext hB ((Below.refl wr.heap.size wr).alloc (Nat.le_refl _) (.cells #[.int .i64 (X kk 0), .int .i64 (X kk 1), .int .i64 (X kk 2), .int .i64 (X kk 3), .int .i64 (X kk 4), .int .i64 (X kk 5)] 34)) (Nat.le_refl _)
      clear T1 hO
      by_cases h1 : X kk 2 = tn
      · have e1 : (X kk 2 == tn) = true := by simpa using h1
        by_cases h2 : s < X kk 0
        · by_cases h3 : X kk 0 ≤ t
          · rw [if_pos ⟨h1, h2, h3⟩] at hstep
            replace hstep := Lib.hid hstep
            replace h1 := Lib.hid h1
            go_wp2_with fail
            go_roundw
            case rel => exact ⟨kk + 1, by omega, by rw [hstep.out], by go_num, hB2⟩
            case measure => simp [intOf]; omega
          · rw [if_neg (fun q => h3 q.2.2), Int.add_zero] at hstep
            replace hstep := Lib.hid hstep
            replace h1 := Lib.hid h1
            go_wp2_with fail
            go_roundw
            case rel => exact ⟨kk + 1, by omega, by rw [hstep.out], by go_num, hB2⟩
            case measure => simp [intOf]; omega
        · rw [if_neg (fun q => h2 q.2.1), Int.add_zero] at hstep
          replace hstep := Lib.hid hstep
          replace h1 := Lib.hid h1
          go_wp2_with fail
          go_roundw
          case rel => exact ⟨kk + 1, by omega, by rw [hstep.out], by go_num, hB2⟩
          case measure => simp [intOf]; omega
      · have e1 : (X kk 2 == tn) = false := by simpa using h1
        rw [if_neg (fun q => h1 q.1), Int.add_zero] at hstep
        replace hstep := Lib.hid hstep
        replace h1 := Lib.hid h1
        go_wp2_with fail
        go_roundw
        case rel => exact ⟨kk + 1, by omega, by rw [hstep.out], by go_num, hB2⟩
        case measure => simp [intOf]; omega
    · have hltz : ¬ (kk : Int) < (N : Int) := by omega
      obtain rfl : kk = N := by omega
      go_wp2_with fail
      go_ret
      exact ⟨rfl, hB⟩
end Go.Proofs.Ytjdkpoggcpckcaa
