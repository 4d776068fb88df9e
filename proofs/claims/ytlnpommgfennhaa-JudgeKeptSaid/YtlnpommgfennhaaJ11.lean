/- The judge: the reference's Out, Bound. -/
import Derived.Test.YtlnpommgfennhaaJ9
namespace Go.Proofs.Ytlnpommgfennhaa
open Go.ChangeShapes Go.WideShapes Go.ChangeAt Go.RowKit
set_option linter.unusedVariables false
set_option linter.unusedSimpArgs false
open BigFrame Bs Jd

namespace Jd
/-- Rate and burst, policies taken from the first on. -/
def fwd (Y : Nat → Nat → Int) (M : Nat) (tn f t : Int) : Nat → Int × Int
  | 0 => (0, 0)
  | i + 1 => if Y i 1 ≠ tn ∨ t < Y i 0 then fwd Y M tn f t i else if f ≤ (bst Y M tn f t (M - 1 - i)).2.2 then (max (fwd Y M tn f t i).1 (Y i 2), max (fwd Y M tn f t i).2 (Y i 3)) else fwd Y M tn f t i
theorem fwd_step {Y : Nat → Nat → Int} {M : Nat} {tn f t : Int} {i : Nat} {e : Int} (he : (bst Y M tn f t (M - 1 - i)).2.2 = e) :
    fwd Y M tn f t (i + 1) = if Y i 1 ≠ tn ∨ t < Y i 0 then fwd Y M tn f t i else if f ≤ e then (max (fwd Y M tn f t i).1 (Y i 2), max (fwd Y M tn f t i).2 (Y i 3)) else fwd Y M tn f t i := by
  subst he; rfl
theorem fwd_nn {Y : Nat → Nat → Int} {M : Nat} (tn f t : Int) (i : Nat) : 0 ≤ (fwd Y M tn f t i).1 ∧ 0 ≤ (fwd Y M tn f t i).2 := by
  induction i with
  | zero => simp [fwd]
  | succ i ih =>
    rw [fwd_step rfl]
    split
    · exact ih
    · split
      · dsimp only; omega
      · exact ih
theorem fwd_inv {Y : Nat → Nat → Int} {M : Nat} (tn f t : Int) (q : Nat) (hq : q ≤ M) : max (fwd Y M tn f t (M - q)).1 (bst Y M tn f t q).1 = (fwd Y M tn f t M).1 ∧ max (fwd Y M tn f t (M - q)).2 (bst Y M tn f t q).2.1 = (fwd Y M tn f t M).2 := by
  induction q with
  | zero =>
    have := fwd_nn (Y := Y) (M := M) tn f t M
    simp only [bst, Nat.sub_zero]
    omega
  | succ q ih =>
    have ih := ih (by omega)
    have hj : M - q = (M - 1 - q) + 1 := by omega
    rw [hj, fwd_step (e := (bst Y M tn f t q).2.2) (by rw [show M - 1 - (M - 1 - q) = q by omega])] at ih
    rw [show M - (q + 1) = M - 1 - q by omega]
    rw [← ih.1, ← ih.2]
    show max _ (bstep tn f t (Y (M - 1 - q)) (bst Y M tn f t q)).1 = _ ∧ max _ (bstep tn f t (Y (M - 1 - q)) (bst Y M tn f t q)).2.1 = _
    unfold bstep
    by_cases h1 : Y (M - 1 - q) 1 ≠ tn
    · rw [if_pos h1, if_pos (.inl h1)]; exact ⟨rfl, rfl⟩
    · rw [if_neg h1]
      by_cases h2 : t < Y (M - 1 - q) 0
      · rw [if_neg (show ¬ (Y (M - 1 - q) 0 ≤ t ∧ f ≤ (bst Y M tn f t q).2.2) from fun k => by omega), if_pos (.inr h2)]; exact ⟨rfl, rfl⟩
      · rw [if_neg (show ¬ (Y (M - 1 - q) 1 ≠ tn ∨ t < Y (M - 1 - q) 0) from fun k => k.elim h1 h2)]
        by_cases h3 : f ≤ (bst Y M tn f t q).2.2
        · rw [if_pos h3, if_pos ⟨by omega, h3⟩]; dsimp only; omega
        · rw [if_neg h3, if_neg (fun k => h3 k.2)]; exact ⟨rfl, rfl⟩
theorem fwd_bst {Y : Nat → Nat → Int} {M : Nat} (tn f t : Int) (hY : YBd Y M) : (fwd Y M tn f t M).1 = (bst Y M tn f t M).1 ∧ (fwd Y M tn f t M).2 = (bst Y M tn f t M).2.1 := by
  have h := fwd_inv (Y := Y) (M := M) tn f t M (Nat.le_refl _)
  have hb := bst_bd tn f t hY M (Nat.le_refl _)
  rw [Nat.sub_self] at h
  simp only [fwd] at h
  omega
end Jd

set_option maxRecDepth 100000 in
set_option maxHeartbeats 4000000 in
theorem rout_c (a : Option Addr) (b off N c : Nat) (X : Nat → Nat → Int) (tn s t : Int) (w : World) (T : IntRows w a b off N 6 X) (hN : N ≤ 1000) (hX : ∀ i, i < N → 0 ≤ X i 4 ∧ X i 4 ≤ 1500) :
    Calls Try.prog 21 #[.slice a N c, .int .i64 tn, .int .i64 s, .int .i64 t] w fun e w' => e = .returned (.int .i64 (outI X tn s t N)) ∧ w = w' := by
  replace T := Lib.hid T
  replace hX := Lib.hid hX
  go_enter Try.func21, Try.ntmps21
  go_wp2_with fail
  go_loop [9, 10] (fun s9 s10 => ∃ kk : Nat, kk ≤ N ∧ s9 = .int .i64 (outI X tn s t kk) ∧ s10 = .int .i64 (kk : Nat)) (fun _ s10 => N - (intOf s10).toNat)
  case atStart => exact ⟨0, Nat.zero_le _, rfl, rfl⟩
  case round =>
    obtain ⟨kk, hkk, rfl, rfl⟩ := hrel
    by_cases hlt : kk < N
    · have hltz : (kk : Int) < (N : Int) := by omega
      obtain rfl := T.out.ha (by omega)
      have x0 := T.out.c0 kk hlt (by omega)
      have x2 := T.out.c kk 2 hlt (by omega)
      have x4 := T.out.c kk 4 hlt (by omega)
      obtain ⟨y0, y1⟩ := hX.out kk hlt
      obtain ⟨o0, o1⟩ := outI_bd tn s t hX.out kk (by omega)
      have hstep : outI X tn s t (kk + 1) = outI X tn s t kk + if X kk 2 = tn ∧ s < X kk 0 ∧ X kk 0 ≤ t then X kk 4 else 0 := rfl
      obtain ⟨O, hO⟩ : ∃ O, outI X tn s t kk = O := ⟨_, rfl⟩
      rw [hO] at o0 o1 hstep ⊢
      clear hO
      by_cases h1 : X kk 2 = tn
      · have e1 : (X kk 2 == tn) = true := by simpa using h1
        by_cases h2 : s < X kk 0
        · by_cases h3 : X kk 0 ≤ t
          · rw [if_pos ⟨h1, h2, h3⟩] at hstep
            replace hstep := Lib.hid hstep
            replace h1 := Lib.hid h1
            go_wp2_with fail
            go_round
            case rel => exact ⟨kk + 1, by omega, by rw [hstep.out], by go_num⟩
            case measure => simp [intOf]; omega
          · rw [if_neg (fun q => h3 q.2.2), Int.add_zero] at hstep
            replace hstep := Lib.hid hstep
            replace h1 := Lib.hid h1
            go_wp2_with fail
            go_round
            case rel => exact ⟨kk + 1, by omega, by rw [hstep.out], by go_num⟩
            case measure => simp [intOf]; omega
        · rw [if_neg (fun q => h2 q.2.1), Int.add_zero] at hstep
          replace hstep := Lib.hid hstep
          replace h1 := Lib.hid h1
          go_wp2_with fail
          go_round
          case rel => exact ⟨kk + 1, by omega, by rw [hstep.out], by go_num⟩
          case measure => simp [intOf]; omega
      · rw [if_neg (fun q => h1 q.1), Int.add_zero] at hstep
        have e1 : (X kk 2 == tn) = false := by simpa using h1
        replace hstep := Lib.hid hstep
        replace h1 := Lib.hid h1
        go_wp2_with fail
        go_round
        case rel => exact ⟨kk + 1, by omega, by rw [hstep.out], by go_num⟩
        case measure => simp [intOf]; omega
    · have hltz : ¬ (kk : Int) < (N : Int) := by omega
      obtain rfl : kk = N := by omega
      go_wp2_with fail
      go_ret
      exact ⟨rfl, rfl⟩

attribute [local go_sem] mx_fold mn_fold

set_option maxRecDepth 100000 in
theorem rtick_c (t : Int) (w : World) : Calls Try.prog 38 #[.int .i64 t] w fun e w' => e = .returned (.int .i64 (tickI t)) ∧ w = w' := by
  have et : mn 1099511627776 (mx t 0) = tickI t := by rw [mn_eq, mx_eq]; unfold tickI; omega
  rw [← et]
  clear et
  go_enter Try.func38, Try.ntmps38
  go_wp2_with fail
  go_ret
  exact ⟨rfl, rfl⟩

set_option maxRecDepth 100000 in
set_option maxHeartbeats 4000000 in
theorem rbound_c (a : Option Addr) (b off M c : Nat) (Y : Nat → Nat → Int) (tn s t h : Int) (w : World) (T : IntRows w a b off M 4 Y) (hM : M ≤ 1000) (hY : YBd Y M) :
    Calls Try.prog 22 #[.slice a M c, .int .i64 tn, .int .i64 s, .int .i64 t, .int .i64 h] w fun e w' => e = .returned (.int .i64 (boundI Y M tn s t h)) ∧ w = w' := by
  replace T := Lib.hid T
  have ht0 := tickI_bd t
  have hs0 := tickI_bd s
  have hh0 := tickI_bd h
  have ct := rtick_c t w
  have cs := rtick_c s w
  obtain ⟨s', hs'⟩ : ∃ s', tickI s = s' := ⟨_, rfl⟩
  obtain ⟨t', ht'⟩ : ∃ t', tickI t = t' := ⟨_, rfl⟩
  obtain ⟨h', hh'⟩ : ∃ h', tickI h = h' := ⟨_, rfl⟩
  by_cases hle : t' ≤ s'
  · have hb : boundI Y M tn s t h = 0 := by unfold boundI; rw [if_pos (by omega)]
    rw [hb]
    rw [hs'] at cs hs0
    rw [ht'] at ct ht0
    clear hb hs' ht' hh' hh0
    go_enter Try.func22, Try.ntmps22
    go_wp2_with fail
    refine cs.mono ?_
    rintro e w' ⟨rfl, rfl⟩
    go_wp2_with fail
    refine ct.mono ?_
    rintro e w' ⟨rfl, rfl⟩
    go_wp2_with fail
    go_ret
    exact ⟨rfl, rfl⟩
  · have hfb := fwd_bst (Y := Y) (M := M) tn (s' - h') t' hY
    have hb : boundI Y M tn s t h = 1000 * (fwd Y M tn (s' - h') t' M).2 + (fwd Y M tn (s' - h') t' M).1 * (t' - s') := by
      unfold boundI; rw [hs', ht', hh', if_neg hle, hfb.1, hfb.2]
    have hbd := bst_bd tn (s' - h') t' hY M (Nat.le_refl _)
    rw [← hfb.1, ← hfb.2] at hbd
    rw [hb]
    rw [hs'] at cs hs0
    rw [ht'] at ct ht0
    rw [hh'] at hh0
    have eh : mn 1099511627776 (mx h 0) = h' := by rw [mn_eq, mx_eq, ← hh']; unfold tickI; omega
    clear hb hs' ht' hh' hfb
    obtain ⟨f, hf⟩ : ∃ f, s' - h' = f := ⟨_, rfl⟩
    have f0 : -1099511627776 ≤ f := by omega
    have f1 : f ≤ 1099511627776 := by omega
    rw [hf] at hbd ⊢
    replace hf := Lib.hid hf
    replace hbd := Lib.hid hbd
    have hMi : (M : Int) ≤ 1000 := by omega
    go_enter Try.func22, Try.ntmps22
    go_wp2_with fail
    refine cs.mono ?_
    rintro e w' ⟨rfl, rfl⟩
    go_wp2_with fail
    refine ct.mono ?_
    rintro e w' ⟨rfl, rfl⟩
    clear cs ct
    go_upto_region 6 with fail
    rw [hf.out]
    clear eh
    go_wp2_with fail
    go_loop [12, 13, 15] (fun s12 s13 s15 => ∃ i : Nat, i ≤ M ∧ s12 = .int .i64 (fwd Y M tn f t' i).1 ∧ s13 = .int .i64 (fwd Y M tn f t' i).2 ∧ s15 = .int .i64 (i : Nat)) (fun _ _ s15 => M - (intOf s15).toNat)
    case atStart => exact ⟨0, Nat.zero_le _, rfl, rfl, rfl⟩
    case round =>
      obtain ⟨i, hi, rfl, rfl, rfl⟩ := hrel
      by_cases hlt : i < M
      · have hltz : (i : Int) < (M : Int) := by omega
        obtain rfl := T.out.ha (by omega)
        have x0 := T.out.c0 i hlt (by omega)
        have x1 := T.out.c i 1 hlt (by omega)
        have x2 := T.out.c i 2 hlt (by omega)
        have x3 := T.out.c i 3 hlt (by omega)
        have hstep := fwd_step (Y := Y) (M := M) (tn := tn) (f := f) (t := t') (i := i) rfl
        by_cases h1 : Y i 1 = tn
        · have e1 : (Y i 1 != tn) = false := by simp [h1]
          by_cases h2 : t' < Y i 0
          · rw [if_pos (.inr h2)] at hstep
            replace h1 := Lib.hid h1
            replace hstep := Lib.hid hstep
            go_wp2_with fail
            go_round
            case rel => exact ⟨i + 1, by omega, by rw [hstep.out], by rw [hstep.out], by go_num⟩
            case measure => simp [intOf]; omega
          · rw [if_neg (fun q => by rcases q with q | q; exact q h1; exact h2 q)] at hstep
            replace h1 := Lib.hid h1
            replace hstep := Lib.hid hstep
            obtain ⟨F, hF⟩ : ∃ F, fwd Y M tn f t' i = F := ⟨_, rfl⟩
            rw [hF]
            replace hF := Lib.hid hF
            go_wp2_with fail
            go_loop [14, 16] (fun s14 s16 => ∃ p : Nat, p ≤ M - 1 - i ∧ s14 = .int .i64 (bst Y M tn f t' p).2.2 ∧ s16 = .int .i64 ((M : Int) - 1 - (p : Int))) (fun _ s16 => (intOf s16 + 1).toNat)
            case atStart => exact ⟨0, Nat.zero_le _, rfl, by simp⟩
            case round =>
              obtain ⟨p, hp, rfl, rfl⟩ := hrel
              obtain ⟨j, hj⟩ : ∃ j : Nat, (M : Int) - 1 - (p : Int) = (j : Int) := ⟨M - 1 - p, by omega⟩
              by_cases hpi : p < M - 1 - i
              · have hjM : j < M := by omega
                have hji : (i : Int) < (j : Int) := by omega
                have hjp : M - 1 - p = j := by omega
                have hjz : (j : Int) < (M : Int) := by omega
                have hnext : (j : Int) - 1 = (M : Int) - 1 - ((p + 1 : Nat) : Int) := by omega
                have hs2 : bst Y M tn f t' (p + 1) = bstep tn f t' (Y j) (bst Y M tn f t' p) := by rw [← hjp]; rfl
                have z0 := T.out.c0 j hjM (by omega)
                have z1 := T.out.c j 1 hjM (by omega)
                rw [hj]
                replace hnext := Lib.hid hnext
                obtain ⟨z, hz⟩ : ∃ z, bst Y M tn f t' p = z := ⟨_, rfl⟩
                rw [hz] at hs2 ⊢
                by_cases q1 : Y j 1 = tn
                · have e2 : (Y j 1 == tn) = true := by simpa using q1
                  have hs3 : (bst Y M tn f t' (p + 1)).2.2 = Y j 0 := by rw [hs2]; unfold bstep; rw [if_neg (fun q => q q1)]; split <;> rfl
                  replace q1 := Lib.hid q1
                  replace hs3 := Lib.hid hs3
                  clear hs2 hz
                  go_wp2_with fail
                  go_round
                  case rel => exact ⟨p + 1, by omega, by rw [hs3.out], by rw [← hnext.out]⟩
                  case measure => simp [intOf] <;> omega
                · have e2 : (Y j 1 == tn) = false := by simpa using q1
                  have hs3 : (bst Y M tn f t' (p + 1)).2.2 = z.2.2 := by rw [hs2]; unfold bstep; rw [if_pos q1]
                  replace q1 := Lib.hid q1
                  replace hs3 := Lib.hid hs3
                  clear hs2 hz
                  go_wp2_with fail
                  go_round
                  case rel => exact ⟨p + 1, by omega, by rw [hs3.out], by rw [← hnext.out]⟩
                  case measure => simp [intOf] <;> omega
              · obtain rfl : p = M - 1 - i := by omega
                have hji : ¬ (i : Int) < (j : Int) := by omega
                rw [hj]
                obtain ⟨E, hE⟩ : ∃ E, (bst Y M tn f t' (M - 1 - i)).2.2 = E := ⟨_, rfl⟩
                replace hstep := hstep.out
                rw [hE] at hstep ⊢
                rw [hF.out] at hstep
                replace hE := Lib.hid hE
                by_cases q1 : f ≤ E
                · rw [if_pos q1] at hstep
                  replace hstep := Lib.hid hstep
                  go_wp2_with fail
                  go_round
                  case rel => exact ⟨i + 1, by omega, by rw [hstep.out]; simp only [mx_eq], by rw [hstep.out]; simp only [mx_eq], by go_num⟩
                  case measure => simp [intOf]; omega
                · rw [if_neg q1] at hstep
                  replace hstep := Lib.hid hstep
                  go_wp2_with fail
                  go_round
                  case rel => exact ⟨i + 1, by omega, by rw [hstep.out], by rw [hstep.out], by go_num⟩
                  case measure => simp [intOf]; omega
        · have e1 : (Y i 1 != tn) = true := by simpa using h1
          rw [if_pos (.inl h1)] at hstep
          replace h1 := Lib.hid h1
          replace hstep := Lib.hid hstep
          go_wp2_with fail
          go_round
          case rel => exact ⟨i + 1, by omega, by rw [hstep.out], by rw [hstep.out], by go_num⟩
          case measure => simp [intOf]; omega
      · obtain rfl : i = M := by omega
        replace hbd := hbd.out
        obtain ⟨z, hz⟩ : ∃ z, fwd Y i tn f t' i = z := ⟨_, rfl⟩
        rw [hz] at hbd ⊢
        obtain ⟨r, bb⟩ := z
        simp only at hbd ⊢
        obtain ⟨⟨b1, b2⟩, b3, b4⟩ := hbd
        have m0 : 0 ≤ r * (t' - s') := Int.mul_nonneg b1 (by omega)
        have m1 : r * (t' - s') ≤ 1099511627776000000 := Int.le_trans (Int.mul_le_mul b2 (show t' - s' ≤ 1099511627776 by omega) (by omega) (by omega)) (by omega)
        obtain ⟨m, hm⟩ : ∃ m, r * (t' - s') = m := ⟨_, rfl⟩
        rw [hm] at m0 m1
        replace hz := Lib.hid hz
        have hw : wrap64 (r * (t' - s')) = m := by rw [hm]; unfold wrap64; omega
        replace hm := Lib.hid hm
        go_wp2_with fail
        refine bodyPost_ret (v := .int .i64 (1000 * bb + m)) (by simp [results, Try.results22, go_sem]) rfl ⟨?_, rfl⟩
        rw [hz.out, ← hm.out]
end Go.Proofs.Ytlnpommgfennhaa
