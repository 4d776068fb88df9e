/- The judge: what is too much; sums. -/
import Derived.Test.YtlnpommgfennhaaJ7
import Derived.Test.YtlnpommgfennhaaJOpen
namespace Go.Proofs.Ytlnpommgfennhaa
open Go.ChangeShapes Go.WideShapes Go.ChangeAt Go.RowKit
set_option linter.unusedVariables false
set_option linter.unusedSimpArgs false
open BigFrame Bs Jd

theorem great30_yes (a a2 : Option Addr) (N c M c2 : Nat) (w : World) (h : 60 < N ∨ 60 < M) :
    Calls Try.prog 8 #[.slice a N c, .slice a2 M c2] w fun e w' => e = .returned (.bool true) ∧ w = w' := by
  by_cases h1 : (60 : Int) < (N : Int)
  · go_enter Try.func8, Try.ntmps8
    go_wp2_with fail
    go_ret
    exact ⟨rfl, rfl⟩
  · have h2 : (60 : Int) < (M : Int) := by omega
    clear h
    go_enter Try.func8, Try.ntmps8
    go_wp2_with fail
    go_ret
    exact ⟨rfl, rfl⟩
theorem great30_no (a a2 : Option Addr) (N c M c2 : Nat) (w : World) (hN : N ≤ 60) (hM : M ≤ 60) :
    Calls Try.prog 8 #[.slice a N c, .slice a2 M c2] w fun e w' => e = .returned (.bool false) ∧ w = w' := by
  have h1 : ¬ (60 : Int) < (N : Int) := by omega
  have h2 : ¬ (60 : Int) < (M : Int) := by omega
  go_enter Try.func8, Try.ntmps8
  go_wp2_with fail
  go_ret
  exact ⟨rfl, rfl⟩

namespace Jd
theorem outI_add (X : Nat → Nat → Int) (tn s t u : Int) (h1 : s ≤ t) (h2 : t ≤ u) (n : Nat) : outI X tn s t n + outI X tn t u n = outI X tn s u n := by
  induction n with
  | zero => rfl
  | succ n ih =>
    unfold outI
    repeat' split
    all_goals omega
theorem bst_mono (Y : Nat → Nat → Int) (M : Nat) (tn f t u : Int) (h : t ≤ u) (p : Nat) :
    (bst Y M tn f t p).2.2 = (bst Y M tn f u p).2.2 ∧ (bst Y M tn f t p).1 ≤ (bst Y M tn f u p).1 ∧ (bst Y M tn f t p).2.1 ≤ (bst Y M tn f u p).2.1 := by
  induction p with
  | zero => simp [bst]
  | succ p ih =>
    obtain ⟨i1, i2, i3⟩ := ih
    show (bstep tn f t (Y (M - 1 - p)) (bst Y M tn f t p)).2.2 = (bstep tn f u (Y (M - 1 - p)) (bst Y M tn f u p)).2.2 ∧ (bstep tn f t (Y (M - 1 - p)) (bst Y M tn f t p)).1 ≤ (bstep tn f u (Y (M - 1 - p)) (bst Y M tn f u p)).1 ∧ (bstep tn f t (Y (M - 1 - p)) (bst Y M tn f t p)).2.1 ≤ (bstep tn f u (Y (M - 1 - p)) (bst Y M tn f u p)).2.1
    generalize bst Y M tn f t p = z at *
    generalize bst Y M tn f u p = z2 at *
    obtain ⟨r, b, e⟩ := z
    obtain ⟨r2, b2, e2⟩ := z2
    simp only at i1 i2 i3
    subst i1
    unfold bstep
    by_cases q : Y (M - 1 - p) 1 ≠ tn
    · rw [if_pos q, if_pos q]; exact ⟨rfl, i2, i3⟩
    · rw [if_neg q, if_neg q]
      by_cases q1 : Y (M - 1 - p) 0 ≤ t ∧ f ≤ e
      · rw [if_pos q1, if_pos ⟨by omega, q1.2⟩]; exact ⟨rfl, by dsimp only; omega, by dsimp only; omega⟩
      · rw [if_neg q1]
        by_cases q2 : Y (M - 1 - p) 0 ≤ u ∧ f ≤ e
        · rw [if_pos q2]; exact ⟨rfl, by dsimp only; omega, by dsimp only; omega⟩
        · rw [if_neg q2]; exact ⟨rfl, i2, i3⟩
theorem boundI_nn {Y : Nat → Nat → Int} {M : Nat} (tn s t h : Int) (hY : ∀ i, i < M → (0 ≤ Y i 2 ∧ Y i 2 ≤ 1000000) ∧ 0 ≤ Y i 3 ∧ Y i 3 ≤ 1000000) : 0 ≤ boundI Y M tn s t h := by
  unfold boundI
  split
  · omega
  · have := bst_bd tn (tickI s - tickI h) (tickI t) hY M (Nat.le_refl _)
    have h2 : 0 ≤ (bst Y M tn (tickI s - tickI h) (tickI t) M).1 * (tickI t - tickI s) := Int.mul_nonneg this.1.1 (by omega)
    omega
theorem boundI_mono {Y : Nat → Nat → Int} {M : Nat} (tn s t u h : Int) (htu : t ≤ u) (hY : ∀ i, i < M → (0 ≤ Y i 2 ∧ Y i 2 ≤ 1000000) ∧ 0 ≤ Y i 3 ∧ Y i 3 ≤ 1000000) : boundI Y M tn s t h ≤ boundI Y M tn s u h := by
  have hn := boundI_nn tn s u h hY
  have hm : tickI t ≤ tickI u := by unfold tickI; omega
  by_cases h1 : tickI t ≤ tickI s
  · have : boundI Y M tn s t h = 0 := by unfold boundI; rw [if_pos h1]
    omega
  · unfold boundI
    rw [if_neg h1, if_neg (by omega)]
    have hb := bst_bd tn (tickI s - tickI h) (tickI t) hY M (Nat.le_refl _)
    obtain ⟨m1, m2, m3⟩ := bst_mono Y M tn (tickI s - tickI h) (tickI t) (tickI u) hm M
    have h2 := Int.mul_le_mul m2 (show tickI t - tickI s ≤ tickI u - tickI s by omega) (by omega) (by omega)
    omega
end Jd

set_option maxRecDepth 100000 in
set_option maxHeartbeats 4000000 in
theorem judgeSums_walk (w : World) (v0 : Value) (a0 : XT_LSent) (v1 : Value) (a1 : XT_LForce) (a2 a3 a4 a5 a6 : Int) (w0 : Is_LSent w v0 a0) (w1 : Is_LForce w v1 a1) (w2 : (Lit.int .i64 a2).wf = true) (w3 : (Lit.int .i64 a3).wf = true) (w4 : (Lit.int .i64 a4).wf = true) (w5 : (Lit.int .i64 a5).wf = true) (w6 : (Lit.int .i64 a6).wf = true) :
    Calls Try.prog 5 #[v0, v1, .int .i64 a2, .int .i64 a3, .int .i64 a4, .int .i64 a5, .int .i64 a6] w fun e w' => e = .returned (.bool true) ∧ Below w.heap.size w w' := by
  obtain ⟨rfl, _, _, T, _⟩ := w0
  obtain ⟨rfl, _, _, T2, _⟩ := w1
  obtain ⟨a, b, off, N, c, X⟩ := a0
  obtain ⟨b1, b2, off2, M, c2, Y⟩ := a1
  simp only at T T2
  show Calls Try.prog 5 #[.slice a N c, .slice b1 M c2, .int .i64 a2, .int .i64 a3, .int .i64 a4, .int .i64 a5, .int .i64 a6] w fun e w' => e = .returned (.bool true) ∧ Below w.heap.size w w'
  have hwk := wakes30_c w
  by_cases hg : 60 < N ∨ 60 < M
  · have g := great30_yes a b1 N c M c2 w hg
    clear T T2 w2 w3 w4 w5 w6
    replace hg := Lib.hid hg
    go_enter Try.func5, Try.ntmps5
    go_wp2_with fail
    refine g.mono ?_
    rintro e w' ⟨rfl, rfl⟩
    go_wp2_with fail
    refine hwk.mono ?_
    rintro e w' ⟨rfl, hB⟩
    go_wp2_with fail
    go_ret
    exact ⟨rfl, hB⟩
  have g := great30_no a b1 N c M c2 w (by omega) (by omega)
  have hN : N ≤ 60 := by omega
  have hM : M ≤ 60 := by omega
  clear hg
  by_cases k1 : a3 < 0
  · clear T T2 w2 w3 w4 w5 w6
    go_enter Try.func5, Try.ntmps5
    go_wp2_with fail
    refine g.mono ?_
    rintro e w' ⟨rfl, rfl⟩
    go_wp2_with fail
    refine hwk.mono ?_
    rintro e w' ⟨rfl, hB⟩
    go_wp2_with fail
    go_ret
    exact ⟨rfl, hB⟩
  by_cases k2 : a4 < a3
  · clear T T2 w2 w3 w4 w5 w6
    go_enter Try.func5, Try.ntmps5
    go_wp2_with fail
    refine g.mono ?_
    rintro e w' ⟨rfl, rfl⟩
    go_wp2_with fail
    refine hwk.mono ?_
    rintro e w' ⟨rfl, hB⟩
    go_wp2_with fail
    go_ret
    exact ⟨rfl, hB⟩
  by_cases k3 : a5 < a4
  · clear T T2 w2 w3 w4 w5 w6
    go_enter Try.func5, Try.ntmps5
    go_wp2_with fail
    refine g.mono ?_
    rintro e w' ⟨rfl, rfl⟩
    go_wp2_with fail
    refine hwk.mono ?_
    rintro e w' ⟨rfl, hB⟩
    go_wp2_with fail
    go_ret
    exact ⟨rfl, hB⟩
  by_cases k4 : 1073741824 < a5
  · clear T T2 w2 w3 w4 w5 w6
    go_enter Try.func5, Try.ntmps5
    go_wp2_with fail
    refine g.mono ?_
    rintro e w' ⟨rfl, rfl⟩
    go_wp2_with fail
    refine hwk.mono ?_
    rintro e w' ⟨rfl, hB⟩
    go_wp2_with fail
    go_ret
    exact ⟨rfl, hB⟩
  by_cases hok : checkOk N X M Y
  · have hck := jcheck_c true a b1 b off N c b2 off2 M c2 X Y w T T2 (by omega) (by omega) ⟨fun _ => hok, fun _ => rfl⟩
    have hX : ∀ i, i < N → 0 ≤ X i 4 ∧ X i 4 ≤ 1500 := fun i hi => by
      have h2 := sentB_iff.1 (hok.1 i hi).2.2
      omega
    have hY : ∀ i, i < M → (0 ≤ Y i 2 ∧ Y i 2 ≤ 1000000) ∧ 0 ≤ Y i 3 ∧ Y i 3 ≤ 1000000 := fun i hi => by
      have h2 := forceB_iff.1 (hok.2 i hi).2.2
      omega
    have hadd := outI_add X a2 a3 a4 a5 (by omega) (by omega) N
    have hmono := boundI_mono (Y := Y) (M := M) a2 a3 a4 a5 a6 (by omega) hY
    have ho := fun W (hW : Below w.heap.size w W) s t => jout_c a b off N c X a2 s t W (T.bel hW) (by omega) hX
    have hbo := fun W (hW : Below w.heap.size w W) s t => jbound_c b1 b2 off2 M c2 Y a2 s t a6 W (T2.bel hW) (by omega) hY
    have o1 := outI_bd (X := X) a2 a3 a4 hX N (Nat.le_refl _)
    have o2 := outI_bd (X := X) a2 a4 a5 hX N (Nat.le_refl _)
    obtain ⟨O1, e1⟩ : ∃ x, outI X a2 a3 a4 N = x := ⟨_, rfl⟩
    obtain ⟨O2, e2⟩ : ∃ x, outI X a2 a4 a5 N = x := ⟨_, rfl⟩
    obtain ⟨O3, e3⟩ : ∃ x, outI X a2 a3 a5 N = x := ⟨_, rfl⟩
    obtain ⟨B1, e4⟩ : ∃ x, boundI Y M a2 a3 a4 a6 = x := ⟨_, rfl⟩
    obtain ⟨B2, e5⟩ : ∃ x, boundI Y M a2 a3 a5 a6 = x := ⟨_, rfl⟩
    simp only [e1, e2, e3, e4, e5] at hadd hmono o1 o2
    clear hX hY hok T T2 hwk
    replace e1 := Lib.hid e1
    replace e2 := Lib.hid e2
    replace e3 := Lib.hid e3
    replace e4 := Lib.hid e4
    replace e5 := Lib.hid e5
    replace ho := Lib.hid ho
    replace hbo := Lib.hid hbo
    have hNi : (N : Int) ≤ 60 := by omega
    have s1 : (O1 + O2 == O3) = true := by simpa using hadd
    replace hadd := Lib.hid hadd
    obtain ⟨o1a, o1b⟩ := o1
    obtain ⟨o2a, o2b⟩ := o2
    go_enter Try.func5, Try.ntmps5
    go_wp2_with fail
    refine g.mono ?_
    rintro e w' ⟨rfl, rfl⟩
    go_wp2_with fail
    refine hck.mono ?_
    rintro e u ⟨rfl, hB0⟩
    clear hck g
    have p1 := ho.out u hB0 a3 a4
    rw [e1.out] at p1
    go_wp2_with fail
    refine p1.mono ?_
    rintro e u1 ⟨rfl, hC1⟩
    have hB1 := bNext hB0 hC1 (Nat.le_refl _)
    have p2 := ho.out u1 hB1 a4 a5
    rw [e2.out] at p2
    clear p1 hC1 hB0
    go_wp2_with fail
    refine p2.mono ?_
    rintro e u2 ⟨rfl, hC1⟩
    have hB2 := bNext hB1 hC1 (Nat.le_refl _)
    have p3 := ho.out u2 hB2 a3 a5
    rw [e3.out] at p3
    clear p2 hC1 hB1
    go_wp2_with fail
    refine p3.mono ?_
    rintro e u3 ⟨rfl, hC1⟩
    have hB3 := bNext hB2 hC1 (Nat.le_refl _)
    have q1 := hbo.out u3 hB3 a3 a4
    rw [e4.out] at q1
    clear p3 hC1 hB2
    go_wp2_with fail
    refine q1.mono ?_
    rintro e u4 ⟨rfl, hC1⟩
    have hB4 := bNext hB3 hC1 (Nat.le_refl _)
    have q2 := hbo.out u4 hB4 a3 a5
    rw [e5.out] at q2
    clear q1 hC1 hB3
    go_wp2_with fail
    refine q2.mono ?_
    rintro e u5 ⟨rfl, hC1⟩
    have hB5 := bNext hB4 hC1 (Nat.le_refl _)
    have hwk := wakes30_c u5
    clear q2 hC1 hB4
    go_wp2_with fail
    refine hwk.mono ?_
    rintro e u6 ⟨rfl, hC1⟩
    go_wp2_with fail
    go_ret
    exact ⟨rfl, bNext hB5 hC1 (Nat.le_refl _)⟩
  · have hck := jcheck_c false a b1 b off N c b2 off2 M c2 X Y w T T2 (by omega) (by omega) ⟨(fun q => by cases q), fun q => absurd q hok⟩
    clear T T2 w2 w3 w4 w5 w6 hok
    go_enter Try.func5, Try.ntmps5
    go_wp2_with fail
    refine g.mono ?_
    rintro e w' ⟨rfl, rfl⟩
    go_wp2_with fail
    refine hck.mono ?_
    rintro e u ⟨rfl, hB0⟩
    have hwk := wakes30_c u
    go_wp2_with fail
    refine hwk.mono ?_
    rintro e w' ⟨rfl, hB⟩
    go_wp2_with fail
    go_ret
    exact ⟨rfl, bNext hB0 hB (Nat.le_refl _)⟩
end Go.Proofs.Ytlnpommgfennhaa
