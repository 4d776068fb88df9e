/- The judge: what is kept between packets is kept everywhere: the walk. -/
import Derived.Test.YtlnpommgfennhaaJ9
namespace Go.Proofs.Ytlnpommgfennhaa
open Go.ChangeShapes Go.WideShapes Go.ChangeAt Go.RowKit
set_option linter.unusedVariables false
set_option linter.unusedSimpArgs false
open BigFrame Bs Jd
attribute [local go_sem] Jd.mx_fold Jd.mn_fold

theorem cut_ok (a : Int) (N : Nat) : ∃ K : Nat, K ≤ N ∧ mn (N : Int) (mx a 0) = (K : Int) := ⟨(min (max a 0) (N : Int)).toNat, by omega, by rw [mn_eq, mx_eq]; omega⟩

set_option maxRecDepth 100000 in
set_option maxHeartbeats 8000000 in
theorem judgeAll_walk (w : World) (v0 : Value) (a0 : XT_LSent) (v1 : Value) (a1 : XT_LForce) (a2 a3 a4 a5 a6 a7 : Int) (w0 : Is_LSent w v0 a0) (w1 : Is_LForce w v1 a1) (w2 : (Lit.int .i64 a2).wf = true) (w3 : (Lit.int .i64 a3).wf = true) (w4 : (Lit.int .i64 a4).wf = true) (w5 : (Lit.int .i64 a5).wf = true) (w6 : (Lit.int .i64 a6).wf = true) (w7 : (Lit.int .i64 a7).wf = true) :
    Calls Try.prog 4 #[v0, v1, .int .i64 a2, .int .i64 a3, .int .i64 a4, .int .i64 a5, .int .i64 a6, .int .i64 a7] w fun e w' => e = .returned (.bool true) ∧ Below w.heap.size w w' := by
  obtain ⟨rfl, hNc, hc, T, _⟩ := w0
  obtain ⟨rfl, _, _, T2, _⟩ := w1
  obtain ⟨a, b, off, N, c, X⟩ := a0
  obtain ⟨b1, b2, off2, M, c2, Y⟩ := a1
  simp only at T T2 hNc hc
  show Calls Try.prog 4 #[.slice a N c, .slice b1 M c2, .int .i64 a2, .int .i64 a3, .int .i64 a4, .int .i64 a5, .int .i64 a6, .int .i64 a7] w fun e w' => e = .returned (.bool true) ∧ Below w.heap.size w w'
  clear w2 w3 w4 w5 w6 w7
  by_cases hg : 60 < N ∨ 60 < M
  · have hwk := wakes30_c w
    have g := great30_yes a b1 N c M c2 w hg
    clear T T2
    replace hg := Lib.hid hg

    go_enter Try.func4, Try.ntmps4
    go_wp2_with fail
    refine g.mono ?_
    rintro e w1 ⟨rfl, rfl⟩
    go_wp2_with fail
    refine hwk.mono ?_
    rintro e w9 ⟨rfl, hB9⟩
    go_wp2_with fail
    go_ret
    exact ⟨rfl, hB9⟩
  have g := great30_no a b1 N c M c2 w (by omega) (by omega)
  have hN : N ≤ 60 := by omega
  have hM : M ≤ 60 := by omega
  clear hg
  by_cases hok : checkOk N X M Y
  rotate_left
  · have hk := jkept_no a2 a b1 b off N c b2 off2 M c2 X Y w T T2 (by omega) (by omega) hok
    clear T T2 hok
    go_enter Try.func4, Try.ntmps4
    go_wp2_with fail
    refine g.mono ?_
    rintro e w1 ⟨rfl, rfl⟩
    go_wp2_with fail
    refine hk.mono ?_
    rintro e u ⟨rfl, hB⟩
    have hwk := wakes30_c u
    clear hk
    go_wp2_with fail
    refine hwk.mono ?_
    rintro e w9 ⟨rfl, hB9⟩
    go_wp2_with fail
    go_ret
    exact ⟨rfl, bNext hB hB9 (Nat.le_refl _)⟩
  have hk := jkept_yes a2 a b1 b off N c b2 off2 M c2 X Y w T T2 (by omega) (by omega) hok
  obtain ⟨K, hK, hKe⟩ := cut_ok a6 N
  have hKz : (0 : Int) ≤ (K : Int) := by omega
  have hKc : (K : Int) ≤ (c : Int) := by omega
  have hKN : (K : Int) ≤ (N : Int) := by omega
  have hNi : (N : Int) ≤ 60 := by omega
  have hX : ∀ i, i < N → 0 ≤ X i 4 ∧ X i 4 ≤ 1500 := fun i hi => by
    have h2 := sentB_iff.1 (hok.1 i hi).2.2
    omega
  have hY : YBd Y M := fun i hi => by
    have h2 := forceB_iff.1 (hok.2 i hi).2.2
    omega
  have ho := fun W (hW : Below w.heap.size w W) => jout_c a b off N c X a3 a4 a5 W (T.bel hW) (by omega) hX
  have hbo := fun W (hW : Below w.heap.size w W) => jbound_c b1 b2 off2 M c2 Y a3 a4 a5 a2 W (T2.bel hW) (by omega) hY
  have hall := fun q => kept_all (h := a2) hok a3 q a4 a5
  have o1 := outI_bd (X := X) a3 a4 a5 hX N (Nat.le_refl _)
  have hpre := fun q => kept_pre (h := a2) hok hK q
  have hmore := fun q => kept_more (h := a2) (more := a7) hok q
  have hk2 := fun W (hW : Below w.heap.size w W) => jkept_yes a2 a b1 b off K c b2 off2 M c2 X Y W ((pre_rows T hK).bel hW) (T2.bel hW) (by omega) (by omega) (check_pre hok hK)
  have hk3 := fun W (hW : Below w.heap.size w W) => jkept_yes a7 a b1 b off N c b2 off2 M c2 X Y W (T.bel hW) (T2.bel hW) (by omega) (by omega) hok
  have hnone : K = N ∨ a ≠ none := by
    by_cases h : 0 < N
    · exact .inr (by rw [T.ha h]; simp)
    · exact .inl (by omega)
  obtain ⟨O, hO⟩ : ∃ x, outI X a3 a4 a5 N = x := ⟨_, rfl⟩
  obtain ⟨B, hB0⟩ : ∃ x, boundI Y M a3 a4 a5 a2 = x := ⟨_, rfl⟩
  rw [hO] at o1
  obtain ⟨o1a, o1b⟩ := o1
  clear hX hY hok T T2
  replace hO := Lib.hid hO
  replace hB0 := Lib.hid hB0
  replace ho := Lib.hid ho
  replace hbo := Lib.hid hbo
  replace hall := Lib.hid hall
  replace hpre := Lib.hid hpre
  replace hmore := Lib.hid hmore
  replace hk2 := Lib.hid hk2
  replace hk3 := Lib.hid hk3
  replace hnone := Lib.hid hnone
  replace hKe := Lib.hid hKe
  go_enter Try.func4, Try.ntmps4
  go_wp2_with fail
  refine g.mono ?_
  rintro e w1 ⟨rfl, rfl⟩
  clear g
  go_wp2_with fail
  refine hk.mono ?_
  rintro e u ⟨s, t, tn, ok, rfl, hA, hB⟩
  clear hk
  have hwk := wakes30_c u
  rcases hA with ⟨rfl, rfl, rfl, rfl, hA⟩ | ⟨rfl, _⟩
  rotate_left
  ·
    go_wp2_with fail
    refine hwk.mono ?_
    rintro e w9 ⟨rfl, hB9⟩
    go_wp2_with fail
    go_ret
    exact ⟨rfl, bNext hB hB9 (Nat.le_refl _)⟩
  replace hA := Lib.hid hA
  clear hwk
  go_upto_region 6 with fail
  go_cut [87] from 33 (fun s87 wx => s87 = .bool false ∧ Below w.heap.size w wx)
  case first =>
    by_cases c1 : 0 ≤ a4
    rotate_left
    · go_wp2_with fail
      go_meet
      case rel => exact ⟨rfl, hB⟩
    by_cases c2 : a4 < a5
    rotate_left
    · go_wp2_with fail
      go_meet
      case rel => exact ⟨rfl, hB⟩
    by_cases c3 : a5 ≤ 1099511627776
    rotate_left
    · go_wp2_with fail
      go_meet
      case rel => exact ⟨rfl, hB⟩
    by_cases c4 : 1 ≤ a3
    rotate_left
    · go_wp2_with fail
      go_meet
      case rel => exact ⟨rfl, hB⟩
    by_cases c5 : a3 ≤ 16
    rotate_left
    · go_wp2_with fail
      go_meet
      case rel => exact ⟨rfl, hB⟩
    have h1 := hall.out (fun i k => hA.out a3 i k c4 c5)
    have hoo := ho.out u hB
    rw [hO.out] at hoo h1
    rw [hB0.out] at h1
    have h2 : ¬ B < 1000 * O := by omega
    go_wp2_with fail
    refine hoo.mono ?_
    rintro e u1 ⟨rfl, hC1⟩
    have hB1 := bNext hB hC1 (Nat.le_refl _)
    have hbb := hbo.out u1 hB1
    rw [hB0.out] at hbb
    clear hoo hC1 hB
    go_wp2_with fail
    refine hbb.mono ?_
    rintro e u2 ⟨rfl, hC1⟩
    have hB2 := bNext hB1 hC1 (Nat.le_refl _)
    clear hbb hC1 hB1
    go_wp2_with fail
    go_meet
    case rel => exact ⟨by rw [decide_eq_false (by omega)], hB2⟩
  obtain ⟨rfl, hBc⟩ := hcut
  clear hB
  have hKe2 := hKe.out
  have hka := hk2.out wc hBc
  have hcase : (K = N) ∨ ∃ ad, a = some ad := hnone.out.imp id (fun hne => by cases a; exact absurd rfl hne; exact ⟨_, rfl⟩)
  clear hnone
  rcases hcase with rfl | ⟨ad, rfl⟩
  all_goals
    go_wp2_with fail
    refine hka.mono ?_
    rintro e u3 ⟨s, t, tn, ok, rfl, hA2, hB3⟩
    rcases hA2 with ⟨rfl, rfl, rfl, rfl, _⟩ | ⟨rfl, h1, h2, i, k, hv, _⟩
    rotate_left
    · exact absurd hv (hpre.out _ (fun i k => hA.out _ i k h1 h2) i k)
    clear hka hKe2
    have hB4 := bNext hBc hB3 (Nat.le_refl _)
    clear hB3
    by_cases hm : a7 < a2
    · have hwk := wakes30_c u3
      go_wp2_with fail
      refine hwk.mono ?_
      rintro e w9 ⟨rfl, hB9⟩
      go_wp2_with fail
      go_ret
      exact ⟨rfl, bNext hB4 hB9 (Nat.le_refl _)⟩
    · have hka := hk3.out u3 hB4
      go_wp2_with fail
      refine hka.mono ?_
      rintro e u4 ⟨s, t, tn, ok, rfl, hA2, hB3⟩
      rcases hA2 with ⟨rfl, rfl, rfl, rfl, _⟩ | ⟨rfl, h1, h2, i, k, hv, _⟩
      rotate_left
      · exact absurd hv (hmore.out (by omega) _ (fun i k => hA.out _ i k h1 h2) i k)
      clear hka
      have hB5 := bNext hB4 hB3 (Nat.le_refl _)
      have hwk := wakes30_c u4
      go_wp2_with fail
      refine hwk.mono ?_
      rintro e w9 ⟨rfl, hB9⟩
      go_wp2_with fail
      go_ret
      exact ⟨rfl, bNext hB5 hB9 (Nat.le_refl _)⟩
end Go.Proofs.Ytlnpommgfennhaa
