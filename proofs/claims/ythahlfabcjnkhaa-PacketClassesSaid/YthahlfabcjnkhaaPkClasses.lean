/- The walk of PacketClasses. -/
import Derived.Test.YthahlfabcjnkhaaPkFlows
namespace Go.Proofs.Ythahlfabcjnkhaa
open Go.ChangeShapes Go.WideShapes Go.ChangeAt Go.RowKit
set_option linter.unusedVariables false
set_option linter.unusedSimpArgs false
open Pk BigFrame

namespace Pk
theorem ofs_sorted (T : Nat → Int) (t : Int) (N : Nat) : (ofs T t N).Pairwise (· < ·) := by
  induction N with
  | zero => exact List.Pairwise.nil
  | succ N ih =>
    by_cases g : T N = t
    · rw [ofs_in g, List.pairwise_append]
      refine ⟨ih, by simp, fun a ha b hb => ?_⟩
      obtain rfl : b = N := by simpa using hb
      exact (mem_ofs.1 ha).1
    · rw [ofs_out g]; exact ih
theorem ofs_rise {T : Nat → Int} {t : Int} {N i j : Nat} (h : i < j) (hj : j < (ofs T t N).length) : (ofs T t N).getD i 0 < (ofs T t N).getD j 0 := by
  have h1 := List.pairwise_iff_getElem.1 (ofs_sorted T t N) i j (by omega) hj h
  simpa [List.getD, hj, show i < (ofs T t N).length by omega] using h1
theorem ofs_own {T : Nat → Int} {t : Int} {N j : Nat} (hj : j < (ofs T t N).length) : (ofs T t N).getD j 0 < N ∧ T ((ofs T t N).getD j 0) = t := by
  have h : (ofs T t N).getD j 0 ∈ ofs T t N := by
    simp only [List.getD_eq_getElem?_getD, List.getElem?_eq_getElem hj, Option.getD_some]
    exact List.getElem_mem hj
  exact mem_ofs.1 h
def lastI (l : List Nat) (k : Nat) : Int := if k = 0 then -1 else ((l.getD (k - 1) 0 : Nat) : Int)
end Pk

set_option maxRecDepth 100000 in
set_option maxHeartbeats 8000000 in
theorem packetClasses_walk (w : World) (v0 : Value) (a0 : XT_LFlow) (t C : Int) (w0 : Is_LFlow w v0 a0) (w1 : (Lit.int .i64 t).wf = true) (w2 : (Lit.int .i64 C).wf = true) :
    Calls Try.prog 4 #[v0, .int .i64 t, .int .i64 C] w fun e w' => e = .returned (.bool true) ∧ Below w.heap.size w w' := by
  obtain ⟨a, N, cap, T⟩ := a0
  obtain ⟨rfl, hl, hm, hrow⟩ := w0
  simp only at hl hm hrow
  have hC := (i64_b w2).2
  clear w1 w2
  by_cases h60 : 60 < N
  · have h60' : (60 : Int) < (N : Int) := by omega
    go_enter Try.func4, Try.ntmps4
    go_wp2_with fail
    refine (wakes23_c _).mono ?_
    rintro e w9 ⟨rfl, hb9⟩
    go_wp2
    go_ret
    exact ⟨rfl, hb9⟩
  have h60' : ¬ (60 : Int) < (N : Int) := by omega
  by_cases hC0 : C < 0
  · go_enter Try.func4, Try.ntmps4
    go_wp2_with fail
    refine (wakes23_c _).mono ?_
    rintro e w9 ⟨rfl, hb9⟩
    go_wp2
    go_ret
    exact ⟨rfl, hb9⟩
  by_cases hC1 : 1099511627776 < C
  · go_enter Try.func4, Try.ntmps4
    go_wp2_with fail
    refine (wakes23_c _).mono ?_
    rintro e w9 ⟨rfl, hb9⟩
    go_wp2
    go_ret
    exact ⟨rfl, hb9⟩
  obtain ⟨rb, off, hrb, ha, hr⟩ : ∃ rb off, (0 < N → rb < w.heap.size) ∧ (0 < N → a = some ⟨rb, off, none⟩) ∧ (∀ i, i < N → w.cell? ⟨rb, off + i * 3, none⟩ = some (.int .i64 (T i))) := by
    by_cases hN : 0 < N
    · obtain ⟨b, off, h1, h2, h3⟩ := hrow hN
      exact ⟨b, off, fun _ => h2, fun _ => h1, h3⟩
    · exact ⟨0, 0, fun h => absurd h hN, fun h => absurd h hN, fun i hi => absurd hi (by omega)⟩
  have cf := fun (cl : Int) (u : World) (hcl : cl ≤ 9223372036854775807) (hu : Below w.heap.size w u) => flow_c T 0 t cl (.slice none 0 0) a N cap rb off u (by omega) (fun h => by have := hrb h; have := hu.size; omega) ha (fun i hi => (hu.cell (p := ⟨rb, off + i * 3, none⟩) (hrb (by omega))).trans (hr i hi)) hcl
  obtain ⟨c, hc⟩ : ∃ c, (ofs T t N).length = c := ⟨_, rfl⟩
  have hcN : c ≤ N := by rw [← hc]; exact ofs_len T t N
  replace cf := Lib.hid cf
  replace hr := Lib.hid hr
  clear hrow
  go_enter Try.func4, Try.ntmps4
  go_wp2_with fail
  go_loopw [7, 31] (fun n i wr => ∃ k : Nat, k ≤ N ∧ n = .int .i64 ((ofs T t k).length : Nat) ∧ i = .int .i64 (k : Nat) ∧ w = wr) (fun _ i _ => N - (intOf i).toNat)
  case atStart => exact ⟨0, by omega, rfl, rfl, rfl⟩
  case round =>
    obtain ⟨k, hk, rfl, rfl, rfl⟩ := hrel
    have hlen := ofs_len T t k
    by_cases hlt : k < N
    · have hlt' : (k : Int) < (N : Int) := by omega
      have haa := ha (by omega)
      have x0 := hr.out k hlt
      obtain ⟨m, hm'⟩ : ∃ m, (ofs T t k).length = m := ⟨_, rfl⟩
      have hmb : (m : Int) < 60 := by omega
      rw [hm']
      by_cases g : T k = t
      · have hmm := Lib.hid (show (ofs T t (k + 1)).length = m + 1 by rw [ofs_in g]; simp [hm'])
        rw [g] at x0
        clear g hm' hlen
        go_wp2_with fail
        go_roundw
        case rel => exact ⟨k + 1, by omega, by rw [hmm.out]; simp, by simp, by first | trivial | rfl⟩
        case measure => simp [intOf]; omega
      · have hmm := Lib.hid (show (ofs T t (k + 1)).length = m by rw [ofs_out g]; exact hm')
        have hg : (T k == t) = false := by simpa using g
        clear g hm' hlen
        go_wp2_with fail
        go_roundw
        case rel => exact ⟨k + 1, by omega, by rw [hmm.out], by simp, by first | trivial | rfl⟩
        case measure => simp [intOf]; omega
    · obtain rfl : k = N := by omega
      rw [hc]
      obtain ⟨Q, hQ⟩ : ∃ Q, C.toNat / c = Q := ⟨_, rfl⟩
      obtain ⟨M, hM⟩ : ∃ M, Q * c = M := ⟨_, rfl⟩
      have hQd : C / (c : Int) = (Q : Nat) := by rw [← hQ]; have : C = (C.toNat : Int) := by omega
                                                 rw [Int.natCast_ediv, ← this]
      have hMd : (Q : Int) * (c : Int) = (M : Nat) := by rw [← hM, Int.natCast_mul]
      have hMl : M ≤ 1099511627776 := by
        have : Q * c ≤ C.toNat := by rw [← hQ]; exact Nat.div_mul_le_self _ _
        omega
      have hMm : ∀ i, i < c → (M + i) % c = i := fun i hi => by rw [← hM, Nat.mul_comm, Nat.mul_add_mod, Nat.mod_eq_of_lt hi]
      have hMn : ∀ i, i < c → (M + c + i) % c = i := fun i hi => by rw [Nat.add_right_comm, Nat.add_mod_right]; exact hMm i hi
      have hI : ∀ i, i < c → flowI T k t ((M + i : Nat) : Int) = (((ofs T t k).getD i 0 : Nat) : Int) ∧ flowE T k t ((M + i : Nat) : Int) = 0 := fun i hi => by
        unfold flowI flowE
        rw [hc, if_neg (by omega), if_neg (by omega), if_neg (by omega), if_neg (by omega), Int.toNat_natCast, hMm i hi]
        exact ⟨rfl, rfl⟩
      have hJ : ∀ i, i < c → flowI T k t ((M + c + i : Nat) : Int) = (((ofs T t k).getD i 0 : Nat) : Int) ∧ flowE T k t ((M + c + i : Nat) : Int) = 0 := fun i hi => by
        unfold flowI flowE
        rw [hc, if_neg (by omega), if_neg (by omega), if_neg (by omega), if_neg (by omega), Int.toNat_natCast, hMn i hi]
        exact ⟨rfl, rfl⟩
      replace hMm := Lib.hid hMm
      replace hMn := Lib.hid hMn
      replace hI := Lib.hid hI
      replace hJ := Lib.hid hJ
      clear hQ hM
      go_wp2_with fail
      go_loopw [9, 45] (fun l i wr => ∃ j : Nat, j ≤ c ∧ l = .int .i64 (lastI (ofs T t k) j) ∧ i = .int .i64 (j : Nat) ∧ Below w.heap.size w wr) (fun _ i _ => c - (intOf i).toNat)
      case atStart => exact ⟨0, by omega, rfl, rfl, Below.refl _ _⟩
      case round =>
        obtain ⟨j, hj, rfl, rfl, hB⟩ := hrel
        obtain ⟨L, hL⟩ : ∃ L, lastI (ofs T t k) j = L := ⟨_, rfl⟩
        rw [hL]
        by_cases hlt2 : j < c
        · have hlt2' : (j : Int) < (c : Int) := by omega
          obtain ⟨i1, i2⟩ := hI.out j hlt2
          obtain ⟨j1, j2⟩ := hJ.out j hlt2
          obtain ⟨X, hX⟩ : ∃ X, (ofs T t k).getD j 0 = X := ⟨_, rfl⟩
          obtain ⟨o1, o2⟩ := ofs_own (T := T) (t := t) (N := k) (j := j) (by omega)
          rw [hX] at i1 j1 o1 o2
          have hLX : L < (X : Int) := by
            rw [← hL, ← hX]
            unfold lastI
            split
            · omega
            · have := ofs_rise (T := T) (t := t) (N := k) (show j - 1 < j by omega) (by omega)
              omega
          have hLn := Lib.hid (show lastI (ofs T t k) (j + 1) = (X : Int) by unfold lastI; rw [if_neg (by omega), Nat.add_sub_cancel, hX])
          have hc0 : ¬ (c : Int) = 0 := by omega
          have haa := ha (by omega)
          subst haa
          have k1 := cf.out ((M + j : Nat) : Int) wr (by omega) hB
          rw [i1, i2, Int.natCast_add] at k1
          have k2 := fun u hu => cf.out ((M + c + j : Nat) : Int) u (by omega) hu
          rw [j1, j2, Int.natCast_add, Int.natCast_add] at k2
          have xX := fun u (hu : Below w.heap.size w u) => (hu.cell (p := ⟨rb, off + X * 3, none⟩) (hrb (by omega))).trans (hr.out X o1)
          rw [o2] at xX
          have o1' : (X : Int) < (k : Int) := by omega
          have o3 : ¬ (k : Int) ≤ (X : Int) := by omega
          have o4 : ¬ (X : Int) ≤ L := by omega
          clear hX hL i1 i2 j1 j2 o2
          replace xX := Lib.hid xX
          replace k1 := Lib.hid k1
          replace k2 := Lib.hid k2
          have hMj : (M : Int) + (j : Int) ≤ 9223372036854775807 := by omega
          have hMj2 : (M : Int) + (c : Int) + (j : Int) ≤ 9223372036854775807 := by omega
          have hMj3 : (M : Int) + (c : Int) ≤ 9223372036854775807 := by omega
          clear hC hm hl h60 h60' hcN hlt hc hI hJ hMm hMn hr cf o1 hLX hlt2
          go_wp2_with fail
          refine k1.out.mono ?_
          rintro e w2 ⟨rfl, hb2⟩
          have hB2 := bNext hB hb2 (Nat.le_refl _)
          clear k1 hb2
          go_wp2_with fail
          refine (k2.out _ hB2).mono ?_
          rintro e w3 ⟨rfl, hb3⟩
          have hB3 := bNext hB2 hb3 (Nat.le_refl _)
          have xx := xX.out w3 hB3
          clear k2 hb3
          go_wp2_with fail
          go_roundw
          case rel => exact ⟨j + 1, by omega, by rw [hLn.out], by simp, hB3⟩
          case measure => simp [intOf]; omega
        · obtain rfl : j = c := by omega
          have k1 := cf.out C wr hC hB
          obtain ⟨X, hX⟩ : ∃ X, flowI T k t C = X := ⟨_, rfl⟩
          have hE : flowE T k t C = if j = 0 then 161 else 0 := by unfold flowE; rw [hc, if_neg (show ¬ C < 0 by omega)]
          rw [hX, hE] at k1
          clear hL hX hE
          by_cases h0 : j = 0
          · subst h0
            rw [if_pos rfl] at k1
            go_wp2_with fail
            refine k1.mono ?_
            rintro e w2 ⟨rfl, hb2⟩
            have hB2 := bNext hB hb2 (Nat.le_refl _)
            go_wp2_with fail
            refine (wakes23_c _).mono ?_
            rintro e w9 ⟨rfl, hb9⟩
            go_wp2
            go_ret
            exact ⟨rfl, bNext hB2 hb9 (Nat.le_refl _)⟩
          · rw [if_neg h0] at k1
            have h0' : (0 : Int) < (j : Int) := by omega
            go_wp2_with fail
            refine k1.mono ?_
            rintro e w2 ⟨rfl, hb2⟩
            have hB2 := bNext hB hb2 (Nat.le_refl _)
            go_wp2_with fail
            refine (wakes23_c _).mono ?_
            rintro e w9 ⟨rfl, hb9⟩
            go_wp2
            go_ret
            exact ⟨rfl, bNext hB2 hb9 (Nat.le_refl _)⟩
end Go.Proofs.Ythahlfabcjnkhaa
