/- Where no election begins; and weirref02.SameAll at asks. -/
import Derived.Test.YthahlfabcjnkhaaBegin4
import Derived.Test.YthahlfabcjnkhaaSame02
namespace Go.Proofs.Ythahlfabcjnkhaa
open Go.ChangeShapes Go.WideShapes Go.ChangeAt Go.RowKit
set_option linter.unusedVariables false
set_option linter.unusedSimpArgs false
open Rw Vt R10 Bg

set_option maxRecDepth 100000 in
set_option maxHeartbeats 3200000 in
theorem begin_no (t v bt : Int) (r : Rw.R) (s : Nat) (hs : s < 256) (self : Int) (w : World) (hw : RWf r) (hr : RAt w r) (h : Rw.chkB r = false ∨ hasB s self = false) :
    Calls Try.prog 70 #[.agg #[.int .i64 t, .int .i64 v, .int .i64 bt], r.val, .int .u8 s, .int .i64 self] w fun e w' => e = .returned (.tuple #[.agg #[.int .i64 0, .int .i64 0, .int .i64 0], .slice none 0 0, .int .i64 (if Rw.chkB r = true then 2 else 90)]) ∧ Below w.heap.size w w' := by
  have HR := Lib.hid hr
  have HW := Lib.hid hw
  clear hr hw
  cases hc : Rw.chkB r with
  | false =>
    have hz := chkE_no hc
    rw [if_neg (by decide)]
    clear hc h
    unfold R.val
    go_enter Try.func70, Try.ntmps70
    go_wp2_with fail
    refine (check_c r _ HW.out (HR.out.below ?_)).mono ?_
    · repeat (first | exact Below.refl _ _ | refine Below.alloc ?_ (by simp; try omega) _)
    rw [hz]
    rintro e w1 ⟨rfl, hb1⟩
    have hB1 : Below w.heap.size w w1 := belowNext (by repeat (first | exact Below.refl _ _ | refine Below.alloc ?_ (by simp; try omega) _)) hb1 (Nat.le_refl _)
    obtain ⟨hc1, hf1⟩ := bcell hb1
    have hs1 : w.heap.size + 4 ≤ w1.heap.size := by have := hb1.size; simp at this; omega
    have z0 : w1.cell? ⟨w.heap.size + 1 + 1 + 1, 0, none⟩ = some (.int .i64 0) := by go_simp
    have z1 : w1.cell? ⟨w.heap.size + 1 + 1 + 1, 1, none⟩ = some (.int .i64 0) := by go_simp
    have z2 : w1.cell? ⟨w.heap.size + 1 + 1 + 1, 2, none⟩ = some (.int .i64 0) := by go_simp
    have zf : ∀ o, w1.frozen? ⟨w.heap.size + 1 + 1 + 1, o, none⟩ = false := fun o => by go_simp
    clear hb1 hc1 hf1
    go_wp2_with fail
    obtain ⟨s0, s1, s2⟩ := set3 (.int .i64 0) (.int .i64 0) (.int .i64 0) z0 z1 z2
    have hbz := ((hB1.setCell (p := ⟨w.heap.size + 1 + 1 + 1, 0, none⟩) (by simp only; omega) (.int .i64 0)).setCell (p := ⟨w.heap.size + 1 + 1 + 1, 1, none⟩) (by simp only; omega) (.int .i64 0)).setCell (p := ⟨w.heap.size + 1 + 1 + 1, 2, none⟩) (by simp only; omega) (.int .i64 0)
    exact bodyPost_ret (v := .tuple #[.agg #[.int .i64 0, .int .i64 0, .int .i64 0], .slice none 0 0, .int .i64 90]) (by simp [results, Try.results70, go_sem, s0, s1, s2]) rfl ⟨rfl, hbz⟩
  | true =>
    have hz := chkE_ok hc
    have hh : hasB s self = false := by
      rcases h with h | h
      · exact absurd (h.symm.trans hc) (by decide)
      · exact h
    have ch := fun u => vhas_c s hs self u
    rw [hh] at ch
    rw [if_pos rfl]
    clear hc h hh
    unfold R.val
    go_enter Try.func70, Try.ntmps70
    go_wp2_with fail
    refine (check_c r _ HW.out (HR.out.below ?_)).mono ?_
    · repeat (first | exact Below.refl _ _ | refine Below.alloc ?_ (by simp; try omega) _)
    rw [hz]
    rintro e w1 ⟨rfl, hb1⟩
    have hB1 : Below w.heap.size w w1 := belowNext (by repeat (first | exact Below.refl _ _ | refine Below.alloc ?_ (by simp; try omega) _)) hb1 (Nat.le_refl _)
    obtain ⟨hc1, hf1⟩ := bcell hb1
    have hs1 : w.heap.size + 4 ≤ w1.heap.size := by have := hb1.size; simp at this; omega
    have z0 : w1.cell? ⟨w.heap.size + 1 + 1 + 1, 0, none⟩ = some (.int .i64 0) := by go_simp
    have z1 : w1.cell? ⟨w.heap.size + 1 + 1 + 1, 1, none⟩ = some (.int .i64 0) := by go_simp
    have z2 : w1.cell? ⟨w.heap.size + 1 + 1 + 1, 2, none⟩ = some (.int .i64 0) := by go_simp
    have zf : ∀ o, w1.frozen? ⟨w.heap.size + 1 + 1 + 1, o, none⟩ = false := fun o => by go_simp
    have xs : w1.cell? ⟨w.heap.size + 1 + 1, 0, none⟩ = some (.int .i64 self) := by go_simp
    clear hb1 hc1 hf1
    go_wp2_with (go_at_call 115; refine (ch _).mono ?_; rintro e w' ⟨rfl, rfl⟩)
    obtain ⟨s0, s1, s2⟩ := set3 (.int .i64 0) (.int .i64 0) (.int .i64 0) z0 z1 z2
    have hbz := ((hB1.setCell (p := ⟨w.heap.size + 1 + 1 + 1, 0, none⟩) (by simp only; omega) (.int .i64 0)).setCell (p := ⟨w.heap.size + 1 + 1 + 1, 1, none⟩) (by simp only; omega) (.int .i64 0)).setCell (p := ⟨w.heap.size + 1 + 1 + 1, 2, none⟩) (by simp only; omega) (.int .i64 0)
    exact bodyPost_ret (v := .tuple #[.agg #[.int .i64 0, .int .i64 0, .int .i64 0], .slice none 0 0, .int .i64 2]) (by simp [results, Try.results70, go_sem, s0, s1, s2]) rfl ⟨rfl, hbz⟩

set_option maxRecDepth 100000 in
set_option maxHeartbeats 3200000 in
theorem rbegin_no (t v bt : Int) (r : Rw.R) (s : Nat) (hs : s < 256) (self : Int) (w : World) (hw : RWf r) (hr : RAt w r) (h : Rw.chkB r = false ∨ hasB s self = false) :
    Calls Try.prog 71 #[.agg #[.int .i64 t, .int .i64 v, .int .i64 bt], r.val, .int .u8 s, .int .i64 self] w fun e w' => e = .returned (.tuple #[.agg #[.int .i64 0, .int .i64 0, .int .i64 0], .slice none 0 0, .int .i64 (if Rw.chkB r = true then 2 else 90)]) ∧ Below w.heap.size w w' := by
  have HR := Lib.hid hr
  have HW := Lib.hid hw
  clear hr hw
  cases hc : Rw.chkB r with
  | false =>
    have hz := chkE_no hc
    rw [if_neg (by decide)]
    clear hc h
    unfold R.val
    go_enter Try.func71, Try.ntmps71
    go_wp2_with fail
    refine (rcheck_c r _ HW.out (HR.out.below ?_)).mono ?_
    · repeat (first | exact Below.refl _ _ | refine Below.alloc ?_ (by simp; try omega) _)
    rw [hz]
    rintro e w1 ⟨rfl, hb1⟩
    have hB1 : Below w.heap.size w w1 := belowNext (by repeat (first | exact Below.refl _ _ | refine Below.alloc ?_ (by simp; try omega) _)) hb1 (Nat.le_refl _)
    obtain ⟨hc1, hf1⟩ := bcell hb1
    have hs1 : w.heap.size + 3 ≤ w1.heap.size := by have := hb1.size; simp at this; omega
    have z0 : w1.cell? ⟨w.heap.size + 1 + 1, 0, none⟩ = some (.int .i64 0) := by go_simp
    have z1 : w1.cell? ⟨w.heap.size + 1 + 1, 1, none⟩ = some (.int .i64 0) := by go_simp
    have z2 : w1.cell? ⟨w.heap.size + 1 + 1, 2, none⟩ = some (.int .i64 0) := by go_simp
    have zf : ∀ o, w1.frozen? ⟨w.heap.size + 1 + 1, o, none⟩ = false := fun o => by go_simp
    clear hb1 hc1 hf1
    go_wp2_with fail
    obtain ⟨s0, s1, s2⟩ := set3 (.int .i64 0) (.int .i64 0) (.int .i64 0) z0 z1 z2
    have hbz := ((hB1.setCell (p := ⟨w.heap.size + 1 + 1, 0, none⟩) (by simp only; omega) (.int .i64 0)).setCell (p := ⟨w.heap.size + 1 + 1, 1, none⟩) (by simp only; omega) (.int .i64 0)).setCell (p := ⟨w.heap.size + 1 + 1, 2, none⟩) (by simp only; omega) (.int .i64 0)
    exact bodyPost_ret (v := .tuple #[.agg #[.int .i64 0, .int .i64 0, .int .i64 0], .slice none 0 0, .int .i64 90]) (by simp [results, Try.results71, go_sem, s0, s1, s2]) rfl ⟨rfl, hbz⟩
  | true =>
    have hz := chkE_ok hc
    have hh : hasB s self = false := by
      rcases h with h | h
      · exact absurd (h.symm.trans hc) (by decide)
      · exact h
    have ch := fun u => rhas_c s hs self u
    rw [hh] at ch
    rw [if_pos rfl]
    clear hc h hh
    unfold R.val
    go_enter Try.func71, Try.ntmps71
    go_wp2_with fail
    refine (rcheck_c r _ HW.out (HR.out.below ?_)).mono ?_
    · repeat (first | exact Below.refl _ _ | refine Below.alloc ?_ (by simp; try omega) _)
    rw [hz]
    rintro e w1 ⟨rfl, hb1⟩
    have hB1 : Below w.heap.size w w1 := belowNext (by repeat (first | exact Below.refl _ _ | refine Below.alloc ?_ (by simp; try omega) _)) hb1 (Nat.le_refl _)
    obtain ⟨hc1, hf1⟩ := bcell hb1
    have hs1 : w.heap.size + 3 ≤ w1.heap.size := by have := hb1.size; simp at this; omega
    have z0 : w1.cell? ⟨w.heap.size + 1 + 1, 0, none⟩ = some (.int .i64 0) := by go_simp
    have z1 : w1.cell? ⟨w.heap.size + 1 + 1, 1, none⟩ = some (.int .i64 0) := by go_simp
    have z2 : w1.cell? ⟨w.heap.size + 1 + 1, 2, none⟩ = some (.int .i64 0) := by go_simp
    have zf : ∀ o, w1.frozen? ⟨w.heap.size + 1 + 1, o, none⟩ = false := fun o => by go_simp
    clear hb1 hc1 hf1
    go_wp2_with (go_at_call 110; refine (ch _).mono ?_; rintro e w' ⟨rfl, rfl⟩)
    obtain ⟨s0, s1, s2⟩ := set3 (.int .i64 0) (.int .i64 0) (.int .i64 0) z0 z1 z2
    have hbz := ((hB1.setCell (p := ⟨w.heap.size + 1 + 1, 0, none⟩) (by simp only; omega) (.int .i64 0)).setCell (p := ⟨w.heap.size + 1 + 1, 1, none⟩) (by simp only; omega) (.int .i64 0)).setCell (p := ⟨w.heap.size + 1 + 1, 2, none⟩) (by simp only; omega) (.int .i64 0)
    exact bodyPost_ret (v := .tuple #[.agg #[.int .i64 0, .int .i64 0, .int .i64 0], .slice none 0 0, .int .i64 2]) (by simp [results, Try.results71, go_sem, s0, s1, s2]) rfl ⟨rfl, hbz⟩

set_option maxRecDepth 100000 in
set_option maxHeartbeats 3200000 in
theorem sameAll_asks (S T I L : Int) (l : List Int) (a1 a2 : Option Addr) (c1 c2 : Nat) (w : World) (hl : l.length ≤ 7) (h1 : AsksAt w a1 S T I L l) (h2 : AsksAt w a2 S T I L l) :
    Calls Try.prog 72 #[.slice a1 l.length c1, .slice a2 l.length c2] w fun e w' => e = .returned (.bool true) ∧ Below w.heap.size w w' := by
  obtain ⟨N, hN⟩ : ∃ N, l.length = N := ⟨_, rfl⟩
  rw [hN]
  go_enter Try.func72, Try.ntmps72
  go_wp2_with fail
  go_loopw [5] (fun i wr => ∃ k : Nat, k ≤ N ∧ i = .int .i64 (k : Nat) ∧ Below w.heap.size w wr) (fun i _ => N - (intOf i).toNat)
  case atStart => exact ⟨0, by omega, rfl, Below.refl _ _⟩
  case round =>
    obtain ⟨k, hk, rfl, hB⟩ := hrel
    by_cases hlt : k < N
    · have hlt' : (k : Int) < (N : Int) := by omega
      obtain ⟨g1, rfl, _, e1⟩ := (h1.below hB) (by omega)
      obtain ⟨g2, rfl, _, e2⟩ := (h2.below hB) (by omega)
      have d1 := fun j (hj : j < 14) => e1 k j (by omega) hj
      have d2 := fun j (hj : j < 14) => e2 k j (by omega) hj
      obtain ⟨x, hx⟩ : ∃ x, l[k]'(by omega) = x := ⟨_, rfl⟩
      simp only [hx, Nat.zero_add] at d1 d2
      have p1_0 := d1 0 (by omega)
      have p1_1 := d1 1 (by omega)
      have p1_2 := d1 2 (by omega)
      have p1_3 := d1 3 (by omega)
      have p1_4 := d1 4 (by omega)
      have p1_5 := d1 5 (by omega)
      have p1_6 := d1 6 (by omega)
      have p1_7 := d1 7 (by omega)
      have p1_8 := d1 8 (by omega)
      have p1_9 := d1 9 (by omega)
      have p1_10 := d1 10 (by omega)
      have p1_11 := d1 11 (by omega)
      have p1_12 := d1 12 (by omega)
      have p1_13 := d1 13 (by omega)
      have p2_0 := d2 0 (by omega)
      have p2_1 := d2 1 (by omega)
      have p2_2 := d2 2 (by omega)
      have p2_3 := d2 3 (by omega)
      have p2_4 := d2 4 (by omega)
      have p2_5 := d2 5 (by omega)
      have p2_6 := d2 6 (by omega)
      have p2_7 := d2 7 (by omega)
      have p2_8 := d2 8 (by omega)
      have p2_9 := d2 9 (by omega)
      have p2_10 := d2 10 (by omega)
      have p2_11 := d2 11 (by omega)
      have p2_12 := d2 12 (by omega)
      have p2_13 := d2 13 (by omega)
      simp only [entM, List.getElem?_cons_zero, List.getElem?_cons_succ, Nat.add_zero] at p1_0 p1_1 p1_2 p1_3 p1_4 p1_5 p1_6 p1_7 p1_8 p1_9 p1_10 p1_11 p1_12 p1_13 p2_0 p2_1 p2_2 p2_3 p2_4 p2_5 p2_6 p2_7 p2_8 p2_9 p2_10 p2_11 p2_12 p2_13
      have cs := fun u => same_bare 1 S x T I L 0 false u
      unfold bare Msg.val at cs
      replace cs := Lib.hid cs
      clear d1 d2 e1 e2 h1 h2 hx
      go_wp2_with fail
      go_region_with (go_at_call 36; refine (cs.out _).mono ?_; rintro e w2 ⟨rfl, hb2⟩)
      all_goals
        have hB2 := belowNext hB.drew hb2 (Nat.le_refl _)
        go_wp2
        go_roundw
        case rel => exact ⟨k + 1, by omega, by simp, hB2⟩
        case measure => simp [intOf]; omega
    · obtain rfl : k = N := by omega
      go_wp2_with fail
      go_ret
      exact ⟨rfl, hB⟩
end Go.Proofs.Ythahlfabcjnkhaa
