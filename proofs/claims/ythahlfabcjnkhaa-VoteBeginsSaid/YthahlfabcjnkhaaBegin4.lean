/- The contract of vote.Begin, where it begins. -/
import Derived.Test.YthahlfabcjnkhaaBegin3
namespace Go.Proofs.Ythahlfabcjnkhaa
open Go.ChangeShapes Go.WideShapes Go.ChangeAt Go.RowKit
set_option linter.unusedVariables false
set_option linter.unusedSimpArgs false
open Rw Vt R10 Bg

theorem Last_c (r : Rw.R) (w : World) (hw : RWf r) (hr : RAt w r) (hc : Rw.chkB r = true) :
    Calls Try.prog 116 #[r.val] w fun e' w' => e' = .returned (.tuple #[.int .i64 (Rw.lastI r), .int .i64 (Rw.lastT r)]) ∧ Below w.heap.size w w' := by
  obtain ⟨base, term, a, n, cap, e⟩ := r
  obtain ⟨x0, x1, x2⟩ := box_cells w (.int .i64 base) (.int .i64 term) (.slice a n cap) 56
  have hb0 := (Below.refl w.heap.size w).alloc (Nat.le_refl _) (.cells #[.int .i64 base, .int .i64 term, .slice a n cap] 56)
  have hz := chkE_ok hc
  obtain ⟨g1, g2, g3, g4, _⟩ := (show Rw.headP ⟨base, term, a, n, cap, e⟩ by unfold Rw.chkB at hc; exact (of_decide_eq_true hc).1)
  simp only at g1 g2 g3 g4
  clear hc
  have HR := Lib.hid hr
  have HW := Lib.hid hw
  clear hr hw
  unfold R.val
  simp only
  go_enter Try.func116, Try.ntmps116
  go_wp2_with fail
  refine (check_c ⟨base, term, a, n, cap, e⟩ _ HW.out (HR.out.below hb0)).mono ?_
  rw [hz]
  rintro e' w1 ⟨rfl, hb1⟩
  have y0 := (hb1.cell (p := ⟨w.heap.size, 0, none⟩) (by simp)).trans x0
  have y1 := (hb1.cell (p := ⟨w.heap.size, 1, none⟩) (by simp)).trans x1
  have y2 := (hb1.cell (p := ⟨w.heap.size, 2, none⟩) (by simp)).trans x2
  have hb2 := belowNext hb0 hb1 (Nat.le_refl _)
  clear x0 x1 x2 hb1
  go_wp2_with fail
  refine (last_c base term a n cap e w.heap.size _ g1 (by omega) g2 (HR.out.below hb2) y0 y1 y2).mono ?_
  rintro e' w2 ⟨rfl, hb3⟩
  go_wp2
  go_ret2
  exact ⟨rfl, belowNext hb2 hb3 (Nat.le_refl _)⟩

set_option maxRecDepth 100000 in
set_option maxHeartbeats 3200000 in
theorem begin_ok (t v bt : Int) (r : Rw.R) (s : Nat) (hs : s < 256) (self : Int) (w : World) (hw : RWf r) (hr : RAt w r) (hc : Rw.chkB r = true) (hh : hasB s self = true) :
    Calls Try.prog 70 #[.agg #[.int .i64 t, .int .i64 v, .int .i64 bt], r.val, .int .u8 s, .int .i64 self] w fun e w' => ∃ a c, e = .returned (.tuple #[.agg #[.int .i64 (wrap64 (t + 1)), .int .i64 self, .int .i64 bt], .slice a (asksN s self 7).length c, .int .i64 0]) ∧ AsksAt w' a self (wrap64 (t + 1)) (lstI r) (lstT r) (asksN s self 7) ∧ Below w.heap.size w w' := by
  have hz := chkE_ok hc
  have hLI : lstI r = Rw.lastI r := by unfold lstI; rw [hc]; rfl
  have hLT : lstT r = Rw.lastT r := by unfold lstT; rw [hc]; rfl
  have HR := Lib.hid hr
  have HW := Lib.hid hw
  have cl := fun u hu => Last_c r u HW.out hu hc
  clear hr hw hc
  have ch := fun u => vhas_c s hs self u
  rw [hh] at ch
  clear hh
  rw [hLI, hLT]
  obtain ⟨LI, hI⟩ : ∃ x, Rw.lastI r = x := ⟨_, rfl⟩
  obtain ⟨LT, hT⟩ : ∃ x, Rw.lastT r = x := ⟨_, rfl⟩
  rw [hI, hT] at cl ⊢
  clear hLI hLT hI hT
  unfold R.val at cl ⊢
  go_enter Try.func70, Try.ntmps70
  go_wp2_with fail
  refine (check_c r _ HW.out (HR.out.below ?_)).mono ?_
  · repeat (first | exact Below.refl _ _ | refine Below.alloc ?_ (by simp; try omega) _)
  rw [hz]
  rintro e w1 ⟨rfl, hb1⟩
  have hB1 : Below w.heap.size w w1 := belowNext (by repeat (first | exact Below.refl _ _ | refine Below.alloc ?_ (by simp; try omega) _)) hb1 (Nat.le_refl _)
  obtain ⟨hc1, hf1⟩ := bcell hb1
  have hs1 : w.heap.size + 4 ≤ w1.heap.size := by have := hb1.size; simp at this; omega
  clear hb1
  go_wp2_with (go_at_call 115; refine (ch _).mono ?_; rintro e w' ⟨rfl, rfl⟩)
  have hB2 : Below w.heap.size w ((w1.setCell ⟨w.heap.size, 0, none⟩ (.int .i64 (wrap64 (t + 1)))).setCell ⟨w.heap.size, 1, none⟩ (.int .i64 self)) := (hB1.setCell (p := ⟨w.heap.size, 0, none⟩) (Nat.le_refl _) _).setCell (p := ⟨w.heap.size, 1, none⟩) (Nat.le_refl _) _
  refine (cl _ (HR.out.below hB2)).mono ?_
  rintro e w2 ⟨rfl, hb2⟩
  have hB3 := belowNext hB2 hb2 (Nat.le_refl _)
  have hs2 : w.heap.size + 4 ≤ w2.heap.size := by have := hb2.size; simp at this; omega
  have c2 : ∀ b o, b < w.heap.size + 4 → w2.cell? ⟨b, o, none⟩ = ((w1.setCell ⟨w.heap.size, 0, none⟩ (.int .i64 (wrap64 (t + 1)))).setCell ⟨w.heap.size, 1, none⟩ (.int .i64 self)).cell? ⟨b, o, none⟩ := fun b o h => hb2.cell (p := ⟨b, o, none⟩) (by simp; omega)
  have f2 : ∀ b o, b < w.heap.size + 4 → w2.frozen? ⟨b, o, none⟩ = ((w1.setCell ⟨w.heap.size, 0, none⟩ (.int .i64 (wrap64 (t + 1)))).setCell ⟨w.heap.size, 1, none⟩ (.int .i64 self)).frozen? ⟨b, o, none⟩ := fun b o h => hb2.frozen (p := ⟨b, o, none⟩) (by simp; omega)
  have y0 : w1.cell? ⟨w.heap.size, 0, none⟩ = some (.int .i64 t) := by go_simp
  have y1 : w1.cell? ⟨w.heap.size, 1, none⟩ = some (.int .i64 v) := by go_simp
  have y2 : w1.cell? ⟨w.heap.size, 2, none⟩ = some (.int .i64 bt) := by go_simp
  have x0 : w2.cell? ⟨w.heap.size, 0, none⟩ = some (.int .i64 (wrap64 (t + 1))) := (c2 _ _ (by omega)).trans ((World.cell?_setCell_other _ _ _ _ (by simp)).trans (World.cell?_setCell_same _ _ _ y0))
  have x1 : w2.cell? ⟨w.heap.size, 1, none⟩ = some (.int .i64 self) := (c2 _ _ (by omega)).trans (World.cell?_setCell_same _ _ _ ((World.cell?_setCell_other _ _ _ _ (by simp)).trans y1))
  have x2 : w2.cell? ⟨w.heap.size, 2, none⟩ = some (.int .i64 bt) := (c2 _ _ (by omega)).trans ((World.cell?_setCell_other _ _ _ _ (by simp)).trans ((World.cell?_setCell_other _ _ _ _ (by simp)).trans y2))
  have oth : ∀ b o, b ≠ w.heap.size → ((w1.setCell ⟨w.heap.size, 0, none⟩ (.int .i64 (wrap64 (t + 1)))).setCell ⟨w.heap.size, 1, none⟩ (.int .i64 self)).cell? ⟨b, o, none⟩ = w1.cell? ⟨b, o, none⟩ := fun b o hb => (World.cell?_setCell_other _ _ _ _ (by simp <;> omega)).trans (World.cell?_setCell_other _ _ _ _ (by simp <;> omega))
  have xs : w2.cell? ⟨w.heap.size + 1 + 1, 0, none⟩ = some (.int .i64 self) := (c2 _ _ (by omega)).trans ((oth _ _ (by omega)).trans (by go_simp))
  have z0 : w2.cell? ⟨w.heap.size + 1 + 1 + 1, 0, none⟩ = some (.int .i64 0) := (c2 _ _ (by omega)).trans ((oth _ _ (by omega)).trans (by go_simp))
  have z1 : w2.cell? ⟨w.heap.size + 1 + 1 + 1, 1, none⟩ = some (.int .i64 0) := (c2 _ _ (by omega)).trans ((oth _ _ (by omega)).trans (by go_simp))
  have z2 : w2.cell? ⟨w.heap.size + 1 + 1 + 1, 2, none⟩ = some (.int .i64 0) := (c2 _ _ (by omega)).trans ((oth _ _ (by omega)).trans (by go_simp))
  have zf : ∀ o, w2.frozen? ⟨w.heap.size + 1 + 1 + 1, o, none⟩ = false := fun o => (f2 _ _ (by omega)).trans ((World.frozen?_setCell _ _ _ _).trans ((World.frozen?_setCell _ _ _ _).trans (by go_simp)))
  clear oth y0 y1 y2 c2 f2 hc1 hf1 hb2 cl hB2 hB1 hs1 ch
  have ch := fun k u => vhas_c s hs k u
  replace ch := Lib.hid ch
  have hk3 : ∀ b, b < w2.heap.size → (((w2.alloc (.cells #[.int .i64 LI] 3)).alloc (.cells #[.int .i64 LT] 3)).alloc (.cells #[.slice none 0 0] 67)).heap[b]? = w2.heap[b]? := fun b hb => by
    rw [Below.heap_alloc _ _ _ (by simp; omega), Below.heap_alloc _ _ _ (by simp; omega), Below.heap_alloc _ _ _ hb]
  have hB4 : Below w.heap.size w (((w2.alloc (.cells #[.int .i64 LI] 3)).alloc (.cells #[.int .i64 LT] 3)).alloc (.cells #[.slice none 0 0] 67)) := ((hB3.alloc (by omega) _).alloc (by simp; omega) _).alloc (by simp; omega) _
  have li : (((w2.alloc (.cells #[.int .i64 LI] 3)).alloc (.cells #[.int .i64 LT] 3)).alloc (.cells #[.slice none 0 0] 67)).cell? ⟨w2.heap.size, 0, none⟩ = some (.int .i64 LI) := by go_simp
  have lt : (((w2.alloc (.cells #[.int .i64 LI] 3)).alloc (.cells #[.int .i64 LT] 3)).alloc (.cells #[.slice none 0 0] 67)).cell? ⟨w2.heap.size + 1, 0, none⟩ = some (.int .i64 LT) := by go_simp
  have ll : (((w2.alloc (.cells #[.int .i64 LI] 3)).alloc (.cells #[.int .i64 LT] 3)).alloc (.cells #[.slice none 0 0] 67)).cell? ⟨w2.heap.size + 1 + 1, 0, none⟩ = some (.slice none 0 0) := by go_simp
  have lf : (((w2.alloc (.cells #[.int .i64 LI] 3)).alloc (.cells #[.int .i64 LT] 3)).alloc (.cells #[.slice none 0 0] 67)).frozen? ⟨w2.heap.size + 1 + 1, 0, none⟩ = false := by go_simp
  have hsz3 : (((w2.alloc (.cells #[.int .i64 LI] 3)).alloc (.cells #[.int .i64 LT] 3)).alloc (.cells #[.slice none 0 0] 67)).heap.size = w2.heap.size + 1 + 1 + 1 := by simp
  replace x0 := (World.cell?_of_block (hk3 w.heap.size (by omega))).trans x0
  replace x1 := (World.cell?_of_block (hk3 w.heap.size (by omega))).trans x1
  replace x2 := (World.cell?_of_block (hk3 w.heap.size (by omega))).trans x2
  replace xs := (World.cell?_of_block (hk3 (w.heap.size + 1 + 1) (by omega))).trans xs
  replace z0 := (World.cell?_of_block (hk3 (w.heap.size + 1 + 1 + 1) (by omega))).trans z0
  replace z1 := (World.cell?_of_block (hk3 (w.heap.size + 1 + 1 + 1) (by omega))).trans z1
  replace z2 := (World.cell?_of_block (hk3 (w.heap.size + 1 + 1 + 1) (by omega))).trans z2
  replace zf := fun o => (World.frozen?_of_block (hk3 (w.heap.size + 1 + 1 + 1) (by omega))).trans (zf o)
  clear hk3 hB3
  go_wp2_with fail
  generalize (((w2.alloc (.cells #[.int .i64 LI] 3)).alloc (.cells #[.int .i64 LT] 3)).alloc (.cells #[.slice none 0 0] 67)) = W at x0 x1 x2 xs z0 z1 z2 zf hB4 li lt ll lf hsz3 ⊢
  go_loopw [15] (fun i wr => ∃ (k : Nat) (lv : Value), k ≤ 7 ∧ ((asksN s self k).length = 0 → lv = .slice none 0 0) ∧ i = .int .i64 ((k : Int) + 1) ∧ wr.ownsRow (w2.heap.size + 1 + 1 + 1) 61 14 lv (asksN s self k).length (flatM self (wrap64 (t + 1)) LI LT (asksN s self k)) ∧ wr.cell? ⟨w2.heap.size + 1 + 1, 0, none⟩ = some lv ∧ wr.frozen? ⟨w2.heap.size + 1 + 1, 0, none⟩ = false ∧ (∀ b, b < w2.heap.size + 1 + 1 → wr.heap[b]? = W.heap[b]?) ∧ Below w.heap.size w wr ∧ w2.heap.size + 1 + 1 + 1 ≤ wr.heap.size) (fun i _ => 8 - (intOf i).toNat)
  case atStart => exact ⟨0, .slice none 0 0, by omega, fun _ => rfl, rfl, World.ownsRow_nil _ _ _ _, ll, lf, fun _ _ => rfl, hB4, by omega⟩
  case round =>
    obtain ⟨k, lv, hk, hnil, rfl, hown, cl, fl, hkp, hB, hsz⟩ := hrel
    have hlen := asksN_len s self k
    have cc : ∀ (b o : Nat) (u : Value), b < w2.heap.size + 1 + 1 → W.cell? ⟨b, o, none⟩ = some u → wr.cell? ⟨b, o, none⟩ = some u := fun b o u hb hu => (World.cell?_of_block (hkp b hb)).trans hu
    have xs' := cc _ _ _ (by omega) xs
    by_cases hlt : k < 7
    · have hlt' : (k : Int) + 1 ≤ 7 := by omega
      have chk := fun u => ch.out ((k : Int) + 1) u
      cases q1 : ((k : Int) + 1 != self) with
      | true =>
        cases q2 : hasB s ((k : Int) + 1) with
        | true =>
          rw [q2] at chk
          have ha := Lib.hid (asksN_in (s := s) (self := self) (k := k) (by rw [q1, q2]; rfl))
          clear q2
          have cb := begin1_c wr (w2.heap.size + 1 + 1 + 1) (w2.heap.size + 1 + 1) (w.heap.size + 1 + 1) w.heap.size w2.heap.size (w2.heap.size + 1) ((k : Int) + 1) self (wrap64 (t + 1)) LI LT lv (asksN s self k) hown (by omega) cl fl xs' (cc _ _ _ (by omega) x0) (cc _ _ _ (by omega) li) (cc _ _ _ (by omega) lt) (by omega) hsz
          replace cb := Lib.hid cb
          replace chk := Lib.hid chk
          clear cc hown cl fl hlen hnil
          go_wp2_with (go_at_call 115; refine (chk.out _).mono ?_; rintro e w' ⟨rfl, rfl⟩)
          refine cb.out.mono ?_
          rintro e w4 ⟨⟨u, rfl⟩, lv', c4, f4, o4, k4, s4, bel⟩
          replace bel := bel _ _ hB (by omega) (by omega)
          replace o4 := Lib.hid o4
          replace k4 := Lib.hid k4
          go_wp2_with fail
          go_roundw
          case rel => exact ⟨k + 1, lv', by omega, fun hh => by rw [ha.out] at hh; simp at hh, by simp, by rw [ha.out, List.length_append]; exact o4.out, c4, f4, fun b hb => (k4.out b (by omega) (by omega)).trans (hkp b hb), bel, by omega⟩
          case measure => simp [intOf]; omega
        | false =>
          rw [q2] at chk
          have ha := Lib.hid (asksN_out (s := s) (self := self) (k := k) (by rw [q1, q2]; rfl))
          clear q2
          replace chk := Lib.hid chk
          replace hown := Lib.hid hown
          clear cc
          go_wp2_with (go_at_call 115; refine (chk.out _).mono ?_; rintro e w' ⟨rfl, rfl⟩)
          go_roundw
          case rel => exact ⟨k + 1, lv, by omega, by rw [ha.out]; exact hnil, by simp, by rw [ha.out]; exact hown.out, cl, fl, hkp, hB, hsz⟩
          case measure => simp [intOf]; omega
      | false =>
        have ha := Lib.hid (asksN_out (s := s) (self := self) (k := k) (by rw [q1]; rfl))
        replace hown := Lib.hid hown
        clear cc
        go_wp2_with fail
        go_roundw
        case rel => exact ⟨k + 1, lv, by omega, by rw [ha.out]; exact hnil, by simp, by rw [ha.out]; exact hown.out, cl, fl, hkp, hB, hsz⟩
        case measure => simp [intOf]; omega
    · obtain rfl : k = 7 := by omega
      have y0 := cc _ _ _ (by omega) x0
      have y1 := cc _ _ _ (by omega) x1
      have y2 := cc _ _ _ (by omega) x2
      have v0 := cc _ _ _ (by omega) z0
      have v1 := cc _ _ _ (by omega) z1
      have v2 := cc _ _ _ (by omega) z2
      have vf : ∀ o, wr.frozen? ⟨w.heap.size + 1 + 1 + 1, o, none⟩ = false := fun o => (World.frozen?_of_block (hkp (w.heap.size + 1 + 1 + 1) (by omega))).trans (zf o)
      replace hown := Lib.hid hown
      clear cc x0 x1 x2 xs z0 z1 z2 zf li lt ll lf
      go_wp2_with fail
      have d0 : wr.drew.cell? ⟨w.heap.size + 1 + 1 + 1, 0, none⟩ = some (.int .i64 0) := by simpa using v0
      have d1 : wr.drew.cell? ⟨w.heap.size + 1 + 1 + 1, 1, none⟩ = some (.int .i64 0) := by simpa using v1
      have d2 : wr.drew.cell? ⟨w.heap.size + 1 + 1 + 1, 2, none⟩ = some (.int .i64 0) := by simpa using v2
      by_cases hn : (asksN s self 7).length = 0
      · have hl := hnil hn
        subst hl
        go_region
        all_goals
          go_wp2
          obtain ⟨s0', s1', s2'⟩ := set3 (.int .i64 (wrap64 (t + 1))) (.int .i64 self) (.int .i64 bt) v0 v1 v2
          have s0 : ((((wr.setCell ⟨w.heap.size + 1 + 1 + 1, 0, none⟩ (.int .i64 (wrap64 (t + 1)))).setCell ⟨w.heap.size + 1 + 1 + 1, 1, none⟩ (.int .i64 self)).setCell ⟨w.heap.size + 1 + 1 + 1, 2, none⟩ (.int .i64 bt)).drew).cell? ⟨w.heap.size + 1 + 1 + 1, 0, none⟩ = some (.int .i64 (wrap64 (t + 1))) := by rw [World.cell?_drew]; exact s0'
          have s1 : ((((wr.setCell ⟨w.heap.size + 1 + 1 + 1, 0, none⟩ (.int .i64 (wrap64 (t + 1)))).setCell ⟨w.heap.size + 1 + 1 + 1, 1, none⟩ (.int .i64 self)).setCell ⟨w.heap.size + 1 + 1 + 1, 2, none⟩ (.int .i64 bt)).drew).cell? ⟨w.heap.size + 1 + 1 + 1, 1, none⟩ = some (.int .i64 self) := by rw [World.cell?_drew]; exact s1'
          have s2 : ((((wr.setCell ⟨w.heap.size + 1 + 1 + 1, 0, none⟩ (.int .i64 (wrap64 (t + 1)))).setCell ⟨w.heap.size + 1 + 1 + 1, 1, none⟩ (.int .i64 self)).setCell ⟨w.heap.size + 1 + 1 + 1, 2, none⟩ (.int .i64 bt)).drew).cell? ⟨w.heap.size + 1 + 1 + 1, 2, none⟩ = some (.int .i64 bt) := by rw [World.cell?_drew]; exact s2'
          have hbz := (((hB.setCell (p := ⟨w.heap.size + 1 + 1 + 1, 0, none⟩) (by simp only; omega) (.int .i64 (wrap64 (t + 1)))).setCell (p := ⟨w.heap.size + 1 + 1 + 1, 1, none⟩) (by simp only; omega) (.int .i64 self)).setCell (p := ⟨w.heap.size + 1 + 1 + 1, 2, none⟩) (by simp only; omega) (.int .i64 bt)).drew
          have hoz := World.ownsRow.drew (ownsRow_setCell_below (ownsRow_setCell_below (ownsRow_setCell_below hown.out (a := ⟨w.heap.size + 1 + 1 + 1, 0, none⟩) (by simp only; omega) (.int .i64 (wrap64 (t + 1)))) (a := ⟨w.heap.size + 1 + 1 + 1, 1, none⟩) (by simp only; omega) (.int .i64 self)) (a := ⟨w.heap.size + 1 + 1 + 1, 2, none⟩) (by simp only; omega) (.int .i64 bt))
          exact bodyPost_ret (v := .tuple #[.agg #[.int .i64 (wrap64 (t + 1)), .int .i64 self, .int .i64 bt], .slice none 0 0, .int .i64 0]) (by simp [results, Try.results70, go_sem, s0, s1, s2]) rfl ⟨none, ⟨0, by first | rfl | rw [hn]⟩, fun h => by omega, hbz⟩
      · obtain ⟨g, cg, rfl, hg1, hg2⟩ := hown.out.form (by omega)
        go_region
        all_goals
          go_wp2
          obtain ⟨s0', s1', s2'⟩ := set3 (.int .i64 (wrap64 (t + 1))) (.int .i64 self) (.int .i64 bt) v0 v1 v2
          have s0 : ((((wr.setCell ⟨w.heap.size + 1 + 1 + 1, 0, none⟩ (.int .i64 (wrap64 (t + 1)))).setCell ⟨w.heap.size + 1 + 1 + 1, 1, none⟩ (.int .i64 self)).setCell ⟨w.heap.size + 1 + 1 + 1, 2, none⟩ (.int .i64 bt)).drew).cell? ⟨w.heap.size + 1 + 1 + 1, 0, none⟩ = some (.int .i64 (wrap64 (t + 1))) := by rw [World.cell?_drew]; exact s0'
          have s1 : ((((wr.setCell ⟨w.heap.size + 1 + 1 + 1, 0, none⟩ (.int .i64 (wrap64 (t + 1)))).setCell ⟨w.heap.size + 1 + 1 + 1, 1, none⟩ (.int .i64 self)).setCell ⟨w.heap.size + 1 + 1 + 1, 2, none⟩ (.int .i64 bt)).drew).cell? ⟨w.heap.size + 1 + 1 + 1, 1, none⟩ = some (.int .i64 self) := by rw [World.cell?_drew]; exact s1'
          have s2 : ((((wr.setCell ⟨w.heap.size + 1 + 1 + 1, 0, none⟩ (.int .i64 (wrap64 (t + 1)))).setCell ⟨w.heap.size + 1 + 1 + 1, 1, none⟩ (.int .i64 self)).setCell ⟨w.heap.size + 1 + 1 + 1, 2, none⟩ (.int .i64 bt)).drew).cell? ⟨w.heap.size + 1 + 1 + 1, 2, none⟩ = some (.int .i64 bt) := by rw [World.cell?_drew]; exact s2'
          have hbz := (((hB.setCell (p := ⟨w.heap.size + 1 + 1 + 1, 0, none⟩) (by simp only; omega) (.int .i64 (wrap64 (t + 1)))).setCell (p := ⟨w.heap.size + 1 + 1 + 1, 1, none⟩) (by simp only; omega) (.int .i64 self)).setCell (p := ⟨w.heap.size + 1 + 1 + 1, 2, none⟩) (by simp only; omega) (.int .i64 bt)).drew
          have hoz := World.ownsRow.drew (ownsRow_setCell_below (ownsRow_setCell_below (ownsRow_setCell_below hown.out (a := ⟨w.heap.size + 1 + 1 + 1, 0, none⟩) (by simp only; omega) (.int .i64 (wrap64 (t + 1)))) (a := ⟨w.heap.size + 1 + 1 + 1, 1, none⟩) (by simp only; omega) (.int .i64 self)) (a := ⟨w.heap.size + 1 + 1 + 1, 2, none⟩) (by simp only; omega) (.int .i64 bt))
          exact bodyPost_ret (v := .tuple #[.agg #[.int .i64 (wrap64 (t + 1)), .int .i64 self, .int .i64 bt], .slice (some ⟨g, 0, none⟩) (asksN s self 7).length cg, .int .i64 0]) (by simp [results, Try.results70, go_sem, s0, s1, s2]) rfl ⟨some ⟨g, 0, none⟩, cg, rfl, fun _ => ⟨g, rfl, by simpa using hg2, own_asks hoz rfl⟩, hbz⟩
end Go.Proofs.Ythahlfabcjnkhaa
