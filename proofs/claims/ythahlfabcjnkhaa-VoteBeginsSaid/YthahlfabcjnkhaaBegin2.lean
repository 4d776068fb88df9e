/- The contract of the reference's Begin, where it begins. -/
import Derived.Test.YthahlfabcjnkhaaBegin
namespace Go.Proofs.Ythahlfabcjnkhaa
open Go.ChangeShapes Go.WideShapes Go.ChangeAt Go.RowKit
set_option linter.unusedVariables false
set_option linter.unusedSimpArgs false
open Rw Vt R10 Bg

theorem grow_keep' {wr w1 : World} {o : Obj} {v : Value} {base size n : Nat} {e : TypeId} {xs : List Value} (hown : wr.ownsRow base e size v n xs) (hg : (wr.alloc o).grownBy w1 v.ownBlock) (b : Nat) (hb : b < base) (hl : b < wr.heap.size) :
    (∀ off, w1.cell? ⟨b, off, none⟩ = wr.cell? ⟨b, off, none⟩) ∧ (∀ off, w1.frozen? ⟨b, off, none⟩ = wr.frozen? ⟨b, off, none⟩) := by
  have hne : some b ≠ v.ownBlock := fun e => by have := (hown.lt b e.symm).1; omega
  have h : w1.heap[b]? = wr.heap[b]? := (hg.block b (by show b < (wr.heap.push o).size; simp; omega) hne).trans (Below.heap_alloc wr o b hl)
  exact ⟨fun off => World.cell?_of_block h, fun off => World.frozen?_of_block h⟩

set_option maxRecDepth 100000 in
set_option maxHeartbeats 3200000 in
theorem rbegin_ok (t v bt : Int) (r : Rw.R) (s : Nat) (hs : s < 256) (self : Int) (w : World) (hw : RWf r) (hr : RAt w r) (hc : Rw.chkB r = true) (hh : hasB s self = true) :
    Calls Try.prog 71 #[.agg #[.int .i64 t, .int .i64 v, .int .i64 bt], r.val, .int .u8 s, .int .i64 self] w fun e w' => ∃ a c, e = .returned (.tuple #[.agg #[.int .i64 (wrap64 (t + 1)), .int .i64 self, .int .i64 bt], .slice a (asksN s self 7).length c, .int .i64 0]) ∧ AsksAt w' a self (wrap64 (t + 1)) (lstI r) (lstT r) (asksN s self 7) ∧ Below w.heap.size w w' := by
  have hz := chkE_ok hc
  have HR := Lib.hid hr
  have HW := Lib.hid hw
  clear hr hw hc
  have ch := fun u => rhas_c s hs self u
  rw [hh] at ch
  clear hh
  obtain ⟨LI, hLI⟩ : ∃ x, lstI r = x := ⟨_, rfl⟩
  obtain ⟨LT, hLT⟩ : ∃ x, lstT r = x := ⟨_, rfl⟩
  have cl := fun u hu => rlast_c r.base r.term r.a r.n r.cap r.e u HW.out hu
  rw [show lstI ⟨r.base, r.term, r.a, r.n, r.cap, r.e⟩ = LI from hLI, show lstT ⟨r.base, r.term, r.a, r.n, r.cap, r.e⟩ = LT from hLT] at cl
  rw [hLI, hLT]
  clear hLI hLT
  obtain ⟨i0, hi0, hz0, hz1, hz2⟩ := info_parts info61
  unfold R.val
  go_enter Try.func71, Try.ntmps71
  go_wp2_with fail
  refine (rcheck_c r _ HW.out (HR.out.below ?_)).mono ?_
  · repeat (first | exact Below.refl _ _ | refine Below.alloc ?_ (by simp; try omega) _)
  rw [hz]
  rintro e w1 ⟨rfl, hb1⟩
  have hB1 : Below w.heap.size w w1 := belowNext (by repeat (first | exact Below.refl _ _ | refine Below.alloc ?_ (by simp; try omega) _)) hb1 (Nat.le_refl _)
  obtain ⟨hc1, hf1⟩ := bcell hb1
  have hs1 : w.heap.size + 3 ≤ w1.heap.size := by have := hb1.size; simp at this; omega
  clear hb1
  go_wp2_with (go_at_call 110; refine (ch _).mono ?_; rintro e w' ⟨rfl, rfl⟩)
  refine (cl _ (HR.out.below hB1)).mono ?_
  rintro e w2 ⟨rfl, hb2⟩
  have hB2 := belowNext hB1 hb2 (Nat.le_refl _)
  have c2 : ∀ b o, b < w.heap.size + 3 → w2.cell? ⟨b, o, none⟩ = w1.cell? ⟨b, o, none⟩ := fun b o h => hb2.cell (p := ⟨b, o, none⟩) (by simp only; omega)
  have f2 : ∀ b o, b < w.heap.size + 3 → w2.frozen? ⟨b, o, none⟩ = w1.frozen? ⟨b, o, none⟩ := fun b o h => hb2.frozen (p := ⟨b, o, none⟩) (by simp only; omega)
  have hs2 : w.heap.size + 3 ≤ w2.heap.size := by have := hb2.size; omega
  have x0 : w2.cell? ⟨w.heap.size, 0, none⟩ = some (.int .i64 t) := (c2 _ _ (by omega)).trans (by go_simp)
  have x1 : w2.cell? ⟨w.heap.size, 1, none⟩ = some (.int .i64 v) := (c2 _ _ (by omega)).trans (by go_simp)
  have x2 : w2.cell? ⟨w.heap.size, 2, none⟩ = some (.int .i64 bt) := (c2 _ _ (by omega)).trans (by go_simp)
  have xf : ∀ o, w2.frozen? ⟨w.heap.size, o, none⟩ = false := fun o => (f2 _ _ (by omega)).trans (by go_simp)
  have z0 : w2.cell? ⟨w.heap.size + 1 + 1, 0, none⟩ = some (.int .i64 0) := (c2 _ _ (by omega)).trans (by go_simp)
  have z1 : w2.cell? ⟨w.heap.size + 1 + 1, 1, none⟩ = some (.int .i64 0) := (c2 _ _ (by omega)).trans (by go_simp)
  have z2 : w2.cell? ⟨w.heap.size + 1 + 1, 2, none⟩ = some (.int .i64 0) := (c2 _ _ (by omega)).trans (by go_simp)
  have zf : ∀ o, w2.frozen? ⟨w.heap.size + 1 + 1, o, none⟩ = false := fun o => (f2 _ _ (by omega)).trans (by go_simp)
  clear c2 f2 hc1 hf1 hb2
  go_wp2_with fail
  have h0 : ((w2.setCell ⟨w.heap.size, 0, none⟩ (.int .i64 (wrap64 (t + 1)))).setCell ⟨w.heap.size, 1, none⟩ (.int .i64 self)).cell? ⟨w.heap.size, 0, none⟩ = some (.int .i64 (wrap64 (t + 1))) := (World.cell?_setCell_other _ _ _ _ (by simp)).trans (World.cell?_setCell_same _ _ _ x0)
  have h1 : ((w2.setCell ⟨w.heap.size, 0, none⟩ (.int .i64 (wrap64 (t + 1)))).setCell ⟨w.heap.size, 1, none⟩ (.int .i64 self)).cell? ⟨w.heap.size, 1, none⟩ = some (.int .i64 self) := World.cell?_setCell_same _ _ _ ((World.cell?_setCell_other _ _ _ _ (by simp)).trans x1)
  have h2 : ((w2.setCell ⟨w.heap.size, 0, none⟩ (.int .i64 (wrap64 (t + 1)))).setCell ⟨w.heap.size, 1, none⟩ (.int .i64 self)).cell? ⟨w.heap.size, 2, none⟩ = some (.int .i64 bt) := (World.cell?_setCell_other _ _ _ _ (by simp)).trans ((World.cell?_setCell_other _ _ _ _ (by simp)).trans x2)
  have zz : ∀ o, ((w2.setCell ⟨w.heap.size, 0, none⟩ (.int .i64 (wrap64 (t + 1)))).setCell ⟨w.heap.size, 1, none⟩ (.int .i64 self)).cell? ⟨w.heap.size + 1 + 1, o, none⟩ = w2.cell? ⟨w.heap.size + 1 + 1, o, none⟩ := fun o => (World.cell?_setCell_other _ _ _ _ (by simp)).trans (World.cell?_setCell_other _ _ _ _ (by simp))
  have zg : ∀ o, ((w2.setCell ⟨w.heap.size, 0, none⟩ (.int .i64 (wrap64 (t + 1)))).setCell ⟨w.heap.size, 1, none⟩ (.int .i64 self)).frozen? ⟨w.heap.size + 1 + 1, o, none⟩ = false := fun o => (World.frozen?_setCell _ _ _ _).trans ((World.frozen?_setCell _ _ _ _).trans (zf o))
  have hB3 := (hB2.setCell (p := ⟨w.heap.size, 0, none⟩) (Nat.le_refl _) (.int .i64 (wrap64 (t + 1)))).setCell (p := ⟨w.heap.size, 1, none⟩) (Nat.le_refl _) (.int .i64 self)
  have hs3 : w.heap.size + 3 ≤ ((w2.setCell ⟨w.heap.size, 0, none⟩ (.int .i64 (wrap64 (t + 1)))).setCell ⟨w.heap.size, 1, none⟩ (.int .i64 self)).heap.size := by simpa using hs2
  replace z0 := (zz 0).trans z0
  replace z1 := (zz 1).trans z1
  replace z2 := (zz 2).trans z2
  generalize ((w2.setCell ⟨w.heap.size, 0, none⟩ (.int .i64 (wrap64 (t + 1)))).setCell ⟨w.heap.size, 1, none⟩ (.int .i64 self)) = W at h0 h1 h2 z0 z1 z2 zg hB3 hs3 ⊢
  clear zz zf x0 x1 x2 xf hs2 hB2 hB1 hs1 cl ch
  go_loopw [13, 14] (fun l i wr => ∃ (k : Nat) (lv : Value), k ≤ 7 ∧ lv = l ∧ ((asksN s self k).length = 0 → lv = .slice none 0 0) ∧ i = .int .i64 ((k : Int) + 1) ∧ wr.ownsRow (w.heap.size + 3) 61 14 lv (asksN s self k).length (flatM self (wrap64 (t + 1)) LI LT (asksN s self k)) ∧
      (wr.cell? ⟨w.heap.size, 0, none⟩ = some (.int .i64 (wrap64 (t + 1))) ∧ wr.cell? ⟨w.heap.size, 1, none⟩ = some (.int .i64 self) ∧ wr.cell? ⟨w.heap.size, 2, none⟩ = some (.int .i64 bt)) ∧
      (wr.cell? ⟨w.heap.size + 1 + 1, 0, none⟩ = some (.int .i64 0) ∧ wr.cell? ⟨w.heap.size + 1 + 1, 1, none⟩ = some (.int .i64 0) ∧ wr.cell? ⟨w.heap.size + 1 + 1, 2, none⟩ = some (.int .i64 0)) ∧ (∀ o, wr.frozen? ⟨w.heap.size + 1 + 1, o, none⟩ = false) ∧
      Below w.heap.size w wr ∧ w.heap.size + 3 ≤ wr.heap.size) (fun l i _ => 8 - (intOf i).toNat)
  case atStart => exact ⟨0, .slice none 0 0, by omega, rfl, fun _ => rfl, rfl, World.ownsRow_nil _ _ _ _, ⟨h0, h1, h2⟩, ⟨z0, z1, z2⟩, zg, hB3, hs3⟩
  case round =>
    clear h0 h1 h2 z0 z1 z2 zg hB3 hs3
    obtain ⟨k, lv, hk, rfl, hnil, rfl, hown, ⟨h0, h1, h2⟩, ⟨z0, z1, z2⟩, zg, hB, hsz⟩ := hrel
    have hlen := asksN_len s self k
    by_cases hlt : k < 7
    · have hlt' : (k : Int) + 1 ≤ 7 := by omega
      have chk := fun u => rhas_c s hs ((k : Int) + 1) u
      cases q1 : ((k : Int) + 1 != self) with
      | true =>
        cases q2 : hasB s ((k : Int) + 1) with
        | true =>
          rw [q2] at chk
          have ha := Lib.hid (asksN_in (s := s) (self := self) (k := k) (by rw [q1, q2]; rfl))
          clear q2
          have b2 : lv.ownBlock ≠ some (w.heap.size + 1 + 1) := fun e => by have := (hown.lt _ e).1; omega
          have b0 : lv.ownBlock ≠ some w.heap.size := fun e => by have := (hown.lt _ e).1; omega
          have hvl := Lib.hid hown.lt
          go_wp2_with (first | (go_at_call 110; refine (chk _).mono ?_; rintro e w' ⟨rfl, rfl⟩) | (at_builtin; refine wpList_append_lies _ rfl _ _ 67 (by rfl) (w.heap.size + 3) 61 i0 _ 14 160 Try.underlying67 hi0 hz0 hz1 hz2 (by rfl) (by omega) _ _ _ (by rfl) (hown.alloc _) ⟨wr.heap.size, 0, none⟩ 1 1 (entM self (wrap64 (t + 1)) LI LT ((k : Int) + 1)) (by rfl) (by rfl) (World.news_of_block (cs := #[.int .i8 1, .int .i64 self, .int .i64 ((k : Int) + 1), .int .i64 (wrap64 (t + 1)), .int .i64 LI, .int .i64 LT, .int .i64 0, .bool false, .slice none 0 0, .int .i64 0, .int .i64 0, .int .u8 0, .slice none 0 0, .slice none 0 0]) (t := 61) (fr := (0, 0)) (heap_alloc_new wr _)) (by simp [entM, Value.oneCell']) (by omega) (by unfold maxLen; omega) (by omega) (by simp; omega) (wr.heap.size + 1) (by simp) ?_; intro g1 cap1 w3 hown1 hgrow1 hat1 hlt1))
          have K2 := Lib.hid (grow_keep' hown hgrow1 (w.heap.size + 1 + 1) (by omega) (by omega))
          have K0 := Lib.hid (grow_keep' hown hgrow1 w.heap.size (by omega) (by omega))
          have hb3 : Below w.heap.size w w3 := (hB.alloc (by omega) _).grown hgrow1 (by simp; omega) (fun q hq => by have := (hown.lt q hq).1; omega)
          have s3 : wr.heap.size ≤ w3.heap.size := by have := hgrow1.size; simp at this; omega
          go_roundw
          case rel => exact ⟨k + 1, _, by omega, rfl, fun h => by rw [ha.out] at h; simp at h, by simp, by rw [ha.out, List.length_append, flatM_snoc]; exact hown1, ⟨(K0.out.1 0).trans h0, (K0.out.1 1).trans h1, (K0.out.1 2).trans h2⟩, ⟨(K2.out.1 0).trans z0, (K2.out.1 1).trans z1, (K2.out.1 2).trans z2⟩, fun o => (K2.out.2 o).trans (zg o), hb3, by omega⟩
          case measure => simp [intOf]; omega
        | false =>
          rw [q2] at chk
          have ha := Lib.hid (asksN_out (s := s) (self := self) (k := k) (by rw [q1, q2]; rfl))
          clear q2
          go_wp2_with (go_at_call 110; refine (chk _).mono ?_; rintro e w' ⟨rfl, rfl⟩)
          go_roundw
          case rel => exact ⟨k + 1, _, by omega, rfl, by rw [ha.out]; exact hnil, by simp, by rw [ha.out]; exact hown, ⟨h0, h1, h2⟩, ⟨z0, z1, z2⟩, zg, hB, hsz⟩
          case measure => simp [intOf]; omega
      | false =>
        have ha := Lib.hid (asksN_out (s := s) (self := self) (k := k) (by rw [q1]; rfl))
        go_wp2_with fail
        go_roundw
        case rel => exact ⟨k + 1, _, by omega, rfl, by rw [ha.out]; exact hnil, by simp, by rw [ha.out]; exact hown, ⟨h0, h1, h2⟩, ⟨z0, z1, z2⟩, zg, hB, hsz⟩
        case measure => simp [intOf]; omega
    · obtain rfl : k = 7 := by omega
      go_wp2_with fail
      obtain ⟨s0, s1, s2⟩ := set3 (.int .i64 (wrap64 (t + 1))) (.int .i64 self) (.int .i64 bt) z0 z1 z2
      have hbz := ((hB.setCell (p := ⟨w.heap.size + 1 + 1, 0, none⟩) (by simp; omega) (.int .i64 (wrap64 (t + 1)))).setCell (p := ⟨w.heap.size + 1 + 1, 1, none⟩) (by simp; omega) (.int .i64 self)).setCell (p := ⟨w.heap.size + 1 + 1, 2, none⟩) (by simp; omega) (.int .i64 bt)
      have hoz := ownsRow_setCell_below (ownsRow_setCell_below (ownsRow_setCell_below hown (a := ⟨w.heap.size + 1 + 1, 0, none⟩) (by simp) (.int .i64 (wrap64 (t + 1)))) (a := ⟨w.heap.size + 1 + 1, 1, none⟩) (by simp) (.int .i64 self)) (a := ⟨w.heap.size + 1 + 1, 2, none⟩) (by simp) (.int .i64 bt)
      by_cases hn : (asksN s self 7).length = 0
      · have hl := hnil hn
        subst hl
        exact bodyPost_ret (v := .tuple #[.agg #[.int .i64 (wrap64 (t + 1)), .int .i64 self, .int .i64 bt], .slice none 0 0, .int .i64 0]) (by simp [results, Try.results71, go_sem, s0, s1, s2]) rfl ⟨none, 0, by rw [hn], fun h => by omega, hbz⟩
      · obtain ⟨g, cg, rfl, hg1, hg2⟩ := hown.form (by omega)
        exact bodyPost_ret (v := .tuple #[.agg #[.int .i64 (wrap64 (t + 1)), .int .i64 self, .int .i64 bt], .slice (some ⟨g, 0, none⟩) (asksN s self 7).length cg, .int .i64 0]) (by simp [results, Try.results71, go_sem, s0, s1, s2]) rfl ⟨some ⟨g, 0, none⟩, cg, rfl, fun _ => ⟨g, rfl, by simpa using hg2, own_asks hoz rfl⟩, hbz⟩
end Go.Proofs.Ythahlfabcjnkhaa
