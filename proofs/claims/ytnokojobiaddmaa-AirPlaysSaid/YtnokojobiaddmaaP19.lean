/- The air: Clear. -/
import Derived.Test.YtnokojobiaddmaaP18
namespace Go.Proofs.Ytnokojobiaddmaa
open Go.ChangeShapes Go.WideShapes Go.ChangeAt Go.RowKit Go.Maps
set_option linter.unusedVariables false
set_option linter.unusedSimpArgs false
open BigFrame Bs By Am Ar

namespace Ar
theorem AirAt.re {m : Nat} {w w4 : World} {g base : Nat} {lv lv2 : Value} {l l2 : List RM} {bm n : Nat} {C : Int → Int → Bool} (h : AirAt m w g base lv l bm n C) (hown : w4.ownsRow base 34 14 lv2 l2.length (rowM l2)) (k : Fx [] lv lv w w4) (hb : lv2.ownBlock = lv.ownBlock) :
    (w4.cell? ⟨g, 0, none⟩ = some lv ∧ w4.frozen? ⟨g, 0, none⟩ = false) ∧ AirAt m (w4.setCell ⟨g, 0, none⟩ lv2) g base lv2 l2 bm n C ∧ Kpt m g bm lv lv2 w (w4.setCell ⟨g, 0, none⟩ lv2) := by
  have hne : lv.ownBlock ≠ some g := fun e => by have := (h.own.lt g e).1; have := h.h1; omega
  have hgg : w4.heap[g]? = some (.cells #[lv, .map (some bm)] 59 (0, 0)) := (k.blk g h.lt (by simp) hne).trans h.hg
  obtain ⟨D, d1, d2⟩ := AirAt.cuts_fx h.mp k (by simp) h.bm_row
  refine ⟨⟨heap_cell hgg rfl, heap_frozen hgg 0⟩, ⟨heap_set (o := 0) hgg, ownsRow_setCell_below hown (a := ⟨g, 0, none⟩) h.h1 _, ⟨D, d1.setCell (a := ⟨g, 0, none⟩) (Ne.symm h.h3) _, d2⟩, h.h1, h.h2, h.h3, h.h4, h.h5, by have := h.h6; have := k.size; simp; omega⟩, ?_⟩
  refine ⟨(k.below (by simp) (fun b hb => by have := (h.own.lt b hb).1; have := h.h1; have := h.h4; omega) h.below).setCell (p := ⟨g, 0, none⟩) h.h4 _, fun b hb h1 h2 h3 => (Below.heap_setCell w4 ⟨g, 0, none⟩ _ b h1).trans (k.blk b hb (by simp) h3), fun b _ h3 => by rw [hb]; exact h3⟩
theorem AirAt.shape2 {m : Nat} {w : World} {g base : Nat} {lv : Value} {l : List RM} {bm n : Nat} {C : Int → Int → Bool} (h : AirAt m w g base lv l bm n C) : (lv = .slice none 0 0 ∧ l = []) ∨ ∃ q cap, lv = .slice (some ⟨q, 0, none⟩) l.length cap := by
  rcases h.ra.shape2 with ⟨h1, h2⟩ | h
  · exact .inl ⟨h1, List.eq_nil_of_length_eq_zero h2⟩
  · exact .inr h
def ClearP (lv0 : Value) (m g base : Nat) (l : List RM) (bm n : Nat) (C : Int → Int → Bool) (k : Int) (w : World) (e : Ending) (w' : World) : Prop :=
  ∃ lv, e = .returned (.int .i64 k) ∧ AirAt m w' g base lv l bm n C ∧ Kpt m g bm lv0 lv w w'
end Ar

set_option maxRecDepth 100000 in
set_option maxHeartbeats 8000000 in
theorem air_clear {m : Nat} {w : World} {g base : Nat} {lv : Value} {l : List RM} {bm n : Nat} {C : Int → Int → Bool} (h : AirAt m w g base lv l bm n C) (a : Int) (hl : l.length ≤ 1024) :
    Calls Try.prog 17 #[.pointer (some ⟨g, 0, none⟩), .int .i64 a] w (ClearP lv m g base (l.filter (kp a)) bm n C ((l.length : Int) - ((l.filter (kp a)).length : Int)) w) := by
  have hal := (Below.refl w.heap.size w).alloc (Nat.le_refl _) (.cells #[.int .i64 a] 3)
  have hc : (w.alloc (.cells #[.int .i64 a] 3)).cell? ⟨w.heap.size, 0, none⟩ = some (.int .i64 a) := heap_cell (heap_alloc_new w (.cells #[.int .i64 a] 3)) rfl
  have h2 := h.bel hal
  have hmw := h.below
  have hq : ∀ q, lv.ownBlock = some q → w.heap.size ≠ q := fun q e => by have := (h.own.lt q e).2; omega
  have hlf := List.length_filter_le (kp a) l
  have hcase := h.shape2
  clear h
  replace hal := Lib.hid hal
  replace h2 := Lib.hid h2
  replace hc := Lib.hid hc
  replace hq := Lib.hid hq
  rcases hcase with ⟨rfl, rfl⟩ | ⟨q, cap, rfl⟩
  · clear hlf hl
    go_enter Try.func17, Try.ntmps17
    go_upto_region 1 with fail
    replace hal := hal.out
    replace h2 := h2.out
    generalize (w.alloc (.cells #[.int .i64 a] 3)) = W1 at hal h2 hc ⊢
    generalize w.heap.size = cb at hc hq ⊢
    have hlen := air_len h2
    rw [show ((([] : List RM).length : Nat) : Int) = 0 from rfl] at hlen
    have hB := Lib.hid (Kpt.pre (w0 := w) (⟨Below.refl _ _, fun _ _ _ _ _ => rfl, fun _ _ h => h⟩ : Kpt m g bm (.slice none 0 0) (.slice none 0 0) W1 W1) hal hmw)
    replace h2 := Lib.hid h2
    clear hal hc
    replace hlen := Lib.hid hlen
    go_wp2_with fail
    refine hlen.out.mono ?_
    rintro e w' ⟨rfl, rfl⟩
    go_wp2_with fail
    refine hlen.out.mono ?_
    rintro e w' ⟨rfl, rfl⟩
    go_wp2_with fail
    go_ret
    exact ⟨_, rfl, h2.out, hB.out⟩
  · have hlenz : (l.length : Int) ≤ 1024 := by omega
    by_cases hpos : 0 < l.length
    · have hpz : (0 : Int) < (l.length : Int) := by omega
      go_enter Try.func17, Try.ntmps17
      go_upto_region 1 with fail
      replace hal := hal.out
      replace h2 := h2.out
      replace hc := hc.out
      generalize (w.alloc (.cells #[.int .i64 a] 3)) = W1 at hal h2 hc ⊢
      have hq := hq.out q rfl
      generalize hcb : w.heap.size = cb at hc hq ⊢
      replace hcb := Lib.hid hcb
      have hlen := Lib.hid (air_len h2)
      have hdel := Lib.hid (del_c h2.own a hc hq hl)
      have c0 := h2.c0
      have hB := Lib.hid hal
      replace h2 := Lib.hid h2
      obtain ⟨N, hN⟩ : ∃ N, l.length = N := ⟨_, rfl⟩
      rw [hN] at hlen hdel hpz hlenz hlf c0 ⊢
      obtain ⟨M, hM⟩ : ∃ M, (l.filter (kp a)).length = M := ⟨_, rfl⟩
      rw [hM] at hlf ⊢
      have hMz : (M : Int) ≤ (N : Int) := by omega
      replace hN := Lib.hid hN
      replace hM := Lib.hid hM
      clear hal hc hpos hl hlf
      go_wp2_with fail
      refine hlen.out.mono ?_
      rintro e w' ⟨rfl, rfl⟩
      clear hlen
      go_wp2_with fail
      refine hdel.out.mono ?_
      rintro e w3 ⟨n', rfl, hn', hown, hfx⟩
      rw [hM.out] at hn'
      subst hn'
      obtain ⟨⟨z0, z1⟩, r1, r2⟩ := h2.out.re (l2 := l.filter (kp a)) (lv2 := .slice (some ⟨q, 0, none⟩) n' cap) (by rw [hM.out]; exact hown) (by rw [hN.out]; exact hfx) rfl
      rw [hN.out] at z0
      have hlen := Lib.hid (air_len r1)
      rw [hM.out] at hlen
      have r3 := r2.pre hB.out hmw
      clear hdel r2 c0 hown hfx
      replace r1 := Lib.hid r1
      replace r3 := Lib.hid r3
      go_wp2_with fail
      refine hlen.out.mono ?_
      rintro e w' ⟨rfl, rfl⟩
      go_wp2_with fail
      go_ret
      exact ⟨_, by rw [hN.out, hM.out]; rfl, r1.out, r3.out⟩
    · have hl0 : l = [] := List.eq_nil_of_length_eq_zero (by omega)
      subst hl0
      clear hpos hlf hl hlenz
      go_enter Try.func17, Try.ntmps17
      go_upto_region 1 with fail
      replace hal := hal.out
      replace h2 := h2.out
      generalize (w.alloc (.cells #[.int .i64 a] 3)) = W1 at hal h2 hc ⊢
      generalize w.heap.size = cb at hc hq ⊢
      have hlen := air_len h2
      rw [show ((([] : List RM).length : Nat) : Int) = 0 from rfl] at hlen
      have hB := Lib.hid (Kpt.pre (w0 := w) (⟨Below.refl _ _, fun _ _ _ _ _ => rfl, fun _ _ h => h⟩ : Kpt m g bm (.slice (some ⟨q, 0, none⟩) ([] : List RM).length cap) (.slice (some ⟨q, 0, none⟩) ([] : List RM).length cap) W1 W1) hal hmw)
      replace h2 := Lib.hid h2
      clear hal hc
      replace hlen := Lib.hid hlen
      go_wp2_with fail
      refine hlen.out.mono ?_
      rintro e w' ⟨rfl, rfl⟩
      go_wp2_with fail
      refine hlen.out.mono ?_
      rintro e w' ⟨rfl, rfl⟩
      go_wp2_with fail
      go_ret
      exact ⟨_, rfl, h2.out, hB.out⟩

end Go.Proofs.Ytnokojobiaddmaa
