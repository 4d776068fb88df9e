/- What layer 30 says of a rate of one byte a tick. -/
import Derived.Test.YtjdkpoggcpckcaaJ6
namespace Go.Proofs.Ytjdkpoggcpckcaa
open Go.ChangeShapes Go.WideShapes Go.ChangeAt Go.RowKit
set_option linter.unusedVariables false
set_option linter.unusedSimpArgs false
open BigFrame Bs Jd

namespace Jd
def XL (sz : Int) (i j : Nat) : Int := ([[5, 0, 1, 0, 100, 0], [7, 0, 1, 0, sz, 0]].getD i []).getD j 0
def YL (i j : Nat) : Int := ([[0, 1, 1000, 100]].getD i []).getD j 0
instance (Z : Nat → Nat → Int) (n : Nat) (Y : Nat → Nat → Int) (M : Nat) (tn h : Int) (i k : Nat) : Decidable (viol Z n Y M tn h i k) := by unfold viol; infer_instance
instance (X : Nat → Nat → Int) (N : Nat) (Y : Nat → Nat → Int) (M : Nat) (h tn : Int) (i k : Nat) : Decidable (viols X N Y M h tn i k) := by unfold viols; infer_instance
theorem v4 : viols (XL 4) 2 YL 1 0 1 0 1 := by decide +kernel
theorem v4n : ¬ viols (XL 4) 2 YL 1 0 1 0 0 := by decide +kernel
theorem v3 (m : Int) (i k : Nat) : ¬ viols (XL 3) 2 YL 1 0 m i k := fun h => by
  by_cases e : m = 1
  · subst e
    have h1 : i < 2 := h.1
    have h2 : k < 2 := h.2.1
    have hi : i = 0 ∨ i = 1 := by omega
    have hk : k = 0 ∨ k = 1 := by omega
    rcases hi with rfl | rfl <;> rcases hk with rfl | rfl <;> exact absurd h (by decide +kernel)
  · have h0 : ownN (XL 3) m 2 = 0 := by
      unfold ownN
      rw [ownL_out (fun q => e (by rw [← q]; rfl)), ownL_out (fun q => e (by rw [← q]; rfl))]
      rfl
    have := h.1
    omega
theorem ok_of (sz : Int) (h : 1 ≤ sz) (h2 : sz ≤ 1500) : checkOk 2 (XL sz) 1 YL := by
  refine ⟨fun i hi => ?_, fun i hi => ?_⟩
  · have : i = 0 ∨ i = 1 := by omega
    rcases this with rfl | rfl
    · exact ⟨by show (0 : Int) ≤ 5; omega, by show (5 : Int) ≤ 1099511627776; omega, sentB_iff.2 ⟨by show (0 : Int) < 5; omega, by show (1 : Int) ≤ 1 ∧ (1 : Int) ≤ 16; omega, by show (1 : Int) ≤ 100 ∧ (100 : Int) ≤ 1500; omega⟩⟩
    · exact ⟨by show (5 : Int) ≤ 7; omega, by show (7 : Int) ≤ 1099511627776; omega, sentB_iff.2 ⟨by show (0 : Int) < 7; omega, by show (1 : Int) ≤ 1 ∧ (1 : Int) ≤ 16; omega, h, h2⟩⟩
  · obtain rfl : i = 0 := by omega
    exact ⟨by decide +kernel, by decide +kernel, forceB_iff.2 (by decide +kernel)⟩
theorem a4 {s t tn : Int} {ok : Bool} (h : KeptA (XL 4) 2 YL 1 0 s t tn ok) : s = 4 ∧ t = 7 ∧ tn = 1 ∧ ok = false := by
  rcases h with ⟨_, _, _, _, h⟩ | ⟨h1, h2, h3, i, k, h4, h5, h6, h7, h8, h9⟩
  · exact absurd v4 (h 1 0 1 (by omega) (by omega))
  · have e1 : tn = 1 := by
      refine Classical.byContradiction fun q => ?_
      exact h7 1 0 1 (by omega) (by omega) v4
    subst e1
    have e2 : i = 0 := by
      refine Classical.byContradiction fun q => ?_
      exact h8 0 1 (by omega) v4
    subst e2
    have e3 : k = 1 := by
      have k1 : ¬ 1 < k := fun q => h9 1 q v4
      have k2 : k ≠ 0 := fun q => by subst q; exact v4n h4
      omega
    subst e3
    exact ⟨h5, h6, rfl, h1⟩
theorem a3 {s t tn : Int} {ok : Bool} (h : KeptA (XL 3) 2 YL 1 0 s t tn ok) : s = 0 ∧ t = 0 ∧ tn = 0 ∧ ok = true := by
  rcases h with ⟨h1, h2, h3, h4, _⟩ | ⟨h1, h2, h3, i, k, h4, _⟩
  · exact ⟨h2, h3, h4, h1⟩
  · exact absurd h4 (v3 _ _ _)
theorem rowsL {w : World} {b : Nat} {sz : Int} (h : Blk w b [.int .i64 5, .int .i64 0, .int .i64 1, .int .i64 0, .int .i64 100, .int .i64 0, .int .i64 7, .int .i64 0, .int .i64 1, .int .i64 0, .int .i64 sz, .int .i64 0]) : IntRows w (some ⟨b, 0, none⟩) b 0 2 6 (XL sz) := by
  refine ⟨fun _ => rfl, fun _ => h.l, fun i j hi hj => ?_⟩
  have hi2 : i = 0 ∨ i = 1 := by omega
  have hj2 : j = 0 ∨ j = 1 ∨ j = 2 ∨ j = 3 ∨ j = 4 ∨ j = 5 := by omega
  rcases hi2 with rfl | rfl <;> rcases hj2 with rfl | rfl | rfl | rfl | rfl | rfl <;> exact h.c _ _ rfl
theorem rowsF {w : World} {b : Nat} (h : Blk w b [.int .i64 0, .int .i64 1, .int .i64 1000, .int .i64 100]) : IntRows w (some ⟨b, 0, none⟩) b 0 1 4 YL := by
  refine ⟨fun _ => rfl, fun _ => h.l, fun i j hi hj => ?_⟩
  obtain rfl : i = 0 := by omega
  have : j = 0 ∨ j = 1 ∨ j = 2 ∨ j = 3 := by omega
  rcases this with rfl | rfl | rfl | rfl <;> exact h.c _ _ rfl
theorem bYL : ∀ i, i < 1 → (0 ≤ YL i 2 ∧ YL i 2 ≤ 1000000) ∧ 0 ≤ YL i 3 ∧ YL i 3 ≤ 1000000 := fun i hi => by
  obtain rfl : i = 0 := by omega
  decide +kernel
end Jd

set_option maxRecDepth 100000 in
set_option maxHeartbeats 4000000 in
theorem wakes30_c (w : World) : Calls Try.prog 4 #[] w fun e w' => e = .returned (.bool true) ∧ Below w.heap.size w w' := by
  have hsz : (w.alloc (.cells #[.int .i64 0, .int .i64 1, .int .i64 1000, .int .i64 100] 36)).heap.size = w.heap.size + 1 := by simp
  have hb0 : Below w.heap.size w (w.alloc (.cells #[.int .i64 0, .int .i64 1, .int .i64 1000, .int .i64 100] 36)) := (Below.refl _ _).alloc (Nat.le_refl _) _
  have bf := blk_new w [.int .i64 0, .int .i64 1, .int .i64 1000, .int .i64 100] 36
  have hb1 : Below (w.heap.size + 1) (w.alloc (.cells #[.int .i64 0, .int .i64 1, .int .i64 1000, .int .i64 100] 36)) ((w.alloc (.cells #[.int .i64 0, .int .i64 1, .int .i64 1000, .int .i64 100] 36)).alloc (.cells #[.int .i64 5, .int .i64 0, .int .i64 1, .int .i64 0, .int .i64 100, .int .i64 0, .int .i64 7, .int .i64 0, .int .i64 1, .int .i64 0, .int .i64 4, .int .i64 0] 34)) := (Below.refl _ _).alloc (by simp) _
  have bl := blk_new (w.alloc (.cells #[.int .i64 0, .int .i64 1, .int .i64 1000, .int .i64 100] 36)) [.int .i64 5, .int .i64 0, .int .i64 1, .int .i64 0, .int .i64 100, .int .i64 0, .int .i64 7, .int .i64 0, .int .i64 1, .int .i64 0, .int .i64 4, .int .i64 0] 34
  rw [hsz] at bl
  replace bf := bf.below hb1 (by omega)
  replace hb0 := hb0.trans (hb1.mono (by omega))
  clear hb1
  replace hsz := Lib.hid hsz
  go_enter Try.func4, Try.ntmps4
  go_upto_region 3 with fail
  obtain ⟨lb, hlb⟩ : ∃ lb, w.heap.size + 1 = lb := ⟨_, rfl⟩
  obtain ⟨fb, hfb⟩ : ∃ fb, w.heap.size = fb := ⟨_, rfl⟩
  have hne : fb ≠ lb := by omega
  have hlw : w.heap.size ≤ lb := by omega
  rw [hlb] at bl ⊢
  rw [hfb] at bf ⊢
  replace hlb := Lib.hid hlb
  replace hfb := Lib.hid hfb
  rw [hfb.out] at hb0
  replace bf : Blk ((w.alloc (.cells #[.int .i64 0, .int .i64 1, .int .i64 1000, .int .i64 100] 36)).alloc (.cells #[.int .i64 5, .int .i64 0, .int .i64 1, .int .i64 0, .int .i64 100, .int .i64 0, .int .i64 7, .int .i64 0, .int .i64 1, .int .i64 0, .int .i64 4, .int .i64 0] 34)) fb _ := bf
  replace bl : Blk ((w.alloc (.cells #[.int .i64 0, .int .i64 1, .int .i64 1000, .int .i64 100] 36)).alloc (.cells #[.int .i64 5, .int .i64 0, .int .i64 1, .int .i64 0, .int .i64 100, .int .i64 0, .int .i64 7, .int .i64 0, .int .i64 1, .int .i64 0, .int .i64 4, .int .i64 0] 34)) lb _ := bl
  generalize ((w.alloc (.cells #[.int .i64 0, .int .i64 1, .int .i64 1000, .int .i64 100] 36)).alloc (.cells #[.int .i64 5, .int .i64 0, .int .i64 1, .int .i64 0, .int .i64 100, .int .i64 0, .int .i64 7, .int .i64 0, .int .i64 1, .int .i64 0, .int .i64 4, .int .i64 0] 34)) = W at bf bl hb0 ⊢
  have hk := jkept_yes 0 _ _ _ _ 2 2 _ _ 1 1 (XL 4) YL _ (rowsL bl) (rowsF bf) (by omega) (by omega) (ok_of 4 (by omega) (by omega))
  replace bl := Lib.hid bl
  replace bf := Lib.hid bf
  go_wp2_with fail
  refine hk.mono ?_
  rintro e u ⟨s, t, tn, ok, rfl, hA, hB⟩
  obtain ⟨rfl, rfl, rfl, rfl⟩ := a4 hA
  clear hk hA
  have b2 := bl.out.bel hB
  have f2 := bf.out.bel hB
  have x10 := b2.c 10 _ rfl
  have q10 := b2.f 10
  have b3 : Blk (u.setCell ⟨lb, 10, none⟩ (.int .i64 3)) lb [.int .i64 5, .int .i64 0, .int .i64 1, .int .i64 0, .int .i64 100, .int .i64 0, .int .i64 7, .int .i64 0, .int .i64 1, .int .i64 0, .int .i64 3, .int .i64 0] := b2.set (i := 10) (by simp) _
  have f3 := f2.other (q := lb) (o := 10) hne (.int .i64 3)
  have hBu := bNext hb0 hB (by rw [← hfb.out]; have := bf.out.l; have := hb0.size; omega)
  have hB3 : Below fb w (u.setCell ⟨lb, 10, none⟩ (.int .i64 3)) := hBu.setCell (by rw [← hfb.out]; exact hlw) _
  have hk := jkept_yes 0 _ _ _ _ 2 2 _ _ 1 1 (XL 3) YL _ (rowsL b3) (rowsF f3) (by omega) (by omega) (ok_of 3 (by omega) (by omega))
  clear bl bf b2 f2 hB hb0 hBu
  replace b3 := Lib.hid b3
  replace f3 := Lib.hid f3
  go_wp2_with fail
  refine hk.mono ?_
  rintro e u2 ⟨s, t, tn, ok, rfl, hA, hB⟩
  obtain ⟨rfl, rfl, rfl, rfl⟩ := a3 hA
  clear hk hA x10 q10
  have b4 := b3.out.bel hB
  have f4 := f3.out.bel hB
  have hB4 := bNext hB3 hB (by rw [← hfb.out]; have := hB3.size; omega)
  clear b3 f3 hB3 hB
  have ho := jout_c _ _ _ 2 2 (XL 3) 1 4 5 _ (rowsL b4) (by omega) (fun i hi => by have := (ok_of 3 (by omega) (by omega)).1 i hi; have := sentB_iff.1 this.2.2; omega)
  rw [show outI (XL 3) 1 4 5 2 = 100 by decide +kernel] at ho
  replace f4 := Lib.hid f4
  clear b4
  go_wp2_with fail
  refine ho.mono ?_
  rintro e u3 ⟨rfl, hB5⟩
  have f5 := f4.out.bel hB5
  have hB6 := bNext hB4 hB5 (by rw [← hfb.out]; have := hB4.size; omega)
  have hbo := jbound_c _ _ _ 1 1 YL 1 4 7 0 _ (rowsF f5) (by omega) bYL
  rw [show boundI YL 1 1 4 7 0 = 103000 by decide +kernel] at hbo
  clear ho f4 f5 hB5 hB4
  go_wp2_with fail
  refine hbo.mono ?_
  rintro e u4 ⟨rfl, hB7⟩
  clear hbo
  go_wp2_with fail
  go_ret
  exact ⟨rfl, by rw [hfb.out]; exact bNext hB6 hB7 (by rw [← hfb.out]; have := hB6.size; omega)⟩
end Go.Proofs.Ytjdkpoggcpckcaa
