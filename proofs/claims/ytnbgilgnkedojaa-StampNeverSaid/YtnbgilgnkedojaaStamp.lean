/- The contracts of package stamp and of its reference weirref20. -/
import Derived.Test.YtnbgilgnkedojaaClockRef
import Derived.StillTailTactics
import Derived.IntWalk
import Derived.Deep.RegionLaw
namespace Go.Proofs.Ytnbgilgnkedojaa
open Go.ChangeShapes Go.WideShapes Go.ChangeAt Go.RowKit
set_option linter.unusedVariables false
set_option linter.unusedSimpArgs false
attribute [local go_sem] max_fold min_fold
open Ck

namespace Sp
/-- A stamper that lies at block b (the reference's lies alike). -/
structure At (w : World) (b : Nat) (r bg l : Int) : Prop where
  c0 : w.cell? ⟨b, 0, none⟩ = some (.int .i64 r)
  c1 : w.cell? ⟨b, 1, none⟩ = some (.int .i64 bg)
  c2 : w.cell? ⟨b, 2, none⟩ = some (.int .i64 l)
  f2 : w.frozen? ⟨b, 2, none⟩ = false
theorem At.lt {w : World} {b : Nat} {r bg l : Int} (h : At w b r bg l) : b < w.heap.size := cell_lt h.c0
theorem At.only {w w' : World} {b b' : Nat} {r bg l : Int} (h : At w b r bg l) (k : Only b' w w') (hne : b ≠ b') : At w' b r bg l :=
  ⟨k.cell h.c0 hne, k.cell h.c1 hne, k.cell h.c2 hne, (k.frozen h.lt hne).trans h.f2⟩
theorem At.below {w w' : World} {b : Nat} {r bg l : Int} (h : At w b r bg l) (k : Below w.heap.size w w') : At w' b r bg l :=
  ⟨(k.cell h.lt).trans h.c0, (k.cell h.lt).trans h.c1, (k.cell h.lt).trans h.c2, (k.frozen h.lt).trans h.f2⟩
theorem sure_lo (m r : Int) : 0 ≤ sure m r := Int.ediv_nonneg (by omega) (by omega)
theorem sure_hi (m r : Int) : sure m r ≤ 1125899906842624 := by
  have h := Int.ediv_le_self (a := min (max m 0) 1125899906842624) (1000 + min (max r 0) 200) (by omega)
  unfold sure; omega
end Sp

theorem snew_ok (r n : Int) (w : World) (h0 : 0 ≤ r) (h1 : r ≤ 200) (n0 : 0 ≤ n) (n1 : n ≤ 1125899906842624) :
    Calls Try.prog 37 #[.int .i64 r, .int .i64 n] w fun e w' => e = .returned (.tuple #[.pointer (some ⟨w.heap.size, 0, none⟩), .int .i64 0]) ∧ Sp.At w' w.heap.size r n 0 ∧ Below w.heap.size w w' := by
  go_enter Try.func37, Try.ntmps37
  go_wp2
  go_ret2
  exact ⟨rfl, ⟨by go_simp, by go_simp, by go_simp, by go_simp⟩, (Below.refl _ _).alloc (Nat.le_refl _) _⟩

theorem snew_no (r n : Int) (w : World) (h : ¬ (0 ≤ r ∧ r ≤ 200 ∧ 0 ≤ n ∧ n ≤ 1125899906842624)) :
    Calls Try.prog 37 #[.int .i64 r, .int .i64 n] w fun e w' => e = .returned (.tuple #[.pointer none, .int .i64 2]) ∧ w = w' := by
  have HH := Lib.hid h
  clear h
  go_enter Try.func37, Try.ntmps37
  go_wp2
  all_goals first
    | (go_ret2; exact ⟨rfl, rfl⟩)
    | exact (HH.out ⟨by omega, by omega, by omega, by omega⟩).elim

theorem rsnew_ok (r n : Int) (w : World) (h0 : 0 ≤ r) (h1 : r ≤ 200) (n0 : 0 ≤ n) (n1 : n ≤ 1125899906842624) :
    Calls Try.prog 38 #[.int .i64 r, .int .i64 n] w fun e w' => e = .returned (.tuple #[.pointer (some ⟨w.heap.size, 0, none⟩), .int .i64 0]) ∧ Sp.At w' w.heap.size r n 0 ∧ Below w.heap.size w w' := by
  go_enter Try.func38, Try.ntmps38
  go_wp2
  go_ret2
  exact ⟨rfl, ⟨by go_simp, by go_simp, by go_simp, by go_simp⟩, (Below.refl _ _).alloc (Nat.le_refl _) _⟩

theorem rsnew_no (r n : Int) (w : World) (h : ¬ (0 ≤ r ∧ r ≤ 200 ∧ 0 ≤ n ∧ n ≤ 1125899906842624)) :
    Calls Try.prog 38 #[.int .i64 r, .int .i64 n] w fun e w' => e = .returned (.tuple #[.pointer none, .int .i64 2]) ∧ w = w' := by
  have HH := Lib.hid h
  clear h
  go_enter Try.func38, Try.ntmps38
  go_wp2
  all_goals first
    | (go_ret2; exact ⟨rfl, rfl⟩)
    | exact (HH.out ⟨by omega, by omega, by omega, by omega⟩).elim

theorem keep_c (b : Nat) (r bg l x : Int) (w : World) (h : Sp.At w b r bg l) :
    Calls Try.prog 84 #[.pointer (some ⟨b, 0, none⟩), .int .i64 x] w fun e w' => e = .returned (.int .i64 (max l x)) ∧ Sp.At w' b r bg (max l x) ∧ Only b w w' := by
  obtain ⟨c0, c1, c2, f2⟩ := h
  have z2 := World.cell?_setCell_same w ⟨b, 2, none⟩ (.int .i64 (max l x)) c2
  go_enter Try.func84, Try.ntmps84
  go_wp2
  go_ret
  refine ⟨rfl, ⟨?_, ?_, z2, ?_⟩, (Only.refl b w).setCell 2 _⟩
  · exact (World.cell?_setCell_other w ⟨b, 2, none⟩ ⟨b, 0, none⟩ _ (by simp)).trans c0
  · exact (World.cell?_setCell_other w ⟨b, 2, none⟩ ⟨b, 1, none⟩ _ (by simp)).trans c1
  · exact (World.frozen?_setCell w ⟨b, 2, none⟩ ⟨b, 2, none⟩ _).trans f2

theorem at_ok (b : Nat) (r bg l now : Int) (w : World) (h : Sp.At w b r bg l) (hb0 : 0 ≤ bg) (h0 : bg ≤ now) (h1 : now ≤ 1125899906842624) :
    Calls Try.prog 39 #[.pointer (some ⟨b, 0, none⟩), .int .i64 now] w fun e w' => e = .returned (.tuple #[.int .i64 (max l (sure (now - bg) r)), .int .i64 0]) ∧ Sp.At w' b r bg (max l (sure (now - bg) r)) ∧ Only b w w' := by
  have hA := Lib.hid (h.below ((Below.refl _ w).drew))
  have hlt := h.lt
  have hwr : IntKind.i64.wrap (now - bg) = now - bg := IntWalk.i64_in _ (by omega)
  obtain ⟨c0, c1, c2, f2⟩ := h
  go_enter Try.func39, Try.ntmps39
  go_wp2
  go_region_held3 (fun w' => w'.cell? ⟨b, 0, none⟩ = some (.int .i64 r) ∧ w'.cell? ⟨b, 1, none⟩ = some (.int .i64 bg)) (go_keep)
    (first
      | (go_at_call 45; refine (surely_c _ _ _).mono ?_; rintro e w1 ⟨rfl, hb1⟩; have hA1 := hA.out.below hb1; have y0 := hA1.c0; have y1 := hA1.c1)
      | (go_at_call 84; refine (keep_c b r bg l _ _ hA1).mono ?_; rintro e w2 ⟨rfl, hA2, ho⟩; have z0 := hA2.c0; have z1 := hA2.c1))
  go_wp2
  go_ret2
  exact ⟨rfl, hA2, ((Only.refl b w).drew.trans (Only.of_below hb1)).trans ho⟩

theorem at_no (b : Nat) (r bg l now : Int) (w : World) (h : Sp.At w b r bg l) (hn : now < bg ∨ 1125899906842624 < now) :
    Calls Try.prog 39 #[.pointer (some ⟨b, 0, none⟩), .int .i64 now] w fun e w' => e = .returned (.tuple #[.int .i64 0, .int .i64 2]) ∧ w = w' := by
  obtain ⟨c0, c1, c2, f2⟩ := h
  have HH := Lib.hid hn
  clear hn
  by_cases h0 : now < bg
  · go_enter Try.func39, Try.ntmps39
    go_wp2
    go_ret2
    exact ⟨rfl, rfl⟩
  · have h1 : 1125899906842624 < now := by have := HH.out; omega
    go_enter Try.func39, Try.ntmps39
    go_wp2
    go_ret2
    exact ⟨rfl, rfl⟩

theorem at_nil (now : Int) (w : World) :
    Calls Try.prog 39 #[.pointer none, .int .i64 now] w fun e w' => e = .returned (.tuple #[.int .i64 0, .int .i64 1]) ∧ w = w' := by
  go_enter Try.func39, Try.ntmps39
  go_wp2
  go_ret2
  exact ⟨rfl, rfl⟩

theorem last_c (b : Nat) (r bg l : Int) (w : World) (h : Sp.At w b r bg l) :
    Calls Try.prog 41 #[.pointer (some ⟨b, 0, none⟩)] w fun e w' => e = .returned (.int .i64 l) ∧ w = w' := by
  obtain ⟨c0, c1, c2, f2⟩ := h
  go_enter Try.func41, Try.ntmps41
  go_wp2
  go_ret
  exact ⟨rfl, rfl⟩

theorem last_nil (w : World) :
    Calls Try.prog 41 #[.pointer none] w fun e w' => e = .returned (.int .i64 0) ∧ w = w' := by
  go_enter Try.func41, Try.ntmps41
  go_wp2
  go_ret
  exact ⟨rfl, rfl⟩

theorem rat_no (b : Nat) (r bg l now : Int) (w : World) (h : Sp.At w b r bg l) (hn : now < bg ∨ 1125899906842624 < now) :
    Calls Try.prog 40 #[.pointer (some ⟨b, 0, none⟩), .int .i64 now] w fun e w' => e = .returned (.tuple #[.int .i64 0, .int .i64 2]) ∧ w = w' := by
  obtain ⟨c0, c1, c2, f2⟩ := h
  have HH := Lib.hid hn
  clear hn
  by_cases h0 : now < bg
  · go_enter Try.func40, Try.ntmps40
    go_wp2
    go_ret2
    exact ⟨rfl, rfl⟩
  · have h1 : 1125899906842624 < now := by have := HH.out; omega
    go_enter Try.func40, Try.ntmps40
    go_wp2
    go_ret2
    exact ⟨rfl, rfl⟩

set_option maxRecDepth 100000 in
theorem rat_ok (b : Nat) (r bg l now : Int) (w : World) (h : Sp.At w b r bg l) (hb0 : 0 ≤ bg) (h0 : bg ≤ now) (h1 : now ≤ 1125899906842624) :
    Calls Try.prog 40 #[.pointer (some ⟨b, 0, none⟩), .int .i64 now] w fun e w' => e = .returned (.tuple #[.int .i64 (max l (sure (now - bg) r)), .int .i64 0]) ∧ Sp.At w' b r bg (max l (sure (now - bg) r)) ∧ Only b w w' := by
  obtain ⟨c0, c1, c2, f2⟩ := h
  go_enter Try.func40, Try.ntmps40
  have z2 := World.cell?_setCell_same w ⟨b, 2, none⟩ (.int .i64 (max l (sure (now - bg) r))) c2
  have z0 := (World.cell?_setCell_other w ⟨b, 2, none⟩ ⟨b, 0, none⟩ (.int .i64 (max l (sure (now - bg) r))) (by simp)).trans c0
  have z1 := (World.cell?_setCell_other w ⟨b, 2, none⟩ ⟨b, 1, none⟩ (.int .i64 (max l (sure (now - bg) r))) (by simp)).trans c1
  have zf := (World.frozen?_setCell w ⟨b, 2, none⟩ ⟨b, 2, none⟩ (.int .i64 (max l (sure (now - bg) r)))).trans f2
  have hfin := Lib.hid (And.intro (Sp.At.mk z0 z1 z2 zf) ((Only.refl b w).setCell 2 (.int .i64 (max l (sure (now - bg) r)))))
  clear z0 z1 zf
  go_wp2
  have hwr : IntKind.i64.wrap (now - bg) = now - bg := IntWalk.i64_in _ (by omega)
  go_region_law ((go_simp; go_at_call 46; refine (rsurely_c _ _ _).mono ?_; rintro e w' ⟨rfl, rfl⟩))
  all_goals
    go_wp2
    go_ret2
    exact ⟨rfl, ⟨hfin.out.1.c0, hfin.out.1.c1, hfin.out.1.c2, hfin.out.1.f2⟩, hfin.out.2.drew⟩

theorem wakes20_c (w : World) : Calls Try.prog 36 #[] w fun e w' => e = .returned (.bool true) ∧ Below w.heap.size w w' := by
  have e1 : max 0 (sure (6099 - 5000) 100) = 0 := by decide
  have e2 : max 0 (sure (6100 - 5000) 100) = 1 := by decide
  have e3 : max 1 (sure (7200 - 5000) 100) = 2 := by decide
  have e4 : max 2 (sure (7000 - 5000) 100) = 2 := by decide
  replace e1 := Lib.hid e1
  replace e2 := Lib.hid e2
  replace e3 := Lib.hid e3
  replace e4 := Lib.hid e4
  go_enter Try.func36, Try.ntmps36
  go_wp2_with fail
  refine (snew_ok 100 5000 _ (by omega) (by omega) (by omega) (by omega)).mono ?_
  rintro e w1 ⟨rfl, hA1, hb1⟩
  go_wp2_with fail
  refine (at_ok w.heap.size 100 5000 0 6099 _ hA1 (by omega) (by omega) (by omega)).mono ?_
  rw [e1.out]
  rintro e w2 ⟨rfl, hA2, ho2⟩
  go_wp2_with fail
  refine (at_ok w.heap.size 100 5000 0 6100 _ hA2 (by omega) (by omega) (by omega)).mono ?_
  rw [e2.out]
  rintro e w3 ⟨rfl, hA3, ho3⟩
  go_wp2_with fail
  refine (at_ok w.heap.size 100 5000 1 7200 _ hA3 (by omega) (by omega) (by omega)).mono ?_
  rw [e3.out]
  rintro e w4 ⟨rfl, hA4, ho4⟩
  go_wp2_with fail
  refine (at_ok w.heap.size 100 5000 2 7000 _ hA4 (by omega) (by omega) (by omega)).mono ?_
  rw [e4.out]
  rintro e w5 ⟨rfl, hA5, ho5⟩
  go_wp2_with fail
  refine (at_no w.heap.size 100 5000 2 4999 _ hA5 (.inl (by omega))).mono ?_
  rintro e w6 ⟨rfl, rfl⟩
  go_wp2_with (go_at_call 41; refine (last_c _ _ _ _ _ hA5).mono ?_; rintro e w' ⟨rfl, rfl⟩)
  go_ret
  exact ⟨rfl, hb1.trans ((((ho2.trans ho3).trans ho4).trans ho5).below (Nat.le_refl _) hb1.size)⟩
end Go.Proofs.Ytnbgilgnkedojaa
