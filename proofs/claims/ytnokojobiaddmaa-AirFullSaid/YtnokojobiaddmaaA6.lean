/- The air: Send of a full one, Look. -/
import Derived.Test.YtnokojobiaddmaaA5
namespace Go.Proofs.Ytnokojobiaddmaa
open Go.ChangeShapes Go.WideShapes Go.ChangeAt Go.RowKit Go.Maps
set_option linter.unusedVariables false
set_option linter.unusedSimpArgs false
open BigFrame Bs Ar

namespace Ar
theorem blk_put {u : World} {b : Nat} {a0 a1 a2 a3 a4 a5 a6 a7 a8 a9 a10 a11 a12 a13 : Value} (h : Blk u b [a0, a1, a2, a3, a4, a5, a6, a7, a8, a9, a10, a11, a12, a13]) (v0 v1 v2 v3 v4 v5 v6 v7 v8 v9 v10 v11 v12 v13 : Value) :
    Blk ((((((((((((((u.setCell ⟨b, 0, none⟩ (v0)).setCell ⟨b, 1, none⟩ (v1)).setCell ⟨b, 2, none⟩ (v2)).setCell ⟨b, 3, none⟩ (v3)).setCell ⟨b, 4, none⟩ (v4)).setCell ⟨b, 5, none⟩ (v5)).setCell ⟨b, 6, none⟩ (v6)).setCell ⟨b, 7, none⟩ (v7)).setCell ⟨b, 8, none⟩ (v8)).setCell ⟨b, 9, none⟩ (v9)).setCell ⟨b, 10, none⟩ (v10)).setCell ⟨b, 11, none⟩ (v11)).setCell ⟨b, 12, none⟩ (v12)).setCell ⟨b, 13, none⟩ (v13)) b [v0, v1, v2, v3, v4, v5, v6, v7, v8, v9, v10, v11, v12, v13] :=
  (((((((((((((h.set (i := 0) (by simp) v0).set (i := 1) (by simp) v1).set (i := 2) (by simp) v2).set (i := 3) (by simp) v3).set (i := 4) (by simp) v4).set (i := 5) (by simp) v5).set (i := 6) (by simp) v6).set (i := 7) (by simp) v7).set (i := 8) (by simp) v8).set (i := 9) (by simp) v9).set (i := 10) (by simp) v10).set (i := 11) (by simp) v11).set (i := 12) (by simp) v12).set (i := 13) (by simp) v13
theorem below_put {m : Nat} {w u : World} {b : Nat} (h : Below m w u) (hm : m ≤ b) (v0 v1 v2 v3 v4 v5 v6 v7 v8 v9 v10 v11 v12 v13 : Value) : Below m w ((((((((((((((u.setCell ⟨b, 0, none⟩ (v0)).setCell ⟨b, 1, none⟩ (v1)).setCell ⟨b, 2, none⟩ (v2)).setCell ⟨b, 3, none⟩ (v3)).setCell ⟨b, 4, none⟩ (v4)).setCell ⟨b, 5, none⟩ (v5)).setCell ⟨b, 6, none⟩ (v6)).setCell ⟨b, 7, none⟩ (v7)).setCell ⟨b, 8, none⟩ (v8)).setCell ⟨b, 9, none⟩ (v9)).setCell ⟨b, 10, none⟩ (v10)).setCell ⟨b, 11, none⟩ (v11)).setCell ⟨b, 12, none⟩ (v12)).setCell ⟨b, 13, none⟩ (v13)) :=
  (((((((((((((h.setCell (p := ⟨b, 0, none⟩) hm v0).setCell (p := ⟨b, 1, none⟩) hm v1).setCell (p := ⟨b, 2, none⟩) hm v2).setCell (p := ⟨b, 3, none⟩) hm v3).setCell (p := ⟨b, 4, none⟩) hm v4).setCell (p := ⟨b, 5, none⟩) hm v5).setCell (p := ⟨b, 6, none⟩) hm v6).setCell (p := ⟨b, 7, none⟩) hm v7).setCell (p := ⟨b, 8, none⟩) hm v8).setCell (p := ⟨b, 9, none⟩) hm v9).setCell (p := ⟨b, 10, none⟩) hm v10).setCell (p := ⟨b, 11, none⟩) hm v11).setCell (p := ⟨b, 12, none⟩) hm v12).setCell (p := ⟨b, 13, none⟩) hm v13
end Ar

set_option maxRecDepth 100000 in
set_option maxHeartbeats 4000000 in
theorem air_send_full (x : FM) {m : Nat} {w : World} {g base : Nat} {lv : Value} {l : List FM} {bm n : Nat} {C : Int → Int → Bool} (h : AirAt m w g base lv l bm n C) (hf : 1 ≤ x.fr ∧ x.fr ≤ 255) (ht : 1 ≤ x.to ∧ x.to ≤ 255) (hn : l.length = 1024) :
    Calls Try.prog 9 #[.pointer (some ⟨g, 0, none⟩), .agg #[.int .i8 x.k, .int .i64 x.fr, .int .i64 x.to, .int .i64 x.te, .int .i64 x.ix, .int .i64 x.la, .int .i64 x.co, .bool x.ok, .slice none 0 0, .int .i64 x.si, .int .i64 x.st, .int .u8 x.su, .slice none 0 0, .slice none 0 0]] w fun e w' => e = .returned (.int .i64 100) ∧ Below w.heap.size w w' := by
  have hb0 : Below w.heap.size w (w.alloc (.cells #[.int .i8 x.k, .int .i64 x.fr, .int .i64 x.to, .int .i64 x.te, .int .i64 x.ix, .int .i64 x.la, .int .i64 x.co, .bool x.ok, .slice none 0 0, .int .i64 x.si, .int .i64 x.st, .int .u8 x.su, .slice none 0 0, .slice none 0 0] 34)) := (Below.refl _ _).alloc (Nat.le_refl _) _
  have bx : Blk (w.alloc (.cells #[.int .i8 x.k, .int .i64 x.fr, .int .i64 x.to, .int .i64 x.te, .int .i64 x.ix, .int .i64 x.la, .int .i64 x.co, .bool x.ok, .slice none 0 0, .int .i64 x.si, .int .i64 x.st, .int .u8 x.su, .slice none 0 0, .slice none 0 0] 34)) w.heap.size [.int .i8 x.k, .int .i64 x.fr, .int .i64 x.to, .int .i64 x.te, .int .i64 x.ix, .int .i64 x.la, .int .i64 x.co, .bool x.ok, .slice none 0 0, .int .i64 x.si, .int .i64 x.st, .int .u8 x.su, .slice none 0 0, .slice none 0 0] := blk_new w [.int .i8 x.k, .int .i64 x.fr, .int .i64 x.to, .int .i64 x.te, .int .i64 x.ix, .int .i64 x.la, .int .i64 x.co, .bool x.ok, .slice none 0 0, .int .i64 x.si, .int .i64 x.st, .int .u8 x.su, .slice none 0 0, .slice none 0 0] 34
  have h2 := h.bel hb0
  have af := fun W => address_yes x.fr W hf.1 hf.2
  have at' := fun W => address_yes x.to W ht.1 ht.2
  obtain ⟨q, cap, hq⟩ : ∃ q cap, lv = .slice (some ⟨q, 0, none⟩) 1024 cap := by
    obtain ⟨q, cap, hq, _⟩ := h2.own.form (by omega)
    exact ⟨q, cap, by rw [hq, hn]⟩
  have c0 := h2.c0
  subst hq
  clear h h2
  obtain ⟨f1, f2⟩ := hf
  obtain ⟨t1, t2⟩ := ht
  replace hn := Lib.hid hn
  go_enter Try.func9, Try.ntmps9
  go_upto_region 1 with fail
  replace bx : Blk (w.alloc (.cells #[.int .i8 x.k, .int .i64 x.fr, .int .i64 x.to, .int .i64 x.te, .int .i64 x.ix, .int .i64 x.la, .int .i64 x.co, .bool x.ok, .slice none 0 0, .int .i64 x.si, .int .i64 x.st, .int .u8 x.su, .slice none 0 0, .slice none 0 0] 34)) w.heap.size [.int .i8 x.k, .int .i64 x.fr, .int .i64 x.to, .int .i64 x.te, .int .i64 x.ix, .int .i64 x.la, .int .i64 x.co, .bool x.ok, .slice none 0 0, .int .i64 x.si, .int .i64 x.st, .int .u8 x.su, .slice none 0 0, .slice none 0 0] := bx
  have hfin := hb0
  generalize (w.alloc (.cells #[.int .i8 x.k, .int .i64 x.fr, .int .i64 x.to, .int .i64 x.te, .int .i64 x.ix, .int .i64 x.la, .int .i64 x.co, .bool x.ok, .slice none 0 0, .int .i64 x.si, .int .i64 x.st, .int .u8 x.su, .slice none 0 0, .slice none 0 0] 34)) = W1 at bx hfin c0 ⊢
  generalize w.heap.size = xb at bx ⊢
  have y1 := bx.c 1 _ rfl
  have y2 := bx.c 2 _ rfl
  clear bx hb0
  go_wp2_with fail
  refine (af _).mono ?_
  rintro e w' ⟨rfl, rfl⟩
  go_wp2_with fail
  refine (at' _).mono ?_
  rintro e w' ⟨rfl, rfl⟩
  go_wp2_with fail
  go_ret
  exact ⟨rfl, hfin⟩

set_option maxRecDepth 100000 in
set_option maxHeartbeats 4000000 in
theorem air_look (i : Nat) {m : Nat} {w : World} {g base : Nat} {lv : Value} {l : List FM} {bm n : Nat} {C : Int → Int → Bool} (h : AirAt m w g base lv l bm n C) (x : FM) (hi : i < l.length) (hx : l.getD i fm0 = x) (hn : l.length ≤ 1024) :
    Calls Try.prog 11 #[.pointer (some ⟨g, 0, none⟩), .int .i64 (i : Nat)] w fun e w' => e = .returned (.tuple #[.agg #[.int .i8 x.k, .int .i64 x.fr, .int .i64 x.to, .int .i64 x.te, .int .i64 x.ix, .int .i64 x.la, .int .i64 x.co, .bool x.ok, .slice none 0 0, .int .i64 x.si, .int .i64 x.st, .int .u8 x.su, .slice none 0 0, .slice none 0 0], .int .i64 0]) ∧ Below w.heap.size w w' := by
  have hb0 : Below w.heap.size w (w.alloc (.cells #[.int .i8 0, .int .i64 0, .int .i64 0, .int .i64 0, .int .i64 0, .int .i64 0, .int .i64 0, .bool false, .slice none 0 0, .int .i64 0, .int .i64 0, .int .u8 0, .slice none 0 0, .slice none 0 0] 34)) := (Below.refl _ _).alloc (Nat.le_refl _) _
  have rs : Blk (w.alloc (.cells #[.int .i8 0, .int .i64 0, .int .i64 0, .int .i64 0, .int .i64 0, .int .i64 0, .int .i64 0, .bool false, .slice none 0 0, .int .i64 0, .int .i64 0, .int .u8 0, .slice none 0 0, .slice none 0 0] 34)) w.heap.size [.int .i8 0, .int .i64 0, .int .i64 0, .int .i64 0, .int .i64 0, .int .i64 0, .int .i64 0, .bool false, .slice none 0 0, .int .i64 0, .int .i64 0, .int .u8 0, .slice none 0 0, .slice none 0 0] := blk_new w [.int .i8 0, .int .i64 0, .int .i64 0, .int .i64 0, .int .i64 0, .int .i64 0, .int .i64 0, .bool false, .slice none 0 0, .int .i64 0, .int .i64 0, .int .u8 0, .slice none 0 0, .slice none 0 0] 34
  have h2 := h.bel hb0
  have cp := fun W => copied_flat x.k x.fr x.to x.te x.ix x.la x.co x.ok x.si x.st x.su W
  obtain ⟨q, cap, rfl, _⟩ := h2.own.form (by omega)
  have x0 := h2.cell rfl i 0 hi (by omega) (.int .i8 x.k) (by rw [hx]; rfl)
  have x1 := h2.cell rfl i 1 hi (by omega) (.int .i64 x.fr) (by rw [hx]; rfl)
  have x2 := h2.cell rfl i 2 hi (by omega) (.int .i64 x.to) (by rw [hx]; rfl)
  have x3 := h2.cell rfl i 3 hi (by omega) (.int .i64 x.te) (by rw [hx]; rfl)
  have x4 := h2.cell rfl i 4 hi (by omega) (.int .i64 x.ix) (by rw [hx]; rfl)
  have x5 := h2.cell rfl i 5 hi (by omega) (.int .i64 x.la) (by rw [hx]; rfl)
  have x6 := h2.cell rfl i 6 hi (by omega) (.int .i64 x.co) (by rw [hx]; rfl)
  have x7 := h2.cell rfl i 7 hi (by omega) (.bool x.ok) (by rw [hx]; rfl)
  have x8 := h2.cell rfl i 8 hi (by omega) (.slice none 0 0) (by rw [hx]; rfl)
  have x9 := h2.cell rfl i 9 hi (by omega) (.int .i64 x.si) (by rw [hx]; rfl)
  have x10 := h2.cell rfl i 10 hi (by omega) (.int .i64 x.st) (by rw [hx]; rfl)
  have x11 := h2.cell rfl i 11 hi (by omega) (.int .u8 x.su) (by rw [hx]; rfl)
  have x12 := h2.cell rfl i 12 hi (by omega) (.slice none 0 0) (by rw [hx]; rfl)
  have x13 := h2.cell rfl i 13 hi (by omega) (.slice none 0 0) (by rw [hx]; rfl)
  rw [Nat.add_zero] at x0
  have c0 := h2.c0
  have hiz : (i : Int) < (l.length : Int) := by omega
  have hi0 : (0 : Int) ≤ (i : Int) := by omega
  obtain ⟨N, hN⟩ : ∃ N, l.length = N := ⟨_, rfl⟩
  rw [hN] at c0 hiz
  clear h h2 hx
  go_enter Try.func11, Try.ntmps11
  go_upto_region 1 with fail
  replace rs : Blk (w.alloc (.cells #[.int .i8 0, .int .i64 0, .int .i64 0, .int .i64 0, .int .i64 0, .int .i64 0, .int .i64 0, .bool false, .slice none 0 0, .int .i64 0, .int .i64 0, .int .u8 0, .slice none 0 0, .slice none 0 0] 34)) w.heap.size [.int .i8 0, .int .i64 0, .int .i64 0, .int .i64 0, .int .i64 0, .int .i64 0, .int .i64 0, .bool false, .slice none 0 0, .int .i64 0, .int .i64 0, .int .u8 0, .slice none 0 0, .slice none 0 0] := rs
  generalize (w.alloc (.cells #[.int .i8 0, .int .i64 0, .int .i64 0, .int .i64 0, .int .i64 0, .int .i64 0, .int .i64 0, .bool false, .slice none 0 0, .int .i64 0, .int .i64 0, .int .u8 0, .slice none 0 0, .slice none 0 0] 34)) = W1 at rs hb0 c0 x0 x1 x2 x3 x4 x5 x6 x7 x8 x9 x10 x11 x12 x13 ⊢
  obtain ⟨xb, hxb⟩ : ∃ xb, w.heap.size = xb := ⟨_, rfl⟩
  rw [hxb] at rs ⊢
  replace hxb := Lib.hid hxb
  go_wp2_with fail
  refine (cp _).mono ?_
  rintro e w3 ⟨rfl, hb3⟩
  have rs2 := rs.bel hb3
  have hB := bNext hb0 hb3 (Nat.le_refl _)
  have z0 := rs2.c 0 _ rfl
  have z1 := rs2.c 1 _ rfl
  have z2 := rs2.c 2 _ rfl
  have z3 := rs2.c 3 _ rfl
  have z4 := rs2.c 4 _ rfl
  have z5 := rs2.c 5 _ rfl
  have z6 := rs2.c 6 _ rfl
  have z7 := rs2.c 7 _ rfl
  have z8 := rs2.c 8 _ rfl
  have z9 := rs2.c 9 _ rfl
  have z10 := rs2.c 10 _ rfl
  have z11 := rs2.c 11 _ rfl
  have z12 := rs2.c 12 _ rfl
  have z13 := rs2.c 13 _ rfl
  have q0 := rs2.f 0
  have q1 := rs2.f 1
  have q2 := rs2.f 2
  have q3 := rs2.f 3
  have q4 := rs2.f 4
  have q5 := rs2.f 5
  have q6 := rs2.f 6
  have q7 := rs2.f 7
  have q8 := rs2.f 8
  have q9 := rs2.f 9
  have q10 := rs2.f 10
  have q11 := rs2.f 11
  have q12 := rs2.f 12
  have q13 := rs2.f 13
  clear x0 x1 x2 x3 x4 x5 x6 x7 x8 x9 x10 x11 x12 x13 c0 cp rs hb0 hb3
  replace rs2 := Lib.hid rs2
  go_wp2_with fail
  have rs3 := blk_put rs2.out (.int .i8 x.k) (.int .i64 x.fr) (.int .i64 x.to) (.int .i64 x.te) (.int .i64 x.ix) (.int .i64 x.la) (.int .i64 x.co) (.bool x.ok) (.slice none 0 0) (.int .i64 x.si) (.int .i64 x.st) (.int .u8 x.su) (.slice none 0 0) (.slice none 0 0)
  have hB3 := below_put hB (Nat.le_of_eq hxb.out) (.int .i8 x.k) (.int .i64 x.fr) (.int .i64 x.to) (.int .i64 x.te) (.int .i64 x.ix) (.int .i64 x.la) (.int .i64 x.co) (.bool x.ok) (.slice none 0 0) (.int .i64 x.si) (.int .i64 x.st) (.int .u8 x.su) (.slice none 0 0) (.slice none 0 0)
  clear rs2 hB z0 z1 z2 z3 z4 z5 z6 z7 z8 z9 z10 z11 z12 z13 q0 q1 q2 q3 q4 q5 q6 q7 q8 q9 q10 q11 q12 q13
  generalize ((((((((((((((w3.setCell ⟨xb, 0, none⟩ (.int .i8 x.k)).setCell ⟨xb, 1, none⟩ (.int .i64 x.fr)).setCell ⟨xb, 2, none⟩ (.int .i64 x.to)).setCell ⟨xb, 3, none⟩ (.int .i64 x.te)).setCell ⟨xb, 4, none⟩ (.int .i64 x.ix)).setCell ⟨xb, 5, none⟩ (.int .i64 x.la)).setCell ⟨xb, 6, none⟩ (.int .i64 x.co)).setCell ⟨xb, 7, none⟩ (.bool x.ok)).setCell ⟨xb, 8, none⟩ (.slice none 0 0)).setCell ⟨xb, 9, none⟩ (.int .i64 x.si)).setCell ⟨xb, 10, none⟩ (.int .i64 x.st)).setCell ⟨xb, 11, none⟩ (.int .u8 x.su)).setCell ⟨xb, 12, none⟩ (.slice none 0 0)).setCell ⟨xb, 13, none⟩ (.slice none 0 0)) = W9 at rs3 hB3 ⊢
  have y0 := rs3.c 0 _ rfl
  have y1 := rs3.c 1 _ rfl
  have y2 := rs3.c 2 _ rfl
  have y3 := rs3.c 3 _ rfl
  have y4 := rs3.c 4 _ rfl
  have y5 := rs3.c 5 _ rfl
  have y6 := rs3.c 6 _ rfl
  have y7 := rs3.c 7 _ rfl
  have y8 := rs3.c 8 _ rfl
  have y9 := rs3.c 9 _ rfl
  have y10 := rs3.c 10 _ rfl
  have y11 := rs3.c 11 _ rfl
  have y12 := rs3.c 12 _ rfl
  have y13 := rs3.c 13 _ rfl
  refine bodyPost_ret (v := .tuple #[.agg #[.int .i8 x.k, .int .i64 x.fr, .int .i64 x.to, .int .i64 x.te, .int .i64 x.ix, .int .i64 x.la, .int .i64 x.co, .bool x.ok, .slice none 0 0, .int .i64 x.si, .int .i64 x.st, .int .u8 x.su, .slice none 0 0, .slice none 0 0], .int .i64 0]) (by simp [results, Try.results11, go_sem, y0, y1, y2, y3, y4, y5, y6, y7, y8, y9, y10, y11, y12, y13]) rfl ⟨rfl, hB3⟩
end Go.Proofs.Ytnokojobiaddmaa
