/- Queues of packets: Pop. -/
import Derived.Test.YtndlldlanjhanaaQ6
import Derived.Deep.Cut
namespace Go.Proofs.Ytndlldlanjhanaa
open Go.ChangeShapes Go.WideShapes Go.ChangeAt Go.RowKit
set_option linter.unusedVariables false
set_option linter.unusedSimpArgs false
open Pk BigFrame Fq

namespace Fq
theorem Kept.setNew {w X : World} {qb rb : Nat} (h : Kept w X qb rb) (hq : qb < w.heap.size) (b o : Nat) (v : Value) (hb : w.heap.size ≤ b) : Kept w (X.setCell ⟨b, o, none⟩ v) qb rb :=
  ⟨by simpa using h.size, fun x hx h1 h2 => (heap_setCell_other X ⟨b, o, none⟩ x v (by simp; omega)).trans (h.block x hx h1 h2), fun B A hB h1 h2 => (h.bel B A hB h1 h2).setCell (p := ⟨b, o, none⟩) (by simp only; omega) v⟩
theorem QAt.set_far {W : World} {qb rb room pos n by_ dr : Nat} (h : QAt W qb rb room pos n by_ dr) (b o : Nat) (v : Value) (h1 : b ≠ qb) (h2 : b ≠ rb) : QAt (W.setCell ⟨b, o, none⟩ v) qb rb room pos n by_ dr :=
  have e : ∀ k, (W.setCell ⟨b, o, none⟩ v).cell? ⟨qb, k, none⟩ = W.cell? ⟨qb, k, none⟩ := fun k => World.cell?_setCell_other _ _ _ _ (by simp <;> omega)
  ⟨(e 0).trans h.c0, (e 1).trans h.c1, (e 2).trans h.c2, (e 3).trans h.c3, (e 4).trans h.c4, fun o => (World.frozen?_setCell _ _ _ _).trans (h.f o), fun o => (World.frozen?_setCell _ _ _ _).trans (h.rf o), h.ne, by simpa using h.rl, h.room1, h.room2, h.pos1, h.n1, h.by1, h.dr1⟩
theorem RingAt.set_far {W : World} {rb room : Nat} {pk : Nat → Nat → Value} (h : RingAt W rb room pk) (b o : Nat) (v : Value) (h2 : b ≠ rb) : RingAt (W.setCell ⟨b, o, none⟩ v) rb room pk := fun j i hj hi => (World.cell?_setCell_other _ _ _ _ (by simp <;> omega)).trans (h j i hj hi)
def PopP (qb rb room pos n by_ dr : Nat) (num t C : Int) (m : Nat) (pk : Nat → Nat → Value) (w : World) (e : Ending) (w' : World) : Prop :=
  ∃ a1 c1, e = .returned (.tuple #[.agg #[.int .i64 num, .int .i64 t, .int .i64 C, .slice a1 m c1], .int .i64 0]) ∧ (m = 0 → a1 = none ∧ c1 = 0) ∧ QAt w' qb rb room ((pos + 1) % room) (n - 1) (by_ - (8 + m)) dr ∧ RingAt w' rb room pk ∧ Kept w w' qb rb
end Fq

set_option maxRecDepth 100000 in
set_option maxHeartbeats 4000000 in
theorem qpop_none (qb rb room pos by_ dr : Nat) (w : World) (h : QAt w qb rb room pos 0 by_ dr) :
    Calls Try.prog 14 #[.pointer (some ⟨qb, 0, none⟩)] w fun e w' => e = .returned (.tuple #[.agg #[.int .i64 0, .int .i64 0, .int .i64 0, .slice none 0 0], .int .i64 4]) ∧ Below w.heap.size w w' := by
  have hB := (Below.refl w.heap.size w).alloc (Nat.le_refl _) (.cells #[.int .i64 0, .int .i64 0, .int .i64 0, .slice none 0 0] 25)
  have hh := Lib.hid (qhead_none qb rb room pos by_ dr _ (h.below hB))
  have x0 : (w.alloc (.cells #[.int .i64 0, .int .i64 0, .int .i64 0, .slice none 0 0] 25)).cell? ⟨w.heap.size, 0, none⟩ = some (.int .i64 0) := by go_simp
  have x1 : (w.alloc (.cells #[.int .i64 0, .int .i64 0, .int .i64 0, .slice none 0 0] 25)).cell? ⟨w.heap.size, 1, none⟩ = some (.int .i64 0) := by go_simp
  have x2 : (w.alloc (.cells #[.int .i64 0, .int .i64 0, .int .i64 0, .slice none 0 0] 25)).cell? ⟨w.heap.size, 2, none⟩ = some (.int .i64 0) := by go_simp
  have x3 : (w.alloc (.cells #[.int .i64 0, .int .i64 0, .int .i64 0, .slice none 0 0] 25)).cell? ⟨w.heap.size, 3, none⟩ = some (.slice none 0 0) := by go_simp
  have xf : ∀ o, (w.alloc (.cells #[.int .i64 0, .int .i64 0, .int .i64 0, .slice none 0 0] 25)).frozen? ⟨w.heap.size, o, none⟩ = false := fun o => by go_simp
  go_enter Try.func14, Try.ntmps14
  go_wp2_with fail
  refine hh.out.mono ?_
  rintro e w2 ⟨rfl, hb2⟩
  have hB2 := bNext hB hb2 (Nat.le_refl _)
  have hs2 := hb2.size
  rw [World.size_alloc] at hs2
  have hb3 := (Below.refl w2.heap.size w2).alloc (Nat.le_refl _) (.cells #[.int .i64 0, .int .i64 0, .int .i64 0, .slice none 0 0] 25)
  have K : ∀ o, (w2.alloc (.cells #[.int .i64 0, .int .i64 0, .int .i64 0, .slice none 0 0] 25)).cell? ⟨w.heap.size, o, none⟩ = (w.alloc (.cells #[.int .i64 0, .int .i64 0, .int .i64 0, .slice none 0 0] 25)).cell? ⟨w.heap.size, o, none⟩ := fun o => (hb3.cell (p := ⟨w.heap.size, o, none⟩) (by simp only; omega)).trans (hb2.cell (p := ⟨w.heap.size, o, none⟩) (by simp))
  have F : ∀ o, (w2.alloc (.cells #[.int .i64 0, .int .i64 0, .int .i64 0, .slice none 0 0] 25)).frozen? ⟨w.heap.size, o, none⟩ = false := fun o => (hb3.frozen (p := ⟨w.heap.size, o, none⟩) (by simp only; omega)).trans ((hb2.frozen (p := ⟨w.heap.size, o, none⟩) (by simp)).trans (xf o))
  have y0 := (K 0).trans x0
  have y1 := (K 1).trans x1
  have y2 := (K 2).trans x2
  have y3 := (K 3).trans x3
  have z0 : (w2.alloc (.cells #[.int .i64 0, .int .i64 0, .int .i64 0, .slice none 0 0] 25)).cell? ⟨w2.heap.size, 0, none⟩ = some (.int .i64 0) := by go_simp
  have z1 : (w2.alloc (.cells #[.int .i64 0, .int .i64 0, .int .i64 0, .slice none 0 0] 25)).cell? ⟨w2.heap.size, 1, none⟩ = some (.int .i64 0) := by go_simp
  have z2 : (w2.alloc (.cells #[.int .i64 0, .int .i64 0, .int .i64 0, .slice none 0 0] 25)).cell? ⟨w2.heap.size, 2, none⟩ = some (.int .i64 0) := by go_simp
  have z3 : (w2.alloc (.cells #[.int .i64 0, .int .i64 0, .int .i64 0, .slice none 0 0] 25)).cell? ⟨w2.heap.size, 3, none⟩ = some (.slice none 0 0) := by go_simp
  have hB3 := bNext hB2 hb3 (Nat.le_refl _)
  clear K x0 x1 x2 x3 xf hb2 hb3 hh hB
  go_upto_region 2 with fail
  generalize (w2.alloc (.cells #[.int .i64 0, .int .i64 0, .int .i64 0, .slice none 0 0] 25)) = W at y0 y1 y2 y3 z0 z1 z2 z3 F hB3 ⊢
  go_wp2_with fail
  obtain ⟨s0, s1, s2, s3⟩ := set4 (.int .i64 0) (.int .i64 0) (.int .i64 0) (.slice none 0 0) y0 y1 y2 y3
  have hB4 := below4 hB3 (Nat.le_refl _) (.int .i64 0) (.int .i64 0) (.int .i64 0) (.slice none 0 0)
  exact bodyPost_ret (v := .tuple #[.agg #[.int .i64 0, .int .i64 0, .int .i64 0, .slice none 0 0], .int .i64 4]) (by simp [results, Try.results14, go_sem, s0, s1, s2, s3]) rfl ⟨rfl, hB4⟩

set_option maxRecDepth 100000 in
set_option maxHeartbeats 4000000 in
theorem qpop_ok (qb rb room pos n by_ dr : Nat) (num t C : Int) (a : Option Addr) (m cm : Nat) (pk : Nat → Nat → Value) (w : World) (h : QAt w qb rb room pos n by_ dr) (hr : RingAt w rb room pk) (hn : 0 < n) (hm : m ≤ 1492) (hby : 8 + m ≤ by_) (v0 : pk pos 0 = .int .i64 num) (v1 : pk pos 1 = .int .i64 t) (v2 : pk pos 2 = .int .i64 C) (v3 : pk pos 3 = .slice a m cm) (hcp : CopyP num t C a m cm w) :
    Calls Try.prog 14 #[.pointer (some ⟨qb, 0, none⟩)] w (PopP qb rb room pos n by_ dr num t C m pk w) := by
  have hq : qb < w.heap.size := World.block_lt_of_cell? _ _ h.c0
  have hrl := h.rl
  have hB := (Below.refl w.heap.size w).alloc (Nat.le_refl _) (.cells #[.int .i64 0, .int .i64 0, .int .i64 0, .slice none 0 0] 25)
  have hh := Lib.hid (qhead_ok qb rb room pos n by_ dr num t C a m cm pk _ (h.below hB) (hr.below h.rl hB) hn v0 v1 v2 v3 (fun u hu => hcp u (bNext hB hu (Nat.le_refl _))))
  have x0 : (w.alloc (.cells #[.int .i64 0, .int .i64 0, .int .i64 0, .slice none 0 0] 25)).cell? ⟨w.heap.size, 0, none⟩ = some (.int .i64 0) := by go_simp
  have x1 : (w.alloc (.cells #[.int .i64 0, .int .i64 0, .int .i64 0, .slice none 0 0] 25)).cell? ⟨w.heap.size, 1, none⟩ = some (.int .i64 0) := by go_simp
  have x2 : (w.alloc (.cells #[.int .i64 0, .int .i64 0, .int .i64 0, .slice none 0 0] 25)).cell? ⟨w.heap.size, 2, none⟩ = some (.int .i64 0) := by go_simp
  have x3 : (w.alloc (.cells #[.int .i64 0, .int .i64 0, .int .i64 0, .slice none 0 0] 25)).cell? ⟨w.heap.size, 3, none⟩ = some (.slice none 0 0) := by go_simp
  have xf : ∀ o, (w.alloc (.cells #[.int .i64 0, .int .i64 0, .int .i64 0, .slice none 0 0] 25)).frozen? ⟨w.heap.size, o, none⟩ = false := fun o => by go_simp
  clear v0 v1 v2 v3 hcp
  replace h := Lib.hid h
  replace hr := Lib.hid hr
  replace hby := Lib.hid hby
  go_enter Try.func14, Try.ntmps14
  go_wp2_with fail
  refine hh.out.mono ?_
  rintro e w2 ⟨⟨a1, c1, rfl, hz⟩, hb2⟩
  replace hz := Lib.hid hz
  have hB2 := bNext hB hb2 (Nat.le_refl _)
  have hs2 := hb2.size
  rw [World.size_alloc] at hs2
  have hb3 := (Below.refl w2.heap.size w2).alloc (Nat.le_refl _) (.cells #[.int .i64 num, .int .i64 t, .int .i64 C, .slice a1 m c1] 25)
  have K : ∀ o, (w2.alloc (.cells #[.int .i64 num, .int .i64 t, .int .i64 C, .slice a1 m c1] 25)).cell? ⟨w.heap.size, o, none⟩ = (w.alloc (.cells #[.int .i64 0, .int .i64 0, .int .i64 0, .slice none 0 0] 25)).cell? ⟨w.heap.size, o, none⟩ := fun o => (hb3.cell (p := ⟨w.heap.size, o, none⟩) (by simp only; omega)).trans (hb2.cell (p := ⟨w.heap.size, o, none⟩) (by simp))
  have F : ∀ o, (w2.alloc (.cells #[.int .i64 num, .int .i64 t, .int .i64 C, .slice a1 m c1] 25)).frozen? ⟨w.heap.size, o, none⟩ = false := fun o => (hb3.frozen (p := ⟨w.heap.size, o, none⟩) (by simp only; omega)).trans ((hb2.frozen (p := ⟨w.heap.size, o, none⟩) (by simp)).trans (xf o))
  have y0 := (K 0).trans x0
  have y1 := (K 1).trans x1
  have y2 := (K 2).trans x2
  have y3 := (K 3).trans x3
  have z0 : (w2.alloc (.cells #[.int .i64 num, .int .i64 t, .int .i64 C, .slice a1 m c1] 25)).cell? ⟨w2.heap.size, 0, none⟩ = some (.int .i64 num) := by go_simp
  have z1 : (w2.alloc (.cells #[.int .i64 num, .int .i64 t, .int .i64 C, .slice a1 m c1] 25)).cell? ⟨w2.heap.size, 1, none⟩ = some (.int .i64 t) := by go_simp
  have z2 : (w2.alloc (.cells #[.int .i64 num, .int .i64 t, .int .i64 C, .slice a1 m c1] 25)).cell? ⟨w2.heap.size, 2, none⟩ = some (.int .i64 C) := by go_simp
  have z3 : (w2.alloc (.cells #[.int .i64 num, .int .i64 t, .int .i64 C, .slice a1 m c1] 25)).cell? ⟨w2.heap.size, 3, none⟩ = some (.slice a1 m c1) := by go_simp
  have hB3 := bNext hB2 hb3 (Nat.le_refl _)
  have hWs : w2.heap.size < (w2.alloc (.cells #[.int .i64 num, .int .i64 t, .int .i64 C, .slice a1 m c1] 25)).heap.size := by simp
  clear K x0 x1 x2 x3 xf hb2 hb3 hh hB hB2
  go_upto_region 2 with fail
  generalize (w2.alloc (.cells #[.int .i64 num, .int .i64 t, .int .i64 C, .slice a1 m c1] 25)) = W at y0 y1 y2 y3 z0 z1 z2 z3 F hB3 hWs ⊢
  have hQW := h.out.below hB3
  have hRW := hr.out.below hrl hB3
  have hpp := Lib.hid (rpop_c qb rb room pos n by_ dr pk W hQW hRW hn)
  have hKW := Kept.of_below (rb := rb) hB3 hq
  clear hQW hRW
  go_wp2_with fail
  refine hpp.out.mono ?_
  rintro e w4 ⟨⟨vv, rfl⟩, hQ4, hR4, hK4⟩
  have e1 : ∀ o, w4.cell? ⟨w.heap.size, o, none⟩ = W.cell? ⟨w.heap.size, o, none⟩ := fun o => World.cell?_of_block (hK4.block w.heap.size (by omega) (by omega) (by omega))
  have e2 : ∀ o, w4.cell? ⟨w2.heap.size, o, none⟩ = W.cell? ⟨w2.heap.size, o, none⟩ := fun o => World.cell?_of_block (hK4.block w2.heap.size hWs (by omega) (by omega))
  have e3 : ∀ o, w4.frozen? ⟨w.heap.size, o, none⟩ = false := fun o => (World.frozen?_of_block (hK4.block w.heap.size (by omega) (by omega) (by omega))).trans (F o)
  replace y0 := (e1 0).trans y0
  replace y1 := (e1 1).trans y1
  replace y2 := (e1 2).trans y2
  replace y3 := (e1 3).trans y3
  replace z0 := (e2 0).trans z0
  replace z1 := (e2 1).trans z1
  replace z2 := (e2 2).trans z2
  replace z3 := (e2 3).trans z3
  have hK5 := Lib.hid (hKW.trans hK4)
  have hs4 := hK4.size
  have c3 := hQ4.c3
  have qf := hQ4.f
  have hq4 : qb < w4.heap.size := World.block_lt_of_cell? _ _ c3
  replace hQ4 := Lib.hid hQ4
  replace hR4 := Lib.hid hR4
  have hm4 : w.heap.size < w4.heap.size := by omega
  have hm5 : w2.heap.size < w4.heap.size := by omega
  clear e1 e2 F hKW hK4 hpp
  go_wp2_with fail
  go_region_with (go_at_call 21; refine (qsize_c num t C a1 m c1 _ (by omega)).mono ?_; rintro e w5 ⟨rfl, hb5⟩; have d3 := (hb5.cell (p := ⟨qb, 3, none⟩) (by simpa using hq4)).trans (show w4.drew.cell? _ = _ by simpa using c3); have df := fun o => (hb5.frozen (p := ⟨qb, o, none⟩) (by simpa using hq4)).trans (show w4.drew.frozen? _ = _ by simpa using qf o))
  all_goals
    have hby1 := hby.out
    have hbyU := (h.out).by1
    have wr : IntKind.i64.wrap ((by_ : Int) - (8 + (m : Int))) = ((by_ - (8 + m) : Nat) : Int) := by rw [IntWalk.i64_in _ ⟨by omega, by omega⟩]; omega
    have hQ6 := ((hQ4.out.drew).below hb5).set_by (by_ - (8 + m)) (by omega)
    have hR6 := ((hR4.out.drew hQ4.out.rl).below hQ4.out.drew.rl hb5).set_q hQ4.out.ne 3 (.int .i64 ((by_ - (8 + m) : Nat) : Int))
    have hK6 := ((hK5.out.trans (Kept.drew 1)).trans (Kept.of_below hb5 (by simpa using hq4))).trans (Kept.set (rb := rb) qb 3 (.int .i64 ((by_ - (8 + m) : Nat) : Int)) (.inl rfl))
    have G : ∀ b o, b < w4.heap.size → b ≠ qb → (w5.setCell ⟨qb, 3, none⟩ (.int .i64 ((by_ - (8 + m) : Nat) : Int))).cell? ⟨b, o, none⟩ = w4.cell? ⟨b, o, none⟩ := fun b o hb hne => (World.cell?_setCell_other _ _ _ _ (by simp <;> omega)).trans ((hb5.cell (p := ⟨b, o, none⟩) (by simpa using hb)).trans (by simp))
    have Gf : ∀ o, (w5.setCell ⟨qb, 3, none⟩ (.int .i64 ((by_ - (8 + m) : Nat) : Int))).frozen? ⟨w.heap.size, o, none⟩ = false := fun o => (World.frozen?_setCell _ _ _ _).trans ((hb5.frozen (p := ⟨w.heap.size, o, none⟩) (by simpa using hm4)).trans (by simpa using e3 o))
    have r0 := (G w.heap.size 0 hm4 (by omega)).trans y0
    have r1 := (G w.heap.size 1 hm4 (by omega)).trans y1
    have r2 := (G w.heap.size 2 hm4 (by omega)).trans y2
    have r3 := (G w.heap.size 3 hm4 (by omega)).trans y3
    have t0 := (G w2.heap.size 0 hm5 (by omega)).trans z0
    have t1 := (G w2.heap.size 1 hm5 (by omega)).trans z1
    have t2 := (G w2.heap.size 2 hm5 (by omega)).trans z2
    have t3 := (G w2.heap.size 3 hm5 (by omega)).trans z3
    simp only [wr]
    clear G d3 df wr hb5 hbyU hby1 y0 y1 y2 y3 z0 z1 z2 z3 e3 c3 qf
    generalize w5.setCell ⟨qb, 3, none⟩ (.int .i64 ((by_ - (8 + m) : Nat) : Int)) = Z at hQ6 hR6 hK6 Gf r0 r1 r2 r3 t0 t1 t2 t3 ⊢
    have n1 : w.heap.size ≠ qb := by omega
    have n2 : w.heap.size ≠ rb := by omega
    have hQ7 := Lib.hid ((((hQ6.set_far w.heap.size 0 (.int .i64 num) n1 n2).set_far w.heap.size 1 (.int .i64 t) n1 n2).set_far w.heap.size 2 (.int .i64 C) n1 n2).set_far w.heap.size 3 (.slice a1 m c1) n1 n2)
    have hR7 := Lib.hid ((((hR6.set_far w.heap.size 0 (.int .i64 num) n2).set_far w.heap.size 1 (.int .i64 t) n2).set_far w.heap.size 2 (.int .i64 C) n2).set_far w.heap.size 3 (.slice a1 m c1) n2)
    have hK7 := Lib.hid ((((hK6.setNew hq w.heap.size 0 (.int .i64 num) (Nat.le_refl _)).setNew hq w.heap.size 1 (.int .i64 t) (Nat.le_refl _)).setNew hq w.heap.size 2 (.int .i64 C) (Nat.le_refl _)).setNew hq w.heap.size 3 (.slice a1 m c1) (Nat.le_refl _))
    clear hQ6 hR6 hK6
    obtain ⟨s0, s1, s2, s3⟩ := set4 (.int .i64 num) (.int .i64 t) (.int .i64 C) (.slice a1 m c1) r0 r1 r2 r3
    go_wp2_with fail
    exact bodyPost_ret (v := .tuple #[.agg #[.int .i64 num, .int .i64 t, .int .i64 C, .slice a1 m c1], .int .i64 0]) (by simp [results, Try.results14, go_sem, s0, s1, s2, s3]) rfl ⟨a1, c1, rfl, hz.out, hQ7.out, hR7.out, hK7.out⟩
end Go.Proofs.Ytndlldlanjhanaa
