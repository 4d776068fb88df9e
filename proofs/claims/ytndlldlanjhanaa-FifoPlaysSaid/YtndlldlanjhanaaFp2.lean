/- Queues of packets with what they hold: Push, Head, Pop. -/
import Derived.Test.YtndlldlanjhanaaFp1
namespace Go.Proofs.Ytndlldlanjhanaa
open Go.ChangeShapes Go.WideShapes Go.ChangeAt Go.RowKit
set_option linter.unusedVariables false
set_option linter.unusedSimpArgs false
open BigFrame By Fq Bs Fp

namespace Fp
/-- A packet's copy may be made in whatever world lies behind w. -/
def CopyF (num t C : Int) (a : Option Addr) (m cm : Nat) (d : List Nat) (w : World) : Prop := ∀ u, Below w.heap.size w u → Calls Try.prog 23 #[.agg #[.int .i64 num, .int .i64 t, .int .i64 C, .slice a m cm]] u (CopR num t C m d u)
theorem copyF_of {num t C : Int} {a : Option Addr} {m cm : Nat} {d : List Nat} {w : World} (h : Byt w a m cm d) (hm : m ≤ 1000000) : CopyF num t C a m cm d w := fun u hu => copiedF_c num t C a m cm d u (h.bel hu) hm
def PushF (qb rb room pos n by_ dr : Nat) (num t C : Int) (m : Nat) (d : List Nat) (pk : Nat → Nat → Value) (w : World) (e : Ending) (w' : World) : Prop :=
  e = .returned (.int .i64 0) ∧ ∃ a1 c1, (Byt w' a1 m c1 d ∧ Far w.heap.size a1 m) ∧ QAt w' qb rb room pos (n + 1) (by_ + 8 + m) dr ∧ RingAt w' rb room (fun j i => if j = (pos + n) % room then (#[.int .i64 num, .int .i64 t, .int .i64 C, .slice a1 m c1] : Array Value).getD i undef else pk j i) ∧ Kept w w' qb rb
def HeadF (num t C : Int) (m : Nat) (d : List Nat) (w : World) (e : Ending) (w' : World) : Prop := (∃ a1 c1, e = .returned (.tuple #[.agg #[.int .i64 num, .int .i64 t, .int .i64 C, .slice a1 m c1], .bool true]) ∧ (Byt w' a1 m c1 d ∧ Far w.heap.size a1 m)) ∧ Below w.heap.size w w'
def PopF (qb rb room pos n by_ dr : Nat) (num t C : Int) (m : Nat) (d : List Nat) (pk : Nat → Nat → Value) (w : World) (e : Ending) (w' : World) : Prop :=
  ∃ a1 c1, e = .returned (.tuple #[.agg #[.int .i64 num, .int .i64 t, .int .i64 C, .slice a1 m c1], .int .i64 0]) ∧ (Byt w' a1 m c1 d ∧ Far w.heap.size a1 m) ∧ QAt w' qb rb room ((pos + 1) % room) (n - 1) (by_ - (8 + m)) dr ∧ RingAt w' rb room pk ∧ Kept w w' qb rb
end Fp

set_option maxRecDepth 100000 in
set_option maxHeartbeats 4000000 in
theorem qpushF_ok (qb rb room pos n by_ dr : Nat) (num t C : Int) (a : Option Addr) (m cm : Nat) (pk : Nat → Nat → Value) (w : World) (h : QAt w qb rb room pos n by_ dr) (hr : RingAt w rb room pk) (hn : n < room) (hm : m ≤ 1492) (hby0 : by_ + 8 + m ≤ 1000000) (d : List Nat) (hcp : CopyF num t C a m cm d w) :
    Calls Try.prog 13 #[.pointer (some ⟨qb, 0, none⟩), .agg #[.int .i64 num, .int .i64 t, .int .i64 C, .slice a m cm]] w (PushF qb rb room pos n by_ dr num t C m d pk w) := by
  have hq : qb < w.heap.size := World.block_lt_of_cell? _ _ h.c0
  have k1 : ¬ (1500 : Int) < 8 + (m : Int) := by omega
  have hB0 := (Below.refl w.heap.size w).alloc (Nat.le_refl _) (.cells #[.int .i64 num, .int .i64 t, .int .i64 C, .slice a m cm] 25)
  have hrl0 := Lib.hid h.rl
  go_enter Try.func13, Try.ntmps13
  go_wp2_with fail
  refine (qsize_c num t C a m cm _ (by omega)).mono ?_
  rintro e w1 ⟨rfl, hb1⟩
  have hB1 := bNext hB0 hb1 (Nat.le_refl _)
  have p0 : w1.cell? ⟨w.heap.size, 0, none⟩ = some (.int .i64 num) := (hb1.cell (p := ⟨w.heap.size, 0, none⟩) (by simp)).trans (by go_simp)
  have p1 : w1.cell? ⟨w.heap.size, 1, none⟩ = some (.int .i64 t) := (hb1.cell (p := ⟨w.heap.size, 1, none⟩) (by simp)).trans (by go_simp)
  have p2 : w1.cell? ⟨w.heap.size, 2, none⟩ = some (.int .i64 C) := (hb1.cell (p := ⟨w.heap.size, 2, none⟩) (by simp)).trans (by go_simp)
  have p3 : w1.cell? ⟨w.heap.size, 3, none⟩ = some (.slice a m cm) := (hb1.cell (p := ⟨w.heap.size, 3, none⟩) (by simp)).trans (by go_simp)
  have hs1 : w.heap.size < w1.heap.size := World.block_lt_of_cell? _ _ p0
  have hQ1 := Lib.hid (h.below hB1)
  have hR1 := Lib.hid (hr.below h.rl hB1)
  have hcp1 := Lib.hid hcp
  have hne3 : w.heap.size ≠ qb := by omega
  have hne2 : w.heap.size ≠ rb := by have := h.rl; omega
  replace hby0 := Lib.hid hby0
  clear hcp hb1 h hr hB0
  go_wp2_with fail
  go_region_with (first
    | (go_at_call 23; refine (hcp1.out _ hB1.drew).mono ?_; rintro e u1 ⟨a1, k1', rfl, hz1, hb2⟩; replace hz1 := Lib.hid hz1; have hQ2 := Lib.hid (hQ1.out.drew.below hb2); have hR2 := Lib.hid ((hR1.out.drew hQ1.out.rl).below hQ1.out.drew.rl hb2))
    | (go_at_call 22; refine (rpush_ok qb rb room pos n by_ dr num t C a1 m k1' pk _ hQ2.out hR2.out hn).mono ?_; rintro e u2 ⟨rfl, hQ3, hR3, hK3⟩; replace hQ3 := Lib.hid hQ3; replace hR3 := Lib.hid hR3; replace hK3 := Lib.hid hK3))
  all_goals
    have hz2 := Lib.hid (hz1.out.1.kept hz1.out.2 (show qb < w1.drew.heap.size by have := hB1.size; simp; omega) (show rb < w1.drew.heap.size by have := hB1.size; have := hQ1.out.rl; simp; omega) hK3.out)
    have hz3 := Lib.hid (hz1.out.2.mono (show w.heap.size ≤ w1.drew.heap.size by have := hB1.size; simp; omega))
    have hrl3 : rb < w.heap.size := hrl0.out
    have pp : ∀ o, u2.cell? ⟨w.heap.size, o, none⟩ = w1.cell? ⟨w.heap.size, o, none⟩ := fun o => (World.cell?_of_block (hK3.out.block w.heap.size (by have := hb2.size; simp at this; omega) hne3 hne2)).trans ((hb2.cell (p := ⟨w.heap.size, o, none⟩) (by simpa using hs1)).trans (by simp))
    have hK4 : Kept w u2 qb rb := ((Kept.of_below hB1.drew hq).trans (Kept.of_below hb2 (by have := hB1.size; simp; omega))).trans hK3.out
    replace hK4 := Lib.hid hK4
    have r0 := (pp 0).trans p0
    have r1 := (pp 1).trans p1
    have r2 := (pp 2).trans p2
    have r3 := (pp 3).trans p3
    have c3 := hQ3.out.c3
    have qf := hQ3.out.f
    have hq3 : qb < u2.heap.size := World.block_lt_of_cell? _ _ c3
    have hs3 : w.heap.size < u2.heap.size := World.block_lt_of_cell? _ _ r0
    clear pp p0 p1 p2 p3 hb2 hQ2 hR2
    go_wp2_with fail
    go_region_with (go_at_call 21; refine (qsize_c num t C a m cm _ (by omega)).mono ?_; rintro e w4 ⟨rfl, hb4⟩; have z3 := (hb4.cell (p := ⟨qb, 3, none⟩) (by simpa using hq3)).trans (show u2.drew.cell? _ = _ by simpa using c3); have zf := fun o => (hb4.frozen (p := ⟨qb, o, none⟩) (by simpa using hq3)).trans (show u2.drew.frozen? _ = _ by simpa using qf o))
    all_goals
      have wr : IntKind.i64.wrap ((by_ : Int) + (8 + (m : Int))) = ((by_ + 8 + m : Nat) : Int) := by have hz := hby0.out; rw [IntWalk.i64_in _ ⟨by omega, by omega⟩]; omega
      have hQ4 := ((hQ3.out.drew).below hb4).set_by (by_ + 8 + m) hby0.out
      have hR4 := ((hR3.out.drew hQ3.out.rl).below hQ3.out.drew.rl hb4).set_q hQ3.out.ne 3 (.int .i64 ((by_ + 8 + m : Nat) : Int))
      have hz4 := Lib.hid (hz2.out.kept hz3.out hq hrl3 (((Kept.drew 1).trans (Kept.of_below hb4 (by simpa using hq3))).trans (Kept.set (rb := rb) qb 3 (.int .i64 ((by_ + 8 + m : Nat) : Int)) (.inl rfl))))
      have hK5 := ((hK4.out.trans (Kept.drew 1)).trans (Kept.of_below hb4 (by simpa using hq3))).trans (Kept.set (rb := rb) qb 3 (.int .i64 ((by_ + 8 + m : Nat) : Int)) (.inl rfl))
      replace hQ4 := Lib.hid hQ4
      replace hR4 := Lib.hid hR4
      replace hK5 := Lib.hid hK5
      simp only [wr]
      clear wr z3 zf hb4
      go_wp2_with fail
      exact bodyPost_ret (v := .int .i64 0) (by simp [results, Try.results13, go_sem]) rfl ⟨rfl, a1, k1', ⟨hz4.out, hz3.out⟩, hQ4.out, hR4.out, hK5.out⟩

set_option maxRecDepth 100000 in
set_option maxHeartbeats 4000000 in
theorem qpushF_full (qb rb room pos by_ dr : Nat) (num t C : Int) (a : Option Addr) (m cm : Nat) (pk : Nat → Nat → Value) (w : World) (h : QAt w qb rb room pos room by_ dr) (hr : RingAt w rb room pk) (hd : dr < 1000000) (hm : m ≤ 1492) (d : List Nat) (hcp : CopyF num t C a m cm d w) :
    Calls Try.prog 13 #[.pointer (some ⟨qb, 0, none⟩), .agg #[.int .i64 num, .int .i64 t, .int .i64 C, .slice a m cm]] w fun e w' => e = .returned (.int .i64 100) ∧ QAt w' qb rb room pos room by_ (dr + 1) ∧ RingAt w' rb room pk ∧ Kept w w' qb rb := by
  have hq : qb < w.heap.size := World.block_lt_of_cell? _ _ h.c0
  have k1 : ¬ (1500 : Int) < 8 + (m : Int) := by omega
  have hB0 := (Below.refl w.heap.size w).alloc (Nat.le_refl _) (.cells #[.int .i64 num, .int .i64 t, .int .i64 C, .slice a m cm] 25)
  go_enter Try.func13, Try.ntmps13
  go_wp2_with fail
  refine (qsize_c num t C a m cm _ (by omega)).mono ?_
  rintro e w1 ⟨rfl, hb1⟩
  have hB1 := bNext hB0 hb1 (Nat.le_refl _)
  have p0 : w1.cell? ⟨w.heap.size, 0, none⟩ = some (.int .i64 num) := (hb1.cell (p := ⟨w.heap.size, 0, none⟩) (by simp)).trans (by go_simp)
  have p1 : w1.cell? ⟨w.heap.size, 1, none⟩ = some (.int .i64 t) := (hb1.cell (p := ⟨w.heap.size, 1, none⟩) (by simp)).trans (by go_simp)
  have p2 : w1.cell? ⟨w.heap.size, 2, none⟩ = some (.int .i64 C) := (hb1.cell (p := ⟨w.heap.size, 2, none⟩) (by simp)).trans (by go_simp)
  have p3 : w1.cell? ⟨w.heap.size, 3, none⟩ = some (.slice a m cm) := (hb1.cell (p := ⟨w.heap.size, 3, none⟩) (by simp)).trans (by go_simp)
  have hQ1 := Lib.hid (h.below hB1)
  have hR1 := Lib.hid (hr.below h.rl hB1)
  have hcp1 := Lib.hid hcp
  have hwd : IntKind.i64.wrap ((dr : Int) + 1) = (dr : Int) + 1 := IntWalk.i64_in _ ⟨by omega, by omega⟩
  have hdd := Lib.hid hd
  clear hcp hb1 h hr hB0 hd
  go_wp2_with fail
  go_region_with (first
    | (go_at_call 23; refine (hcp1.out _ hB1.drew).mono ?_; rintro e u1 ⟨a1, k1', rfl, hz1, hb2⟩; have hQ2 := Lib.hid (hQ1.out.drew.below hb2); have hR2 := Lib.hid ((hR1.out.drew hQ1.out.rl).below hQ1.out.drew.rl hb2))
    | (go_at_call 22; refine (rpush_full qb rb room pos by_ dr num t C a1 m k1' _ hQ2.out).mono ?_; rintro e u2 ⟨rfl, hb3⟩))
  all_goals
    have hQ3 := hQ2.out.below hb3
    have hR3 := hR2.out.below hQ2.out.rl hb3
    have c4 := hQ3.c4
    have qf := hQ3.f
    have hK3 : Kept w u2 qb rb := ((Kept.of_below hB1.drew hq).trans (Kept.of_below hb2 (by have := hB1.size; simp; omega))).trans (Kept.of_below hb3 (World.block_lt_of_cell? _ _ hQ2.out.c0))
    have hQ4 := hQ3.set_dr (dr + 1) (by have := hdd.out; omega)
    have hR4 := hR3.set_q hQ3.ne 4 (.int .i64 ((dr + 1 : Nat) : Int))
    have hK4 := hK3.trans (Kept.set (rb := rb) qb 4 (.int .i64 ((dr + 1 : Nat) : Int)) (.inl rfl))
    rw [Int.natCast_add, Int.natCast_one] at hQ4 hR4 hK4
    replace hQ4 := Lib.hid hQ4
    replace hR4 := Lib.hid hR4
    replace hK4 := Lib.hid hK4
    clear hQ3 hR3 hK3 hb3 hb2
    go_wp2_with fail
    exact bodyPost_ret (v := .int .i64 100) (by simp [results, Try.results13, go_sem]) rfl ⟨rfl, hQ4.out, hR4.out, hK4.out⟩

set_option maxRecDepth 100000 in
set_option maxHeartbeats 4000000 in
theorem qheadF_ok (qb rb room pos n by_ dr : Nat) (num t C : Int) (a : Option Addr) (m cm : Nat) (pk : Nat → Nat → Value) (w : World) (h : QAt w qb rb room pos n by_ dr) (hr : RingAt w rb room pk) (hn : 0 < n) (v0 : pk pos 0 = .int .i64 num) (v1 : pk pos 1 = .int .i64 t) (v2 : pk pos 2 = .int .i64 C) (v3 : pk pos 3 = .slice a m cm) (d : List Nat) (hcp : CopyF num t C a m cm d w) :
    Calls Try.prog 18 #[.pointer (some ⟨qb, 0, none⟩)] w (HeadF num t C m d w) := by
  have hB := (Below.refl w.heap.size w).alloc (Nat.le_refl _) (.cells #[.int .i64 0, .int .i64 0, .int .i64 0, .slice none 0 0] 25)
  have hQ := h.below hB
  have hR := hr.below h.rl hB
  have hn' : ((n : Nat) : Int) ≠ 0 := by omega
  have hnb : (((n : Nat) : Int) == 0) = false := by simp; omega
  have hp : (pos + 0) % room = pos := by rw [Nat.add_zero]; exact Nat.mod_eq_of_lt h.pos1
  have hlk := Lib.hid (rlook_c qb rb room pos n by_ dr 0 num t C a m cm pk _ hQ hR (by omega) (by rw [hp]; exact v0) (by rw [hp]; exact v1) (by rw [hp]; exact v2) (by rw [hp]; exact v3))
  have hln := Lib.hid (qlen_c qb rb room pos n by_ dr _ hQ)
  have hcp1 := Lib.hid hcp
  have x0 : (w.alloc (.cells #[.int .i64 0, .int .i64 0, .int .i64 0, .slice none 0 0] 25)).cell? ⟨w.heap.size, 0, none⟩ = some (.int .i64 0) := by go_simp
  have x1 : (w.alloc (.cells #[.int .i64 0, .int .i64 0, .int .i64 0, .slice none 0 0] 25)).cell? ⟨w.heap.size, 1, none⟩ = some (.int .i64 0) := by go_simp
  have x2 : (w.alloc (.cells #[.int .i64 0, .int .i64 0, .int .i64 0, .slice none 0 0] 25)).cell? ⟨w.heap.size, 2, none⟩ = some (.int .i64 0) := by go_simp
  have x3 : (w.alloc (.cells #[.int .i64 0, .int .i64 0, .int .i64 0, .slice none 0 0] 25)).cell? ⟨w.heap.size, 3, none⟩ = some (.slice none 0 0) := by go_simp
  have xf : ∀ o, (w.alloc (.cells #[.int .i64 0, .int .i64 0, .int .i64 0, .slice none 0 0] 25)).frozen? ⟨w.heap.size, o, none⟩ = false := fun o => by go_simp
  clear v0 v1 v2 v3 hcp hp h hr hQ hR hn
  go_enter Try.func18, Try.ntmps18
  go_wp2_with (go_at_call 8; refine hln.out.mono ?_; rintro e w1 ⟨rfl, rfl⟩)
  refine hlk.out.mono ?_
  rintro e w2 ⟨rfl, hb2⟩
  have hB2 := bNext hB hb2 (Nat.le_refl _)
  go_wp2_with fail
  refine (hcp1.out _ hB2).mono ?_
  rintro e w3 ⟨a1, c1, rfl, hz, hb3⟩
  have hB3 := bNext hB2 hb3 (Nat.le_refl _)
  have hb23 := bNext hb2 hb3 (Nat.le_refl _)
  have y0 := (hb23.cell (p := ⟨w.heap.size, 0, none⟩) (by simp)).trans x0
  have y1 := (hb23.cell (p := ⟨w.heap.size, 1, none⟩) (by simp)).trans x1
  have y2 := (hb23.cell (p := ⟨w.heap.size, 2, none⟩) (by simp)).trans x2
  have y3 := (hb23.cell (p := ⟨w.heap.size, 3, none⟩) (by simp)).trans x3
  have yf := fun o => (hb23.frozen (p := ⟨w.heap.size, o, none⟩) (by simp)).trans (xf o)
  have hs2 := hb2.size
  rw [World.size_alloc] at hs2
  have hzf := Lib.hid hz.2
  replace hz := Lib.hid hz.1
  clear x0 x1 x2 x3 xf hb2 hb3 hb23 hB2
  obtain ⟨s0, s1, s2, s3⟩ := Pk.set4 (.int .i64 num) (.int .i64 t) (.int .i64 C) (.slice a1 m c1) y0 y1 y2 y3
  have hB4 := Pk.below4 hB3 (Nat.le_refl _) (.int .i64 num) (.int .i64 t) (.int .i64 C) (.slice a1 m c1)
  go_wp2_with fail
  exact bodyPost_ret (v := .tuple #[.agg #[.int .i64 num, .int .i64 t, .int .i64 C, .slice a1 m c1], .bool true]) (by simp [results, Try.results18, go_sem, s0, s1, s2, s3]) rfl ⟨⟨a1, c1, rfl, ((((hz.out.setFar hzf.out (by omega)).setFar hzf.out (by omega)).setFar hzf.out (by omega)).setFar hzf.out (by omega)), hzf.out.mono (by omega)⟩, hB4⟩

set_option maxRecDepth 100000 in
set_option maxHeartbeats 4000000 in
theorem qpopF_ok (qb rb room pos n by_ dr : Nat) (num t C : Int) (a : Option Addr) (m cm : Nat) (pk : Nat → Nat → Value) (w : World) (h : QAt w qb rb room pos n by_ dr) (hr : RingAt w rb room pk) (hn : 0 < n) (hm : m ≤ 1492) (hby : 8 + m ≤ by_) (v0 : pk pos 0 = .int .i64 num) (v1 : pk pos 1 = .int .i64 t) (v2 : pk pos 2 = .int .i64 C) (v3 : pk pos 3 = .slice a m cm) (d : List Nat) (hcp : CopyF num t C a m cm d w) :
    Calls Try.prog 14 #[.pointer (some ⟨qb, 0, none⟩)] w (PopF qb rb room pos n by_ dr num t C m d pk w) := by
  have hq : qb < w.heap.size := World.block_lt_of_cell? _ _ h.c0
  have hrl := h.rl
  have hB := (Below.refl w.heap.size w).alloc (Nat.le_refl _) (.cells #[.int .i64 0, .int .i64 0, .int .i64 0, .slice none 0 0] 25)
  have hh := Lib.hid (qheadF_ok qb rb room pos n by_ dr num t C a m cm pk _ (h.below hB) (hr.below h.rl hB) hn v0 v1 v2 v3 d (fun u hu => hcp u (bNext hB hu (Nat.le_refl _))))
  have x0 : (w.alloc (.cells #[.int .i64 0, .int .i64 0, .int .i64 0, .slice none 0 0] 25)).cell? ⟨w.heap.size, 0, none⟩ = some (.int .i64 0) := by go_simp
  have x1 : (w.alloc (.cells #[.int .i64 0, .int .i64 0, .int .i64 0, .slice none 0 0] 25)).cell? ⟨w.heap.size, 1, none⟩ = some (.int .i64 0) := by go_simp
  have x2 : (w.alloc (.cells #[.int .i64 0, .int .i64 0, .int .i64 0, .slice none 0 0] 25)).cell? ⟨w.heap.size, 2, none⟩ = some (.int .i64 0) := by go_simp
  have x3 : (w.alloc (.cells #[.int .i64 0, .int .i64 0, .int .i64 0, .slice none 0 0] 25)).cell? ⟨w.heap.size, 3, none⟩ = some (.slice none 0 0) := by go_simp
  have xf : ∀ o, (w.alloc (.cells #[.int .i64 0, .int .i64 0, .int .i64 0, .slice none 0 0] 25)).frozen? ⟨w.heap.size, o, none⟩ = false := fun o => by go_simp
  clear v0 v1 v2 v3 hcp
  replace h := Lib.hid h
  replace hr := Lib.hid hr
  replace hby := Lib.hid hby
  go_enter Try.func14, Try.ntmps14
  go_wp2_with fail
  refine hh.out.mono ?_
  rintro e w2 ⟨⟨a1, c1, rfl, hz⟩, hb2⟩
  rw [World.size_alloc] at hz
  have hzf := Lib.hid hz.2
  replace hz := Lib.hid hz.1
  have hB2 := bNext hB hb2 (Nat.le_refl _)
  have hs2 := hb2.size
  rw [World.size_alloc] at hs2
  have hb3 := (Below.refl w2.heap.size w2).alloc (Nat.le_refl _) (.cells #[.int .i64 num, .int .i64 t, .int .i64 C, .slice a1 m c1] 25)
  have K : ∀ o, (w2.alloc (.cells #[.int .i64 num, .int .i64 t, .int .i64 C, .slice a1 m c1] 25)).cell? ⟨w.heap.size, o, none⟩ = (w.alloc (.cells #[.int .i64 0, .int .i64 0, .int .i64 0, .slice none 0 0] 25)).cell? ⟨w.heap.size, o, none⟩ := fun o => (hb3.cell (p := ⟨w.heap.size, o, none⟩) (by simp only; omega)).trans (hb2.cell (p := ⟨w.heap.size, o, none⟩) (by simp))
  have F : ∀ o, (w2.alloc (.cells #[.int .i64 num, .int .i64 t, .int .i64 C, .slice a1 m c1] 25)).frozen? ⟨w.heap.size, o, none⟩ = false := fun o => (hb3.frozen (p := ⟨w.heap.size, o, none⟩) (by simp only; omega)).trans ((hb2.frozen (p := ⟨w.heap.size, o, none⟩) (by simp)).trans (xf o))
  have y0 := (K 0).trans x0
  have y1 := (K 1).trans x1
  have y2 := (K 2).trans x2
  have y3 := (K 3).trans x3
  have z0 : (w2.alloc (.cells #[.int .i64 num, .int .i64 t, .int .i64 C, .slice a1 m c1] 25)).cell? ⟨w2.heap.size, 0, none⟩ = some (.int .i64 num) := by go_simp
  have z1 : (w2.alloc (.cells #[.int .i64 num, .int .i64 t, .int .i64 C, .slice a1 m c1] 25)).cell? ⟨w2.heap.size, 1, none⟩ = some (.int .i64 t) := by go_simp
  have z2 : (w2.alloc (.cells #[.int .i64 num, .int .i64 t, .int .i64 C, .slice a1 m c1] 25)).cell? ⟨w2.heap.size, 2, none⟩ = some (.int .i64 C) := by go_simp
  have z3 : (w2.alloc (.cells #[.int .i64 num, .int .i64 t, .int .i64 C, .slice a1 m c1] 25)).cell? ⟨w2.heap.size, 3, none⟩ = some (.slice a1 m c1) := by go_simp
  have hB3 := bNext hB2 hb3 (Nat.le_refl _)
  have hzW := Lib.hid (hz.out.bel hb3)
  have hWs : w2.heap.size < (w2.alloc (.cells #[.int .i64 num, .int .i64 t, .int .i64 C, .slice a1 m c1] 25)).heap.size := by simp
  clear K x0 x1 x2 x3 xf hb2 hb3 hh hB hB2
  go_upto_region 2 with fail
  generalize (w2.alloc (.cells #[.int .i64 num, .int .i64 t, .int .i64 C, .slice a1 m c1] 25)) = W at y0 y1 y2 y3 z0 z1 z2 z3 F hB3 hWs hzW ⊢
  have hQW := h.out.below hB3
  have hRW := hr.out.below hrl hB3
  have hpp := Lib.hid (rpop_c qb rb room pos n by_ dr pk W hQW hRW hn)
  have hKW := Kept.of_below (rb := rb) hB3 hq
  clear hQW hRW
  go_wp2_with fail
  refine hpp.out.mono ?_
  rintro e w4 ⟨⟨vv, rfl⟩, hQ4, hR4, hK4⟩
  have hz4 := Lib.hid (hzW.out.kept hzf.out (by omega) (by omega) hK4)
  have e1 : ∀ o, w4.cell? ⟨w.heap.size, o, none⟩ = W.cell? ⟨w.heap.size, o, none⟩ := fun o => World.cell?_of_block (hK4.block w.heap.size (by omega) (by omega) (by omega))
  have e2 : ∀ o, w4.cell? ⟨w2.heap.size, o, none⟩ = W.cell? ⟨w2.heap.size, o, none⟩ := fun o => World.cell?_of_block (hK4.block w2.heap.size hWs (by omega) (by omega))
  have e3 : ∀ o, w4.frozen? ⟨w.heap.size, o, none⟩ = false := fun o => (World.frozen?_of_block (hK4.block w.heap.size (by omega) (by omega) (by omega))).trans (F o)
  replace y0 := (e1 0).trans y0
  replace y1 := (e1 1).trans y1
  replace y2 := (e1 2).trans y2
  replace y3 := (e1 3).trans y3
  replace z0 := (e2 0).trans z0
  replace z1 := (e2 1).trans z1
  replace z2 := (e2 2).trans z2
  replace z3 := (e2 3).trans z3
  have hK5 := Lib.hid (hKW.trans hK4)
  have hs4 := hK4.size
  have c3 := hQ4.c3
  have qf := hQ4.f
  have hq4 : qb < w4.heap.size := World.block_lt_of_cell? _ _ c3
  replace hQ4 := Lib.hid hQ4
  replace hR4 := Lib.hid hR4
  have hm4 : w.heap.size < w4.heap.size := by omega
  have hm5 : w2.heap.size < w4.heap.size := by omega
  clear e1 e2 F hKW hK4 hpp
  go_wp2_with fail
  go_region_with (go_at_call 21; refine (qsize_c num t C a1 m c1 _ (by omega)).mono ?_; rintro e w5 ⟨rfl, hb5⟩; have d3 := (hb5.cell (p := ⟨qb, 3, none⟩) (by simpa using hq4)).trans (show w4.drew.cell? _ = _ by simpa using c3); have df := fun o => (hb5.frozen (p := ⟨qb, o, none⟩) (by simpa using hq4)).trans (show w4.drew.frozen? _ = _ by simpa using qf o))
  all_goals
    have hby1 := hby.out
    have hbyU := (h.out).by1
    have wr : IntKind.i64.wrap ((by_ : Int) - (8 + (m : Int))) = ((by_ - (8 + m) : Nat) : Int) := by rw [IntWalk.i64_in _ ⟨by omega, by omega⟩]; omega
    have hQ6 := ((hQ4.out.drew).below hb5).set_by (by_ - (8 + m)) (by omega)
    have hR6 := ((hR4.out.drew hQ4.out.rl).below hQ4.out.drew.rl hb5).set_q hQ4.out.ne 3 (.int .i64 ((by_ - (8 + m) : Nat) : Int))
    have hK6 := ((hK5.out.trans (Kept.drew 1)).trans (Kept.of_below hb5 (by simpa using hq4))).trans (Kept.set (rb := rb) qb 3 (.int .i64 ((by_ - (8 + m) : Nat) : Int)) (.inl rfl))
    have hz6 := hz4.out.kept hzf.out (by omega) (by omega) (((Kept.drew 1).trans (Kept.of_below hb5 (by simpa using hq4))).trans (Kept.set (rb := rb) qb 3 (.int .i64 ((by_ - (8 + m) : Nat) : Int)) (.inl rfl)))
    have G : ∀ b o, b < w4.heap.size → b ≠ qb → (w5.setCell ⟨qb, 3, none⟩ (.int .i64 ((by_ - (8 + m) : Nat) : Int))).cell? ⟨b, o, none⟩ = w4.cell? ⟨b, o, none⟩ := fun b o hb hne => (World.cell?_setCell_other _ _ _ _ (by simp <;> omega)).trans ((hb5.cell (p := ⟨b, o, none⟩) (by simpa using hb)).trans (by simp))
    have Gf : ∀ o, (w5.setCell ⟨qb, 3, none⟩ (.int .i64 ((by_ - (8 + m) : Nat) : Int))).frozen? ⟨w.heap.size, o, none⟩ = false := fun o => (World.frozen?_setCell _ _ _ _).trans ((hb5.frozen (p := ⟨w.heap.size, o, none⟩) (by simpa using hm4)).trans (by simpa using e3 o))
    have r0 := (G w.heap.size 0 hm4 (by omega)).trans y0
    have r1 := (G w.heap.size 1 hm4 (by omega)).trans y1
    have r2 := (G w.heap.size 2 hm4 (by omega)).trans y2
    have r3 := (G w.heap.size 3 hm4 (by omega)).trans y3
    have t0 := (G w2.heap.size 0 hm5 (by omega)).trans z0
    have t1 := (G w2.heap.size 1 hm5 (by omega)).trans z1
    have t2 := (G w2.heap.size 2 hm5 (by omega)).trans z2
    have t3 := (G w2.heap.size 3 hm5 (by omega)).trans z3
    simp only [wr]
    clear G d3 df wr hb5 hbyU hby1 y0 y1 y2 y3 z0 z1 z2 z3 e3 c3 qf
    generalize w5.setCell ⟨qb, 3, none⟩ (.int .i64 ((by_ - (8 + m) : Nat) : Int)) = Z at hQ6 hR6 hK6 hz6 Gf r0 r1 r2 r3 t0 t1 t2 t3 ⊢
    have n1 : w.heap.size ≠ qb := by omega
    have n2 : w.heap.size ≠ rb := by omega
    have hQ7 := Lib.hid ((((hQ6.set_far w.heap.size 0 (.int .i64 num) n1 n2).set_far w.heap.size 1 (.int .i64 t) n1 n2).set_far w.heap.size 2 (.int .i64 C) n1 n2).set_far w.heap.size 3 (.slice a1 m c1) n1 n2)
    have hR7 := Lib.hid ((((hR6.set_far w.heap.size 0 (.int .i64 num) n2).set_far w.heap.size 1 (.int .i64 t) n2).set_far w.heap.size 2 (.int .i64 C) n2).set_far w.heap.size 3 (.slice a1 m c1) n2)
    have hK7 := Lib.hid ((((hK6.setNew hq w.heap.size 0 (.int .i64 num) (Nat.le_refl _)).setNew hq w.heap.size 1 (.int .i64 t) (Nat.le_refl _)).setNew hq w.heap.size 2 (.int .i64 C) (Nat.le_refl _)).setNew hq w.heap.size 3 (.slice a1 m c1) (Nat.le_refl _))
    have hz7 := Lib.hid ((((hz6.setFar hzf.out (show w.heap.size < w.heap.size + 1 by omega) (o := 0) (v := .int .i64 num)).setFar hzf.out (show w.heap.size < w.heap.size + 1 by omega) (o := 1) (v := .int .i64 t)).setFar hzf.out (show w.heap.size < w.heap.size + 1 by omega) (o := 2) (v := .int .i64 C)).setFar hzf.out (show w.heap.size < w.heap.size + 1 by omega) (o := 3) (v := .slice a1 m c1))
    clear hQ6 hR6 hK6 hz6
    obtain ⟨s0, s1, s2, s3⟩ := Pk.set4 (.int .i64 num) (.int .i64 t) (.int .i64 C) (.slice a1 m c1) r0 r1 r2 r3
    go_wp2_with fail
    exact bodyPost_ret (v := .tuple #[.agg #[.int .i64 num, .int .i64 t, .int .i64 C, .slice a1 m c1], .int .i64 0]) (by simp [results, Try.results14, go_sem, s0, s1, s2, s3]) rfl ⟨a1, c1, rfl, ⟨hz7.out, hzf.out.mono (by omega)⟩, hQ7.out, hR7.out, hK7.out⟩

end Go.Proofs.Ytndlldlanjhanaa
