/- Virtual time: New, and a flow's new tags. -/
import Derived.Test.YtkefkophlhcbiaaV3
import Derived.Deep.Cut
namespace Go.Proofs.Ytkefkophlhcbiaa
open Go.ChangeShapes Go.WideShapes Go.ChangeAt Go.RowKit
set_option linter.unusedVariables false
set_option linter.unusedSimpArgs false
open BigFrame Vr Pk Fq

namespace Vr
/-- A block of one's own, known whole, that may be written. -/
structure Blk (u : World) (b : Nat) (l : List Value) : Prop where
  c : ∀ i x, l[i]? = some x → u.cell? ⟨b, i, none⟩ = some x
  f : ∀ o, u.frozen? ⟨b, o, none⟩ = false
  l : b < u.heap.size
theorem Blk.below {u u' : World} {b m : Nat} {l : List Value} (h : Blk u b l) (k : Below m u u') (hm : b < m) : Blk u' b l :=
  ⟨fun i x hx => (k.cell (p := ⟨b, i, none⟩) hm).trans (h.c i x hx), fun o => (k.frozen (p := ⟨b, o, none⟩) hm).trans (h.f o), Nat.lt_of_lt_of_le h.l k.size⟩
theorem Blk.bel {u u' : World} {b : Nat} {l : List Value} (h : Blk u b l) (k : Below u.heap.size u u') : Blk u' b l := h.below k h.l
theorem Blk.other {u : World} {b q o : Nat} {l : List Value} (h : Blk u b l) (hne : b ≠ q) (v : Value) : Blk (u.setCell ⟨q, o, none⟩ v) b l :=
  ⟨fun i x hx => (World.cell?_setCell_other _ _ _ _ (by simp <;> omega)).trans (h.c i x hx), fun o => (World.frozen?_setCell _ _ _ _).trans (h.f o), by simpa using h.l⟩
theorem Blk.set {u : World} {b i : Nat} {l : List Value} (h : Blk u b l) (hi : i < l.length) (v : Value) : Blk (u.setCell ⟨b, i, none⟩ v) b (l.set i v) :=
  ⟨fun j x hx => by
    by_cases e : j = i
    · subst e
      rw [List.getElem?_set_self hi] at hx
      cases hx
      exact World.cell?_setCell_same _ _ _ (h.c j _ (List.getElem?_eq_getElem hi))
    · rw [List.getElem?_set_ne (by omega)] at hx
      exact (World.cell?_setCell_other _ _ _ _ (by simp <;> omega)).trans (h.c j x hx),
   fun o => (World.frozen?_setCell _ _ _ _).trans (h.f o), by simpa using h.l⟩
theorem Blk.drew {u : World} {b : Nat} {l : List Value} (h : Blk u b l) : Blk u.drew b l := h.bel (Below.refl _ _).drew
theorem TagsAt.set_other {w : World} {a : Option Addr} {b off N q o : Nat} {S F : Nat → Int} (h : TagsAt w a b off N S F) (hne : 0 < N → b ≠ q) (v : Value) : TagsAt (w.setCell ⟨q, o, none⟩ v) a b off N S F :=
  ⟨h.ha, fun hn => by simpa using h.hb hn, fun i hi => (World.cell?_setCell_other _ _ _ _ (by have := hne (by omega); simp <;> omega)).trans (h.c0 i hi), fun i hi => (World.cell?_setCell_other _ _ _ _ (by have := hne (by omega); simp <;> omega)).trans (h.c1 i hi)⟩
theorem TagsAt.set_start {w : World} {a : Option Addr} {b off N : Nat} {S F : Nat → Int} (h : TagsAt w a b off N S F) (k : Nat) (hk : k < N) (x : Int) : TagsAt (w.setCell ⟨b, off + k * 2, none⟩ (.int .i64 x)) a b off N (fun i => if i = k then x else S i) F :=
  ⟨h.ha, fun hn => by simpa using h.hb hn, fun i hi => by
    by_cases e : i = k
    · subst e; simp only [if_true]; exact World.cell?_setCell_same _ _ _ (h.c0 i hi)
    · simp only [if_neg e]; exact (World.cell?_setCell_other _ _ _ _ (by simp <;> omega)).trans (h.c0 i hi),
   fun i hi => (World.cell?_setCell_other _ _ _ _ (by simp <;> omega)).trans (h.c1 i hi)⟩
theorem TagsAt.set_finish {w : World} {a : Option Addr} {b off N : Nat} {S F : Nat → Int} (h : TagsAt w a b off N S F) (k : Nat) (hk : k < N) (x : Int) : TagsAt (w.setCell ⟨b, off + k * 2 + 1, none⟩ (.int .i64 x)) a b off N S (fun i => if i = k then x else F i) :=
  ⟨h.ha, fun hn => by simpa using h.hb hn, fun i hi => (World.cell?_setCell_other _ _ _ _ (by simp <;> omega)).trans (h.c0 i hi),
   fun i hi => by
    by_cases e : i = k
    · subst e; simp only [if_true]; exact World.cell?_setCell_same _ _ _ (h.c1 i hi)
    · simp only [if_neg e]; exact (World.cell?_setCell_other _ _ _ _ (by simp <;> omega)).trans (h.c1 i hi)⟩
theorem madeTags (n j : Nat) (h : j < n * 2) : (madeCells (Value.agg #[.int .i64 0, .int .i64 0]).cells (n * 2)).toList[j]? = some (.int .i64 0) := by
  have : j % 2 = 0 ∨ j % 2 = 1 := by omega
  have e : (Value.agg #[.int .i64 0, .int .i64 0]).cells = #[.int .i64 0, .int .i64 0] := by rfl
  rw [e]
  rcases this with h2 | h2 <;> simp [madeCells, h, h2]
/-- A virtual time in new memory, beside an error's number. -/
def VirP (V : Int) (N : Nat) (S F : Nat → Int) (x : Int) (w : World) (e : Ending) (w' : World) : Prop :=
  ∃ (a' : Option Addr) (g c' : Nat), e = .returned (.tuple #[.agg #[.int .i64 V, .slice a' N c'], .int .i64 x]) ∧ TagsAt w' a' g 0 N S F ∧ (0 < N → w.heap.size ≤ g) ∧ Below w.heap.size w w'
end Vr

set_option maxRecDepth 100000 in
set_option maxHeartbeats 2000000 in
theorem vnew_ok (n : Nat) (w : World) (h1 : 1 ≤ n) (h2 : n ≤ 8) :
    Calls Try.prog 39 #[.int .i64 (n : Nat)] w (VirP 0 n (fun _ => 0) (fun _ => 0) 0 w) := by
  obtain ⟨i0, hi0, hz0, hz1, hz2⟩ := info_parts info_tags
  have k1 : ¬ (n : Int) < 1 := by omega
  have k2 : ¬ (8 : Int) < (n : Int) := by omega
  have hB0 : Below w.heap.size w (w.alloc (.cells #[.int .i64 0, .slice none 0 0] 96)) := (Below.refl _ _).alloc (Nat.le_refl _) _
  go_enter Try.func39, Try.ntmps39
  go_wp2_with (at_make; refine wpList_make_full _ rfl _ _ 94 rfl (w.heap.size + 1) 124 i0 _ 2 Try.underlying94 hi0 hz0 hz1 .i64 .i64 _ _ n rfl rfl rfl rfl (by rw [hz2]; omega) (by unfold maxLen; omega) (by simp) ?_; intro w3 hown3 hgrow3; have KK := hgrow3.block w.heap.size (by simp) (by simp); have x0 : w3.cell? ⟨w.heap.size, 0, none⟩ = some (.int .i64 0) := (World.cell?_of_block KK).trans (by go_simp); have x1 : w3.cell? ⟨w.heap.size, 1, none⟩ = some (.slice none 0 0) := (World.cell?_of_block KK).trans (by go_simp); have f0 : ∀ o, w3.frozen? ⟨w.heap.size, o, none⟩ = false := (fun o => (World.frozen?_of_block KK).trans (by go_simp)); clear KK)
  have hsz0 : (w.alloc (.cells #[.int .i64 0, .slice none 0 0] 96)).heap.size = w.heap.size + 1 := by simp
  rw [hsz0] at hown3
  have hs3 := hgrow3.size
  have hl3 := (hown3.lt (w.heap.size + 1) rfl).2
  have hB3 : Below w.heap.size w w3 := hB0.grown hgrow3 (by simp) (fun k hk => by cases hk)
  refine bodyPost_ret (v := .tuple #[.agg #[.int .i64 0, .slice (some ⟨w.heap.size + 1, 0, none⟩) n n], .int .i64 0]) (by simp [results, Try.results39, go_sem, x0, x1]) rfl ⟨_, w.heap.size + 1, _, rfl, ?_, fun _ => by omega, ?_⟩
  · have T3 : TagsAt w3 (some ⟨w.heap.size + 1, 0, none⟩) (w.heap.size + 1) 0 n (fun _ => 0) (fun _ => 0) :=
      ⟨fun _ => rfl, fun _ => hl3, fun i hi => by rw [Nat.zero_add]; exact (hown3.cellAt (i * 2) (by omega)).trans (madeTags n _ (by omega)), fun i hi => by rw [Nat.zero_add]; exact (hown3.cellAt (i * 2 + 1) (by omega)).trans (madeTags n _ (by omega))⟩
    exact (T3.set_other (fun _ => by omega) _).set_other (fun _ => by omega) _
  · exact (hB3.setCell (p := ⟨w.heap.size, 0, none⟩) (Nat.le_refl _) _).setCell (p := ⟨w.heap.size, 1, none⟩) (Nat.le_refl _) _

set_option maxRecDepth 100000 in
set_option maxHeartbeats 2000000 in
theorem vnew_no (n : Int) (w : World) (h : n < 1 ∨ 8 < n) :
    Calls Try.prog 39 #[.int .i64 n] w fun e w' => e = .returned (.tuple #[.agg #[.int .i64 0, .slice none 0 0], .int .i64 2]) ∧ Below w.heap.size w w' := by
  have hB0 : Below w.heap.size w (w.alloc (.cells #[.int .i64 0, .slice none 0 0] 96)) := (Below.refl _ _).alloc (Nat.le_refl _) _
  by_cases k1 : n < 1
  · go_enter Try.func39, Try.ntmps39
    go_wp2_with fail
    refine bodyPost_ret (v := .tuple #[.agg #[.int .i64 0, .slice none 0 0], .int .i64 2]) (by simp [results, Try.results39, go_sem]) rfl ⟨rfl, ?_⟩
    exact hB0
  · have k2 : 8 < n := by omega
    clear h
    go_enter Try.func39, Try.ntmps39
    go_wp2_with fail
    refine bodyPost_ret (v := .tuple #[.agg #[.int .i64 0, .slice none 0 0], .int .i64 2]) (by simp [results, Try.results39, go_sem]) rfl ⟨rfl, ?_⟩
    exact hB0

set_option maxRecDepth 100000 in
set_option maxHeartbeats 4000000 in
/-- A flow's tags anew. -/
theorem vtag_ok (g : Nat) (eg : ∀ args w, (callFunc g args).run Try.prog w = .ok (.enter g args) w) (lb : Array Value) (V : Int) (k N : Nat) (cost st : Int) (a : Option Addr) (b off c : Nat) (S F : Nat → Int) (w : World) (T : TagsAt w a b off N S F) (hv : VOk V N S F) (hk : k < N)
    (hc1 : 1 ≤ cost) (hc2 : cost ≤ 138378240000) (hs1 : 0 ≤ st) (hs2 : st ≤ 1152921504606846976 - cost)
    (hcall : ∀ (W : World), Below w.heap.size w W → Calls Try.prog g (#[.agg #[.int .i64 (S k), .int .i64 (F k)]] ++ lb) W fun e w' => e = .returned (.int .i64 st) ∧ Below W.heap.size W w') :
    Calls Try.prog 67 #[.agg #[.int .i64 V, .slice a N c], .int .i64 (k : Nat), .int .i64 cost, .func (.func g) #[] lb] w (VirP V N (fun i => if i = k then st else S i) (fun i => if i = k then st + cost else F i) 0 w) := by
  obtain rfl := T.ha (by omega)
  have hN8 := hv.2.2.1
  have kk0 : (k : Int) < (N : Int) := by omega
  have kk1 : ¬ (N : Int) ≤ (k : Int) := by omega
  have cc0 : (cost == 0) = false := by simp; omega
  have kk2 : decide (N ≤ k) = false := by simp; omega
  have kk3 : decide ((k : Int) < 0) = false := by simp
  have hB0 : Below w.heap.size w ((w.alloc (.cells #[.int .i64 V, .slice (some ⟨b, off, none⟩) N c] 96)).alloc (.cells #[.int .i64 0, .slice none 0 0] 96)) := ((Below.refl _ _).alloc (Nat.le_refl _) _).alloc (by simp) _
  have bx0 : Blk ((w.alloc (.cells #[.int .i64 V, .slice (some ⟨b, off, none⟩) N c] 96)).alloc (.cells #[.int .i64 0, .slice none 0 0] 96)) w.heap.size [.int .i64 V, .slice (some ⟨b, off, none⟩) N c] := ⟨fun i x hx => by
    rcases i with _ | _ | i
    · simp at hx; subst hx; go_simp
    · simp at hx; subst hx; go_simp
    · simp at hx, fun o => by go_simp, by simp <;> omega⟩
  have rs0 : Blk ((w.alloc (.cells #[.int .i64 V, .slice (some ⟨b, off, none⟩) N c] 96)).alloc (.cells #[.int .i64 0, .slice none 0 0] 96)) (w.heap.size + 1) [.int .i64 0, .slice none 0 0] := ⟨fun i x hx => by
    rcases i with _ | _ | i
    · simp at hx; subst hx; go_simp
    · simp at hx; subst hx; go_simp
    · simp at hx, fun o => by go_simp, by simp <;> omega⟩
  have hck := vcheck_ok V _ b off N c S F _ (T.bel hB0) hv
  clear hv
  replace T := Lib.hid T
  go_enter Try.func67, Try.ntmps67
  go_wp2_with fail
  refine hck.mono ?_
  rintro e w1 ⟨rfl, hb1⟩
  have bx1 := bx0.bel hb1
  have rs1 := rs0.bel hb1
  have hB1 := bNext hB0 hb1 (by simp)
  clear bx0 rs0 hb1 hck hB0
  have p0 := bx1.c 0 _ rfl
  have p1 := bx1.c 1 _ rfl
  go_wp2_with fail
  refine (vclone_c _ b off N c S F w1 (T.out.bel hB1) (by omega)).mono ?_
  rintro e w2 ⟨a', g', c', rfl, T2, hg, hb2⟩
  obtain ⟨hg, hfz⟩ := hg (by omega)
  obtain rfl := T2.ha (by omega)
  have hw1 := hB1.size
  have bx2 := bx1.bel hb2
  have rs2 := rs1.bel hb2
  have hB2 := bNext hB1 hb2 (by omega)
  have hgb : g' ≠ w.heap.size := by have := bx1.l; omega
  have hgr : g' ≠ w.heap.size + 1 := by have := rs1.l; omega
  clear bx1 rs1 p0 p1
  have p1 := bx2.c 1 _ rfl
  have q1 := bx2.f 1
  go_upto_region 4 with fail
  have bx3 := bx2.set (i := 1) (by simp) (.slice (some ⟨g', 0, none⟩) N c')
  have rs3 := rs2.other (q := w.heap.size) (o := 1) (by omega) (.slice (some ⟨g', 0, none⟩) N c')
  have T3 := T2.set_other (q := w.heap.size) (o := 1) (fun _ => hgb) (.slice (some ⟨g', 0, none⟩) N c')
  have hB3 := hB2.setCell (p := ⟨w.heap.size, 1, none⟩) (Nat.le_refl _) (.slice (some ⟨g', 0, none⟩) N c')
  clear bx2 rs2 T2 hB2 p1 q1 hb2 hB1
  have hf3 : ∀ o, (w2.setCell ⟨w.heap.size, 1, none⟩ (.slice (some ⟨g', 0, none⟩) N c')).frozen? ⟨g', o, none⟩ = false := fun o => (World.frozen?_setCell _ _ _ _).trans (hfz o)
  clear hfz
  generalize w2.setCell ⟨w.heap.size, 1, none⟩ (.slice (some ⟨g', 0, none⟩) N c') = W3 at bx3 rs3 T3 hB3 hf3 ⊢
  have x0 := T3.c0 k hk
  have x1 := T3.c1 k hk
  rw [Nat.zero_add] at x0 x1
  have p1 := bx3.c 1 _ rfl
  go_wp2_with fail
  refine (hcall W3 hB3).mono ?_
  rintro e w4 ⟨rfl, hb4⟩
  have bx4 := bx3.bel hb4
  have rs4 := rs3.bel hb4
  have T4 := T3.bel hb4
  have hB4 := bNext hB3 hb4 (Nat.le_refl _)
  have hf4 : ∀ o, w4.frozen? ⟨g', o, none⟩ = false := fun o => (hb4.frozen (p := ⟨g', o, none⟩) (T3.hb (by omega))).trans (hf3 o)
  clear bx3 rs3 T3 hB3 p1 x0 x1 hb4 hf3
  have T5 := T4.set_start k hk st
  have T6 := T5.set_finish k hk (st + cost)
  rw [Nat.zero_add] at T5 T6
  have bx6 := (bx4.other (q := g') (o := k * 2) (by omega) (.int .i64 st)).other (q := g') (o := k * 2 + 1) (by omega) (.int .i64 (st + cost))
  have rs6 := (rs4.other (q := g') (o := k * 2) (by omega) (.int .i64 st)).other (q := g') (o := k * 2 + 1) (by omega) (.int .i64 (st + cost))
  have x0 := T4.c0 k hk
  have x1 := T4.c1 k hk
  rw [Nat.zero_add] at x0 x1
  have z0 := hf4 (k * 2)
  have z1 := hf4 (k * 2 + 1)
  have hB6 := (hB4.setCell (p := ⟨g', k * 2, none⟩) (by show _ ≤ g'; omega) (.int .i64 st)).setCell (p := ⟨g', k * 2 + 1, none⟩) (by show _ ≤ g'; omega) (.int .i64 (st + cost))
  go_upto_region 9 with fail
  generalize (w4.setCell ⟨g', k * 2, none⟩ (.int .i64 st)).setCell ⟨g', k * 2 + 1, none⟩ (.int .i64 (st + cost)) = W6 at T6 bx6 rs6 hB6 ⊢
  clear x0 x1 z0 z1 T4 T5 bx4 rs4 hB4 hf4
  have p0 := bx6.c 0 _ rfl
  have p1 := bx6.c 1 _ rfl
  have r0 := rs6.c 0 _ rfl
  have r1 := rs6.c 1 _ rfl
  have r2 := rs6.f 0
  have r3 := rs6.f 1
  go_wp2_with fail
  refine bodyPost_ret (v := .tuple #[.agg #[.int .i64 V, .slice (some ⟨g', 0, none⟩) N c'], .int .i64 0]) (by simp [results, Try.results67, go_sem, r0, r1]) rfl ⟨_, g', _, rfl, ?_, fun _ => by omega, ?_⟩
  · exact (T6.set_other (fun _ => hgr) _).set_other (fun _ => hgr) _
  · exact (hB6.setCell (p := ⟨w.heap.size + 1, 0, none⟩) (by show _ ≤ w.heap.size + 1; omega) _).setCell (p := ⟨w.heap.size + 1, 1, none⟩) (by show _ ≤ w.heap.size + 1; omega) _

set_option maxRecDepth 100000 in
set_option maxHeartbeats 4000000 in
/-- No room for its finish. -/
theorem vtag_far (g : Nat) (eg : ∀ args w, (callFunc g args).run Try.prog w = .ok (.enter g args) w) (lb : Array Value) (V : Int) (k N : Nat) (cost st : Int) (a : Option Addr) (b off c : Nat) (S F : Nat → Int) (w : World) (T : TagsAt w a b off N S F) (hv : VOk V N S F) (hk : k < N)
    (hc1 : 1 ≤ cost) (hc2 : cost ≤ 138378240000) (hs1 : 0 ≤ st) (hs2 : 1152921504606846976 - cost < st)
    (hcall : ∀ (W : World), Below w.heap.size w W → Calls Try.prog g (#[.agg #[.int .i64 (S k), .int .i64 (F k)]] ++ lb) W fun e w' => e = .returned (.int .i64 st) ∧ Below W.heap.size W w') :
    Calls Try.prog 67 #[.agg #[.int .i64 V, .slice a N c], .int .i64 (k : Nat), .int .i64 cost, .func (.func g) #[] lb] w fun e w' => e = .returned (.tuple #[.agg #[.int .i64 0, .slice none 0 0], .int .i64 2]) ∧ Below w.heap.size w w' := by
  obtain rfl := T.ha (by omega)
  have hN8 := hv.2.2.1
  have kk0 : (k : Int) < (N : Int) := by omega
  have kk1 : ¬ (N : Int) ≤ (k : Int) := by omega
  have cc0 : (cost == 0) = false := by simp; omega
  have kk2 : decide (N ≤ k) = false := by simp; omega
  have kk3 : decide ((k : Int) < 0) = false := by simp
  have hB0 : Below w.heap.size w ((w.alloc (.cells #[.int .i64 V, .slice (some ⟨b, off, none⟩) N c] 96)).alloc (.cells #[.int .i64 0, .slice none 0 0] 96)) := ((Below.refl _ _).alloc (Nat.le_refl _) _).alloc (by simp) _
  have bx0 : Blk ((w.alloc (.cells #[.int .i64 V, .slice (some ⟨b, off, none⟩) N c] 96)).alloc (.cells #[.int .i64 0, .slice none 0 0] 96)) w.heap.size [.int .i64 V, .slice (some ⟨b, off, none⟩) N c] := ⟨fun i x hx => by
    rcases i with _ | _ | i
    · simp at hx; subst hx; go_simp
    · simp at hx; subst hx; go_simp
    · simp at hx, fun o => by go_simp, by simp <;> omega⟩
  have rs0 : Blk ((w.alloc (.cells #[.int .i64 V, .slice (some ⟨b, off, none⟩) N c] 96)).alloc (.cells #[.int .i64 0, .slice none 0 0] 96)) (w.heap.size + 1) [.int .i64 0, .slice none 0 0] := ⟨fun i x hx => by
    rcases i with _ | _ | i
    · simp at hx; subst hx; go_simp
    · simp at hx; subst hx; go_simp
    · simp at hx, fun o => by go_simp, by simp <;> omega⟩
  have hck := vcheck_ok V _ b off N c S F _ (T.bel hB0) hv
  clear hv
  replace T := Lib.hid T
  go_enter Try.func67, Try.ntmps67
  go_wp2_with fail
  refine hck.mono ?_
  rintro e w1 ⟨rfl, hb1⟩
  have bx1 := bx0.bel hb1
  have rs1 := rs0.bel hb1
  have hB1 := bNext hB0 hb1 (by simp)
  clear bx0 rs0 hb1 hck hB0
  have p0 := bx1.c 0 _ rfl
  have p1 := bx1.c 1 _ rfl
  go_wp2_with fail
  refine (vclone_c _ b off N c S F w1 (T.out.bel hB1) (by omega)).mono ?_
  rintro e w2 ⟨a', g', c', rfl, T2, hg, hb2⟩
  obtain ⟨hg, hfz⟩ := hg (by omega)
  obtain rfl := T2.ha (by omega)
  have hw1 := hB1.size
  have bx2 := bx1.bel hb2
  have rs2 := rs1.bel hb2
  have hB2 := bNext hB1 hb2 (by omega)
  have hgb : g' ≠ w.heap.size := by have := bx1.l; omega
  have hgr : g' ≠ w.heap.size + 1 := by have := rs1.l; omega
  clear bx1 rs1 p0 p1
  have p1 := bx2.c 1 _ rfl
  have q1 := bx2.f 1
  go_upto_region 4 with fail
  have bx3 := bx2.set (i := 1) (by simp) (.slice (some ⟨g', 0, none⟩) N c')
  have rs3 := rs2.other (q := w.heap.size) (o := 1) (by omega) (.slice (some ⟨g', 0, none⟩) N c')
  have T3 := T2.set_other (q := w.heap.size) (o := 1) (fun _ => hgb) (.slice (some ⟨g', 0, none⟩) N c')
  have hB3 := hB2.setCell (p := ⟨w.heap.size, 1, none⟩) (Nat.le_refl _) (.slice (some ⟨g', 0, none⟩) N c')
  clear bx2 rs2 T2 hB2 p1 q1 hb2 hB1
  have hf3 : ∀ o, (w2.setCell ⟨w.heap.size, 1, none⟩ (.slice (some ⟨g', 0, none⟩) N c')).frozen? ⟨g', o, none⟩ = false := fun o => (World.frozen?_setCell _ _ _ _).trans (hfz o)
  clear hfz
  generalize w2.setCell ⟨w.heap.size, 1, none⟩ (.slice (some ⟨g', 0, none⟩) N c') = W3 at bx3 rs3 T3 hB3 hf3 ⊢
  have x0 := T3.c0 k hk
  have x1 := T3.c1 k hk
  rw [Nat.zero_add] at x0 x1
  have p1 := bx3.c 1 _ rfl
  go_wp2_with fail
  refine (hcall W3 hB3).mono ?_
  rintro e w4 ⟨rfl, hb4⟩
  have bx4 := bx3.bel hb4
  have rs4 := rs3.bel hb4
  have T4 := T3.bel hb4
  have hB4 := bNext hB3 hb4 (Nat.le_refl _)
  have hf4 : ∀ o, w4.frozen? ⟨g', o, none⟩ = false := fun o => (hb4.frozen (p := ⟨g', o, none⟩) (T3.hb (by omega))).trans (hf3 o)
  clear bx3 rs3 T3 hB3 p1 x0 x1 hb4 hf3
  have T5 := T4.set_start k hk st
  rw [Nat.zero_add] at T5
  have rs6 := rs4.other (q := g') (o := k * 2) (by omega) (.int .i64 st)
  have x0 := T4.c0 k hk
  rw [Nat.zero_add] at x0
  have z0 := hf4 (k * 2)
  have hB6 := hB4.setCell (p := ⟨g', k * 2, none⟩) (by show _ ≤ g'; omega) (.int .i64 st)
  have r0 := rs6.c 0 _ rfl
  have r1 := rs6.c 1 _ rfl
  have r2 := rs6.f 0
  have r3 := rs6.f 1
  go_wp2_with fail
  refine bodyPost_ret (v := .tuple #[.agg #[.int .i64 0, .slice none 0 0], .int .i64 2]) (by simp [results, Try.results67, go_sem, r0, r1]) rfl ⟨rfl, ?_⟩
  first | exact hB6 | exact (hB6.setCell (p := ⟨w.heap.size + 1, 0, none⟩) (by show _ ≤ w.heap.size + 1; omega) _).setCell (p := ⟨w.heap.size + 1, 1, none⟩) (by show _ ≤ w.heap.size + 1; omega) _
end Go.Proofs.Ytkefkophlhcbiaa
