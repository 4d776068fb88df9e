/- The scheduler: rows of ints compared; the law's own examples. -/
import Derived.Test.YtbbcongfaoopcaaF26
namespace Go.Proofs.Ytbbcongfaoopcaa
open Go.ChangeShapes Go.WideShapes Go.ChangeAt Go.RowKit Go.Maps
set_option linter.unusedVariables false
set_option linter.unusedSimpArgs false
open BigFrame Pk Fq Vr Fa

namespace Fa
def qf (l : List (List Int)) : Nat → List Int := fun i => l.getD i []
theorem ex_one : servedN 2 (sumW (gd [1, 1]) 2) (gd [1, 1]) (qf [[10, 10], [10, 10]]) 4 sched0 t0 = [0, 1, 0, 1] := by decide +kernel
theorem ex_two : servedN 2 (sumW (gd [3, 1]) 2) (gd [3, 1]) (qf [[10, 10, 10], [10, 10]]) 5 sched0 t0 = [0, 1, 0, 0, 1] := by decide +kernel
theorem run_one : runR [1, 1] 2 (qf [[10, 10], [10, 10]]) = [0, 1, 0, 1] := by
  unfold runR
  rw [if_pos ⟨⟨by decide, by decide, by decide⟩, rfl, fun i hi x hx => by
    rcases (show i = 0 ∨ i = 1 by omega) with rfl | rfl <;> simp [qf] at hx <;> omega, by decide +kernel⟩]
  exact ex_one
theorem run_two : runR [3, 1] 2 (qf [[10, 10, 10], [10, 10]]) = [0, 1, 0, 0, 1] := by
  unfold runR
  rw [if_pos ⟨⟨by decide, by decide, by decide⟩, rfl, fun i hi x hx => by
    rcases (show i = 0 ∨ i = 1 by omega) with rfl | rfl <;> simp [qf] at hx <;> omega, by decide +kernel⟩]
  exact ex_two
theorem run_none : runR [1] 0 (qf []) = [] := by
  unfold runR
  rw [if_neg (fun q => by have := q.2.1; simp at this)]
theorem iat_blk {w : World} {b n c : Nat} {d : List Int} (h : Blk w b (zC d)) (hn : d.length = n) (hc : n ≤ c) (hm : c ≤ 9223372036854775807) : IAt w (some ⟨b, 0, none⟩) n c d :=
  ⟨hn, hc, hm, fun _ => ⟨b, 0, rfl, h.l, fun i x hx => by rw [Nat.zero_add]; exact h.c i _ (zC_at hx)⟩⟩
/-- Ints are read so. -/
structure IRd (w : World) (a : Option Addr) (n : Nat) (d : List Int) : Prop where
  len : d.length = n
  max : n ≤ 9223372036854775807
  row : 0 < n → ∃ b off, a = some ⟨b, off, none⟩ ∧ b < w.heap.size ∧ ∀ i x, d[i]? = some x → w.cell? ⟨b, off + i, none⟩ = some (.int .i64 x)
theorem IAt.rd {w : World} {a : Option Addr} {n c : Nat} {d : List Int} (h : IAt w a n c d) : IRd w a n d := ⟨h.len, Nat.le_trans h.cap h.max, h.row⟩
theorem IRd.bel {w w' : World} {a : Option Addr} {n : Nat} {d : List Int} (h : IRd w a n d) (k : Below w.heap.size w w') : IRd w' a n d :=
  ⟨h.len, h.max, fun hn => by
    obtain ⟨b, off, rfl, hb, hc⟩ := h.row hn
    exact ⟨b, off, rfl, Nat.lt_of_lt_of_le hb k.size, fun i x hx => (k.cell (p := ⟨b, off + i, none⟩) hb).trans (hc i x hx)⟩⟩
theorem OwnZ.rd {w : World} {B : Nat} {a : Option Addr} {n c : Nat} {l : List Int} (h : OwnZ w B (.slice a n c) l) (hn : n = l.length) (hm : l.length ≤ 9223372036854775807) : IRd w a n l := by
  refine ⟨hn.symm, by omega, fun h0 => ?_⟩
  subst hn
  unfold OwnZ at h
  obtain ⟨g, cap, e, hb, hl⟩ := h.form h0
  cases e
  refine ⟨g, 0, rfl, hl, fun i x hx => ?_⟩
  have hi : i < l.length := (List.getElem?_eq_some_iff.1 hx).1
  rw [Nat.zero_add, h.cellAt i (by omega)]
  exact zC_at hx
def lit3 (w : World) (d0 d1 d2 : List Int) (ti tq : TypeId) : World :=
  (((w.alloc (.cells (zC d0).toArray ti)).alloc (.cells (zC d1).toArray ti)).alloc (.cells (zC d2).toArray ti)).alloc (.cells #[.slice (some ⟨w.heap.size + 1, 0, none⟩) d1.length d1.length, .slice (some ⟨w.heap.size + 1 + 1, 0, none⟩) d2.length d2.length] tq)
theorem lit3_ok (w : World) (d0 d1 d2 : List Int) (ti tq : TypeId) (h0 : d0.length ≤ 1000) (h1 : d1.length ≤ 1000) (h2 : d2.length ≤ 1000) :
    IAt (lit3 w d0 d1 d2 ti tq) (some ⟨w.heap.size, 0, none⟩) d0.length d0.length d0 ∧
    QsAt (lit3 w d0 d1 d2 ti tq) (some ⟨w.heap.size + 1 + 1 + 1, 0, none⟩) (w.heap.size + 1 + 1 + 1) 0 2 (fun i => if i = 0 then some ⟨w.heap.size + 1, 0, none⟩ else some ⟨w.heap.size + 1 + 1, 0, none⟩) (fun i => if i = 0 then d1.length else d2.length) (fun i => if i = 0 then d1.length else d2.length) (qf [d1, d2]) ∧
    Below w.heap.size w (lit3 w d0 d1 d2 ti tq) := by
  unfold lit3
  have b0 := blkN_new w (zC d0) ti
  have k0 := (Below.refl w.heap.size w).alloc (Nat.le_refl _) (.cells (zC d0).toArray ti)
  have s0 : (w.alloc (.cells (zC d0).toArray ti)).heap.size = w.heap.size + 1 := by simp
  generalize w.alloc (.cells (zC d0).toArray ti) = w0 at b0 k0 s0 ⊢
  have b1 := blkN_new w0 (zC d1) ti
  have k1 := (Below.refl w0.heap.size w0).alloc (Nat.le_refl _) (.cells (zC d1).toArray ti)
  have s1 : (w0.alloc (.cells (zC d1).toArray ti)).heap.size = w0.heap.size + 1 := by simp
  generalize w0.alloc (.cells (zC d1).toArray ti) = w1 at b1 k1 s1 ⊢
  have b2 := blkN_new w1 (zC d2) ti
  have k2 := (Below.refl w1.heap.size w1).alloc (Nat.le_refl _) (.cells (zC d2).toArray ti)
  have s2 : (w1.alloc (.cells (zC d2).toArray ti)).heap.size = w1.heap.size + 1 := by simp
  generalize w1.alloc (.cells (zC d2).toArray ti) = w2 at b2 k2 s2 ⊢
  have b3 := blkN_new w2 [.slice (some ⟨w.heap.size + 1, 0, none⟩) d1.length d1.length, .slice (some ⟨w.heap.size + 1 + 1, 0, none⟩) d2.length d2.length] tq
  have k3 := (Below.refl w2.heap.size w2).alloc (Nat.le_refl _) (.cells [.slice (some ⟨w.heap.size + 1, 0, none⟩) d1.length d1.length, .slice (some ⟨w.heap.size + 1 + 1, 0, none⟩) d2.length d2.length].toArray tq)
  rw [s2, s1, s0] at b3
  rw [s1, s0] at b2
  rw [s0] at b1
  have b0' := ((b0.bel k1).bel k2).bel k3
  have b1' := (b1.bel k2).bel k3
  have b2' := b2.bel k3
  refine ⟨iat_blk b0' rfl (Nat.le_refl _) (by omega), ⟨fun _ => rfl, fun _ => b3.l, fun i hi => ?_, fun i hi => ?_⟩, ?_⟩
  · rcases (show i = 0 ∨ i = 1 by omega) with rfl | rfl
    · exact b3.c 0 _ rfl
    · exact b3.c 1 _ rfl
  · rcases (show i = 0 ∨ i = 1 by omega) with rfl | rfl
    · exact iat_blk b1' rfl (Nat.le_refl _) (by show d1.length ≤ _; omega)
    · exact iat_blk b2' rfl (Nat.le_refl _) (by show d2.length ≤ _; omega)
  · exact bNext (bNext (bNext k0 k1 (by omega)) k2 (by omega)) k3 (by omega)
/-- The same ints? -/
theorem row_end {d1 d2 : List Int} {n : Nat} (h1 : d1.length = n) (h2 : d2.length = n) (h : ∀ i, i < n → d1[i]? = d2[i]?) : d1 = d2 := by
  apply List.ext_getElem?
  intro i
  by_cases hi : i < n
  · exact h i hi
  · rw [List.getElem?_eq_none (by omega), List.getElem?_eq_none (by omega)]
end Fa

set_option maxRecDepth 100000 in
set_option maxHeartbeats 4000000 in
theorem row_c (w : World) (a1 a2 : Option Addr) (n1 c1 n2 c2 : Nat) (d1 d2 : List Int) (T1 : IRd w a1 n1 d1) (T2 : IRd w a2 n2 d2) :
    Calls Try.prog 8 #[.slice a1 n1 c1, .slice a2 n2 c2] w fun e w' => e = .returned (.bool (decide (d1 = d2))) ∧ Below w.heap.size w w' := by
  have hl1 := T1.len
  have hl2 := T2.len
  have hm1 := T1.max
  have hm2 := T2.max
  replace T1 := Lib.hid T1
  replace T2 := Lib.hid T2
  by_cases hn : n1 = n2
  · subst hn
    have hnz : (n1 : Int) ≤ 9223372036854775807 := by omega
    replace hl1 := Lib.hid hl1
    replace hl2 := Lib.hid hl2
    go_enter Try.func8, Try.ntmps8
    go_wp2_with fail
    go_loopw [5] (fun s3 wr => ∃ kk : Nat, kk ≤ n1 ∧ s3 = .int .i64 (kk : Nat) ∧ Below w.heap.size w wr ∧ RowKit.Hid (∀ i, i < kk → d1[i]? = d2[i]?)) (fun s3 _ => n1 - (intOf s3).toNat)
    case atStart => exact ⟨0, Nat.zero_le _, rfl, Below.refl _ _, Lib.hid (fun i hi => by omega)⟩
    case round =>
      obtain ⟨kk, hkk, rfl, hBr, hsame⟩ := hrel
      by_cases hlt : kk < n1
      · have hltz : (kk : Int) < (n1 : Int) := by omega
        obtain ⟨b1, o1, rfl, hb1, r1⟩ := (T1.out.bel hBr).row (by omega)
        obtain ⟨b2, o2, rfl, hb2, r2⟩ := (T2.out.bel hBr).row (by omega)
        obtain ⟨x, hx⟩ : ∃ x, d1[kk]? = some x := ⟨_, List.getElem?_eq_getElem (by have := hl1.out; omega)⟩
        obtain ⟨y, hy⟩ : ∃ y, d2[kk]? = some y := ⟨_, List.getElem?_eq_getElem (by have := hl2.out; omega)⟩
        have x0 := r1 kk x hx
        have y0 := r2 kk y hy
        replace hx := Lib.hid hx
        replace hy := Lib.hid hy
        clear r1 r2
        by_cases hxy : x = y
        · subst hxy
          go_wp2_with fail
          go_big_quiet (fail)
          go_wp2_with fail
          go_roundw
          case rel =>
            refine ⟨kk + 1, by omega, by go_num, bDrew hBr nq, Lib.hid (fun i hi => ?_)⟩
            by_cases e : i = kk
            · subst e; rw [hx.out, hy.out]
            · exact hsame.out i (by omega)
          case measure => simp [intOf]; omega
        · have hd : RowKit.Hid (decide (d1 = d2) = false) := Lib.hid (decide_eq_false (fun q => hxy (by have h1 := hx.out; have h2 := hy.out; rw [q, h2] at h1; injection h1 with h1; exact h1.symm)))
          go_wp2_with fail
          go_big_quiet (fail)
          go_wp2_with fail
          refine bodyPost_ret (v := .bool false) (by simp [results, Try.results8, go_sem]) rfl ⟨by rw [hd.out], bDrew hBr nq⟩
      · obtain rfl : kk = n1 := by omega
        have hltz : ¬ (kk : Int) < (kk : Int) := by omega
        have hd : RowKit.Hid (decide (d1 = d2) = true) := Lib.hid (decide_eq_true (row_end hl1.out hl2.out hsame.out))
        go_wp2_with fail
        refine bodyPost_ret (v := .bool true) (by simp [results, Try.results8, go_sem]) rfl ⟨by rw [hd.out], hBr⟩
  · have hnz : ¬ (n1 : Int) = (n2 : Int) := by omega
    have hd : RowKit.Hid (decide (d1 = d2) = false) := Lib.hid (decide_eq_false (fun q => hn (by rw [← hl1, ← hl2, q])))
    clear hn hl1 hl2
    go_enter Try.func8, Try.ntmps8
    go_wp2_with fail
    refine bodyPost_ret (v := .bool false) (by simp [results, Try.results8, go_sem]) rfl ⟨by rw [hd.out], Below.refl _ _⟩
set_option maxRecDepth 100000 in
set_option maxHeartbeats 8000000 in
theorem wakes26_c (w : World) : Calls Try.prog 7 #[] w fun e w' => e = .returned (.bool true) ∧ Below w.heap.size w w' := by
  go_enter Try.func7, Try.ntmps7
  obtain ⟨I0, Q0, B0⟩ := lit3_ok w [1, 1] [10, 10] [10, 10] 3 22 (by decide) (by decide) (by decide)
  have hr := frun_c _ _ _ _ _ _ 2 _ _ _ _ _ _ _ I0 Q0 (fun i hi => by rcases (show i = 0 ∨ i = 1 by omega) with rfl | rfl <;> decide)
  rw [run_one] at hr
  have hB0 := Lib.hid B0
  replace hr := Lib.hid hr
  clear I0 Q0 B0
  go_wp2_with fail
  refine hr.out.mono ?_
  rintro e w1 ⟨a1, n1, c1, rfl, hn1, hO1, hB1⟩
  have hB1' := Lib.hid (hB0.out.trans (hB1.mono hB0.out.size))
  have R1 := Lib.hid (hO1.rd hn1 (by decide))
  clear hr hO1 hn1 hB1 hB0
  have ha := (Below.refl w1.heap.size w1).alloc (Nat.le_refl _) (.cells (zC [0, 1, 0, 1]).toArray 3)
  have hw := row_c (w1.alloc (.cells (zC [0, 1, 0, 1]).toArray 3)) _ (some ⟨w1.heap.size, 0, none⟩) _ c1 4 4 [0, 1, 0, 1] [0, 1, 0, 1] (R1.out.bel ha) (iat_blk (blkN_new w1 (zC [0, 1, 0, 1]) 3) (by rfl) (Nat.le_refl _) (by decide)).rd
  rw [decide_eq_true rfl] at hw
  have hB2 := Lib.hid (hB1'.out.alloc hB1'.out.size (.cells (zC [0, 1, 0, 1]).toArray 3))
  replace hw := Lib.hid hw
  clear ha R1
  go_wp2_with fail
  refine hw.out.mono ?_
  rintro e w2 ⟨rfl, hb⟩
  have hB2' := Lib.hid (hB2.out.trans (hb.mono hB2.out.size))
  clear hw hb
  obtain ⟨I0, Q0, B0⟩ := lit3_ok w2 [3, 1] [10, 10, 10] [10, 10] 3 22 (by decide) (by decide) (by decide)
  have hr := frun_c _ _ _ _ _ _ 2 _ _ _ _ _ _ _ I0 Q0 (fun i hi => by rcases (show i = 0 ∨ i = 1 by omega) with rfl | rfl <;> decide)
  rw [run_two] at hr
  have hB0 := Lib.hid (hB2'.out.trans (B0.mono hB2'.out.size))
  replace hr := Lib.hid hr
  clear I0 Q0 B0
  go_wp2_with fail
  refine hr.out.mono ?_
  rintro e w3 ⟨a3, n3, c3, rfl, hn3, hO3, hB3⟩
  have hB3' := Lib.hid (hB0.out.trans (hB3.mono hB0.out.size))
  have R3 := Lib.hid (hO3.rd hn3 (by decide))
  clear hr hO3 hn3 hB3 hB0
  have ha := (Below.refl w3.heap.size w3).alloc (Nat.le_refl _) (.cells (zC [0, 1, 0, 0, 1]).toArray 3)
  have hw := row_c (w3.alloc (.cells (zC [0, 1, 0, 0, 1]).toArray 3)) _ (some ⟨w3.heap.size, 0, none⟩) _ c3 5 5 [0, 1, 0, 0, 1] [0, 1, 0, 0, 1] (R3.out.bel ha) (iat_blk (blkN_new w3 (zC [0, 1, 0, 0, 1]) 3) (by rfl) (Nat.le_refl _) (by decide)).rd
  rw [decide_eq_true rfl] at hw
  have hB4 := Lib.hid (hB3'.out.alloc hB3'.out.size (.cells (zC [0, 1, 0, 0, 1]).toArray 3))
  replace hw := Lib.hid hw
  clear ha R3
  go_wp2_with fail
  refine hw.out.mono ?_
  rintro e w4 ⟨rfl, hb⟩
  have hB4' := Lib.hid (hB4.out.trans (hb.mono hB4.out.size))
  clear hw hb
  have ha := (Below.refl w4.heap.size w4).alloc (Nat.le_refl _) (.cells (zC [1]).toArray 3)
  have hr := frun_c (w4.alloc (.cells (zC [1]).toArray 3)) (some ⟨w4.heap.size, 0, none⟩) none 1 1 0 0 0 0 [1] (fun _ => none) (fun _ => 0) (fun _ => 0) (qf []) (iat_blk (blkN_new w4 (zC [1]) 3) (by rfl) (Nat.le_refl _) (by decide)) ⟨fun h => absurd h (by decide), fun h => absurd h (by decide), fun i hi => absurd hi (by omega), fun i hi => absurd hi (by omega)⟩ (fun i hi => absurd hi (by omega))
  rw [run_none] at hr
  have hB0 := Lib.hid (hB4'.out.alloc hB4'.out.size (.cells (zC [1]).toArray 3))
  replace hr := Lib.hid hr
  clear ha
  go_wp2_with fail
  refine hr.out.mono ?_
  rintro e w5 ⟨a5, n5, c5, rfl, hn5, hO5, hB5⟩
  obtain rfl : n5 = 0 := hn5
  have hB5' := Lib.hid (hB0.out.trans (hB5.mono hB0.out.size))
  clear hr hO5 hB5 hB0
  go_wp2_with fail
  exact bodyPost_ret (v := .bool true) (by simp [results, Try.results7, go_sem]) rfl ⟨rfl, hB5'.out⟩
end Go.Proofs.Ytbbcongfaoopcaa
