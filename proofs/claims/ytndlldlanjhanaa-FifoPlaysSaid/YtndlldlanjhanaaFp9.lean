/- Queues of packets with what they hold: Pop and Head on both; All on both. -/
import Derived.Test.YtndlldlanjhanaaFp8
namespace Go.Proofs.Ytndlldlanjhanaa
open Go.ChangeShapes Go.WideShapes Go.ChangeAt Go.RowKit Go.Shelf
set_option linter.unusedVariables false
set_option linter.unusedSimpArgs false
open BigFrame By Fq Bs Fp

namespace Fp
theorem TwS.below {w0 w w' : World} {qb rb rq room d0 : Nat} (h : TwS w0 qb rb rq room d0 w) (k : Below w.heap.size w w') : TwS w0 qb rb rq room d0 w' := by
  obtain ⟨pos, dr, la, cap, l, T, hd⟩ := h
  exact ⟨pos, dr, la, cap, l, T.below k, hd⟩
end Fp

set_option maxRecDepth 100000 in
set_option maxHeartbeats 8000000 in
theorem step_pop (w0 w : World) (qb rb rq room d0 : Nat) (A B : World → Prop) (num t C k : Int) (a : Option Addr) (m c : Nat) (p : Pt) (r : Int) (hA : A w) (hAb : ∀ u u', A u → Below u.heap.size u u' → A u') (hBb : ∀ u u', B u → Below u.heap.size u u' → B u')
    (hp : ∀ u, A u → Calls Try.prog 14 #[.pointer (some ⟨qb, 0, none⟩)] u fun e u' => (∃ v, e = .returned (.tuple #[v, .int .i64 r]) ∧ OutP p v u' u.heap.size) ∧ B u' ∧ KF [qb, rb] u u')
    (hr : ∀ u, B u → Calls Try.prog 16 #[.pointer (some ⟨rq, 0, none⟩)] u fun e u' => (∃ v, e = .returned (.tuple #[v, .int .i64 r]) ∧ OutP p v u' u.heap.size) ∧ TwS w0 qb rb rq room d0 u' ∧ ∃ L : List Nat, KF L u u' ∧ ∀ q, q ∈ L → q < w.heap.size)
    (hqb : qb < w.heap.size) (hrb : rb < w.heap.size) :
    Calls Try.prog 7 #[.pointer (some ⟨qb, 0, none⟩), .pointer (some ⟨rq, 0, none⟩), .agg #[.int .i64 1, .int .i64 k, .int .i64 num, .int .i64 t, .int .i64 C, .slice a m c]] w (StepP w0 qb rb rq room d0) := by
  have hB0 := (Below.refl w.heap.size w).alloc (Nat.le_refl _) (.cells #[.int .i64 1, .int .i64 k, .int .i64 num, .int .i64 t, .int .i64 C, .slice a m c] 27)
  have hp1 := Lib.hid (hp _ (hAb _ _ hA hB0))
  replace hr := Lib.hid hr
  replace hBb := Lib.hid hBb
  obtain ⟨px, pt, pC, pd⟩ := p
  obtain ⟨pm, hpm⟩ : ∃ n, pd.length = n := ⟨_, rfl⟩
  clear hA hAb hp
  go_enter Try.func7, Try.ntmps7
  go_wp2_with fail
  refine hp1.out.mono ?_
  rintro e u1 ⟨⟨_, rfl, a1, c1, rfl, hy1, hf1⟩, hB1, hK1⟩
  simp only at hy1 hf1
  rw [hpm] at hy1 hf1
  simp only [hpm]
  have hs1 := hK1.size
  rw [World.size_alloc] at hf1 hs1
  have hbA := (Below.refl u1.heap.size u1).alloc (Nat.le_refl _) (.cells #[.int .i64 px, .int .i64 pt, .int .i64 pC, .slice a1 pm c1] 25)
  have b1 := blkN_new u1 [.int .i64 px, .int .i64 pt, .int .i64 pC, .slice a1 pm c1] 25
  have hr2 := Lib.hid (hr.out _ (hBb.out _ _ hB1 hbA))
  have hy2 := hy1.bel hbA
  have hpmH := Lib.hid hpm
  replace b1 := Lib.hid b1
  replace hy2 := Lib.hid hy2
  replace hf1 := Lib.hid hf1
  clear hB1 hK1 hy1 hp1 hr hBb hpm
  go_wp2_with fail
  refine hr2.out.mono ?_
  rintro e u3 ⟨⟨_, rfl, a2, c2, rfl, hy3, hf3⟩, hT3, L, hK3, hL⟩
  simp only at hy3 hf3
  rw [hpmH.out] at hy3 hf3
  simp only [hpmH.out]
  have b3 := hK3.blk b1.out (fun e => by have := hL _ e; omega)
  have y3 := hK3.byt hy2.out (hf1.out.notin (fun q hq => by have := hL q hq; omega))
  have hbB := (Below.refl u3.heap.size u3).alloc (Nat.le_refl _) (.cells #[.int .i64 px, .int .i64 pt, .int .i64 pC, .slice a2 pm c2] 25)
  have b4 := b3.bel hbB
  have b5 := blkN_new u3 [.int .i64 px, .int .i64 pt, .int .i64 pC, .slice a2 pm c2] 25
  have hsm := Lib.hid (rsameF_c px pt pC a1 a2 pm c1 c2 pd _ (y3.bel hbB) (hy3.bel hbB))
  have hT4 := Lib.hid (hT3.below hbB)
  have z0 := b4.c 0 _ rfl
  have z1 := b4.c 1 _ rfl
  have z2 := b4.c 2 _ rfl
  have z3 := b4.c 3 _ rfl
  have q0 := b5.c 0 _ rfl
  have q1 := b5.c 1 _ rfl
  have q2 := b5.c 2 _ rfl
  have q3 := b5.c 3 _ rfl
  clear hr2 hK3 hL b3 y3 hbB b4 b5 hT3 hy3 hf3
  go_wp2_with fail
  refine hsm.out.mono ?_
  rintro e u5 ⟨rfl, hb5⟩
  have hT5 := Lib.hid (hT4.out.below hb5)
  clear hsm hb5 z0 z1 z2 z3 q0 q1 q2 q3
  go_wp2_with fail
  go_ret
  exact ⟨rfl, hT5.out⟩

set_option maxRecDepth 100000 in
set_option maxHeartbeats 8000000 in
theorem step_head (w0 w : World) (qb rb rq room d0 : Nat) (A B : World → Prop) (num t C k : Int) (a : Option Addr) (m c : Nat) (p : Pt) (r : Bool) (hA : A w) (hAb : ∀ u u', A u → Below u.heap.size u u' → A u') (hBb : ∀ u u', B u → Below u.heap.size u u' → B u')
    (hp : ∀ u, A u → Calls Try.prog 18 #[.pointer (some ⟨qb, 0, none⟩)] u fun e u' => (∃ v, e = .returned (.tuple #[v, .bool r]) ∧ OutP p v u' u.heap.size) ∧ B u' ∧ KF [qb, rb] u u')
    (hr : ∀ u, B u → Calls Try.prog 19 #[.pointer (some ⟨rq, 0, none⟩)] u fun e u' => (∃ v, e = .returned (.tuple #[v, .bool r]) ∧ OutP p v u' u.heap.size) ∧ TwS w0 qb rb rq room d0 u' ∧ ∃ L : List Nat, KF L u u' ∧ ∀ q, q ∈ L → q < w.heap.size)
    (hqb : qb < w.heap.size) (hrb : rb < w.heap.size) :
    Calls Try.prog 7 #[.pointer (some ⟨qb, 0, none⟩), .pointer (some ⟨rq, 0, none⟩), .agg #[.int .i64 2, .int .i64 k, .int .i64 num, .int .i64 t, .int .i64 C, .slice a m c]] w (StepP w0 qb rb rq room d0) := by
  have hB0 := (Below.refl w.heap.size w).alloc (Nat.le_refl _) (.cells #[.int .i64 2, .int .i64 k, .int .i64 num, .int .i64 t, .int .i64 C, .slice a m c] 27)
  have hp1 := Lib.hid (hp _ (hAb _ _ hA hB0))
  replace hr := Lib.hid hr
  replace hBb := Lib.hid hBb
  obtain ⟨px, pt, pC, pd⟩ := p
  obtain ⟨pm, hpm⟩ : ∃ n, pd.length = n := ⟨_, rfl⟩
  clear hA hAb hp
  go_enter Try.func7, Try.ntmps7
  go_wp2_with fail
  refine hp1.out.mono ?_
  rintro e u1 ⟨⟨_, rfl, a1, c1, rfl, hy1, hf1⟩, hB1, hK1⟩
  simp only at hy1 hf1
  rw [hpm] at hy1 hf1
  simp only [hpm]
  have hs1 := hK1.size
  rw [World.size_alloc] at hf1 hs1
  have hbA := (Below.refl u1.heap.size u1).alloc (Nat.le_refl _) (.cells #[.int .i64 px, .int .i64 pt, .int .i64 pC, .slice a1 pm c1] 25)
  have b1 := blkN_new u1 [.int .i64 px, .int .i64 pt, .int .i64 pC, .slice a1 pm c1] 25
  have hr2 := Lib.hid (hr.out _ (hBb.out _ _ hB1 hbA))
  have hy2 := hy1.bel hbA
  have hpmH := Lib.hid hpm
  replace b1 := Lib.hid b1
  replace hy2 := Lib.hid hy2
  replace hf1 := Lib.hid hf1
  clear hB1 hK1 hy1 hp1 hr hBb hpm
  go_wp2_with fail
  refine hr2.out.mono ?_
  rintro e u3 ⟨⟨_, rfl, a2, c2, rfl, hy3, hf3⟩, hT3, L, hK3, hL⟩
  simp only at hy3 hf3
  rw [hpmH.out] at hy3 hf3
  simp only [hpmH.out]
  have b3 := hK3.blk b1.out (fun e => by have := hL _ e; omega)
  have y3 := hK3.byt hy2.out (hf1.out.notin (fun q hq => by have := hL q hq; omega))
  have hbB := (Below.refl u3.heap.size u3).alloc (Nat.le_refl _) (.cells #[.int .i64 px, .int .i64 pt, .int .i64 pC, .slice a2 pm c2] 25)
  have b4 := b3.bel hbB
  have b5 := blkN_new u3 [.int .i64 px, .int .i64 pt, .int .i64 pC, .slice a2 pm c2] 25
  have hsm := Lib.hid (rsameF_c px pt pC a1 a2 pm c1 c2 pd _ (y3.bel hbB) (hy3.bel hbB))
  have hT4 := Lib.hid (hT3.below hbB)
  have z0 := b4.c 0 _ rfl
  have z1 := b4.c 1 _ rfl
  have z2 := b4.c 2 _ rfl
  have z3 := b4.c 3 _ rfl
  have q0 := b5.c 0 _ rfl
  have q1 := b5.c 1 _ rfl
  have q2 := b5.c 2 _ rfl
  have q3 := b5.c 3 _ rfl
  clear hr2 hK3 hL b3 y3 hbB b4 b5 hT3 hy3 hf3
  go_wp2_with fail
  refine hsm.out.mono ?_
  rintro e u5 ⟨rfl, hb5⟩
  have hT5 := Lib.hid (hT4.out.below hb5)
  clear hsm hb5 z0 z1 z2 z3 q0 q1 q2 q3
  go_wp2_with fail
  go_ret
  exact ⟨rfl, hT5.out⟩

set_option maxRecDepth 100000 in
set_option maxHeartbeats 8000000 in
theorem step_told (w0 w : World) (qb rb rq room d0 pos dr dr2 : Nat) (la : Option Addr) (cap : Nat) (l : List Pt) (T : Tw w0 w qb rb rq room pos dr dr2 la cap l l) (hd : dr = dr2 ∧ dr ≤ d0) (act num t C k : Int) (a : Option Addr) (m c : Nat) (h0 : act ≠ 0) (h1 : act ≠ 1) (h2 : act ≠ 2) :
    Calls Try.prog 7 #[.pointer (some ⟨qb, 0, none⟩), .pointer (some ⟨rq, 0, none⟩), .agg #[.int .i64 act, .int .i64 k, .int .i64 num, .int .i64 t, .int .i64 C, .slice a m c]] w (StepP w0 qb rb rq room d0) := by
  have hB0 := (Below.refl w.heap.size w).alloc (Nat.le_refl _) (.cells #[.int .i64 act, .int .i64 k, .int .i64 num, .int .i64 t, .int .i64 C, .slice a m c] 27)
  have T1 := T.below hB0
  have y1 := T1.r.b.c 1 _ rfl
  have yk : (w.alloc (.cells #[.int .i64 act, .int .i64 k, .int .i64 num, .int .i64 t, .int .i64 C, .slice a m c] 27)).cell? ⟨w.heap.size, 1, none⟩ = some (.int .i64 k) := by go_simp
  have yd : (w.alloc (.cells #[.int .i64 act, .int .i64 k, .int .i64 num, .int .i64 t, .int .i64 C, .slice a m c] 27)).cell? ⟨w.heap.size, 0, none⟩ = some (.int .i64 act) := by go_simp
  obtain ⟨n, hn⟩ : ∃ n, RowKit.Hid (l.length = n) := ⟨_, Lib.hid rfl⟩
  have htd : ∀ u, Below (w.alloc (.cells #[.int .i64 act, .int .i64 k, .int .i64 num, .int .i64 t, .int .i64 C, .slice a m c] 27)).heap.size (w.alloc (.cells #[.int .i64 act, .int .i64 k, .int .i64 num, .int .i64 t, .int .i64 C, .slice a m c] 27)) u → Calls Try.prog 12 #[.pointer (some ⟨qb, 0, none⟩), .slice la n cap, .int .i64 k] u fun e u' => e = .returned (.bool true) ∧ TwS w0 qb rb rq room d0 u' := fun u hu => by
    have T2 := T1.below hu
    rw [← hn.out]
    refine (told_ok u qb rb room pos dr rq dr2 la cap l _ _ T2.p T2.r k).mono ?_
    rintro e u' ⟨rfl, hb⟩
    obtain ⟨hd1, hd2⟩ := hd
    subst hd1
    exact ⟨rfl, pos, dr, la, cap, l, T2.below hb, hd2⟩
  replace htd := Lib.hid htd
  rw [hn.out] at y1
  have g0 : (act == 0) = false := by simpa using h0
  have g1 : (act == 1) = false := by simpa using h1
  have g2 : (act == 2) = false := by simpa using h2
  clear T T1 hd h0 h1 h2
  go_enter Try.func7, Try.ntmps7
  go_upto_region 12 with fail
  generalize (w.alloc (.cells #[.int .i64 act, .int .i64 k, .int .i64 num, .int .i64 t, .int .i64 C, .slice a m c] 27)) = W at htd y1 yk yd ⊢
  refine wp_region_noPanic ?_
  refine Stg.wp_region_L [7] (Bs.SB W) (by kernel_rfl) (fun _ => (Below.refl _ _).drew) (fun hHeld => ?_)
  refine Stg.wpAnyL_start (n' := 9) (l' := #[false, false, false, false, false, false, false, false, false]) (by kernel_rfl) (by kernel_rfl) ?_
  refine Stg.wpAnyL_free (i := 0) (v := ?_) 0 rfl (by kernel_rfl) (by kernel_rfl) (by kernel_rfl) (by kernel_rfl) (by kernel_rfl) (fun _ _ _ h => h) (Or.inl ⟨by kernel_rfl, ?_⟩) (by assumption) ?_
  rotate_left
  · intro u _
    try simp only [List.getElem_toArray, List.getElem_cons_succ, List.getElem_cons_zero]
    go_simp
    try with_reducible rfl
  try simp only [Act.put, List.setIfInBounds_toArray, List.set_cons_zero, List.set_cons_succ]
  refine Stg.wpAnyL_free (i := 1) (v := ?_) 0 rfl (by kernel_rfl) (by kernel_rfl) (by kernel_rfl) (by kernel_rfl) (by kernel_rfl) (fun _ _ _ h => h) (Or.inl ⟨by kernel_rfl, ?_⟩) (by assumption) ?_
  rotate_left
  · intro u _
    try simp only [List.getElem_toArray, List.getElem_cons_succ, List.getElem_cons_zero]
    go_simp
    try with_reducible rfl
  try simp only [Act.put, List.setIfInBounds_toArray, List.set_cons_zero, List.set_cons_succ]
  refine Stg.wpAnyL_free (i := 2) (v := ?_) 0 rfl (by kernel_rfl) (by kernel_rfl) (by kernel_rfl) (by kernel_rfl) (by kernel_rfl) (fun _ _ _ h => h) (Or.inl ⟨by kernel_rfl, ?_⟩) (by assumption) ?_
  rotate_left
  · intro u _
    try simp only [List.getElem_toArray, List.getElem_cons_succ, List.getElem_cons_zero]
    go_simp
    try with_reducible rfl
  try simp only [Act.put, List.setIfInBounds_toArray, List.set_cons_zero, List.set_cons_succ]
  refine Stg.wpAnyL_start (n' := 6) (l' := #[true, true, true, false, false, false, false, false, false]) (by kernel_rfl) (by kernel_rfl) ?_
  refine Stg.wpAnyL_free (i := 3) (v := ?_) 0 rfl (by kernel_rfl) (by kernel_rfl) (by kernel_rfl) (by kernel_rfl) (by kernel_rfl) (fun _ _ _ h => h) (Or.inl ⟨by kernel_rfl, ?_⟩) (by assumption) ?_
  rotate_left
  · intro u _
    try simp only [List.getElem_toArray, List.getElem_cons_succ, List.getElem_cons_zero]
    go_simp
    try with_reducible rfl
  try simp only [Act.put, List.setIfInBounds_toArray, List.set_cons_zero, List.set_cons_succ]
  refine Stg.wpAnyL_take (i := 4) (v := ?_) [7, 8] 0 rfl (by kernel_rfl) (by kernel_rfl) (by kernel_rfl) (by kernel_rfl) (by kernel_rfl) (fun _ _ _ h => h) (Or.inl ⟨by kernel_rfl, ?_⟩) (by assumption) ?_
  rotate_left
  · intro u hSu
    skip
    have sB := hSu rfl
    have y0 := cellB sB y1
    have y1 := cellB sB yk
    try simp only [List.getElem_toArray, List.getElem_cons_succ, List.getElem_cons_zero]
    go_simp
    try with_reducible rfl
  try simp only [Act.put, List.setIfInBounds_toArray, List.set_cons_zero, List.set_cons_succ]
  refine Stg.wpAnyL_free (i := 5) (v := ?_) 0 rfl (by kernel_rfl) (by kernel_rfl) (by kernel_rfl) (by kernel_rfl) (by kernel_rfl) (fun _ _ _ h => h) (Or.inl ⟨by kernel_rfl, ?_⟩) (by assumption) ?_
  rotate_left
  · intro u _
    try simp only [List.getElem_toArray, List.getElem_cons_succ, List.getElem_cons_zero]
    go_simp
    try with_reducible rfl
  try simp only [Act.put, List.setIfInBounds_toArray, List.set_cons_zero, List.set_cons_succ]
  refine Stg.wpAnyL_start (n' := 3) (l' := #[true, true, true, true, true, true, false, false, false]) (by kernel_rfl) (by kernel_rfl) ?_
  refine Stg.wpAnyL_take (i := 6) (v := ?_) [7, 8] 0 rfl (by kernel_rfl) (by kernel_rfl) (by kernel_rfl) (by kernel_rfl) (by kernel_rfl) (fun _ _ _ h => h) (Or.inl ⟨by kernel_rfl, ?_⟩) (by assumption) ?_
  rotate_left
  · intro u hSu
    skip
    have sB := hSu rfl
    have y0 := cellB sB y1
    have y1 := cellB sB yk
    try simp only [List.getElem_toArray, List.getElem_cons_succ, List.getElem_cons_zero]
    go_simp
    try with_reducible rfl
  try simp only [Act.put, List.setIfInBounds_toArray, List.set_cons_zero, List.set_cons_succ]
  refine Stg.wpAnyL_one (i := 7) 1 rfl (by kernel_rfl) (by kernel_rfl) (fun K hK => ?_)
  try simp only [List.getElem_toArray, List.getElem_cons_succ, List.getElem_cons_zero]
  go_simp
  refine (htd.out _ (hHeld rfl)).mono ?_
  rintro e u4 ⟨rfl, hT4⟩
  replace hT4 := Lib.hid hT4
  refine hK.out _ _ ?_ (fun hHeld1 => ?_)
  · exact fun h => absurd h (by decide)
  clear hK K
  try simp only [Act.put, List.setIfInBounds_toArray, List.set_cons_zero, List.set_cons_succ]
  refine Stg.wpAnyL_free (i := 8) (v := ?_) 1 rfl (by kernel_rfl) (by kernel_rfl) (by kernel_rfl) (by kernel_rfl) (by kernel_rfl) (fun _ _ _ h => h) (Or.inl ⟨by kernel_rfl, ?_⟩) (by assumption) ?_
  rotate_left
  · intro u _
    try simp only [List.getElem_toArray, List.getElem_cons_succ, List.getElem_cons_zero]
    go_simp
    try with_reducible rfl
  try simp only [Act.put, List.setIfInBounds_toArray, List.set_cons_zero, List.set_cons_succ]
  refine Stg.wpAnyL_done (by kernel_rfl) ?_ _
  try simp only [List.getElem_toArray, List.getElem_cons_succ, List.getElem_cons_zero]
  try simp only [Act.put, List.setIfInBounds_toArray, List.set_cons_zero, List.set_cons_succ]
  refine NoPanic.normal ?_
  go_wp2_with fail
  go_ret
  exact ⟨rfl, hT4.out⟩
end Go.Proofs.Ytndlldlanjhanaa
