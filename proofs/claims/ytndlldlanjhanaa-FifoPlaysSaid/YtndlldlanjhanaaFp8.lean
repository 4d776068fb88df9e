/- Queues of packets with what they hold: an act on both. -/
import Derived.Test.YtndlldlanjhanaaFp7
namespace Go.Proofs.Ytndlldlanjhanaa
open Go.ChangeShapes Go.WideShapes Go.ChangeAt Go.RowKit Go.Shelf
set_option linter.unusedVariables false
set_option linter.unusedSimpArgs false
open BigFrame By Fq Bs Fp

namespace Fp
/-- Both queues, side by side. -/
structure Tw (w0 w : World) (qb rb rq room pos dr dr2 : Nat) (la : Option Addr) (cap : Nat) (l l2 : List Pt) : Prop where
  p : PQ w qb rb room pos dr l (rq :: blkO la)
  r : RQ w rq room dr2 la cap l2 [qb, rb]
  ne : rq ≠ qb ∧ rq ≠ rb ∧ qb ∉ blkO la ∧ rb ∉ blkO la
  bel : Below w0.heap.size w0 w
  ge : w0.heap.size ≤ qb ∧ w0.heap.size ≤ rb ∧ w0.heap.size ≤ rq ∧ ∀ b, b ∈ blkO la → w0.heap.size ≤ b
variable {w0 w w' : World} {qb rb rq room pos dr dr2 : Nat} {la : Option Addr} {cap : Nat} {l l2 : List Pt}
theorem Tw.blk (T : Tw w0 w qb rb rq room pos dr dr2 la cap l l2) : qb < w.heap.size ∧ rb < w.heap.size ∧ rq < w.heap.size ∧ ∀ b, b ∈ blkO la → b < w.heap.size :=
  ⟨T.p.lt.1, T.p.lt.2, T.r.b.l, fun b hb => by obtain ⟨vs, hr, _⟩ := T.r.r; exact hr.lt hb⟩
theorem Tw.below (T : Tw w0 w qb rb rq room pos dr dr2 la cap l l2) (k : Below w.heap.size w w') : Tw w0 w' qb rb rq room pos dr dr2 la cap l l2 :=
  ⟨T.p.bel k, T.r.bel k, T.ne, T.bel.trans (k.mono T.bel.size), T.ge⟩
theorem Tw.prog (T : Tw w0 w qb rb rq room pos dr dr2 la cap l l2) {pos' dr' : Nat} {l' : List Pt} (h : PQ w' qb rb room pos' dr' l' (rq :: blkO la)) (k : KF [qb, rb] w w') : Tw w0 w' qb rb rq room pos' dr' dr2 la cap l' l2 :=
  ⟨h, T.r.kf k (fun i hi => hi) (by simp; exact ⟨T.ne.1, T.ne.2.1⟩) (fun b hb => by simp; exact ⟨fun e => T.ne.2.2.1 (e ▸ hb), fun e => T.ne.2.2.2 (e ▸ hb)⟩), T.ne, T.bel.trans (k.below (fun i hi => by simp at hi; have := T.ge; omega) T.bel.size), T.ge⟩
theorem Tw.ref (T : Tw w0 w qb rb rq room pos dr dr2 la cap l l2) {dr2' cap' : Nat} {la' : Option Addr} {l2' : List Pt} (h : RQ w' rq room dr2' la' cap' l2' [qb, rb]) (k : KF (rq :: blkO la) w w') (hn : ∀ b, b ∈ blkO la' → b ∈ blkO la ∨ w.heap.size ≤ b) : Tw w0 w' qb rb rq room pos dr dr2' la' cap' l l2' := by
  have g := T.blk
  have hs := T.bel.size
  have p1 : PQ w qb rb room pos dr l (rq :: (blkO la ++ blkO la')) := T.p.ns (fun q hq => by
    simp only [List.mem_cons, List.mem_append] at hq ⊢
    rcases hq with e | e | e
    · exact .inr (.inl e)
    · exact .inr (.inr e)
    · rcases hn q e with z | z
      · exact .inr (.inr z)
      · exact .inl z)
  have p2 := p1.kf k (fun i hi => by simp only [List.mem_cons, List.mem_append] at hi ⊢; rcases hi with e | e <;> simp [e]) (by simp only [List.mem_cons, not_or]; exact ⟨fun e => T.ne.1 e.symm, T.ne.2.2.1⟩) (by simp only [List.mem_cons, not_or]; exact ⟨fun e => T.ne.2.1 e.symm, T.ne.2.2.2⟩)
  refine ⟨p2.ns (fun q hq => .inr (by simp only [List.mem_cons, List.mem_append] at hq ⊢; rcases hq with e | e <;> simp [e])), h, ⟨T.ne.1, T.ne.2.1, fun e => ?_, fun e => ?_⟩, T.bel.trans (k.below (fun i hi => ?_) T.bel.size), ⟨T.ge.1, T.ge.2.1, T.ge.2.2.1, fun b hb => ?_⟩⟩
  · rcases hn _ e with z | z
    · exact T.ne.2.2.1 z
    · omega
  · rcases hn _ e with z | z
    · exact T.ne.2.2.2 z
    · omega
  · simp only [List.mem_cons] at hi
    rcases hi with e | e
    · have := T.ge; omega
    · exact T.ge.2.2.2 i e
  · rcases hn b hb with z | z
    · exact T.ge.2.2.2 b z
    · omega
/-- What the law knows of both. -/
def TwS (w0 : World) (qb rb rq room d0 : Nat) (w : World) : Prop := ∃ pos dr la cap l, Tw w0 w qb rb rq room pos dr dr la cap l l ∧ dr ≤ d0
def StepP (w0 : World) (qb rb rq room d0 : Nat) (e : Ending) (w' : World) : Prop := e = .returned (.bool true) ∧ TwS w0 qb rb rq room d0 w'
end Fp

set_option maxRecDepth 100000 in
set_option maxHeartbeats 8000000 in
/-- Push, on both. -/
theorem step_push (w0 w : World) (qb rb rq room d0 : Nat) (A B : World → Prop) (num t C k r : Int) (a : Option Addr) (m c : Nat) (hA : A w) (hAb : ∀ u u', A u → Below u.heap.size u u' → A u')
    (hp : ∀ u, A u → Calls Try.prog 13 #[.pointer (some ⟨qb, 0, none⟩), .agg #[.int .i64 num, .int .i64 t, .int .i64 C, .slice a m c]] u fun e u' => e = .returned (.int .i64 r) ∧ B u' ∧ KF [qb, rb] u u')
    (hr : ∀ u, B u → Calls Try.prog 15 #[.pointer (some ⟨rq, 0, none⟩), .agg #[.int .i64 num, .int .i64 t, .int .i64 C, .slice a m c]] u fun e u' => e = .returned (.int .i64 r) ∧ TwS w0 qb rb rq room d0 u')
    (hqb : qb < w.heap.size) (hrb : rb < w.heap.size) :
    Calls Try.prog 7 #[.pointer (some ⟨qb, 0, none⟩), .pointer (some ⟨rq, 0, none⟩), .agg #[.int .i64 0, .int .i64 k, .int .i64 num, .int .i64 t, .int .i64 C, .slice a m c]] w (StepP w0 qb rb rq room d0) := by
  have hB0 := (Below.refl w.heap.size w).alloc (Nat.le_refl _) (.cells #[.int .i64 0, .int .i64 k, .int .i64 num, .int .i64 t, .int .i64 C, .slice a m c] 27)
  have x0 : (w.alloc (.cells #[.int .i64 0, .int .i64 k, .int .i64 num, .int .i64 t, .int .i64 C, .slice a m c] 27)).cell? ⟨w.heap.size, 0, none⟩ = some (.int .i64 0) := by go_simp
  have bx := Lib.hid (blkN_new w [.int .i64 0, .int .i64 k, .int .i64 num, .int .i64 t, .int .i64 C, .slice a m c] 27)
  have hA1 := Lib.hid (hAb _ _ (hAb _ _ hA hB0) (Below.refl _ _).drew)
  replace hp := Lib.hid hp
  replace hr := Lib.hid hr
  clear hA hAb
  go_enter Try.func7, Try.ntmps7
  go_upto_region 3 with fail
  have hWl : w.heap.size < (w.alloc (.cells #[.int .i64 0, .int .i64 k, .int .i64 num, .int .i64 t, .int .i64 C, .slice a m c] 27)).heap.size := by simp
  clear x0
  generalize (w.alloc (.cells #[.int .i64 0, .int .i64 k, .int .i64 num, .int .i64 t, .int .i64 C, .slice a m c] 27)) = W at hB0 hA1 bx hWl ⊢
  have hne : w.heap.size ∉ [qb, rb] := by simp; omega
  replace hne := Lib.hid hne
  refine wp_region_noPanic ?_
  refine Stg.wp_region_L [7] (fun n u => (n = 0 → Blk u w.heap.size [.int .i64 0, .int .i64 k, .int .i64 num, .int .i64 t, .int .i64 C, .slice a m c]) ∧ True) (by kernel_rfl) (⟨fun _ => bx.out.drew, trivial⟩) (fun hHeld => ?_)
  refine Stg.wpAnyL_start (n' := 10) (l' := #[false, false, false, false, false, false, false, false, false, false]) (by kernel_rfl) (by kernel_rfl) ?_
  refine Stg.wpAnyL_free (i := 0) (v := ?_) 0 rfl (by kernel_rfl) (by kernel_rfl) (by kernel_rfl) (by kernel_rfl) (by kernel_rfl) (fun _ _ _ h => h) (Or.inl ⟨by kernel_rfl, ?_⟩) (by assumption) ?_
  rotate_left
  · intro u _
    try simp only [List.getElem_toArray, List.getElem_cons_succ, List.getElem_cons_zero]
    go_simp
    try with_reducible rfl
  try simp only [Act.put, List.setIfInBounds_toArray, List.set_cons_zero, List.set_cons_succ]
  refine Stg.wpAnyL_free (i := 1) (v := ?_) 0 rfl (by kernel_rfl) (by kernel_rfl) (by kernel_rfl) (by kernel_rfl) (by kernel_rfl) (fun _ _ _ h => h) (Or.inl ⟨by kernel_rfl, ?_⟩) (by assumption) ?_
  rotate_left
  · intro u _
    try simp only [List.getElem_toArray, List.getElem_cons_succ, List.getElem_cons_zero]
    go_simp
    try with_reducible rfl
  try simp only [Act.put, List.setIfInBounds_toArray, List.set_cons_zero, List.set_cons_succ]
  refine Stg.wpAnyL_take (i := 2) (v := ?_) [3, 7, 8, 9] 0 rfl (by kernel_rfl) (by kernel_rfl) (by kernel_rfl) (by kernel_rfl) (by kernel_rfl) (fun _ _ _ h => h) (Or.inl ⟨by kernel_rfl, ?_⟩) (by assumption) ?_
  rotate_left
  · intro u hSu
    obtain ⟨sX, _⟩ := hSu
    have y2 := (sX rfl).c 2 _ rfl
    have y3 := (sX rfl).c 3 _ rfl
    have y4 := (sX rfl).c 4 _ rfl
    have y5 := (sX rfl).c 5 _ rfl
    try simp only [List.getElem_toArray, List.getElem_cons_succ, List.getElem_cons_zero]
    go_simp
    try with_reducible rfl
  try simp only [Act.put, List.setIfInBounds_toArray, List.set_cons_zero, List.set_cons_succ]
  refine Stg.wpAnyL_start (n' := 7) (l' := #[true, true, true, false, false, false, false, false, false, false]) (by kernel_rfl) (by kernel_rfl) ?_
  refine Stg.wpAnyL_free (i := 4) (v := ?_) 0 rfl (by kernel_rfl) (by kernel_rfl) (by kernel_rfl) (by kernel_rfl) (by kernel_rfl) (fun _ _ _ h => h) (Or.inl ⟨by kernel_rfl, ?_⟩) (by assumption) ?_
  rotate_left
  · intro u _
    try simp only [List.getElem_toArray, List.getElem_cons_succ, List.getElem_cons_zero]
    go_simp
    try with_reducible rfl
  try simp only [Act.put, List.setIfInBounds_toArray, List.set_cons_zero, List.set_cons_succ]
  refine Stg.wpAnyL_free (i := 5) (v := ?_) 0 rfl (by kernel_rfl) (by kernel_rfl) (by kernel_rfl) (by kernel_rfl) (by kernel_rfl) (fun _ _ _ h => h) (Or.inl ⟨by kernel_rfl, ?_⟩) (by assumption) ?_
  rotate_left
  · intro u _
    try simp only [List.getElem_toArray, List.getElem_cons_succ, List.getElem_cons_zero]
    go_simp
    try with_reducible rfl
  try simp only [Act.put, List.setIfInBounds_toArray, List.set_cons_zero, List.set_cons_succ]
  refine Stg.wpAnyL_take (i := 6) (v := ?_) [7, 8, 9] 0 rfl (by kernel_rfl) (by kernel_rfl) (by kernel_rfl) (by kernel_rfl) (by kernel_rfl) (fun _ _ _ h => h) (Or.inl ⟨by kernel_rfl, ?_⟩) (by assumption) ?_
  rotate_left
  · intro u hSu
    obtain ⟨sX, _⟩ := hSu
    have y2 := (sX rfl).c 2 _ rfl
    have y3 := (sX rfl).c 3 _ rfl
    have y4 := (sX rfl).c 4 _ rfl
    have y5 := (sX rfl).c 5 _ rfl
    try simp only [List.getElem_toArray, List.getElem_cons_succ, List.getElem_cons_zero]
    go_simp
    try with_reducible rfl
  try simp only [Act.put, List.setIfInBounds_toArray, List.set_cons_zero, List.set_cons_succ]
  refine Stg.wpAnyL_start (n' := 4) (l' := #[true, true, true, false, true, true, true, false, false, false]) (by kernel_rfl) (by kernel_rfl) ?_
  refine Stg.wpAnyL_one (i := 3) 0 rfl (by kernel_rfl) (by kernel_rfl) (fun K hK => ?_)
  try simp only [List.getElem_toArray, List.getElem_cons_succ, List.getElem_cons_zero]
  go_simp
  refine (hp.out _ hA1.out).mono ?_
  rintro e u3 ⟨rfl, hB3, hK3⟩
  replace hB3 := Lib.hid hB3
  replace hK3 := Lib.hid hK3
  refine hK.out _ _ ?_ (fun hHeld1 => ?_)
  · exact ⟨fun _ => hK3.out.blk ((hHeld).1 rfl) hne.out, trivial⟩
  clear hK K
  try simp only [Act.put, List.setIfInBounds_toArray, List.set_cons_zero, List.set_cons_succ]
  refine Stg.wpAnyL_one (i := 7) 1 rfl (by kernel_rfl) (by kernel_rfl) (fun K hK => ?_)
  try simp only [List.getElem_toArray, List.getElem_cons_succ, List.getElem_cons_zero]
  go_simp
  refine (hr.out _ hB3.out).mono ?_
  rintro e u4 ⟨rfl, hT4⟩
  replace hT4 := Lib.hid hT4
  refine hK.out _ _ ?_ (fun hHeld2 => ?_)
  · exact ⟨fun h => absurd h (by decide), trivial⟩
  clear hK K
  try simp only [Act.put, List.setIfInBounds_toArray, List.set_cons_zero, List.set_cons_succ]
  refine Stg.wpAnyL_free (i := 8) (v := ?_) 1 rfl (by kernel_rfl) (by kernel_rfl) (by kernel_rfl) (by kernel_rfl) (by kernel_rfl) (fun _ _ _ h => h) (Or.inl ⟨by kernel_rfl, ?_⟩) (by assumption) ?_
  rotate_left
  · intro u _
    try simp only [List.getElem_toArray, List.getElem_cons_succ, List.getElem_cons_zero]
    go_simp
    try with_reducible rfl
  try simp only [Act.put, List.setIfInBounds_toArray, List.set_cons_zero, List.set_cons_succ]
  refine Stg.wpAnyL_start (n' := 1) (l' := #[true, true, true, true, true, true, true, true, true, false]) (by kernel_rfl) (by kernel_rfl) ?_
  refine Stg.wpAnyL_free (i := 9) (v := ?_) 1 rfl (by kernel_rfl) (by kernel_rfl) (by kernel_rfl) (by kernel_rfl) (by kernel_rfl) (fun _ _ _ h => h) (Or.inl ⟨by kernel_rfl, ?_⟩) (by assumption) ?_
  rotate_left
  · intro u _
    try simp only [List.getElem_toArray, List.getElem_cons_succ, List.getElem_cons_zero]
    go_simp
    try with_reducible rfl
  try simp only [Act.put, List.setIfInBounds_toArray, List.set_cons_zero, List.set_cons_succ]
  refine Stg.wpAnyL_done (by kernel_rfl) ?_ _
  try simp only [List.getElem_toArray, List.getElem_cons_succ, List.getElem_cons_zero]
  try simp only [Act.put, List.setIfInBounds_toArray, List.set_cons_zero, List.set_cons_succ]
  refine NoPanic.normal ?_
  go_wp2_with fail
  go_ret
  exact ⟨rfl, hT4.out⟩
end Go.Proofs.Ytndlldlanjhanaa
