/- The scheduler: what is told of a flow's head: ca,cw -/
import Derived.Test.YtkefkophlhcbiaaF10
namespace Go.Proofs.Ytkefkophlhcbiaa
open Go.ChangeShapes Go.WideShapes Go.ChangeAt Go.RowKit Go.Maps
set_option linter.unusedVariables false
set_option linter.unusedSimpArgs false
open BigFrame Pk Fq Vr Fa

namespace Fa
theorem FD.setFin {w : World} {f lb cl tb ct N k : Nat} {ALL V : Int} {W Z : Nat → Int} {D : Nat → Bool} {S F : Nat → Int} (h : FD w f lb cl tb ct N ALL V W Z D S F) (hk : k < N) (x : Int) :
    FD (w.setCell ⟨tb, k * 2 + 1, none⟩ (.int .i64 x)) f lb cl tb ct N ALL V W Z D S (up F k x) :=
  ⟨h.b.other h.a2 _, h.l.other h.a3 _, by have := h.t.set_finish k hk x; rw [Nat.zero_add] at this; exact this, h.a1, h.a2, h.a3, h.n1, h.n8⟩
theorem Bx.kf' {u u' : World} {q f k lb : Nat} {n : Int} {l : List Nat} (h : Bx u q f k lb n) (K : KF l u u') (hl : ∀ i, i ∈ l → q + 1 + 1 + 1 < i) : Bx u' q f k lb n :=
  ⟨⟨K.blk h.b.b0 (fun e => by have := hl _ e; omega), K.blk h.b.b1 (fun e => by have := hl _ e; omega), K.blk h.b.b2 (fun e => by have := hl _ e; omega)⟩, K.blk h.b3 (fun e => by have := hl _ e; omega)⟩
theorem KF.new {l l2 : List Nat} {u v w : World} (h : KF l u v) (k : KF l2 v w) (hl : ∀ i, i ∈ l2 → u.heap.size ≤ i) : KF l u w :=
  ⟨h.b.trans k.b, fun i h1 h2 => (k.k i (Nat.lt_of_lt_of_le h1 h.b.size) (fun q => by have := hl i q; omega)).trans (h.k i h1 h2)⟩
end Fa

set_option maxRecDepth 100000 in
set_option maxHeartbeats 4000000 in
theorem hear_ca {w : World} {f lb cl tb ct N : Nat} {ALL V : Int} {W Z : Nat → Int} {D : Nat → Bool} {S F : Nat → Int} (h : FD w f lb cl tb ct N ALL V W Z D S F) (k : Nat) (hk : k < N) (n : Int) (z : Int) (d : Bool) (hz : Z k = z) (hd : D k = false)
    (h1 : 0 < z) :
    Calls Try.prog 48 #[.pointer (some ⟨f, 0, none⟩), .int .i64 (k : Nat), .int .i64 0] w
      (HearQ tb f lb cl N ALL V W (up Z k 0) (upb D k false) S (up F k (S k)) [f, lb] w) := by
  have h8 := h.n8
  have hkz : (k : Int) < (N : Int) := by omega
  obtain ⟨bx, hB, hs3⟩ := bx3_new w f k 0 63 3 3
  have hfl := h.b.l
  have hll := h.l.l
  have htl := h.tl
  replace h := Lib.hid h
  replace hB := Lib.hid hB
  replace bx := Lib.hid bx
  go_enter Try.func48, Try.ntmps48
  go_upto_region 1 with fail
  generalize (((w.alloc (.cells #[.pointer (some ⟨f, 0, none⟩)] 63)).alloc (.cells #[.int .i64 (k : Nat)] 3)).alloc (.cells #[.int .i64 0] 3)) = w3 at bx hB hs3 ⊢
  obtain ⟨q, hq⟩ : ∃ q, w.heap.size = q := ⟨_, rfl⟩
  rw [hq] at bx hs3 hfl hll htl hB ⊢
  have hd3 := Lib.hid (h.out.bel (by rw [hq]; exact hB.out))
  have b0 := hd3.out.b.c 0 _ rfl
  have p0 := bx.out.b0.c 0 _ rfl
  have p1 := bx.out.b1.c 0 _ rfl
  refine wp_region_noPanic ?_
  refine Stg.wp_region_L [7] (Vr.SB w3) (by kernel_rfl) (fun _ => (Below.refl _ _).drew) (fun hHeld => ?_)
  refine Stg.wpAnyL_start (n' := 8) (l' := #[false, false, false, false, false, false, false, false]) (by kernel_rfl) (by kernel_rfl) ?_
  refine Stg.wpAnyL_take (i := 0) (v := ?_) [1, 2, 3, 5, 7] 0 rfl (by kernel_rfl) (by kernel_rfl) (by kernel_rfl) (by kernel_rfl) (by kernel_rfl) (fun _ _ _ h => h) (Or.inl ⟨by kernel_rfl, ?_⟩) (by assumption) ?_
  rotate_left
  · intro u hSu
    skip
    have sB := hSu rfl
    have y0 := cellB sB b0
    have y1 := cellB sB p0
    have y2 := cellB sB p1
    try simp only [List.getElem_toArray, List.getElem_cons_succ, List.getElem_cons_zero]
    go_simp
    try with_reducible rfl
  try simp only [Act.put, List.setIfInBounds_toArray, List.set_cons_zero, List.set_cons_succ]
  refine Stg.wpAnyL_free (i := 1) (v := ?_) 0 rfl (by kernel_rfl) (by kernel_rfl) (by kernel_rfl) (by kernel_rfl) (by kernel_rfl) (fun _ _ _ h => h) (Or.inl ⟨by kernel_rfl, ?_⟩) (by assumption) ?_
  rotate_left
  · intro u _
    try simp only [List.getElem_toArray, List.getElem_cons_succ, List.getElem_cons_zero]
    go_simp
    try with_reducible rfl
  try simp only [Act.put, List.setIfInBounds_toArray, List.set_cons_zero, List.set_cons_succ]
  refine Stg.wpAnyL_free (i := 2) (v := ?_) 0 rfl (by kernel_rfl) (by kernel_rfl) (by kernel_rfl) (by kernel_rfl) (by kernel_rfl) (fun _ _ _ h => h) (Or.inl ⟨by kernel_rfl, ?_⟩) (by assumption) ?_
  rotate_left
  · intro u _
    try simp only [List.getElem_toArray, List.getElem_cons_succ, List.getElem_cons_zero]
    go_simp
    try with_reducible rfl
  try simp only [Act.put, List.setIfInBounds_toArray, List.set_cons_zero, List.set_cons_succ]
  refine Stg.wpAnyL_start (n' := 5) (l' := #[true, true, true, false, false, false, false, false]) (by kernel_rfl) (by kernel_rfl) ?_
  refine Stg.wpAnyL_take (i := 3) (v := ?_) [5, 7] 0 rfl (by kernel_rfl) (by kernel_rfl) (by kernel_rfl) (by kernel_rfl) (by kernel_rfl) (fun _ _ _ h => h) (Or.inl ⟨by kernel_rfl, ?_⟩) (by assumption) ?_
  rotate_left
  · intro u hSu
    skip
    have sB := hSu rfl
    have y0 := cellB sB b0
    have y1 := cellB sB p0
    have y2 := cellB sB p1
    try simp only [List.getElem_toArray, List.getElem_cons_succ, List.getElem_cons_zero]
    go_simp
    try with_reducible rfl
  try simp only [Act.put, List.setIfInBounds_toArray, List.set_cons_zero, List.set_cons_succ]
  refine Stg.wpAnyL_take (i := 4) (v := ?_) [5, 7] 0 rfl (by kernel_rfl) (by kernel_rfl) (by kernel_rfl) (by kernel_rfl) (by kernel_rfl) (fun _ _ _ h => h) (Or.inl ⟨by kernel_rfl, ?_⟩) (by assumption) ?_
  rotate_left
  · intro u hSu
    skip
    have sB := hSu rfl
    have y0 := cellB sB b0
    have y1 := cellB sB p0
    have y2 := cellB sB p1
    try simp only [List.getElem_toArray, List.getElem_cons_succ, List.getElem_cons_zero]
    go_simp
    try with_reducible rfl
  try simp only [Act.put, List.setIfInBounds_toArray, List.set_cons_zero, List.set_cons_succ]
  refine Stg.wpAnyL_free (i := 5) (v := ?_) 0 rfl (by kernel_rfl) (by kernel_rfl) (by kernel_rfl) (by kernel_rfl) (by kernel_rfl) (fun _ _ _ h => h) (Or.inl ⟨by kernel_rfl, ?_⟩) (by assumption) ?_
  rotate_left
  · intro u _
    try simp only [List.getElem_toArray, List.getElem_cons_succ, List.getElem_cons_zero]
    go_simp
    try with_reducible rfl
  try simp only [Act.put, List.setIfInBounds_toArray, List.set_cons_zero, List.set_cons_succ]
  refine Stg.wpAnyL_start (n' := 2) (l' := #[true, true, true, true, true, true, false, false]) (by kernel_rfl) (by kernel_rfl) ?_
  refine Stg.wpAnyL_one (i := 6) 0 rfl (by kernel_rfl) (by kernel_rfl) (fun K hK => ?_)
  try simp only [List.getElem_toArray, List.getElem_cons_succ, List.getElem_cons_zero]
  go_simp
  refine hK.out _ _ ?_ (fun hHeld1 => ?_)
  · exact fun _ => bNext (hHeld rfl) ((Below.refl _ _).alloc (Nat.le_refl _) _) (Nat.le_refl _)
  clear hK K
  try simp only [Act.put, List.setIfInBounds_toArray, List.set_cons_zero, List.set_cons_succ]
  refine Stg.wpAnyL_one (i := 7) 1 rfl (by kernel_rfl) (by kernel_rfl) (fun K hK => ?_)
  try simp only [List.getElem_toArray, List.getElem_cons_succ, List.getElem_cons_zero]
  go_simp
  refine hK.out _ _ ?_ (fun hHeld2 => ?_)
  · exact fun h => absurd h (by decide)
  clear hK K
  try simp only [Act.put, List.setIfInBounds_toArray, List.set_cons_zero, List.set_cons_succ]
  refine Stg.wpAnyL_done (by kernel_rfl) ?_ _
  try simp only [List.getElem_toArray, List.getElem_cons_succ, List.getElem_cons_zero]
  try simp only [Act.put, List.setIfInBounds_toArray, List.set_cons_zero, List.set_cons_succ]
  refine NoPanic.normal ?_
  obtain ⟨hx, hb4⟩ := bx_new (lb := lb) bx.out hs3 122
  have hB4 := Lib.hid (hB.out.trans (hb4.mono (by omega)))
  have hd4 := Lib.hid (hd3.out.bel hb4)
  replace hx := Lib.hid hx
  clear b0 p0 p1 hb4 hd3 hB bx hHeld
  go_upto_region 2 with fail
  generalize (w3.alloc (.cells #[.pointer (some ⟨lb, k * 3, none⟩)] 122)).drew = w4 at hx hB4 hd4 ⊢
  clear hs3
  obtain ⟨f1, f2, f3⟩ := hd4.out.flow hk
  rw [hz] at f2
  rw [hd] at f3
  have s2 := hx.out.b.b2.c 0 _ rfl
  have s3 := hx.out.b3.c 0 _ rfl
  refine wp_region_noPanic ?_
  refine Stg.wp_region_L [] (Vr.SB w4) (by kernel_rfl) (fun _ => (Below.refl _ _).drew) (fun hHeld => ?_)
  refine Stg.wpAnyL_start (n' := 20) (l' := #[false, false, false, false, false, false, false, false, false, false, false, false, false, false, false, false, false, false, false, false]) (by kernel_rfl) (by kernel_rfl) ?_
  refine Stg.wpAnyL_take (i := 0) (v := ?_) [1, 2, 3, 4, 5, 6, 7, 8, 9, 10, 11, 12, 13, 14, 15, 16, 17, 18, 19] 0 rfl (by kernel_rfl) (by kernel_rfl) (by kernel_rfl) (by kernel_rfl) (by kernel_rfl) (fun _ _ _ h => h) (Or.inl ⟨by kernel_rfl, ?_⟩) (by assumption) ?_
  rotate_left
  · intro u hSu
    skip
    have sB := hSu rfl
    have y0 := cellB sB s2
    have y1 := cellB sB s3
    have y2 := cellB sB f1
    have y3 := cellB sB f2
    have y4 := cellB sB f3
    try simp only [List.getElem_toArray, List.getElem_cons_succ, List.getElem_cons_zero]
    go_simp
    try with_reducible rfl
  try simp only [Act.put, List.setIfInBounds_toArray, List.set_cons_zero, List.set_cons_succ]
  refine Stg.wpAnyL_free (i := 1) (v := ?_) 0 rfl (by kernel_rfl) (by kernel_rfl) (by kernel_rfl) (by kernel_rfl) (by kernel_rfl) (fun _ _ _ h => h) (Or.inl ⟨by kernel_rfl, ?_⟩) (by assumption) ?_
  rotate_left
  · intro u _
    try simp only [List.getElem_toArray, List.getElem_cons_succ, List.getElem_cons_zero]
    go_simp
    try with_reducible rfl
  try simp only [Act.put, List.setIfInBounds_toArray, List.set_cons_zero, List.set_cons_succ]
  refine Stg.wpAnyL_free (i := 2) (v := ?_) 0 rfl (by kernel_rfl) (by kernel_rfl) (by kernel_rfl) (by kernel_rfl) (by kernel_rfl) (fun _ _ _ h => h) (Or.inl ⟨by kernel_rfl, ?_⟩) (by assumption) ?_
  rotate_left
  · intro u _
    try simp only [List.getElem_toArray, List.getElem_cons_succ, List.getElem_cons_zero]
    go_simp
    try with_reducible rfl
  try simp only [Act.put, List.setIfInBounds_toArray, List.set_cons_zero, List.set_cons_succ]
  refine Stg.wpAnyL_start (n' := 17) (l' := #[true, true, true, false, false, false, false, false, false, false, false, false, false, false, false, false, false, false, false, false]) (by kernel_rfl) (by kernel_rfl) ?_
  refine Stg.wpAnyL_take (i := 3) (v := ?_) [4, 5, 6, 7, 8, 9, 10, 11, 12, 13, 14, 15, 16, 17, 18, 19] 0 rfl (by kernel_rfl) (by kernel_rfl) (by kernel_rfl) (by kernel_rfl) (by kernel_rfl) (fun _ _ _ h => h) (Or.inl ⟨by kernel_rfl, ?_⟩) (by assumption) ?_
  rotate_left
  · intro u hSu
    skip
    have sB := hSu rfl
    have y0 := cellB sB s2
    have y1 := cellB sB s3
    have y2 := cellB sB f1
    have y3 := cellB sB f2
    have y4 := cellB sB f3
    try simp only [List.getElem_toArray, List.getElem_cons_succ, List.getElem_cons_zero]
    go_simp
    try with_reducible rfl
  try simp only [Act.put, List.setIfInBounds_toArray, List.set_cons_zero, List.set_cons_succ]
  refine Stg.wpAnyL_free (i := 4) (v := ?_) 0 rfl (by kernel_rfl) (by kernel_rfl) (by kernel_rfl) (by kernel_rfl) (by kernel_rfl) (fun _ _ _ h => h) (Or.inl ⟨by kernel_rfl, ?_⟩) (by assumption) ?_
  rotate_left
  · intro u _
    try simp only [List.getElem_toArray, List.getElem_cons_succ, List.getElem_cons_zero]
    go_simp
    try with_reducible rfl
  try simp only [Act.put, List.setIfInBounds_toArray, List.set_cons_zero, List.set_cons_succ]
  refine Stg.wpAnyL_free (i := 5) (v := ?_) 0 rfl (by kernel_rfl) (by kernel_rfl) (by kernel_rfl) (by kernel_rfl) (by kernel_rfl) (fun _ _ _ h => h) (Or.inl ⟨by kernel_rfl, ?_⟩) (by assumption) ?_
  rotate_left
  · intro u _
    try simp only [List.getElem_toArray, List.getElem_cons_succ, List.getElem_cons_zero]
    go_simp
    try with_reducible rfl
  try simp only [Act.put, List.setIfInBounds_toArray, List.set_cons_zero, List.set_cons_succ]
  refine Stg.wpAnyL_start (n' := 14) (l' := #[true, true, true, true, true, true, false, false, false, false, false, false, false, false, false, false, false, false, false, false]) (by kernel_rfl) (by kernel_rfl) ?_
  refine Stg.wpAnyL_take (i := 6) (v := ?_) [7, 8, 9, 10, 11, 12, 13, 14, 15, 16, 17, 18, 19] 0 rfl (by kernel_rfl) (by kernel_rfl) (by kernel_rfl) (by kernel_rfl) (by kernel_rfl) (fun _ _ _ h => h) (Or.inl ⟨by kernel_rfl, ?_⟩) (by assumption) ?_
  rotate_left
  · intro u hSu
    skip
    have sB := hSu rfl
    have y0 := cellB sB s2
    have y1 := cellB sB s3
    have y2 := cellB sB f1
    have y3 := cellB sB f2
    have y4 := cellB sB f3
    try simp only [List.getElem_toArray, List.getElem_cons_succ, List.getElem_cons_zero]
    go_simp
    try with_reducible rfl
  try simp only [Act.put, List.setIfInBounds_toArray, List.set_cons_zero, List.set_cons_succ]
  refine Stg.wpAnyL_free (i := 7) (v := ?_) 0 rfl (by kernel_rfl) (by kernel_rfl) (by kernel_rfl) (by kernel_rfl) (by kernel_rfl) (fun _ _ _ h => h) (Or.inl ⟨by kernel_rfl, ?_⟩) (by assumption) ?_
  rotate_left
  · intro u _
    try simp only [List.getElem_toArray, List.getElem_cons_succ, List.getElem_cons_zero]
    go_simp
    try with_reducible rfl
  try simp only [Act.put, List.setIfInBounds_toArray, List.set_cons_zero, List.set_cons_succ]
  refine Stg.wpAnyL_free (i := 8) (v := ?_) 0 rfl (by kernel_rfl) (by kernel_rfl) (by kernel_rfl) (by kernel_rfl) (by kernel_rfl) (fun _ _ _ h => h) (Or.inl ⟨by kernel_rfl, ?_⟩) (by assumption) ?_
  rotate_left
  · intro u _
    try simp only [List.getElem_toArray, List.getElem_cons_succ, List.getElem_cons_zero]
    go_simp
    try with_reducible rfl
  try simp only [Act.put, List.setIfInBounds_toArray, List.set_cons_zero, List.set_cons_succ]
  refine Stg.wpAnyL_start (n' := 11) (l' := #[true, true, true, true, true, true, true, true, true, false, false, false, false, false, false, false, false, false, false, false]) (by kernel_rfl) (by kernel_rfl) ?_
  refine Stg.wpAnyL_take (i := 9) (v := ?_) [10, 11, 12, 13, 14, 15, 16, 17, 18, 19] 0 rfl (by kernel_rfl) (by kernel_rfl) (by kernel_rfl) (by kernel_rfl) (by kernel_rfl) (fun _ _ _ h => h) (Or.inl ⟨by kernel_rfl, ?_⟩) (by assumption) ?_
  rotate_left
  · intro u hSu
    skip
    have sB := hSu rfl
    have y0 := cellB sB s2
    have y1 := cellB sB s3
    have y2 := cellB sB f1
    have y3 := cellB sB f2
    have y4 := cellB sB f3
    try simp only [List.getElem_toArray, List.getElem_cons_succ, List.getElem_cons_zero]
    go_simp
    try with_reducible rfl
  try simp only [Act.put, List.setIfInBounds_toArray, List.set_cons_zero, List.set_cons_succ]
  refine Stg.wpAnyL_free (i := 10) (v := ?_) 0 rfl (by kernel_rfl) (by kernel_rfl) (by kernel_rfl) (by kernel_rfl) (by kernel_rfl) (fun _ _ _ h => h) (Or.inl ⟨by kernel_rfl, ?_⟩) (by assumption) ?_
  rotate_left
  · intro u _
    try simp only [List.getElem_toArray, List.getElem_cons_succ, List.getElem_cons_zero]
    go_simp
    try with_reducible rfl
  try simp only [Act.put, List.setIfInBounds_toArray, List.set_cons_zero, List.set_cons_succ]
  refine Stg.wpAnyL_free (i := 11) (v := ?_) 0 rfl (by kernel_rfl) (by kernel_rfl) (by kernel_rfl) (by kernel_rfl) (by kernel_rfl) (fun _ _ _ h => h) (Or.inl ⟨by kernel_rfl, ?_⟩) (by assumption) ?_
  rotate_left
  · intro u _
    try simp only [List.getElem_toArray, List.getElem_cons_succ, List.getElem_cons_zero]
    go_simp
    try with_reducible rfl
  try simp only [Act.put, List.setIfInBounds_toArray, List.set_cons_zero, List.set_cons_succ]
  refine Stg.wpAnyL_start (n' := 8) (l' := #[true, true, true, true, true, true, true, true, true, true, true, true, false, false, false, false, false, false, false, false]) (by kernel_rfl) (by kernel_rfl) ?_
  refine Stg.wpAnyL_free (i := 12) (v := ?_) 0 rfl (by kernel_rfl) (by kernel_rfl) (by kernel_rfl) (by kernel_rfl) (by kernel_rfl) (fun _ _ _ h => h) (Or.inl ⟨by kernel_rfl, ?_⟩) (by assumption) ?_
  rotate_left
  · intro u _
    try simp only [List.getElem_toArray, List.getElem_cons_succ, List.getElem_cons_zero]
    go_simp
    try with_reducible rfl
  try simp only [Act.put, List.setIfInBounds_toArray, List.set_cons_zero, List.set_cons_succ]
  refine Stg.wpAnyL_take (i := 13) (v := ?_) [14, 15, 16, 18, 19] 0 rfl (by kernel_rfl) (by kernel_rfl) (by kernel_rfl) (by kernel_rfl) (by kernel_rfl) (fun _ _ _ h => h) (Or.inl ⟨by kernel_rfl, ?_⟩) (by assumption) ?_
  rotate_left
  · intro u hSu
    skip
    have sB := hSu rfl
    have y0 := cellB sB s2
    have y1 := cellB sB s3
    have y2 := cellB sB f1
    have y3 := cellB sB f2
    have y4 := cellB sB f3
    try simp only [List.getElem_toArray, List.getElem_cons_succ, List.getElem_cons_zero]
    go_simp
    try with_reducible rfl
  try simp only [Act.put, List.setIfInBounds_toArray, List.set_cons_zero, List.set_cons_succ]
  refine Stg.wpAnyL_free (i := 14) (v := ?_) 0 rfl (by kernel_rfl) (by kernel_rfl) (by kernel_rfl) (by kernel_rfl) (by kernel_rfl) (fun _ _ _ h => h) (Or.inl ⟨by kernel_rfl, ?_⟩) (by assumption) ?_
  rotate_left
  · intro u _
    try simp only [List.getElem_toArray, List.getElem_cons_succ, List.getElem_cons_zero]
    go_simp
    try with_reducible rfl
  try simp only [Act.put, List.setIfInBounds_toArray, List.set_cons_zero, List.set_cons_succ]
  refine Stg.wpAnyL_start (n' := 5) (l' := #[true, true, true, true, true, true, true, true, true, true, true, true, true, true, true, false, false, false, false, false]) (by kernel_rfl) (by kernel_rfl) ?_
  refine Stg.wpAnyL_free (i := 15) (v := ?_) 0 rfl (by kernel_rfl) (by kernel_rfl) (by kernel_rfl) (by kernel_rfl) (by kernel_rfl) (fun _ _ _ h => h) (Or.inl ⟨by kernel_rfl, ?_⟩) (by assumption) ?_
  rotate_left
  · intro u _
    try simp only [List.getElem_toArray, List.getElem_cons_succ, List.getElem_cons_zero]
    go_simp
    try with_reducible rfl
  try simp only [Act.put, List.setIfInBounds_toArray, List.set_cons_zero, List.set_cons_succ]
  refine Stg.wpAnyL_take (i := 16) (v := ?_) [18, 19] 0 rfl (by kernel_rfl) (by kernel_rfl) (by kernel_rfl) (by kernel_rfl) (by kernel_rfl) (fun _ _ _ h => h) (Or.inl ⟨by kernel_rfl, ?_⟩) (by assumption) ?_
  rotate_left
  · intro u hSu
    skip
    have sB := hSu rfl
    have y0 := cellB sB s2
    have y1 := cellB sB s3
    have y2 := cellB sB f1
    have y3 := cellB sB f2
    have y4 := cellB sB f3
    try simp only [List.getElem_toArray, List.getElem_cons_succ, List.getElem_cons_zero]
    go_simp
    try with_reducible rfl
  try simp only [Act.put, List.setIfInBounds_toArray, List.set_cons_zero, List.set_cons_succ]
  refine Stg.wpAnyL_take (i := 17) (v := ?_) [18, 19] 0 rfl (by kernel_rfl) (by kernel_rfl) (by kernel_rfl) (by kernel_rfl) (by kernel_rfl) (fun _ _ _ h => h) (Or.inl ⟨by kernel_rfl, ?_⟩) (by assumption) ?_
  rotate_left
  · intro u hSu
    skip
    have sB := hSu rfl
    have y0 := cellB sB s2
    have y1 := cellB sB s3
    have y2 := cellB sB f1
    have y3 := cellB sB f2
    have y4 := cellB sB f3
    try simp only [List.getElem_toArray, List.getElem_cons_succ, List.getElem_cons_zero]
    go_simp
    try with_reducible rfl
  try simp only [Act.put, List.setIfInBounds_toArray, List.set_cons_zero, List.set_cons_succ]
  refine Stg.wpAnyL_start (n' := 2) (l' := #[true, true, true, true, true, true, true, true, true, true, true, true, true, true, true, true, true, true, false, false]) (by kernel_rfl) (by kernel_rfl) ?_
  refine Stg.wpAnyL_free (i := 18) (v := ?_) 0 rfl (by kernel_rfl) (by kernel_rfl) (by kernel_rfl) (by kernel_rfl) (by kernel_rfl) (fun _ _ _ h => h) (Or.inl ⟨by kernel_rfl, ?_⟩) (by assumption) ?_
  rotate_left
  · intro u _
    try simp only [List.getElem_toArray, List.getElem_cons_succ, List.getElem_cons_zero]
    go_simp
    try with_reducible rfl
  try simp only [Act.put, List.setIfInBounds_toArray, List.set_cons_zero, List.set_cons_succ]
  refine Stg.wpAnyL_free (i := 19) (v := ?_) 0 rfl (by kernel_rfl) (by kernel_rfl) (by kernel_rfl) (by kernel_rfl) (by kernel_rfl) (fun _ _ _ h => h) (Or.inl ⟨by kernel_rfl, ?_⟩) (by assumption) ?_
  rotate_left
  · intro u _
    try simp only [List.getElem_toArray, List.getElem_cons_succ, List.getElem_cons_zero]
    go_simp
    try with_reducible rfl
  try simp only [Act.put, List.setIfInBounds_toArray, List.set_cons_zero, List.set_cons_succ]
  refine Stg.wpAnyL_done (by kernel_rfl) ?_ _
  try simp only [List.getElem_toArray, List.getElem_cons_succ, List.getElem_cons_zero]
  try simp only [Act.put, List.setIfInBounds_toArray, List.set_cons_zero, List.set_cons_succ]
  refine NoPanic.normal ?_
  have hdr := (Below.refl w4.heap.size w4).drew
  generalize w4.drew = w5 at hdr ⊢
  obtain ⟨f1, f2, f3⟩ := (hd4.out.bel hdr).flow hk
  rw [hz] at f2
  rw [hd] at f3
  have p0 := (hx.out.bel hdr).b.b0.c 0 _ rfl
  have p1 := (hx.out.bel hdr).b.b1.c 0 _ rfl
  have s2 := (hx.out.bel hdr).b.b2.c 0 _ rfl
  have s3 := (hx.out.bel hdr).b3.c 0 _ rfl
  replace hdr := Lib.hid hdr
  have hd5 := Lib.hid (hd4.out.bel hdr.out)
  have hx5 := Lib.hid (hx.out.bel hdr.out)
  have k5 : RowKit.Hid (KF [f, lb] w w5) := Lib.hid (KF.of (by rw [hq]; exact hB4.out.trans (hdr.out.mono (by have := hx.out.b3.l; omega))))
  clear hdr hd4 hx hB4 hHeld
  have hb0 := hd5.out.b.c 2 _ rfl
  have hb1 := hd5.out.b.c 3 _ rfl
  have hb2 := hd5.out.b.f 2
  have hb3 := hd5.out.b.f 3
  go_upto_region 3 with fail
  refine wp_region_noPanic ?_
  refine Stg.wp_region_L [8] (Vr.SB w5) (by kernel_rfl) (fun _ => (Below.refl _ _).drew) (fun hHeld => ?_)
  refine Stg.wpAnyL_start (n' := 9) (l' := #[false, false, false, false, false, false, false, false, false]) (by kernel_rfl) (by kernel_rfl) ?_
  refine Stg.wpAnyL_take (i := 0) (v := ?_) [6, 7, 8] 0 rfl (by kernel_rfl) (by kernel_rfl) (by kernel_rfl) (by kernel_rfl) (by kernel_rfl) (fun _ _ _ h => h) (Or.inl ⟨by kernel_rfl, ?_⟩) (by assumption) ?_
  rotate_left
  · intro u hSu
    skip
    have sB := hSu rfl
    have y0 := cellB sB p0
    have y1 := cellB sB hb0
    have y2 := cellB sB hb1
    try simp only [List.getElem_toArray, List.getElem_cons_succ, List.getElem_cons_zero]
    go_simp
    try with_reducible rfl
  try simp only [Act.put, List.setIfInBounds_toArray, List.set_cons_zero, List.set_cons_succ]
  refine Stg.wpAnyL_take (i := 1) (v := ?_) [2, 3, 4, 5, 6, 7, 8] 0 rfl (by kernel_rfl) (by kernel_rfl) (by kernel_rfl) (by kernel_rfl) (by kernel_rfl) (fun _ _ _ h => h) (Or.inl ⟨by kernel_rfl, ?_⟩) (by assumption) ?_
  rotate_left
  · intro u hSu
    skip
    have sB := hSu rfl
    have y0 := cellB sB p0
    have y1 := cellB sB hb0
    have y2 := cellB sB hb1
    try simp only [List.getElem_toArray, List.getElem_cons_succ, List.getElem_cons_zero]
    go_simp
    try with_reducible rfl
  try simp only [Act.put, List.setIfInBounds_toArray, List.set_cons_zero, List.set_cons_succ]
  refine Stg.wpAnyL_free (i := 2) (v := ?_) 0 rfl (by kernel_rfl) (by kernel_rfl) (by kernel_rfl) (by kernel_rfl) (by kernel_rfl) (fun _ _ _ h => h) (Or.inl ⟨by kernel_rfl, ?_⟩) (by assumption) ?_
  rotate_left
  · intro u _
    try simp only [List.getElem_toArray, List.getElem_cons_succ, List.getElem_cons_zero]
    go_simp
    try with_reducible rfl
  try simp only [Act.put, List.setIfInBounds_toArray, List.set_cons_zero, List.set_cons_succ]
  refine Stg.wpAnyL_start (n' := 6) (l' := #[true, true, true, false, false, false, false, false, false]) (by kernel_rfl) (by kernel_rfl) ?_
  refine Stg.wpAnyL_free (i := 3) (v := ?_) 0 rfl (by kernel_rfl) (by kernel_rfl) (by kernel_rfl) (by kernel_rfl) (by kernel_rfl) (fun _ _ _ h => h) (Or.inl ⟨by kernel_rfl, ?_⟩) (by assumption) ?_
  rotate_left
  · intro u _
    try simp only [List.getElem_toArray, List.getElem_cons_succ, List.getElem_cons_zero]
    go_simp
    try with_reducible rfl
  try simp only [Act.put, List.setIfInBounds_toArray, List.set_cons_zero, List.set_cons_succ]
  refine Stg.wpAnyL_take (i := 4) (v := ?_) [5, 6, 7, 8] 0 rfl (by kernel_rfl) (by kernel_rfl) (by kernel_rfl) (by kernel_rfl) (by kernel_rfl) (fun _ _ _ h => h) (Or.inl ⟨by kernel_rfl, ?_⟩) (by assumption) ?_
  rotate_left
  · intro u hSu
    skip
    have sB := hSu rfl
    have y0 := cellB sB p0
    have y1 := cellB sB hb0
    have y2 := cellB sB hb1
    try simp only [List.getElem_toArray, List.getElem_cons_succ, List.getElem_cons_zero]
    go_simp
    try with_reducible rfl
  try simp only [Act.put, List.setIfInBounds_toArray, List.set_cons_zero, List.set_cons_succ]
  refine Stg.wpAnyL_one (i := 5) 0 rfl (by kernel_rfl) (by kernel_rfl) (fun K hK => ?_)
  try simp only [List.getElem_toArray, List.getElem_cons_succ, List.getElem_cons_zero]
  go_simp
  refine (fcopied_c V N (some ⟨tb, 0, none⟩) tb 0 ct S F _ (hd5.out.bel (hHeld rfl)).t (by have := hd5.out.n8; omega)).mono ?_
  rintro e w6 ⟨a6, g6, c6, rfl, T6, hg6, hb1⟩
  obtain rfl := T6.ha (by have := hd5.out.n1; omega)
  obtain ⟨hg7, hg8⟩ := hg6 (by have := hd5.out.n1; omega)
  clear hg6
  refine hK.out _ _ ?_ (fun hHeld1 => ?_)
  · exact fun _ => bNext (hHeld rfl) hb1 (Nat.le_refl _)
  clear hK K
  try simp only [Act.put, List.setIfInBounds_toArray, List.set_cons_zero, List.set_cons_succ]
  refine Stg.wpAnyL_start (n' := 3) (l' := #[true, true, true, true, true, true, false, false, false]) (by kernel_rfl) (by kernel_rfl) ?_
  refine Stg.wpAnyL_free (i := 6) (v := ?_) 0 rfl (by kernel_rfl) (by kernel_rfl) (by kernel_rfl) (by kernel_rfl) (by kernel_rfl) (fun _ _ _ h => h) (Or.inl ⟨by kernel_rfl, ?_⟩) (by assumption) ?_
  rotate_left
  · intro u _
    try simp only [List.getElem_toArray, List.getElem_cons_succ, List.getElem_cons_zero]
    go_simp
    try with_reducible rfl
  try simp only [Act.put, List.setIfInBounds_toArray, List.set_cons_zero, List.set_cons_succ]
  refine Stg.wpAnyL_free (i := 7) (v := ?_) 0 rfl (by kernel_rfl) (by kernel_rfl) (by kernel_rfl) (by kernel_rfl) (by kernel_rfl) (fun _ _ _ h => h) (Or.inl ⟨by kernel_rfl, ?_⟩) (by assumption) ?_
  rotate_left
  · intro u _
    try simp only [List.getElem_toArray, List.getElem_cons_succ, List.getElem_cons_zero]
    go_simp
    try with_reducible rfl
  try simp only [Act.put, List.setIfInBounds_toArray, List.set_cons_zero, List.set_cons_succ]
  refine Stg.wpAnyL_one (i := 8) 1 rfl (by kernel_rfl) (by kernel_rfl) (fun K hK => ?_)
  have hb6 := hHeld1 rfl
  have z2 := (hd5.out.bel hb6).b.f 2
  have z3 := (hd5.out.bel hb6).b.f 3
  have z4 := (hd5.out.bel hb6).b.c 2 _ rfl
  have z5 := (hd5.out.bel hb6).b.c 3 _ rfl
  try simp only [List.getElem_toArray, List.getElem_cons_succ, List.getElem_cons_zero]
  go_simp
  refine hK.out _ _ ?_ (fun hHeld2 => ?_)
  · exact fun h => absurd h (by decide)
  clear hK K
  try simp only [Act.put, List.setIfInBounds_toArray, List.set_cons_zero, List.set_cons_succ]
  refine Stg.wpAnyL_done (by kernel_rfl) ?_ _
  try simp only [List.getElem_toArray, List.getElem_cons_succ, List.getElem_cons_zero]
  try simp only [Act.put, List.setIfInBounds_toArray, List.set_cons_zero, List.set_cons_succ]
  refine NoPanic.normal ?_
  clear hb0 hb1 hb2 hb3 z2 z3 z4 z5 p0 p1 f1 f2 f3 s2 s3 hHeld
  replace hg7 : w5.heap.size ≤ g6 := by simpa using hg7
  have K67 : KF [f] w5 ((w6.setCell ⟨f, 2, none⟩ (.int .i64 V)).setCell ⟨f, 3, none⟩ (.slice (some ⟨g6, 0, none⟩) N c6)) := ((KF.of hb6).set (p := ⟨f, 2, none⟩) (.inl (by simp)) _).set (p := ⟨f, 3, none⟩) (.inl (by simp)) _
  have d7 := (hd5.out.bel hb6).setV (V2 := V) (c := c6) T6 (by have := hd5.out.b.l; omega) (by have := hd5.out.l.l; omega)
  have z7 : ((w6.setCell ⟨f, 2, none⟩ (.int .i64 V)).setCell ⟨f, 3, none⟩ (.slice (some ⟨g6, 0, none⟩) N c6)).frozen? ⟨g6, k * 2 + 1, none⟩ = false := (World.frozen?_setCell _ _ _ _).trans ((World.frozen?_setCell _ _ _ _).trans (hg8 _))
  have x7 := Lib.hid (hx5.out.kf K67 (fun i hi => by simp at hi; omega))
  have k7 := Lib.hid (k5.out.trans (K67.sub (by simp)))
  have hq3 : q + 1 + 1 + 1 < g6 := by have := hx5.out.b3.l; omega
  have htq : q ≤ g6 := by omega
  clear K67 hg8 T6 hb6 hd5 hx5 k5
  generalize ((w6.setCell ⟨f, 2, none⟩ (.int .i64 V)).setCell ⟨f, 3, none⟩ (.slice (some ⟨g6, 0, none⟩) N c6)) = w7 at d7 z7 x7 k7 ⊢
  replace d7 := Lib.hid d7
  have p0 := x7.out.b.b0.c 0 _ rfl
  have p1 := x7.out.b.b1.c 0 _ rfl
  have t1 := d7.out.b.c 3 _ rfl
  have t0 : w7.cell? ⟨g6, k * 2, none⟩ = some (.int .i64 (S k)) := by have := d7.out.t.c0 k hk; simpa using this
  have t2 : w7.cell? ⟨g6, k * 2 + 1, none⟩ = some (.int .i64 (F k)) := by have := d7.out.t.c1 k hk; simpa using this
  go_upto_region 4 with fail
  refine wp_region_noPanic ?_
  refine Stg.wp_region_L [17] (Vr.SB w7) (by kernel_rfl) (fun _ => (Below.refl _ _).drew) (fun hHeld => ?_)
  refine Stg.wpAnyL_start (n' := 18) (l' := #[false, false, false, false, false, false, false, false, false, false, false, false, false, false, false, false, false, false]) (by kernel_rfl) (by kernel_rfl) ?_
  refine Stg.wpAnyL_take (i := 0) (v := ?_) [1, 2, 3, 4, 15, 16, 17] 0 rfl (by kernel_rfl) (by kernel_rfl) (by kernel_rfl) (by kernel_rfl) (by kernel_rfl) (fun _ _ _ h => h) (Or.inl ⟨by kernel_rfl, ?_⟩) (by assumption) ?_
  rotate_left
  · intro u hSu
    skip
    have sB := hSu rfl
    have y0 := cellB sB p0
    have y1 := cellB sB p1
    have y2 := cellB sB t1
    have y3 := cellB sB t0
    try simp only [List.getElem_toArray, List.getElem_cons_succ, List.getElem_cons_zero]
    go_simp
    try with_reducible rfl
  try simp only [Act.put, List.setIfInBounds_toArray, List.set_cons_zero, List.set_cons_succ]
  refine Stg.wpAnyL_free (i := 1) (v := ?_) 0 rfl (by kernel_rfl) (by kernel_rfl) (by kernel_rfl) (by kernel_rfl) (by kernel_rfl) (fun _ _ _ h => h) (Or.inl ⟨by kernel_rfl, ?_⟩) (by assumption) ?_
  rotate_left
  · intro u _
    try simp only [List.getElem_toArray, List.getElem_cons_succ, List.getElem_cons_zero]
    go_simp
    try with_reducible rfl
  try simp only [Act.put, List.setIfInBounds_toArray, List.set_cons_zero, List.set_cons_succ]
  refine Stg.wpAnyL_free (i := 2) (v := ?_) 0 rfl (by kernel_rfl) (by kernel_rfl) (by kernel_rfl) (by kernel_rfl) (by kernel_rfl) (fun _ _ _ h => h) (Or.inl ⟨by kernel_rfl, ?_⟩) (by assumption) ?_
  rotate_left
  · intro u _
    try simp only [List.getElem_toArray, List.getElem_cons_succ, List.getElem_cons_zero]
    go_simp
    try with_reducible rfl
  try simp only [Act.put, List.setIfInBounds_toArray, List.set_cons_zero, List.set_cons_succ]
  refine Stg.wpAnyL_start (n' := 15) (l' := #[true, true, true, false, false, false, false, false, false, false, false, false, false, false, false, false, false, false]) (by kernel_rfl) (by kernel_rfl) ?_
  refine Stg.wpAnyL_free (i := 3) (v := ?_) 0 rfl (by kernel_rfl) (by kernel_rfl) (by kernel_rfl) (by kernel_rfl) (by kernel_rfl) (fun _ _ _ h => h) (Or.inl ⟨by kernel_rfl, ?_⟩) (by assumption) ?_
  rotate_left
  · intro u _
    try simp only [List.getElem_toArray, List.getElem_cons_succ, List.getElem_cons_zero]
    go_simp
    try with_reducible rfl
  try simp only [Act.put, List.setIfInBounds_toArray, List.set_cons_zero, List.set_cons_succ]
  refine Stg.wpAnyL_take (i := 4) (v := ?_) [15, 16, 17] 0 rfl (by kernel_rfl) (by kernel_rfl) (by kernel_rfl) (by kernel_rfl) (by kernel_rfl) (fun _ _ _ h => h) (Or.inl ⟨by kernel_rfl, ?_⟩) (by assumption) ?_
  rotate_left
  · intro u hSu
    skip
    have sB := hSu rfl
    have y0 := cellB sB p0
    have y1 := cellB sB p1
    have y2 := cellB sB t1
    have y3 := cellB sB t0
    try simp only [List.getElem_toArray, List.getElem_cons_succ, List.getElem_cons_zero]
    go_simp
    try with_reducible rfl
  try simp only [Act.put, List.setIfInBounds_toArray, List.set_cons_zero, List.set_cons_succ]
  refine Stg.wpAnyL_take (i := 5) (v := ?_) [15, 16, 17] 0 rfl (by kernel_rfl) (by kernel_rfl) (by kernel_rfl) (by kernel_rfl) (by kernel_rfl) (fun _ _ _ h => h) (Or.inl ⟨by kernel_rfl, ?_⟩) (by assumption) ?_
  rotate_left
  · intro u hSu
    skip
    have sB := hSu rfl
    have y0 := cellB sB p0
    have y1 := cellB sB p1
    have y2 := cellB sB t1
    have y3 := cellB sB t0
    try simp only [List.getElem_toArray, List.getElem_cons_succ, List.getElem_cons_zero]
    go_simp
    try with_reducible rfl
  try simp only [Act.put, List.setIfInBounds_toArray, List.set_cons_zero, List.set_cons_succ]
  refine Stg.wpAnyL_start (n' := 12) (l' := #[true, true, true, true, true, true, false, false, false, false, false, false, false, false, false, false, false, false]) (by kernel_rfl) (by kernel_rfl) ?_
  refine Stg.wpAnyL_take (i := 6) (v := ?_) [7, 8, 9, 10, 12, 13, 14, 15, 16, 17] 0 rfl (by kernel_rfl) (by kernel_rfl) (by kernel_rfl) (by kernel_rfl) (by kernel_rfl) (fun _ _ _ h => h) (Or.inl ⟨by kernel_rfl, ?_⟩) (by assumption) ?_
  rotate_left
  · intro u hSu
    skip
    have sB := hSu rfl
    have y0 := cellB sB p0
    have y1 := cellB sB p1
    have y2 := cellB sB t1
    have y3 := cellB sB t0
    try simp only [List.getElem_toArray, List.getElem_cons_succ, List.getElem_cons_zero]
    go_simp
    try with_reducible rfl
  try simp only [Act.put, List.setIfInBounds_toArray, List.set_cons_zero, List.set_cons_succ]
  refine Stg.wpAnyL_free (i := 7) (v := ?_) 0 rfl (by kernel_rfl) (by kernel_rfl) (by kernel_rfl) (by kernel_rfl) (by kernel_rfl) (fun _ _ _ h => h) (Or.inl ⟨by kernel_rfl, ?_⟩) (by assumption) ?_
  rotate_left
  · intro u _
    try simp only [List.getElem_toArray, List.getElem_cons_succ, List.getElem_cons_zero]
    go_simp
    try with_reducible rfl
  try simp only [Act.put, List.setIfInBounds_toArray, List.set_cons_zero, List.set_cons_succ]
  refine Stg.wpAnyL_free (i := 8) (v := ?_) 0 rfl (by kernel_rfl) (by kernel_rfl) (by kernel_rfl) (by kernel_rfl) (by kernel_rfl) (fun _ _ _ h => h) (Or.inl ⟨by kernel_rfl, ?_⟩) (by assumption) ?_
  rotate_left
  · intro u _
    try simp only [List.getElem_toArray, List.getElem_cons_succ, List.getElem_cons_zero]
    go_simp
    try with_reducible rfl
  try simp only [Act.put, List.setIfInBounds_toArray, List.set_cons_zero, List.set_cons_succ]
  refine Stg.wpAnyL_start (n' := 9) (l' := #[true, true, true, true, true, true, true, true, true, false, false, false, false, false, false, false, false, false]) (by kernel_rfl) (by kernel_rfl) ?_
  refine Stg.wpAnyL_free (i := 9) (v := ?_) 0 rfl (by kernel_rfl) (by kernel_rfl) (by kernel_rfl) (by kernel_rfl) (by kernel_rfl) (fun _ _ _ h => h) (Or.inl ⟨by kernel_rfl, ?_⟩) (by assumption) ?_
  rotate_left
  · intro u _
    try simp only [List.getElem_toArray, List.getElem_cons_succ, List.getElem_cons_zero]
    go_simp
    try with_reducible rfl
  try simp only [Act.put, List.setIfInBounds_toArray, List.set_cons_zero, List.set_cons_succ]
  refine Stg.wpAnyL_take (i := 10) (v := ?_) [12, 13, 14, 15, 16, 17] 0 rfl (by kernel_rfl) (by kernel_rfl) (by kernel_rfl) (by kernel_rfl) (by kernel_rfl) (fun _ _ _ h => h) (Or.inl ⟨by kernel_rfl, ?_⟩) (by assumption) ?_
  rotate_left
  · intro u hSu
    skip
    have sB := hSu rfl
    have y0 := cellB sB p0
    have y1 := cellB sB p1
    have y2 := cellB sB t1
    have y3 := cellB sB t0
    try simp only [List.getElem_toArray, List.getElem_cons_succ, List.getElem_cons_zero]
    go_simp
    try with_reducible rfl
  try simp only [Act.put, List.setIfInBounds_toArray, List.set_cons_zero, List.set_cons_succ]
  refine Stg.wpAnyL_take (i := 11) (v := ?_) [12, 13, 14, 15, 16, 17] 0 rfl (by kernel_rfl) (by kernel_rfl) (by kernel_rfl) (by kernel_rfl) (by kernel_rfl) (fun _ _ _ h => h) (Or.inl ⟨by kernel_rfl, ?_⟩) (by assumption) ?_
  rotate_left
  · intro u hSu
    skip
    have sB := hSu rfl
    have y0 := cellB sB p0
    have y1 := cellB sB p1
    have y2 := cellB sB t1
    have y3 := cellB sB t0
    try simp only [List.getElem_toArray, List.getElem_cons_succ, List.getElem_cons_zero]
    go_simp
    try with_reducible rfl
  try simp only [Act.put, List.setIfInBounds_toArray, List.set_cons_zero, List.set_cons_succ]
  refine Stg.wpAnyL_start (n' := 6) (l' := #[true, true, true, true, true, true, true, true, true, true, true, true, false, false, false, false, false, false]) (by kernel_rfl) (by kernel_rfl) ?_
  refine Stg.wpAnyL_free (i := 12) (v := ?_) 0 rfl (by kernel_rfl) (by kernel_rfl) (by kernel_rfl) (by kernel_rfl) (by kernel_rfl) (fun _ _ _ h => h) (Or.inl ⟨by kernel_rfl, ?_⟩) (by assumption) ?_
  rotate_left
  · intro u _
    try simp only [List.getElem_toArray, List.getElem_cons_succ, List.getElem_cons_zero]
    go_simp
    try with_reducible rfl
  try simp only [Act.put, List.setIfInBounds_toArray, List.set_cons_zero, List.set_cons_succ]
  refine Stg.wpAnyL_free (i := 13) (v := ?_) 0 rfl (by kernel_rfl) (by kernel_rfl) (by kernel_rfl) (by kernel_rfl) (by kernel_rfl) (fun _ _ _ h => h) (Or.inl ⟨by kernel_rfl, ?_⟩) (by assumption) ?_
  rotate_left
  · intro u _
    try simp only [List.getElem_toArray, List.getElem_cons_succ, List.getElem_cons_zero]
    go_simp
    try with_reducible rfl
  try simp only [Act.put, List.setIfInBounds_toArray, List.set_cons_zero, List.set_cons_succ]
  refine Stg.wpAnyL_take (i := 14) (v := ?_) [15, 16, 17] 0 rfl (by kernel_rfl) (by kernel_rfl) (by kernel_rfl) (by kernel_rfl) (by kernel_rfl) (fun _ _ _ h => h) (Or.inl ⟨by kernel_rfl, ?_⟩) (by assumption) ?_
  rotate_left
  · intro u hSu
    skip
    have sB := hSu rfl
    have y0 := cellB sB p0
    have y1 := cellB sB p1
    have y2 := cellB sB t1
    have y3 := cellB sB t0
    try simp only [List.getElem_toArray, List.getElem_cons_succ, List.getElem_cons_zero]
    go_simp
    try with_reducible rfl
  try simp only [Act.put, List.setIfInBounds_toArray, List.set_cons_zero, List.set_cons_succ]
  refine Stg.wpAnyL_start (n' := 3) (l' := #[true, true, true, true, true, true, true, true, true, true, true, true, true, true, true, false, false, false]) (by kernel_rfl) (by kernel_rfl) ?_
  refine Stg.wpAnyL_free (i := 15) (v := ?_) 0 rfl (by kernel_rfl) (by kernel_rfl) (by kernel_rfl) (by kernel_rfl) (by kernel_rfl) (fun _ _ _ h => h) (Or.inl ⟨by kernel_rfl, ?_⟩) (by assumption) ?_
  rotate_left
  · intro u _
    try simp only [List.getElem_toArray, List.getElem_cons_succ, List.getElem_cons_zero]
    go_simp
    try with_reducible rfl
  try simp only [Act.put, List.setIfInBounds_toArray, List.set_cons_zero, List.set_cons_succ]
  refine Stg.wpAnyL_free (i := 16) (v := ?_) 0 rfl (by kernel_rfl) (by kernel_rfl) (by kernel_rfl) (by kernel_rfl) (by kernel_rfl) (fun _ _ _ h => h) (Or.inl ⟨by kernel_rfl, ?_⟩) (by assumption) ?_
  rotate_left
  · intro u _
    try simp only [List.getElem_toArray, List.getElem_cons_succ, List.getElem_cons_zero]
    go_simp
    try with_reducible rfl
  try simp only [Act.put, List.setIfInBounds_toArray, List.set_cons_zero, List.set_cons_succ]
  refine Stg.wpAnyL_one (i := 17) 1 rfl (by kernel_rfl) (by kernel_rfl) (fun K hK => ?_)
  have z8 := (World.frozen?_of_block ((hHeld rfl).block g6 d7.out.tl)).trans z7
  have z9 := cellB (hHeld rfl) t2
  try simp only [List.getElem_toArray, List.getElem_cons_succ, List.getElem_cons_zero]
  go_simp
  refine hK.out _ _ ?_ (fun hHeld1 => ?_)
  · exact fun h => absurd h (by decide)
  clear hK K
  try simp only [Act.put, List.setIfInBounds_toArray, List.set_cons_zero, List.set_cons_succ]
  refine Stg.wpAnyL_done (by kernel_rfl) ?_ _
  try simp only [List.getElem_toArray, List.getElem_cons_succ, List.getElem_cons_zero]
  try simp only [Act.put, List.setIfInBounds_toArray, List.set_cons_zero, List.set_cons_succ]
  refine NoPanic.normal ?_
  clear p0 p1 t1 t0 z7 z8 t2 z9 hHeld
  have hd5 := Lib.hid ((d7.out.setFin hk (S k)).bel (Below.refl _ _).drew)
  have hKF : KF [g6] w7 (w7.setCell ⟨g6, k * 2 + 1, none⟩ (.int .i64 (S k))).drew := ((KF.refl [g6] w7).set (p := ⟨g6, k * 2 + 1, none⟩) (.inl (by simp)) _).drew
  have hx5 := Lib.hid (x7.out.kf' hKF (fun i hi => by simp at hi; omega))
  have k5 := Lib.hid (k7.out.new hKF (fun i hi => by simp at hi; omega))
  clear d7 x7 k7 hKF
  generalize (w7.setCell ⟨g6, k * 2 + 1, none⟩ (.int .i64 (S k))).drew = w8 at hd5 hx5 k5 ⊢
  obtain ⟨f1, f2, f3⟩ := hd5.out.flow hk
  rw [hz] at f2
  rw [hd] at f3
  have s2 := hx5.out.b.b2.c 0 _ rfl
  have s3 := hx5.out.b3.c 0 _ rfl
  have p0 := hx5.out.b.b0.c 0 _ rfl
  have p1 := hx5.out.b.b1.c 0 _ rfl
  go_upto_region 11 with fail
  have z1 := hd5.out.l.f (k * 3 + 1)
  have z2 := hd5.out.l.f (k * 3 + 2)
  refine wp_region_noPanic ?_
  refine Stg.wp_region_L [] (fun _ u => u.cell? ⟨q + 1 + 1 + 1, 0, none⟩ = some (.pointer (some ⟨lb, k * 3, none⟩)) ∧ u.cell? ⟨q + 1 + 1, 0, none⟩ = some (.int .i64 0)) (by kernel_rfl) (⟨by simpa using s3, by simpa using s2⟩) (fun hHeld => ?_)
  refine Stg.wpAnyL_start (n' := 9) (l' := #[false, false, false, false, false, false, false, false, false]) (by kernel_rfl) (by kernel_rfl) ?_
  refine Stg.wpAnyL_take (i := 0) (v := ?_) [3, 4, 5, 6, 7, 8] 0 rfl (by kernel_rfl) (by kernel_rfl) (by kernel_rfl) (by kernel_rfl) (by kernel_rfl) (fun _ _ _ h => h) (Or.inl ⟨by kernel_rfl, ?_⟩) (by assumption) ?_
  rotate_left
  · intro u hSu
    obtain ⟨y3, y2⟩ := hSu
    skip
    try simp only [List.getElem_toArray, List.getElem_cons_succ, List.getElem_cons_zero]
    go_simp
    try with_reducible rfl
  try simp only [Act.put, List.setIfInBounds_toArray, List.set_cons_zero, List.set_cons_succ]
  refine Stg.wpAnyL_take (i := 1) (v := ?_) [6, 7, 8] 0 rfl (by kernel_rfl) (by kernel_rfl) (by kernel_rfl) (by kernel_rfl) (by kernel_rfl) (fun _ _ _ h => h) (Or.inl ⟨by kernel_rfl, ?_⟩) (by assumption) ?_
  rotate_left
  · intro u hSu
    obtain ⟨y3, y2⟩ := hSu
    skip
    try simp only [List.getElem_toArray, List.getElem_cons_succ, List.getElem_cons_zero]
    go_simp
    try with_reducible rfl
  try simp only [Act.put, List.setIfInBounds_toArray, List.set_cons_zero, List.set_cons_succ]
  refine Stg.wpAnyL_take (i := 2) (v := ?_) [3, 4, 5, 6, 7, 8] 0 rfl (by kernel_rfl) (by kernel_rfl) (by kernel_rfl) (by kernel_rfl) (by kernel_rfl) (fun _ _ _ h => h) (Or.inl ⟨by kernel_rfl, ?_⟩) (by assumption) ?_
  rotate_left
  · intro u hSu
    obtain ⟨y3, y2⟩ := hSu
    skip
    try simp only [List.getElem_toArray, List.getElem_cons_succ, List.getElem_cons_zero]
    go_simp
    try with_reducible rfl
  try simp only [Act.put, List.setIfInBounds_toArray, List.set_cons_zero, List.set_cons_succ]
  refine Stg.wpAnyL_start (n' := 6) (l' := #[true, true, true, false, false, false, false, false, false]) (by kernel_rfl) (by kernel_rfl) ?_
  refine Stg.wpAnyL_free (i := 3) (v := ?_) 0 rfl (by kernel_rfl) (by kernel_rfl) (by kernel_rfl) (by kernel_rfl) (by kernel_rfl) (fun _ _ _ h => h) (Or.inl ⟨by kernel_rfl, ?_⟩) (by assumption) ?_
  rotate_left
  · intro u _
    try simp only [List.getElem_toArray, List.getElem_cons_succ, List.getElem_cons_zero]
    go_simp
    try with_reducible rfl
  try simp only [Act.put, List.setIfInBounds_toArray, List.set_cons_zero, List.set_cons_succ]
  refine Stg.wpAnyL_free (i := 4) (v := ?_) 0 rfl (by kernel_rfl) (by kernel_rfl) (by kernel_rfl) (by kernel_rfl) (by kernel_rfl) (fun _ _ _ h => h) (Or.inl ⟨by kernel_rfl, ?_⟩) (by assumption) ?_
  rotate_left
  · intro u _
    try simp only [List.getElem_toArray, List.getElem_cons_succ, List.getElem_cons_zero]
    go_simp
    try with_reducible rfl
  try simp only [Act.put, List.setIfInBounds_toArray, List.set_cons_zero, List.set_cons_succ]
  refine Stg.wpAnyL_one (i := 5) 0 rfl (by kernel_rfl) (by kernel_rfl) (fun K hK => ?_)
  have g2 := cellB ((Below.refl w8.heap.size w8).drew) f2
  have g3 := cellB ((Below.refl w8.heap.size w8).drew) f3
  have z1 : w8.drew.frozen? ⟨lb, k * 3 + 1, none⟩ = false := by simpa using z1
  have z2 : w8.drew.frozen? ⟨lb, k * 3 + 2, none⟩ = false := by simpa using z2
  try simp only [List.getElem_toArray, List.getElem_cons_succ, List.getElem_cons_zero]
  go_simp
  refine hK.out _ _ ?_ (fun hHeld1 => ?_)
  · exact ⟨(World.cell?_setCell_other _ _ _ _ (by simp <;> omega)).trans (hHeld).1, (World.cell?_setCell_other _ _ _ _ (by simp <;> omega)).trans (hHeld).2⟩
  clear hK K
  try simp only [Act.put, List.setIfInBounds_toArray, List.set_cons_zero, List.set_cons_succ]
  refine Stg.wpAnyL_start (n' := 3) (l' := #[true, true, true, true, true, true, false, false, false]) (by kernel_rfl) (by kernel_rfl) ?_
  refine Stg.wpAnyL_free (i := 6) (v := ?_) 0 rfl (by kernel_rfl) (by kernel_rfl) (by kernel_rfl) (by kernel_rfl) (by kernel_rfl) (fun _ _ _ h => h) (Or.inl ⟨by kernel_rfl, ?_⟩) (by assumption) ?_
  rotate_left
  · intro u _
    try simp only [List.getElem_toArray, List.getElem_cons_succ, List.getElem_cons_zero]
    go_simp
    try with_reducible rfl
  try simp only [Act.put, List.setIfInBounds_toArray, List.set_cons_zero, List.set_cons_succ]
  refine Stg.wpAnyL_free (i := 7) (v := ?_) 0 rfl (by kernel_rfl) (by kernel_rfl) (by kernel_rfl) (by kernel_rfl) (by kernel_rfl) (fun _ _ _ h => h) (Or.inl ⟨by kernel_rfl, ?_⟩) (by assumption) ?_
  rotate_left
  · intro u _
    try simp only [List.getElem_toArray, List.getElem_cons_succ, List.getElem_cons_zero]
    go_simp
    try with_reducible rfl
  try simp only [Act.put, List.setIfInBounds_toArray, List.set_cons_zero, List.set_cons_succ]
  refine Stg.wpAnyL_one (i := 8) 0 rfl (by kernel_rfl) (by kernel_rfl) (fun K hK => ?_)
  try simp only [List.getElem_toArray, List.getElem_cons_succ, List.getElem_cons_zero]
  go_simp
  refine hK.out _ _ ?_ (fun hHeld2 => ?_)
  · exact ⟨(World.cell?_setCell_other _ _ _ _ (by simp <;> omega)).trans (hHeld1).1, (World.cell?_setCell_other _ _ _ _ (by simp <;> omega)).trans (hHeld1).2⟩
  clear hK K
  try simp only [Act.put, List.setIfInBounds_toArray, List.set_cons_zero, List.set_cons_succ]
  refine Stg.wpAnyL_done (by kernel_rfl) ?_ _
  try simp only [List.getElem_toArray, List.getElem_cons_succ, List.getElem_cons_zero]
  try simp only [Act.put, List.setIfInBounds_toArray, List.set_cons_zero, List.set_cons_succ]
  refine NoPanic.normal ?_
  refine bodyPost_end (v := .tuple #[]) (by simp [results, Try.results48, go_sem]) rfl ?_
  have d6 := hd5.out.bel ((Below.refl _ _).drew)
  exact ⟨_, _, rfl, d6.setRow hk 0 false, .inr (by rw [hq]; exact htq), ((k5.out.drew).set (p := ⟨lb, k * 3 + 1, none⟩) (.inl (by simp)) _).set (p := ⟨lb, k * 3 + 2, none⟩) (.inl (by simp)) _⟩
set_option maxRecDepth 100000 in
set_option maxHeartbeats 4000000 in
theorem hear_cw {w : World} {f lb cl tb ct N : Nat} {ALL V : Int} {W Z : Nat → Int} {D : Nat → Bool} {S F : Nat → Int} (h : FD w f lb cl tb ct N ALL V W Z D S F) (k : Nat) (hk : k < N) (n : Int) (z : Int) (d : Bool) (hz : Z k = z) (hd : D k = false)
    (h1 : 0 < z) (h2 : ¬ n = 0) (h3 : ¬ z = n) (hok : tagOk V N S (up F k (S k)) (k : Int) (costI n (W k) ALL) (max (S k) V)) :
    Calls Try.prog 48 #[.pointer (some ⟨f, 0, none⟩), .int .i64 (k : Nat), .int .i64 n] w
      (HearQ tb f lb cl N ALL V W (up Z k n) (upb D k false) (up S k (max (S k) V)) (up F k (max (S k) V + costI n (W k) ALL)) [f, lb] w) := by
  have h8 := h.n8
  have hkz : (k : Int) < (N : Int) := by omega
  obtain ⟨bx, hB, hs3⟩ := bx3_new w f k n 63 3 3
  have hfl := h.b.l
  have hll := h.l.l
  have htl := h.tl
  replace h := Lib.hid h
  replace hB := Lib.hid hB
  replace bx := Lib.hid bx
  go_enter Try.func48, Try.ntmps48
  go_upto_region 1 with fail
  generalize (((w.alloc (.cells #[.pointer (some ⟨f, 0, none⟩)] 63)).alloc (.cells #[.int .i64 (k : Nat)] 3)).alloc (.cells #[.int .i64 n] 3)) = w3 at bx hB hs3 ⊢
  obtain ⟨q, hq⟩ : ∃ q, w.heap.size = q := ⟨_, rfl⟩
  rw [hq] at bx hs3 hfl hll htl hB ⊢
  have hd3 := Lib.hid (h.out.bel (by rw [hq]; exact hB.out))
  have b0 := hd3.out.b.c 0 _ rfl
  have p0 := bx.out.b0.c 0 _ rfl
  have p1 := bx.out.b1.c 0 _ rfl
  refine wp_region_noPanic ?_
  refine Stg.wp_region_L [7] (Vr.SB w3) (by kernel_rfl) (fun _ => (Below.refl _ _).drew) (fun hHeld => ?_)
  refine Stg.wpAnyL_start (n' := 8) (l' := #[false, false, false, false, false, false, false, false]) (by kernel_rfl) (by kernel_rfl) ?_
  refine Stg.wpAnyL_take (i := 0) (v := ?_) [1, 2, 3, 5, 7] 0 rfl (by kernel_rfl) (by kernel_rfl) (by kernel_rfl) (by kernel_rfl) (by kernel_rfl) (fun _ _ _ h => h) (Or.inl ⟨by kernel_rfl, ?_⟩) (by assumption) ?_
  rotate_left
  · intro u hSu
    skip
    have sB := hSu rfl
    have y0 := cellB sB b0
    have y1 := cellB sB p0
    have y2 := cellB sB p1
    try simp only [List.getElem_toArray, List.getElem_cons_succ, List.getElem_cons_zero]
    go_simp
    try with_reducible rfl
  try simp only [Act.put, List.setIfInBounds_toArray, List.set_cons_zero, List.set_cons_succ]
  refine Stg.wpAnyL_free (i := 1) (v := ?_) 0 rfl (by kernel_rfl) (by kernel_rfl) (by kernel_rfl) (by kernel_rfl) (by kernel_rfl) (fun _ _ _ h => h) (Or.inl ⟨by kernel_rfl, ?_⟩) (by assumption) ?_
  rotate_left
  · intro u _
    try simp only [List.getElem_toArray, List.getElem_cons_succ, List.getElem_cons_zero]
    go_simp
    try with_reducible rfl
  try simp only [Act.put, List.setIfInBounds_toArray, List.set_cons_zero, List.set_cons_succ]
  refine Stg.wpAnyL_free (i := 2) (v := ?_) 0 rfl (by kernel_rfl) (by kernel_rfl) (by kernel_rfl) (by kernel_rfl) (by kernel_rfl) (fun _ _ _ h => h) (Or.inl ⟨by kernel_rfl, ?_⟩) (by assumption) ?_
  rotate_left
  · intro u _
    try simp only [List.getElem_toArray, List.getElem_cons_succ, List.getElem_cons_zero]
    go_simp
    try with_reducible rfl
  try simp only [Act.put, List.setIfInBounds_toArray, List.set_cons_zero, List.set_cons_succ]
  refine Stg.wpAnyL_start (n' := 5) (l' := #[true, true, true, false, false, false, false, false]) (by kernel_rfl) (by kernel_rfl) ?_
  refine Stg.wpAnyL_take (i := 3) (v := ?_) [5, 7] 0 rfl (by kernel_rfl) (by kernel_rfl) (by kernel_rfl) (by kernel_rfl) (by kernel_rfl) (fun _ _ _ h => h) (Or.inl ⟨by kernel_rfl, ?_⟩) (by assumption) ?_
  rotate_left
  · intro u hSu
    skip
    have sB := hSu rfl
    have y0 := cellB sB b0
    have y1 := cellB sB p0
    have y2 := cellB sB p1
    try simp only [List.getElem_toArray, List.getElem_cons_succ, List.getElem_cons_zero]
    go_simp
    try with_reducible rfl
  try simp only [Act.put, List.setIfInBounds_toArray, List.set_cons_zero, List.set_cons_succ]
  refine Stg.wpAnyL_take (i := 4) (v := ?_) [5, 7] 0 rfl (by kernel_rfl) (by kernel_rfl) (by kernel_rfl) (by kernel_rfl) (by kernel_rfl) (fun _ _ _ h => h) (Or.inl ⟨by kernel_rfl, ?_⟩) (by assumption) ?_
  rotate_left
  · intro u hSu
    skip
    have sB := hSu rfl
    have y0 := cellB sB b0
    have y1 := cellB sB p0
    have y2 := cellB sB p1
    try simp only [List.getElem_toArray, List.getElem_cons_succ, List.getElem_cons_zero]
    go_simp
    try with_reducible rfl
  try simp only [Act.put, List.setIfInBounds_toArray, List.set_cons_zero, List.set_cons_succ]
  refine Stg.wpAnyL_free (i := 5) (v := ?_) 0 rfl (by kernel_rfl) (by kernel_rfl) (by kernel_rfl) (by kernel_rfl) (by kernel_rfl) (fun _ _ _ h => h) (Or.inl ⟨by kernel_rfl, ?_⟩) (by assumption) ?_
  rotate_left
  · intro u _
    try simp only [List.getElem_toArray, List.getElem_cons_succ, List.getElem_cons_zero]
    go_simp
    try with_reducible rfl
  try simp only [Act.put, List.setIfInBounds_toArray, List.set_cons_zero, List.set_cons_succ]
  refine Stg.wpAnyL_start (n' := 2) (l' := #[true, true, true, true, true, true, false, false]) (by kernel_rfl) (by kernel_rfl) ?_
  refine Stg.wpAnyL_one (i := 6) 0 rfl (by kernel_rfl) (by kernel_rfl) (fun K hK => ?_)
  try simp only [List.getElem_toArray, List.getElem_cons_succ, List.getElem_cons_zero]
  go_simp
  refine hK.out _ _ ?_ (fun hHeld1 => ?_)
  · exact fun _ => bNext (hHeld rfl) ((Below.refl _ _).alloc (Nat.le_refl _) _) (Nat.le_refl _)
  clear hK K
  try simp only [Act.put, List.setIfInBounds_toArray, List.set_cons_zero, List.set_cons_succ]
  refine Stg.wpAnyL_one (i := 7) 1 rfl (by kernel_rfl) (by kernel_rfl) (fun K hK => ?_)
  try simp only [List.getElem_toArray, List.getElem_cons_succ, List.getElem_cons_zero]
  go_simp
  refine hK.out _ _ ?_ (fun hHeld2 => ?_)
  · exact fun h => absurd h (by decide)
  clear hK K
  try simp only [Act.put, List.setIfInBounds_toArray, List.set_cons_zero, List.set_cons_succ]
  refine Stg.wpAnyL_done (by kernel_rfl) ?_ _
  try simp only [List.getElem_toArray, List.getElem_cons_succ, List.getElem_cons_zero]
  try simp only [Act.put, List.setIfInBounds_toArray, List.set_cons_zero, List.set_cons_succ]
  refine NoPanic.normal ?_
  obtain ⟨hx, hb4⟩ := bx_new (lb := lb) bx.out hs3 122
  have hB4 := Lib.hid (hB.out.trans (hb4.mono (by omega)))
  have hd4 := Lib.hid (hd3.out.bel hb4)
  replace hx := Lib.hid hx
  clear b0 p0 p1 hb4 hd3 hB bx hHeld
  go_upto_region 2 with fail
  generalize (w3.alloc (.cells #[.pointer (some ⟨lb, k * 3, none⟩)] 122)).drew = w4 at hx hB4 hd4 ⊢
  clear hs3
  obtain ⟨f1, f2, f3⟩ := hd4.out.flow hk
  rw [hz] at f2
  rw [hd] at f3
  have s2 := hx.out.b.b2.c 0 _ rfl
  have s3 := hx.out.b3.c 0 _ rfl
  refine wp_region_noPanic ?_
  refine Stg.wp_region_L [] (Vr.SB w4) (by kernel_rfl) (fun _ => (Below.refl _ _).drew) (fun hHeld => ?_)
  refine Stg.wpAnyL_start (n' := 20) (l' := #[false, false, false, false, false, false, false, false, false, false, false, false, false, false, false, false, false, false, false, false]) (by kernel_rfl) (by kernel_rfl) ?_
  refine Stg.wpAnyL_take (i := 0) (v := ?_) [1, 2, 3, 4, 5, 6, 7, 8, 9, 10, 11, 12, 13, 14, 15, 16, 17, 18, 19] 0 rfl (by kernel_rfl) (by kernel_rfl) (by kernel_rfl) (by kernel_rfl) (by kernel_rfl) (fun _ _ _ h => h) (Or.inl ⟨by kernel_rfl, ?_⟩) (by assumption) ?_
  rotate_left
  · intro u hSu
    skip
    have sB := hSu rfl
    have y0 := cellB sB s2
    have y1 := cellB sB s3
    have y2 := cellB sB f1
    have y3 := cellB sB f2
    have y4 := cellB sB f3
    try simp only [List.getElem_toArray, List.getElem_cons_succ, List.getElem_cons_zero]
    go_simp
    try with_reducible rfl
  try simp only [Act.put, List.setIfInBounds_toArray, List.set_cons_zero, List.set_cons_succ]
  refine Stg.wpAnyL_free (i := 1) (v := ?_) 0 rfl (by kernel_rfl) (by kernel_rfl) (by kernel_rfl) (by kernel_rfl) (by kernel_rfl) (fun _ _ _ h => h) (Or.inl ⟨by kernel_rfl, ?_⟩) (by assumption) ?_
  rotate_left
  · intro u _
    try simp only [List.getElem_toArray, List.getElem_cons_succ, List.getElem_cons_zero]
    go_simp
    try with_reducible rfl
  try simp only [Act.put, List.setIfInBounds_toArray, List.set_cons_zero, List.set_cons_succ]
  refine Stg.wpAnyL_free (i := 2) (v := ?_) 0 rfl (by kernel_rfl) (by kernel_rfl) (by kernel_rfl) (by kernel_rfl) (by kernel_rfl) (fun _ _ _ h => h) (Or.inl ⟨by kernel_rfl, ?_⟩) (by assumption) ?_
  rotate_left
  · intro u _
    try simp only [List.getElem_toArray, List.getElem_cons_succ, List.getElem_cons_zero]
    go_simp
    try with_reducible rfl
  try simp only [Act.put, List.setIfInBounds_toArray, List.set_cons_zero, List.set_cons_succ]
  refine Stg.wpAnyL_start (n' := 17) (l' := #[true, true, true, false, false, false, false, false, false, false, false, false, false, false, false, false, false, false, false, false]) (by kernel_rfl) (by kernel_rfl) ?_
  refine Stg.wpAnyL_take (i := 3) (v := ?_) [4, 5, 6, 7, 8, 9, 10, 11, 12, 13, 14, 15, 16, 17, 18, 19] 0 rfl (by kernel_rfl) (by kernel_rfl) (by kernel_rfl) (by kernel_rfl) (by kernel_rfl) (fun _ _ _ h => h) (Or.inl ⟨by kernel_rfl, ?_⟩) (by assumption) ?_
  rotate_left
  · intro u hSu
    skip
    have sB := hSu rfl
    have y0 := cellB sB s2
    have y1 := cellB sB s3
    have y2 := cellB sB f1
    have y3 := cellB sB f2
    have y4 := cellB sB f3
    try simp only [List.getElem_toArray, List.getElem_cons_succ, List.getElem_cons_zero]
    go_simp
    try with_reducible rfl
  try simp only [Act.put, List.setIfInBounds_toArray, List.set_cons_zero, List.set_cons_succ]
  refine Stg.wpAnyL_free (i := 4) (v := ?_) 0 rfl (by kernel_rfl) (by kernel_rfl) (by kernel_rfl) (by kernel_rfl) (by kernel_rfl) (fun _ _ _ h => h) (Or.inl ⟨by kernel_rfl, ?_⟩) (by assumption) ?_
  rotate_left
  · intro u _
    try simp only [List.getElem_toArray, List.getElem_cons_succ, List.getElem_cons_zero]
    go_simp
    try with_reducible rfl
  try simp only [Act.put, List.setIfInBounds_toArray, List.set_cons_zero, List.set_cons_succ]
  refine Stg.wpAnyL_free (i := 5) (v := ?_) 0 rfl (by kernel_rfl) (by kernel_rfl) (by kernel_rfl) (by kernel_rfl) (by kernel_rfl) (fun _ _ _ h => h) (Or.inl ⟨by kernel_rfl, ?_⟩) (by assumption) ?_
  rotate_left
  · intro u _
    try simp only [List.getElem_toArray, List.getElem_cons_succ, List.getElem_cons_zero]
    go_simp
    try with_reducible rfl
  try simp only [Act.put, List.setIfInBounds_toArray, List.set_cons_zero, List.set_cons_succ]
  refine Stg.wpAnyL_start (n' := 14) (l' := #[true, true, true, true, true, true, false, false, false, false, false, false, false, false, false, false, false, false, false, false]) (by kernel_rfl) (by kernel_rfl) ?_
  refine Stg.wpAnyL_take (i := 6) (v := ?_) [7, 8, 9, 10, 11, 12, 13, 14, 15, 16, 17, 18, 19] 0 rfl (by kernel_rfl) (by kernel_rfl) (by kernel_rfl) (by kernel_rfl) (by kernel_rfl) (fun _ _ _ h => h) (Or.inl ⟨by kernel_rfl, ?_⟩) (by assumption) ?_
  rotate_left
  · intro u hSu
    skip
    have sB := hSu rfl
    have y0 := cellB sB s2
    have y1 := cellB sB s3
    have y2 := cellB sB f1
    have y3 := cellB sB f2
    have y4 := cellB sB f3
    try simp only [List.getElem_toArray, List.getElem_cons_succ, List.getElem_cons_zero]
    go_simp
    try with_reducible rfl
  try simp only [Act.put, List.setIfInBounds_toArray, List.set_cons_zero, List.set_cons_succ]
  refine Stg.wpAnyL_free (i := 7) (v := ?_) 0 rfl (by kernel_rfl) (by kernel_rfl) (by kernel_rfl) (by kernel_rfl) (by kernel_rfl) (fun _ _ _ h => h) (Or.inl ⟨by kernel_rfl, ?_⟩) (by assumption) ?_
  rotate_left
  · intro u _
    try simp only [List.getElem_toArray, List.getElem_cons_succ, List.getElem_cons_zero]
    go_simp
    try with_reducible rfl
  try simp only [Act.put, List.setIfInBounds_toArray, List.set_cons_zero, List.set_cons_succ]
  refine Stg.wpAnyL_free (i := 8) (v := ?_) 0 rfl (by kernel_rfl) (by kernel_rfl) (by kernel_rfl) (by kernel_rfl) (by kernel_rfl) (fun _ _ _ h => h) (Or.inl ⟨by kernel_rfl, ?_⟩) (by assumption) ?_
  rotate_left
  · intro u _
    try simp only [List.getElem_toArray, List.getElem_cons_succ, List.getElem_cons_zero]
    go_simp
    try with_reducible rfl
  try simp only [Act.put, List.setIfInBounds_toArray, List.set_cons_zero, List.set_cons_succ]
  refine Stg.wpAnyL_start (n' := 11) (l' := #[true, true, true, true, true, true, true, true, true, false, false, false, false, false, false, false, false, false, false, false]) (by kernel_rfl) (by kernel_rfl) ?_
  refine Stg.wpAnyL_take (i := 9) (v := ?_) [10, 11, 12, 13, 14, 15, 16, 17, 18, 19] 0 rfl (by kernel_rfl) (by kernel_rfl) (by kernel_rfl) (by kernel_rfl) (by kernel_rfl) (fun _ _ _ h => h) (Or.inl ⟨by kernel_rfl, ?_⟩) (by assumption) ?_
  rotate_left
  · intro u hSu
    skip
    have sB := hSu rfl
    have y0 := cellB sB s2
    have y1 := cellB sB s3
    have y2 := cellB sB f1
    have y3 := cellB sB f2
    have y4 := cellB sB f3
    try simp only [List.getElem_toArray, List.getElem_cons_succ, List.getElem_cons_zero]
    go_simp
    try with_reducible rfl
  try simp only [Act.put, List.setIfInBounds_toArray, List.set_cons_zero, List.set_cons_succ]
  refine Stg.wpAnyL_free (i := 10) (v := ?_) 0 rfl (by kernel_rfl) (by kernel_rfl) (by kernel_rfl) (by kernel_rfl) (by kernel_rfl) (fun _ _ _ h => h) (Or.inl ⟨by kernel_rfl, ?_⟩) (by assumption) ?_
  rotate_left
  · intro u _
    try simp only [List.getElem_toArray, List.getElem_cons_succ, List.getElem_cons_zero]
    go_simp
    try with_reducible rfl
  try simp only [Act.put, List.setIfInBounds_toArray, List.set_cons_zero, List.set_cons_succ]
  refine Stg.wpAnyL_free (i := 11) (v := ?_) 0 rfl (by kernel_rfl) (by kernel_rfl) (by kernel_rfl) (by kernel_rfl) (by kernel_rfl) (fun _ _ _ h => h) (Or.inl ⟨by kernel_rfl, ?_⟩) (by assumption) ?_
  rotate_left
  · intro u _
    try simp only [List.getElem_toArray, List.getElem_cons_succ, List.getElem_cons_zero]
    go_simp
    try with_reducible rfl
  try simp only [Act.put, List.setIfInBounds_toArray, List.set_cons_zero, List.set_cons_succ]
  refine Stg.wpAnyL_start (n' := 8) (l' := #[true, true, true, true, true, true, true, true, true, true, true, true, false, false, false, false, false, false, false, false]) (by kernel_rfl) (by kernel_rfl) ?_
  refine Stg.wpAnyL_free (i := 12) (v := ?_) 0 rfl (by kernel_rfl) (by kernel_rfl) (by kernel_rfl) (by kernel_rfl) (by kernel_rfl) (fun _ _ _ h => h) (Or.inl ⟨by kernel_rfl, ?_⟩) (by assumption) ?_
  rotate_left
  · intro u _
    try simp only [List.getElem_toArray, List.getElem_cons_succ, List.getElem_cons_zero]
    go_simp
    try with_reducible rfl
  try simp only [Act.put, List.setIfInBounds_toArray, List.set_cons_zero, List.set_cons_succ]
  refine Stg.wpAnyL_take (i := 13) (v := ?_) [14, 15, 16, 18, 19] 0 rfl (by kernel_rfl) (by kernel_rfl) (by kernel_rfl) (by kernel_rfl) (by kernel_rfl) (fun _ _ _ h => h) (Or.inl ⟨by kernel_rfl, ?_⟩) (by assumption) ?_
  rotate_left
  · intro u hSu
    skip
    have sB := hSu rfl
    have y0 := cellB sB s2
    have y1 := cellB sB s3
    have y2 := cellB sB f1
    have y3 := cellB sB f2
    have y4 := cellB sB f3
    try simp only [List.getElem_toArray, List.getElem_cons_succ, List.getElem_cons_zero]
    go_simp
    try with_reducible rfl
  try simp only [Act.put, List.setIfInBounds_toArray, List.set_cons_zero, List.set_cons_succ]
  refine Stg.wpAnyL_free (i := 14) (v := ?_) 0 rfl (by kernel_rfl) (by kernel_rfl) (by kernel_rfl) (by kernel_rfl) (by kernel_rfl) (fun _ _ _ h => h) (Or.inl ⟨by kernel_rfl, ?_⟩) (by assumption) ?_
  rotate_left
  · intro u _
    try simp only [List.getElem_toArray, List.getElem_cons_succ, List.getElem_cons_zero]
    go_simp
    try with_reducible rfl
  try simp only [Act.put, List.setIfInBounds_toArray, List.set_cons_zero, List.set_cons_succ]
  refine Stg.wpAnyL_start (n' := 5) (l' := #[true, true, true, true, true, true, true, true, true, true, true, true, true, true, true, false, false, false, false, false]) (by kernel_rfl) (by kernel_rfl) ?_
  refine Stg.wpAnyL_free (i := 15) (v := ?_) 0 rfl (by kernel_rfl) (by kernel_rfl) (by kernel_rfl) (by kernel_rfl) (by kernel_rfl) (fun _ _ _ h => h) (Or.inl ⟨by kernel_rfl, ?_⟩) (by assumption) ?_
  rotate_left
  · intro u _
    try simp only [List.getElem_toArray, List.getElem_cons_succ, List.getElem_cons_zero]
    go_simp
    try with_reducible rfl
  try simp only [Act.put, List.setIfInBounds_toArray, List.set_cons_zero, List.set_cons_succ]
  refine Stg.wpAnyL_take (i := 16) (v := ?_) [18, 19] 0 rfl (by kernel_rfl) (by kernel_rfl) (by kernel_rfl) (by kernel_rfl) (by kernel_rfl) (fun _ _ _ h => h) (Or.inl ⟨by kernel_rfl, ?_⟩) (by assumption) ?_
  rotate_left
  · intro u hSu
    skip
    have sB := hSu rfl
    have y0 := cellB sB s2
    have y1 := cellB sB s3
    have y2 := cellB sB f1
    have y3 := cellB sB f2
    have y4 := cellB sB f3
    try simp only [List.getElem_toArray, List.getElem_cons_succ, List.getElem_cons_zero]
    go_simp
    try with_reducible rfl
  try simp only [Act.put, List.setIfInBounds_toArray, List.set_cons_zero, List.set_cons_succ]
  refine Stg.wpAnyL_take (i := 17) (v := ?_) [18, 19] 0 rfl (by kernel_rfl) (by kernel_rfl) (by kernel_rfl) (by kernel_rfl) (by kernel_rfl) (fun _ _ _ h => h) (Or.inl ⟨by kernel_rfl, ?_⟩) (by assumption) ?_
  rotate_left
  · intro u hSu
    skip
    have sB := hSu rfl
    have y0 := cellB sB s2
    have y1 := cellB sB s3
    have y2 := cellB sB f1
    have y3 := cellB sB f2
    have y4 := cellB sB f3
    try simp only [List.getElem_toArray, List.getElem_cons_succ, List.getElem_cons_zero]
    go_simp
    try with_reducible rfl
  try simp only [Act.put, List.setIfInBounds_toArray, List.set_cons_zero, List.set_cons_succ]
  refine Stg.wpAnyL_start (n' := 2) (l' := #[true, true, true, true, true, true, true, true, true, true, true, true, true, true, true, true, true, true, false, false]) (by kernel_rfl) (by kernel_rfl) ?_
  refine Stg.wpAnyL_free (i := 18) (v := ?_) 0 rfl (by kernel_rfl) (by kernel_rfl) (by kernel_rfl) (by kernel_rfl) (by kernel_rfl) (fun _ _ _ h => h) (Or.inl ⟨by kernel_rfl, ?_⟩) (by assumption) ?_
  rotate_left
  · intro u _
    try simp only [List.getElem_toArray, List.getElem_cons_succ, List.getElem_cons_zero]
    go_simp
    try with_reducible rfl
  try simp only [Act.put, List.setIfInBounds_toArray, List.set_cons_zero, List.set_cons_succ]
  refine Stg.wpAnyL_free (i := 19) (v := ?_) 0 rfl (by kernel_rfl) (by kernel_rfl) (by kernel_rfl) (by kernel_rfl) (by kernel_rfl) (fun _ _ _ h => h) (Or.inl ⟨by kernel_rfl, ?_⟩) (by assumption) ?_
  rotate_left
  · intro u _
    try simp only [List.getElem_toArray, List.getElem_cons_succ, List.getElem_cons_zero]
    go_simp
    try with_reducible rfl
  try simp only [Act.put, List.setIfInBounds_toArray, List.set_cons_zero, List.set_cons_succ]
  refine Stg.wpAnyL_done (by kernel_rfl) ?_ _
  try simp only [List.getElem_toArray, List.getElem_cons_succ, List.getElem_cons_zero]
  try simp only [Act.put, List.setIfInBounds_toArray, List.set_cons_zero, List.set_cons_succ]
  refine NoPanic.normal ?_
  have hdr := (Below.refl w4.heap.size w4).drew
  generalize w4.drew = w5 at hdr ⊢
  obtain ⟨f1, f2, f3⟩ := (hd4.out.bel hdr).flow hk
  rw [hz] at f2
  rw [hd] at f3
  have p0 := (hx.out.bel hdr).b.b0.c 0 _ rfl
  have p1 := (hx.out.bel hdr).b.b1.c 0 _ rfl
  have s2 := (hx.out.bel hdr).b.b2.c 0 _ rfl
  have s3 := (hx.out.bel hdr).b3.c 0 _ rfl
  replace hdr := Lib.hid hdr
  have hd5 := Lib.hid (hd4.out.bel hdr.out)
  have hx5 := Lib.hid (hx.out.bel hdr.out)
  have k5 : RowKit.Hid (KF [f, lb] w w5) := Lib.hid (KF.of (by rw [hq]; exact hB4.out.trans (hdr.out.mono (by have := hx.out.b3.l; omega))))
  clear hdr hd4 hx hB4 hHeld
  have hb0 := hd5.out.b.c 2 _ rfl
  have hb1 := hd5.out.b.c 3 _ rfl
  have hb2 := hd5.out.b.f 2
  have hb3 := hd5.out.b.f 3
  go_upto_region 3 with fail
  refine wp_region_noPanic ?_
  refine Stg.wp_region_L [8] (Vr.SB w5) (by kernel_rfl) (fun _ => (Below.refl _ _).drew) (fun hHeld => ?_)
  refine Stg.wpAnyL_start (n' := 9) (l' := #[false, false, false, false, false, false, false, false, false]) (by kernel_rfl) (by kernel_rfl) ?_
  refine Stg.wpAnyL_take (i := 0) (v := ?_) [6, 7, 8] 0 rfl (by kernel_rfl) (by kernel_rfl) (by kernel_rfl) (by kernel_rfl) (by kernel_rfl) (fun _ _ _ h => h) (Or.inl ⟨by kernel_rfl, ?_⟩) (by assumption) ?_
  rotate_left
  · intro u hSu
    skip
    have sB := hSu rfl
    have y0 := cellB sB p0
    have y1 := cellB sB hb0
    have y2 := cellB sB hb1
    try simp only [List.getElem_toArray, List.getElem_cons_succ, List.getElem_cons_zero]
    go_simp
    try with_reducible rfl
  try simp only [Act.put, List.setIfInBounds_toArray, List.set_cons_zero, List.set_cons_succ]
  refine Stg.wpAnyL_take (i := 1) (v := ?_) [2, 3, 4, 5, 6, 7, 8] 0 rfl (by kernel_rfl) (by kernel_rfl) (by kernel_rfl) (by kernel_rfl) (by kernel_rfl) (fun _ _ _ h => h) (Or.inl ⟨by kernel_rfl, ?_⟩) (by assumption) ?_
  rotate_left
  · intro u hSu
    skip
    have sB := hSu rfl
    have y0 := cellB sB p0
    have y1 := cellB sB hb0
    have y2 := cellB sB hb1
    try simp only [List.getElem_toArray, List.getElem_cons_succ, List.getElem_cons_zero]
    go_simp
    try with_reducible rfl
  try simp only [Act.put, List.setIfInBounds_toArray, List.set_cons_zero, List.set_cons_succ]
  refine Stg.wpAnyL_free (i := 2) (v := ?_) 0 rfl (by kernel_rfl) (by kernel_rfl) (by kernel_rfl) (by kernel_rfl) (by kernel_rfl) (fun _ _ _ h => h) (Or.inl ⟨by kernel_rfl, ?_⟩) (by assumption) ?_
  rotate_left
  · intro u _
    try simp only [List.getElem_toArray, List.getElem_cons_succ, List.getElem_cons_zero]
    go_simp
    try with_reducible rfl
  try simp only [Act.put, List.setIfInBounds_toArray, List.set_cons_zero, List.set_cons_succ]
  refine Stg.wpAnyL_start (n' := 6) (l' := #[true, true, true, false, false, false, false, false, false]) (by kernel_rfl) (by kernel_rfl) ?_
  refine Stg.wpAnyL_free (i := 3) (v := ?_) 0 rfl (by kernel_rfl) (by kernel_rfl) (by kernel_rfl) (by kernel_rfl) (by kernel_rfl) (fun _ _ _ h => h) (Or.inl ⟨by kernel_rfl, ?_⟩) (by assumption) ?_
  rotate_left
  · intro u _
    try simp only [List.getElem_toArray, List.getElem_cons_succ, List.getElem_cons_zero]
    go_simp
    try with_reducible rfl
  try simp only [Act.put, List.setIfInBounds_toArray, List.set_cons_zero, List.set_cons_succ]
  refine Stg.wpAnyL_take (i := 4) (v := ?_) [5, 6, 7, 8] 0 rfl (by kernel_rfl) (by kernel_rfl) (by kernel_rfl) (by kernel_rfl) (by kernel_rfl) (fun _ _ _ h => h) (Or.inl ⟨by kernel_rfl, ?_⟩) (by assumption) ?_
  rotate_left
  · intro u hSu
    skip
    have sB := hSu rfl
    have y0 := cellB sB p0
    have y1 := cellB sB hb0
    have y2 := cellB sB hb1
    try simp only [List.getElem_toArray, List.getElem_cons_succ, List.getElem_cons_zero]
    go_simp
    try with_reducible rfl
  try simp only [Act.put, List.setIfInBounds_toArray, List.set_cons_zero, List.set_cons_succ]
  refine Stg.wpAnyL_one (i := 5) 0 rfl (by kernel_rfl) (by kernel_rfl) (fun K hK => ?_)
  try simp only [List.getElem_toArray, List.getElem_cons_succ, List.getElem_cons_zero]
  go_simp
  refine (fcopied_c V N (some ⟨tb, 0, none⟩) tb 0 ct S F _ (hd5.out.bel (hHeld rfl)).t (by have := hd5.out.n8; omega)).mono ?_
  rintro e w6 ⟨a6, g6, c6, rfl, T6, hg6, hb1⟩
  obtain rfl := T6.ha (by have := hd5.out.n1; omega)
  obtain ⟨hg7, hg8⟩ := hg6 (by have := hd5.out.n1; omega)
  clear hg6
  refine hK.out _ _ ?_ (fun hHeld1 => ?_)
  · exact fun _ => bNext (hHeld rfl) hb1 (Nat.le_refl _)
  clear hK K
  try simp only [Act.put, List.setIfInBounds_toArray, List.set_cons_zero, List.set_cons_succ]
  refine Stg.wpAnyL_start (n' := 3) (l' := #[true, true, true, true, true, true, false, false, false]) (by kernel_rfl) (by kernel_rfl) ?_
  refine Stg.wpAnyL_free (i := 6) (v := ?_) 0 rfl (by kernel_rfl) (by kernel_rfl) (by kernel_rfl) (by kernel_rfl) (by kernel_rfl) (fun _ _ _ h => h) (Or.inl ⟨by kernel_rfl, ?_⟩) (by assumption) ?_
  rotate_left
  · intro u _
    try simp only [List.getElem_toArray, List.getElem_cons_succ, List.getElem_cons_zero]
    go_simp
    try with_reducible rfl
  try simp only [Act.put, List.setIfInBounds_toArray, List.set_cons_zero, List.set_cons_succ]
  refine Stg.wpAnyL_free (i := 7) (v := ?_) 0 rfl (by kernel_rfl) (by kernel_rfl) (by kernel_rfl) (by kernel_rfl) (by kernel_rfl) (fun _ _ _ h => h) (Or.inl ⟨by kernel_rfl, ?_⟩) (by assumption) ?_
  rotate_left
  · intro u _
    try simp only [List.getElem_toArray, List.getElem_cons_succ, List.getElem_cons_zero]
    go_simp
    try with_reducible rfl
  try simp only [Act.put, List.setIfInBounds_toArray, List.set_cons_zero, List.set_cons_succ]
  refine Stg.wpAnyL_one (i := 8) 1 rfl (by kernel_rfl) (by kernel_rfl) (fun K hK => ?_)
  have hb6 := hHeld1 rfl
  have z2 := (hd5.out.bel hb6).b.f 2
  have z3 := (hd5.out.bel hb6).b.f 3
  have z4 := (hd5.out.bel hb6).b.c 2 _ rfl
  have z5 := (hd5.out.bel hb6).b.c 3 _ rfl
  try simp only [List.getElem_toArray, List.getElem_cons_succ, List.getElem_cons_zero]
  go_simp
  refine hK.out _ _ ?_ (fun hHeld2 => ?_)
  · exact fun h => absurd h (by decide)
  clear hK K
  try simp only [Act.put, List.setIfInBounds_toArray, List.set_cons_zero, List.set_cons_succ]
  refine Stg.wpAnyL_done (by kernel_rfl) ?_ _
  try simp only [List.getElem_toArray, List.getElem_cons_succ, List.getElem_cons_zero]
  try simp only [Act.put, List.setIfInBounds_toArray, List.set_cons_zero, List.set_cons_succ]
  refine NoPanic.normal ?_
  clear hb0 hb1 hb2 hb3 z2 z3 z4 z5 p0 p1 f1 f2 f3 s2 s3 hHeld
  replace hg7 : w5.heap.size ≤ g6 := by simpa using hg7
  have K67 : KF [f] w5 ((w6.setCell ⟨f, 2, none⟩ (.int .i64 V)).setCell ⟨f, 3, none⟩ (.slice (some ⟨g6, 0, none⟩) N c6)) := ((KF.of hb6).set (p := ⟨f, 2, none⟩) (.inl (by simp)) _).set (p := ⟨f, 3, none⟩) (.inl (by simp)) _
  have d7 := (hd5.out.bel hb6).setV (V2 := V) (c := c6) T6 (by have := hd5.out.b.l; omega) (by have := hd5.out.l.l; omega)
  have z7 : ((w6.setCell ⟨f, 2, none⟩ (.int .i64 V)).setCell ⟨f, 3, none⟩ (.slice (some ⟨g6, 0, none⟩) N c6)).frozen? ⟨g6, k * 2 + 1, none⟩ = false := (World.frozen?_setCell _ _ _ _).trans ((World.frozen?_setCell _ _ _ _).trans (hg8 _))
  have x7 := Lib.hid (hx5.out.kf K67 (fun i hi => by simp at hi; omega))
  have k7 := Lib.hid (k5.out.trans (K67.sub (by simp)))
  have hq3 : q + 1 + 1 + 1 < g6 := by have := hx5.out.b3.l; omega
  have htq : q ≤ g6 := by omega
  clear K67 hg8 T6 hb6 hd5 hx5 k5
  generalize ((w6.setCell ⟨f, 2, none⟩ (.int .i64 V)).setCell ⟨f, 3, none⟩ (.slice (some ⟨g6, 0, none⟩) N c6)) = w7 at d7 z7 x7 k7 ⊢
  replace d7 := Lib.hid d7
  have p0 := x7.out.b.b0.c 0 _ rfl
  have p1 := x7.out.b.b1.c 0 _ rfl
  have t1 := d7.out.b.c 3 _ rfl
  have t0 : w7.cell? ⟨g6, k * 2, none⟩ = some (.int .i64 (S k)) := by have := d7.out.t.c0 k hk; simpa using this
  have t2 : w7.cell? ⟨g6, k * 2 + 1, none⟩ = some (.int .i64 (F k)) := by have := d7.out.t.c1 k hk; simpa using this
  go_upto_region 4 with fail
  refine wp_region_noPanic ?_
  refine Stg.wp_region_L [17] (Vr.SB w7) (by kernel_rfl) (fun _ => (Below.refl _ _).drew) (fun hHeld => ?_)
  refine Stg.wpAnyL_start (n' := 18) (l' := #[false, false, false, false, false, false, false, false, false, false, false, false, false, false, false, false, false, false]) (by kernel_rfl) (by kernel_rfl) ?_
  refine Stg.wpAnyL_take (i := 0) (v := ?_) [1, 2, 3, 4, 15, 16, 17] 0 rfl (by kernel_rfl) (by kernel_rfl) (by kernel_rfl) (by kernel_rfl) (by kernel_rfl) (fun _ _ _ h => h) (Or.inl ⟨by kernel_rfl, ?_⟩) (by assumption) ?_
  rotate_left
  · intro u hSu
    skip
    have sB := hSu rfl
    have y0 := cellB sB p0
    have y1 := cellB sB p1
    have y2 := cellB sB t1
    have y3 := cellB sB t0
    try simp only [List.getElem_toArray, List.getElem_cons_succ, List.getElem_cons_zero]
    go_simp
    try with_reducible rfl
  try simp only [Act.put, List.setIfInBounds_toArray, List.set_cons_zero, List.set_cons_succ]
  refine Stg.wpAnyL_free (i := 1) (v := ?_) 0 rfl (by kernel_rfl) (by kernel_rfl) (by kernel_rfl) (by kernel_rfl) (by kernel_rfl) (fun _ _ _ h => h) (Or.inl ⟨by kernel_rfl, ?_⟩) (by assumption) ?_
  rotate_left
  · intro u _
    try simp only [List.getElem_toArray, List.getElem_cons_succ, List.getElem_cons_zero]
    go_simp
    try with_reducible rfl
  try simp only [Act.put, List.setIfInBounds_toArray, List.set_cons_zero, List.set_cons_succ]
  refine Stg.wpAnyL_free (i := 2) (v := ?_) 0 rfl (by kernel_rfl) (by kernel_rfl) (by kernel_rfl) (by kernel_rfl) (by kernel_rfl) (fun _ _ _ h => h) (Or.inl ⟨by kernel_rfl, ?_⟩) (by assumption) ?_
  rotate_left
  · intro u _
    try simp only [List.getElem_toArray, List.getElem_cons_succ, List.getElem_cons_zero]
    go_simp
    try with_reducible rfl
  try simp only [Act.put, List.setIfInBounds_toArray, List.set_cons_zero, List.set_cons_succ]
  refine Stg.wpAnyL_start (n' := 15) (l' := #[true, true, true, false, false, false, false, false, false, false, false, false, false, false, false, false, false, false]) (by kernel_rfl) (by kernel_rfl) ?_
  refine Stg.wpAnyL_free (i := 3) (v := ?_) 0 rfl (by kernel_rfl) (by kernel_rfl) (by kernel_rfl) (by kernel_rfl) (by kernel_rfl) (fun _ _ _ h => h) (Or.inl ⟨by kernel_rfl, ?_⟩) (by assumption) ?_
  rotate_left
  · intro u _
    try simp only [List.getElem_toArray, List.getElem_cons_succ, List.getElem_cons_zero]
    go_simp
    try with_reducible rfl
  try simp only [Act.put, List.setIfInBounds_toArray, List.set_cons_zero, List.set_cons_succ]
  refine Stg.wpAnyL_take (i := 4) (v := ?_) [15, 16, 17] 0 rfl (by kernel_rfl) (by kernel_rfl) (by kernel_rfl) (by kernel_rfl) (by kernel_rfl) (fun _ _ _ h => h) (Or.inl ⟨by kernel_rfl, ?_⟩) (by assumption) ?_
  rotate_left
  · intro u hSu
    skip
    have sB := hSu rfl
    have y0 := cellB sB p0
    have y1 := cellB sB p1
    have y2 := cellB sB t1
    have y3 := cellB sB t0
    try simp only [List.getElem_toArray, List.getElem_cons_succ, List.getElem_cons_zero]
    go_simp
    try with_reducible rfl
  try simp only [Act.put, List.setIfInBounds_toArray, List.set_cons_zero, List.set_cons_succ]
  refine Stg.wpAnyL_take (i := 5) (v := ?_) [15, 16, 17] 0 rfl (by kernel_rfl) (by kernel_rfl) (by kernel_rfl) (by kernel_rfl) (by kernel_rfl) (fun _ _ _ h => h) (Or.inl ⟨by kernel_rfl, ?_⟩) (by assumption) ?_
  rotate_left
  · intro u hSu
    skip
    have sB := hSu rfl
    have y0 := cellB sB p0
    have y1 := cellB sB p1
    have y2 := cellB sB t1
    have y3 := cellB sB t0
    try simp only [List.getElem_toArray, List.getElem_cons_succ, List.getElem_cons_zero]
    go_simp
    try with_reducible rfl
  try simp only [Act.put, List.setIfInBounds_toArray, List.set_cons_zero, List.set_cons_succ]
  refine Stg.wpAnyL_start (n' := 12) (l' := #[true, true, true, true, true, true, false, false, false, false, false, false, false, false, false, false, false, false]) (by kernel_rfl) (by kernel_rfl) ?_
  refine Stg.wpAnyL_take (i := 6) (v := ?_) [7, 8, 9, 10, 12, 13, 14, 15, 16, 17] 0 rfl (by kernel_rfl) (by kernel_rfl) (by kernel_rfl) (by kernel_rfl) (by kernel_rfl) (fun _ _ _ h => h) (Or.inl ⟨by kernel_rfl, ?_⟩) (by assumption) ?_
  rotate_left
  · intro u hSu
    skip
    have sB := hSu rfl
    have y0 := cellB sB p0
    have y1 := cellB sB p1
    have y2 := cellB sB t1
    have y3 := cellB sB t0
    try simp only [List.getElem_toArray, List.getElem_cons_succ, List.getElem_cons_zero]
    go_simp
    try with_reducible rfl
  try simp only [Act.put, List.setIfInBounds_toArray, List.set_cons_zero, List.set_cons_succ]
  refine Stg.wpAnyL_free (i := 7) (v := ?_) 0 rfl (by kernel_rfl) (by kernel_rfl) (by kernel_rfl) (by kernel_rfl) (by kernel_rfl) (fun _ _ _ h => h) (Or.inl ⟨by kernel_rfl, ?_⟩) (by assumption) ?_
  rotate_left
  · intro u _
    try simp only [List.getElem_toArray, List.getElem_cons_succ, List.getElem_cons_zero]
    go_simp
    try with_reducible rfl
  try simp only [Act.put, List.setIfInBounds_toArray, List.set_cons_zero, List.set_cons_succ]
  refine Stg.wpAnyL_free (i := 8) (v := ?_) 0 rfl (by kernel_rfl) (by kernel_rfl) (by kernel_rfl) (by kernel_rfl) (by kernel_rfl) (fun _ _ _ h => h) (Or.inl ⟨by kernel_rfl, ?_⟩) (by assumption) ?_
  rotate_left
  · intro u _
    try simp only [List.getElem_toArray, List.getElem_cons_succ, List.getElem_cons_zero]
    go_simp
    try with_reducible rfl
  try simp only [Act.put, List.setIfInBounds_toArray, List.set_cons_zero, List.set_cons_succ]
  refine Stg.wpAnyL_start (n' := 9) (l' := #[true, true, true, true, true, true, true, true, true, false, false, false, false, false, false, false, false, false]) (by kernel_rfl) (by kernel_rfl) ?_
  refine Stg.wpAnyL_free (i := 9) (v := ?_) 0 rfl (by kernel_rfl) (by kernel_rfl) (by kernel_rfl) (by kernel_rfl) (by kernel_rfl) (fun _ _ _ h => h) (Or.inl ⟨by kernel_rfl, ?_⟩) (by assumption) ?_
  rotate_left
  · intro u _
    try simp only [List.getElem_toArray, List.getElem_cons_succ, List.getElem_cons_zero]
    go_simp
    try with_reducible rfl
  try simp only [Act.put, List.setIfInBounds_toArray, List.set_cons_zero, List.set_cons_succ]
  refine Stg.wpAnyL_take (i := 10) (v := ?_) [12, 13, 14, 15, 16, 17] 0 rfl (by kernel_rfl) (by kernel_rfl) (by kernel_rfl) (by kernel_rfl) (by kernel_rfl) (fun _ _ _ h => h) (Or.inl ⟨by kernel_rfl, ?_⟩) (by assumption) ?_
  rotate_left
  · intro u hSu
    skip
    have sB := hSu rfl
    have y0 := cellB sB p0
    have y1 := cellB sB p1
    have y2 := cellB sB t1
    have y3 := cellB sB t0
    try simp only [List.getElem_toArray, List.getElem_cons_succ, List.getElem_cons_zero]
    go_simp
    try with_reducible rfl
  try simp only [Act.put, List.setIfInBounds_toArray, List.set_cons_zero, List.set_cons_succ]
  refine Stg.wpAnyL_take (i := 11) (v := ?_) [12, 13, 14, 15, 16, 17] 0 rfl (by kernel_rfl) (by kernel_rfl) (by kernel_rfl) (by kernel_rfl) (by kernel_rfl) (fun _ _ _ h => h) (Or.inl ⟨by kernel_rfl, ?_⟩) (by assumption) ?_
  rotate_left
  · intro u hSu
    skip
    have sB := hSu rfl
    have y0 := cellB sB p0
    have y1 := cellB sB p1
    have y2 := cellB sB t1
    have y3 := cellB sB t0
    try simp only [List.getElem_toArray, List.getElem_cons_succ, List.getElem_cons_zero]
    go_simp
    try with_reducible rfl
  try simp only [Act.put, List.setIfInBounds_toArray, List.set_cons_zero, List.set_cons_succ]
  refine Stg.wpAnyL_start (n' := 6) (l' := #[true, true, true, true, true, true, true, true, true, true, true, true, false, false, false, false, false, false]) (by kernel_rfl) (by kernel_rfl) ?_
  refine Stg.wpAnyL_free (i := 12) (v := ?_) 0 rfl (by kernel_rfl) (by kernel_rfl) (by kernel_rfl) (by kernel_rfl) (by kernel_rfl) (fun _ _ _ h => h) (Or.inl ⟨by kernel_rfl, ?_⟩) (by assumption) ?_
  rotate_left
  · intro u _
    try simp only [List.getElem_toArray, List.getElem_cons_succ, List.getElem_cons_zero]
    go_simp
    try with_reducible rfl
  try simp only [Act.put, List.setIfInBounds_toArray, List.set_cons_zero, List.set_cons_succ]
  refine Stg.wpAnyL_free (i := 13) (v := ?_) 0 rfl (by kernel_rfl) (by kernel_rfl) (by kernel_rfl) (by kernel_rfl) (by kernel_rfl) (fun _ _ _ h => h) (Or.inl ⟨by kernel_rfl, ?_⟩) (by assumption) ?_
  rotate_left
  · intro u _
    try simp only [List.getElem_toArray, List.getElem_cons_succ, List.getElem_cons_zero]
    go_simp
    try with_reducible rfl
  try simp only [Act.put, List.setIfInBounds_toArray, List.set_cons_zero, List.set_cons_succ]
  refine Stg.wpAnyL_take (i := 14) (v := ?_) [15, 16, 17] 0 rfl (by kernel_rfl) (by kernel_rfl) (by kernel_rfl) (by kernel_rfl) (by kernel_rfl) (fun _ _ _ h => h) (Or.inl ⟨by kernel_rfl, ?_⟩) (by assumption) ?_
  rotate_left
  · intro u hSu
    skip
    have sB := hSu rfl
    have y0 := cellB sB p0
    have y1 := cellB sB p1
    have y2 := cellB sB t1
    have y3 := cellB sB t0
    try simp only [List.getElem_toArray, List.getElem_cons_succ, List.getElem_cons_zero]
    go_simp
    try with_reducible rfl
  try simp only [Act.put, List.setIfInBounds_toArray, List.set_cons_zero, List.set_cons_succ]
  refine Stg.wpAnyL_start (n' := 3) (l' := #[true, true, true, true, true, true, true, true, true, true, true, true, true, true, true, false, false, false]) (by kernel_rfl) (by kernel_rfl) ?_
  refine Stg.wpAnyL_free (i := 15) (v := ?_) 0 rfl (by kernel_rfl) (by kernel_rfl) (by kernel_rfl) (by kernel_rfl) (by kernel_rfl) (fun _ _ _ h => h) (Or.inl ⟨by kernel_rfl, ?_⟩) (by assumption) ?_
  rotate_left
  · intro u _
    try simp only [List.getElem_toArray, List.getElem_cons_succ, List.getElem_cons_zero]
    go_simp
    try with_reducible rfl
  try simp only [Act.put, List.setIfInBounds_toArray, List.set_cons_zero, List.set_cons_succ]
  refine Stg.wpAnyL_free (i := 16) (v := ?_) 0 rfl (by kernel_rfl) (by kernel_rfl) (by kernel_rfl) (by kernel_rfl) (by kernel_rfl) (fun _ _ _ h => h) (Or.inl ⟨by kernel_rfl, ?_⟩) (by assumption) ?_
  rotate_left
  · intro u _
    try simp only [List.getElem_toArray, List.getElem_cons_succ, List.getElem_cons_zero]
    go_simp
    try with_reducible rfl
  try simp only [Act.put, List.setIfInBounds_toArray, List.set_cons_zero, List.set_cons_succ]
  refine Stg.wpAnyL_one (i := 17) 1 rfl (by kernel_rfl) (by kernel_rfl) (fun K hK => ?_)
  have z8 := (World.frozen?_of_block ((hHeld rfl).block g6 d7.out.tl)).trans z7
  have z9 := cellB (hHeld rfl) t2
  try simp only [List.getElem_toArray, List.getElem_cons_succ, List.getElem_cons_zero]
  go_simp
  refine hK.out _ _ ?_ (fun hHeld1 => ?_)
  · exact fun h => absurd h (by decide)
  clear hK K
  try simp only [Act.put, List.setIfInBounds_toArray, List.set_cons_zero, List.set_cons_succ]
  refine Stg.wpAnyL_done (by kernel_rfl) ?_ _
  try simp only [List.getElem_toArray, List.getElem_cons_succ, List.getElem_cons_zero]
  try simp only [Act.put, List.setIfInBounds_toArray, List.set_cons_zero, List.set_cons_succ]
  refine NoPanic.normal ?_
  clear p0 p1 t1 t0 z7 z8 t2 z9 hHeld
  have hd5 := Lib.hid ((d7.out.setFin hk (S k)).bel (Below.refl _ _).drew)
  have hKF : KF [g6] w7 (w7.setCell ⟨g6, k * 2 + 1, none⟩ (.int .i64 (S k))).drew := ((KF.refl [g6] w7).set (p := ⟨g6, k * 2 + 1, none⟩) (.inl (by simp)) _).drew
  have hx5 := Lib.hid (x7.out.kf' hKF (fun i hi => by simp at hi; omega))
  have k5 := Lib.hid (k7.out.new hKF (fun i hi => by simp at hi; omega))
  clear d7 x7 k7 hKF
  generalize (w7.setCell ⟨g6, k * 2 + 1, none⟩ (.int .i64 (S k))).drew = w8 at hd5 hx5 k5 ⊢
  obtain ⟨f1, f2, f3⟩ := hd5.out.flow hk
  rw [hz] at f2
  rw [hd] at f3
  have s2 := hx5.out.b.b2.c 0 _ rfl
  have s3 := hx5.out.b3.c 0 _ rfl
  have p0 := hx5.out.b.b0.c 0 _ rfl
  have p1 := hx5.out.b.b1.c 0 _ rfl
  go_upto_region 9 with fail
  refine wp_region_noPanic ?_
  refine Stg.wp_region_L [] (Vr.SB w8) (by kernel_rfl) (fun _ => (Below.refl _ _).drew) (fun hHeld => ?_)
  refine Stg.wpAnyL_start (n' := 7) (l' := #[false, false, false, false, false, false, false]) (by kernel_rfl) (by kernel_rfl) ?_
  refine Stg.wpAnyL_take (i := 0) (v := ?_) [1, 2, 3, 5, 6] 0 rfl (by kernel_rfl) (by kernel_rfl) (by kernel_rfl) (by kernel_rfl) (by kernel_rfl) (fun _ _ _ h => h) (Or.inl ⟨by kernel_rfl, ?_⟩) (by assumption) ?_
  rotate_left
  · intro u hSu
    skip
    have sB := hSu rfl
    have y0 := cellB sB s2
    have y1 := cellB sB s3
    have y2 := cellB sB f2
    try simp only [List.getElem_toArray, List.getElem_cons_succ, List.getElem_cons_zero]
    go_simp
    try with_reducible rfl
  try simp only [Act.put, List.setIfInBounds_toArray, List.set_cons_zero, List.set_cons_succ]
  refine Stg.wpAnyL_free (i := 1) (v := ?_) 0 rfl (by kernel_rfl) (by kernel_rfl) (by kernel_rfl) (by kernel_rfl) (by kernel_rfl) (fun _ _ _ h => h) (Or.inl ⟨by kernel_rfl, ?_⟩) (by assumption) ?_
  rotate_left
  · intro u _
    try simp only [List.getElem_toArray, List.getElem_cons_succ, List.getElem_cons_zero]
    go_simp
    try with_reducible rfl
  try simp only [Act.put, List.setIfInBounds_toArray, List.set_cons_zero, List.set_cons_succ]
  refine Stg.wpAnyL_free (i := 2) (v := ?_) 0 rfl (by kernel_rfl) (by kernel_rfl) (by kernel_rfl) (by kernel_rfl) (by kernel_rfl) (fun _ _ _ h => h) (Or.inl ⟨by kernel_rfl, ?_⟩) (by assumption) ?_
  rotate_left
  · intro u _
    try simp only [List.getElem_toArray, List.getElem_cons_succ, List.getElem_cons_zero]
    go_simp
    try with_reducible rfl
  try simp only [Act.put, List.setIfInBounds_toArray, List.set_cons_zero, List.set_cons_succ]
  refine Stg.wpAnyL_start (n' := 4) (l' := #[true, true, true, false, false, false, false]) (by kernel_rfl) (by kernel_rfl) ?_
  refine Stg.wpAnyL_take (i := 3) (v := ?_) [5, 6] 0 rfl (by kernel_rfl) (by kernel_rfl) (by kernel_rfl) (by kernel_rfl) (by kernel_rfl) (fun _ _ _ h => h) (Or.inl ⟨by kernel_rfl, ?_⟩) (by assumption) ?_
  rotate_left
  · intro u hSu
    skip
    have sB := hSu rfl
    have y0 := cellB sB s2
    have y1 := cellB sB s3
    have y2 := cellB sB f2
    try simp only [List.getElem_toArray, List.getElem_cons_succ, List.getElem_cons_zero]
    go_simp
    try with_reducible rfl
  try simp only [Act.put, List.setIfInBounds_toArray, List.set_cons_zero, List.set_cons_succ]
  refine Stg.wpAnyL_take (i := 4) (v := ?_) [5, 6] 0 rfl (by kernel_rfl) (by kernel_rfl) (by kernel_rfl) (by kernel_rfl) (by kernel_rfl) (fun _ _ _ h => h) (Or.inl ⟨by kernel_rfl, ?_⟩) (by assumption) ?_
  rotate_left
  · intro u hSu
    skip
    have sB := hSu rfl
    have y0 := cellB sB s2
    have y1 := cellB sB s3
    have y2 := cellB sB f2
    try simp only [List.getElem_toArray, List.getElem_cons_succ, List.getElem_cons_zero]
    go_simp
    try with_reducible rfl
  try simp only [Act.put, List.setIfInBounds_toArray, List.set_cons_zero, List.set_cons_succ]
  refine Stg.wpAnyL_free (i := 5) (v := ?_) 0 rfl (by kernel_rfl) (by kernel_rfl) (by kernel_rfl) (by kernel_rfl) (by kernel_rfl) (fun _ _ _ h => h) (Or.inl ⟨by kernel_rfl, ?_⟩) (by assumption) ?_
  rotate_left
  · intro u _
    try simp only [List.getElem_toArray, List.getElem_cons_succ, List.getElem_cons_zero]
    go_simp
    try with_reducible rfl
  try simp only [Act.put, List.setIfInBounds_toArray, List.set_cons_zero, List.set_cons_succ]
  refine Stg.wpAnyL_start (n' := 1) (l' := #[true, true, true, true, true, true, false]) (by kernel_rfl) (by kernel_rfl) ?_
  refine Stg.wpAnyL_free (i := 6) (v := ?_) 0 rfl (by kernel_rfl) (by kernel_rfl) (by kernel_rfl) (by kernel_rfl) (by kernel_rfl) (fun _ _ _ h => h) (Or.inl ⟨by kernel_rfl, ?_⟩) (by assumption) ?_
  rotate_left
  · intro u _
    try simp only [List.getElem_toArray, List.getElem_cons_succ, List.getElem_cons_zero]
    go_simp
    try with_reducible rfl
  try simp only [Act.put, List.setIfInBounds_toArray, List.set_cons_zero, List.set_cons_succ]
  refine Stg.wpAnyL_done (by kernel_rfl) ?_ _
  try simp only [List.getElem_toArray, List.getElem_cons_succ, List.getElem_cons_zero]
  try simp only [Act.put, List.setIfInBounds_toArray, List.set_cons_zero, List.set_cons_succ]
  refine NoPanic.normal ?_
  have hdr := (Below.refl w8.heap.size w8).drew
  generalize w8.drew = w6 at hdr ⊢
  replace hd5 := Lib.hid (hd5.out.bel hdr)
  replace hx5 := Lib.hid (hx5.out.bel hdr)
  replace k5 := Lib.hid (k5.out.trans (KF.of hdr))
  clear hdr hHeld f1 f2 f3 p0 p1 s2 s3
  replace hok : tagOk V N S (up F k (S k)) (k : Int) (costI n (W k) ALL) (max (up F k (S k) k) V) := by rw [up_at]; exact hok
  have hgo := Lib.hid (hear1_wake hd5.out q (q + 1) (q + 1 + 1) (q + 1 + 1 + 1) k hk n (hx5.out.b.b0.c 0 _ rfl) (hx5.out.b.b1.c 0 _ rfl) (hx5.out.b.b2.c 0 _ rfl) (hx5.out.b3.c 0 _ rfl) hok)
  go_wp2_with fail
  refine hgo.out.mono ?_
  rintro e w7 ⟨tb, ct, rfl, d7, htb, k7⟩
  have hx7 := Lib.hid (hx5.out.kf k7 (fun i hi => by simp at hi; omega))
  rw [up_at, up_up] at d7
  replace hd5 := Lib.hid d7
  replace hx5 := hx7
  have htq : q ≤ tb := by have := k5.out.size; omega
  replace k5 := Lib.hid (k5.out.trans (k7.sub (by simp)))
  clear hgo d7 k7 hx7 htb
  go_upto_region 11 with fail
  obtain ⟨f1, f2, f3⟩ := hd5.out.flow hk
  have s2 := hx5.out.b.b2.c 0 _ rfl
  have s3 := hx5.out.b3.c 0 _ rfl
  have z1 := hd5.out.l.f (k * 3 + 1)
  have z2 := hd5.out.l.f (k * 3 + 2)
  refine wp_region_noPanic ?_
  refine Stg.wp_region_L [] (fun _ u => u.cell? ⟨q + 1 + 1 + 1, 0, none⟩ = some (.pointer (some ⟨lb, k * 3, none⟩)) ∧ u.cell? ⟨q + 1 + 1, 0, none⟩ = some (.int .i64 n)) (by kernel_rfl) (⟨by simpa using s3, by simpa using s2⟩) (fun hHeld => ?_)
  refine Stg.wpAnyL_start (n' := 9) (l' := #[false, false, false, false, false, false, false, false, false]) (by kernel_rfl) (by kernel_rfl) ?_
  refine Stg.wpAnyL_take (i := 0) (v := ?_) [3, 4, 5, 6, 7, 8] 0 rfl (by kernel_rfl) (by kernel_rfl) (by kernel_rfl) (by kernel_rfl) (by kernel_rfl) (fun _ _ _ h => h) (Or.inl ⟨by kernel_rfl, ?_⟩) (by assumption) ?_
  rotate_left
  · intro u hSu
    obtain ⟨y3, y2⟩ := hSu
    skip
    try simp only [List.getElem_toArray, List.getElem_cons_succ, List.getElem_cons_zero]
    go_simp
    try with_reducible rfl
  try simp only [Act.put, List.setIfInBounds_toArray, List.set_cons_zero, List.set_cons_succ]
  refine Stg.wpAnyL_take (i := 1) (v := ?_) [6, 7, 8] 0 rfl (by kernel_rfl) (by kernel_rfl) (by kernel_rfl) (by kernel_rfl) (by kernel_rfl) (fun _ _ _ h => h) (Or.inl ⟨by kernel_rfl, ?_⟩) (by assumption) ?_
  rotate_left
  · intro u hSu
    obtain ⟨y3, y2⟩ := hSu
    skip
    try simp only [List.getElem_toArray, List.getElem_cons_succ, List.getElem_cons_zero]
    go_simp
    try with_reducible rfl
  try simp only [Act.put, List.setIfInBounds_toArray, List.set_cons_zero, List.set_cons_succ]
  refine Stg.wpAnyL_take (i := 2) (v := ?_) [3, 4, 5, 6, 7, 8] 0 rfl (by kernel_rfl) (by kernel_rfl) (by kernel_rfl) (by kernel_rfl) (by kernel_rfl) (fun _ _ _ h => h) (Or.inl ⟨by kernel_rfl, ?_⟩) (by assumption) ?_
  rotate_left
  · intro u hSu
    obtain ⟨y3, y2⟩ := hSu
    skip
    try simp only [List.getElem_toArray, List.getElem_cons_succ, List.getElem_cons_zero]
    go_simp
    try with_reducible rfl
  try simp only [Act.put, List.setIfInBounds_toArray, List.set_cons_zero, List.set_cons_succ]
  refine Stg.wpAnyL_start (n' := 6) (l' := #[true, true, true, false, false, false, false, false, false]) (by kernel_rfl) (by kernel_rfl) ?_
  refine Stg.wpAnyL_free (i := 3) (v := ?_) 0 rfl (by kernel_rfl) (by kernel_rfl) (by kernel_rfl) (by kernel_rfl) (by kernel_rfl) (fun _ _ _ h => h) (Or.inl ⟨by kernel_rfl, ?_⟩) (by assumption) ?_
  rotate_left
  · intro u _
    try simp only [List.getElem_toArray, List.getElem_cons_succ, List.getElem_cons_zero]
    go_simp
    try with_reducible rfl
  try simp only [Act.put, List.setIfInBounds_toArray, List.set_cons_zero, List.set_cons_succ]
  refine Stg.wpAnyL_free (i := 4) (v := ?_) 0 rfl (by kernel_rfl) (by kernel_rfl) (by kernel_rfl) (by kernel_rfl) (by kernel_rfl) (fun _ _ _ h => h) (Or.inl ⟨by kernel_rfl, ?_⟩) (by assumption) ?_
  rotate_left
  · intro u _
    try simp only [List.getElem_toArray, List.getElem_cons_succ, List.getElem_cons_zero]
    go_simp
    try with_reducible rfl
  try simp only [Act.put, List.setIfInBounds_toArray, List.set_cons_zero, List.set_cons_succ]
  refine Stg.wpAnyL_one (i := 5) 0 rfl (by kernel_rfl) (by kernel_rfl) (fun K hK => ?_)
  have g2 := cellB ((Below.refl w7.heap.size w7).drew) f2
  have g3 := cellB ((Below.refl w7.heap.size w7).drew) f3
  have z1 : w7.drew.frozen? ⟨lb, k * 3 + 1, none⟩ = false := by simpa using z1
  have z2 : w7.drew.frozen? ⟨lb, k * 3 + 2, none⟩ = false := by simpa using z2
  try simp only [List.getElem_toArray, List.getElem_cons_succ, List.getElem_cons_zero]
  go_simp
  refine hK.out _ _ ?_ (fun hHeld1 => ?_)
  · exact ⟨(World.cell?_setCell_other _ _ _ _ (by simp <;> omega)).trans (hHeld).1, (World.cell?_setCell_other _ _ _ _ (by simp <;> omega)).trans (hHeld).2⟩
  clear hK K
  try simp only [Act.put, List.setIfInBounds_toArray, List.set_cons_zero, List.set_cons_succ]
  refine Stg.wpAnyL_start (n' := 3) (l' := #[true, true, true, true, true, true, false, false, false]) (by kernel_rfl) (by kernel_rfl) ?_
  refine Stg.wpAnyL_free (i := 6) (v := ?_) 0 rfl (by kernel_rfl) (by kernel_rfl) (by kernel_rfl) (by kernel_rfl) (by kernel_rfl) (fun _ _ _ h => h) (Or.inl ⟨by kernel_rfl, ?_⟩) (by assumption) ?_
  rotate_left
  · intro u _
    try simp only [List.getElem_toArray, List.getElem_cons_succ, List.getElem_cons_zero]
    go_simp
    try with_reducible rfl
  try simp only [Act.put, List.setIfInBounds_toArray, List.set_cons_zero, List.set_cons_succ]
  refine Stg.wpAnyL_free (i := 7) (v := ?_) 0 rfl (by kernel_rfl) (by kernel_rfl) (by kernel_rfl) (by kernel_rfl) (by kernel_rfl) (fun _ _ _ h => h) (Or.inl ⟨by kernel_rfl, ?_⟩) (by assumption) ?_
  rotate_left
  · intro u _
    try simp only [List.getElem_toArray, List.getElem_cons_succ, List.getElem_cons_zero]
    go_simp
    try with_reducible rfl
  try simp only [Act.put, List.setIfInBounds_toArray, List.set_cons_zero, List.set_cons_succ]
  refine Stg.wpAnyL_one (i := 8) 0 rfl (by kernel_rfl) (by kernel_rfl) (fun K hK => ?_)
  try simp only [List.getElem_toArray, List.getElem_cons_succ, List.getElem_cons_zero]
  go_simp
  refine hK.out _ _ ?_ (fun hHeld2 => ?_)
  · exact ⟨(World.cell?_setCell_other _ _ _ _ (by simp <;> omega)).trans (hHeld1).1, (World.cell?_setCell_other _ _ _ _ (by simp <;> omega)).trans (hHeld1).2⟩
  clear hK K
  try simp only [Act.put, List.setIfInBounds_toArray, List.set_cons_zero, List.set_cons_succ]
  refine Stg.wpAnyL_done (by kernel_rfl) ?_ _
  try simp only [List.getElem_toArray, List.getElem_cons_succ, List.getElem_cons_zero]
  try simp only [Act.put, List.setIfInBounds_toArray, List.set_cons_zero, List.set_cons_succ]
  refine NoPanic.normal ?_
  refine bodyPost_end (v := .tuple #[]) (by simp [results, Try.results48, go_sem]) rfl ?_
  have d6 := hd5.out.bel ((Below.refl _ _).drew)
  exact ⟨_, _, rfl, d6.setRow hk n false, .inr (by rw [hq]; exact htq), ((k5.out.drew).set (p := ⟨lb, k * 3 + 1, none⟩) (.inl (by simp)) _).set (p := ⟨lb, k * 3 + 2, none⟩) (.inl (by simp)) _⟩
end Go.Proofs.Ytkefkophlhcbiaa
