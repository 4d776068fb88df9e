/- The scheduler: what is told of a flow's head: a,b,s -/
import Derived.Test.YtkefkophlhcbiaaF9
namespace Go.Proofs.Ytkefkophlhcbiaa
open Go.ChangeShapes Go.WideShapes Go.ChangeAt Go.RowKit Go.Maps
set_option linter.unusedVariables false
set_option linter.unusedSimpArgs false
open BigFrame Pk Fq Vr Fa

namespace Fa
def HearQ (tb0 f lb cl N : Nat) (ALL V : Int) (W Z : Nat → Int) (D : Nat → Bool) (S F : Nat → Int) (l : List Nat) (w : World) (e : Ending) (w' : World) : Prop :=
  ∃ tb ct, e = .returned (.tuple #[]) ∧ FD w' f lb cl tb ct N ALL V W Z D S F ∧ (tb = tb0 ∨ w.heap.size ≤ tb) ∧ KF l w w'
end Fa

set_option maxRecDepth 100000 in
set_option maxHeartbeats 4000000 in
theorem hear_a {w : World} {f lb cl tb ct N : Nat} {ALL V : Int} {W Z : Nat → Int} {D : Nat → Bool} {S F : Nat → Int} (h : FD w f lb cl tb ct N ALL V W Z D S F) (k : Nat) (hk : k < N) (n : Int) (z : Int) (d : Bool) (hz : Z k = z) (hd : D k = d)
    (h1 : ¬ 0 < z) :
    Calls Try.prog 48 #[.pointer (some ⟨f, 0, none⟩), .int .i64 (k : Nat), .int .i64 0] w
      (HearQ tb f lb cl N ALL V W (up Z k 0) (upb D k false) S F [f, lb] w) := by
  have h8 := h.n8
  have hkz : (k : Int) < (N : Int) := by omega
  obtain ⟨bx, hB, hs3⟩ := bx3_new w f k 0 63 3 3
  have hfl := h.b.l
  have hll := h.l.l
  have htl := h.tl
  replace h := Lib.hid h
  replace hB := Lib.hid hB
  replace bx := Lib.hid bx
  go_enter Try.func48, Try.ntmps48
  go_upto_region 1 with fail
  generalize (((w.alloc (.cells #[.pointer (some ⟨f, 0, none⟩)] 63)).alloc (.cells #[.int .i64 (k : Nat)] 3)).alloc (.cells #[.int .i64 0] 3)) = w3 at bx hB hs3 ⊢
  obtain ⟨q, hq⟩ : ∃ q, w.heap.size = q := ⟨_, rfl⟩
  rw [hq] at bx hs3 hfl hll htl hB ⊢
  have hd3 := Lib.hid (h.out.bel (by rw [hq]; exact hB.out))
  have b0 := hd3.out.b.c 0 _ rfl
  have p0 := bx.out.b0.c 0 _ rfl
  have p1 := bx.out.b1.c 0 _ rfl
  refine wp_region_noPanic ?_
  refine Stg.wp_region_L [7] (Vr.SB w3) (by kernel_rfl) (fun _ => (Below.refl _ _).drew) (fun hHeld => ?_)
  refine Stg.wpAnyL_start (n' := 8) (l' := #[false, false, false, false, false, false, false, false]) (by kernel_rfl) (by kernel_rfl) ?_
  refine Stg.wpAnyL_take (i := 0) (v := ?_) [1, 2, 3, 5, 7] 0 rfl (by kernel_rfl) (by kernel_rfl) (by kernel_rfl) (by kernel_rfl) (by kernel_rfl) (fun _ _ _ h => h) (Or.inl ⟨by kernel_rfl, ?_⟩) (by assumption) ?_
  rotate_left
  · intro u hSu
    skip
    have sB := hSu rfl
    have y0 := cellB sB b0
    have y1 := cellB sB p0
    have y2 := cellB sB p1
    try simp only [List.getElem_toArray, List.getElem_cons_succ, List.getElem_cons_zero]
    go_simp
    try with_reducible rfl
  try simp only [Act.put, List.setIfInBounds_toArray, List.set_cons_zero, List.set_cons_succ]
  refine Stg.wpAnyL_free (i := 1) (v := ?_) 0 rfl (by kernel_rfl) (by kernel_rfl) (by kernel_rfl) (by kernel_rfl) (by kernel_rfl) (fun _ _ _ h => h) (Or.inl ⟨by kernel_rfl, ?_⟩) (by assumption) ?_
  rotate_left
  · intro u _
    try simp only [List.getElem_toArray, List.getElem_cons_succ, List.getElem_cons_zero]
    go_simp
    try with_reducible rfl
  try simp only [Act.put, List.setIfInBounds_toArray, List.set_cons_zero, List.set_cons_succ]
  refine Stg.wpAnyL_free (i := 2) (v := ?_) 0 rfl (by kernel_rfl) (by kernel_rfl) (by kernel_rfl) (by kernel_rfl) (by kernel_rfl) (fun _ _ _ h => h) (Or.inl ⟨by kernel_rfl, ?_⟩) (by assumption) ?_
  rotate_left
  · intro u _
    try simp only [List.getElem_toArray, List.getElem_cons_succ, List.getElem_cons_zero]
    go_simp
    try with_reducible rfl
  try simp only [Act.put, List.setIfInBounds_toArray, List.set_cons_zero, List.set_cons_succ]
  refine Stg.wpAnyL_start (n' := 5) (l' := #[true, true, true, false, false, false, false, false]) (by kernel_rfl) (by kernel_rfl) ?_
  refine Stg.wpAnyL_take (i := 3) (v := ?_) [5, 7] 0 rfl (by kernel_rfl) (by kernel_rfl) (by kernel_rfl) (by kernel_rfl) (by kernel_rfl) (fun _ _ _ h => h) (Or.inl ⟨by kernel_rfl, ?_⟩) (by assumption) ?_
  rotate_left
  · intro u hSu
    skip
    have sB := hSu rfl
    have y0 := cellB sB b0
    have y1 := cellB sB p0
    have y2 := cellB sB p1
    try simp only [List.getElem_toArray, List.getElem_cons_succ, List.getElem_cons_zero]
    go_simp
    try with_reducible rfl
  try simp only [Act.put, List.setIfInBounds_toArray, List.set_cons_zero, List.set_cons_succ]
  refine Stg.wpAnyL_take (i := 4) (v := ?_) [5, 7] 0 rfl (by kernel_rfl) (by kernel_rfl) (by kernel_rfl) (by kernel_rfl) (by kernel_rfl) (fun _ _ _ h => h) (Or.inl ⟨by kernel_rfl, ?_⟩) (by assumption) ?_
  rotate_left
  · intro u hSu
    skip
    have sB := hSu rfl
    have y0 := cellB sB b0
    have y1 := cellB sB p0
    have y2 := cellB sB p1
    try simp only [List.getElem_toArray, List.getElem_cons_succ, List.getElem_cons_zero]
    go_simp
    try with_reducible rfl
  try simp only [Act.put, List.setIfInBounds_toArray, List.set_cons_zero, List.set_cons_succ]
  refine Stg.wpAnyL_free (i := 5) (v := ?_) 0 rfl (by kernel_rfl) (by kernel_rfl) (by kernel_rfl) (by kernel_rfl) (by kernel_rfl) (fun _ _ _ h => h) (Or.inl ⟨by kernel_rfl, ?_⟩) (by assumption) ?_
  rotate_left
  · intro u _
    try simp only [List.getElem_toArray, List.getElem_cons_succ, List.getElem_cons_zero]
    go_simp
    try with_reducible rfl
  try simp only [Act.put, List.setIfInBounds_toArray, List.set_cons_zero, List.set_cons_succ]
  refine Stg.wpAnyL_start (n' := 2) (l' := #[true, true, true, true, true, true, false, false]) (by kernel_rfl) (by kernel_rfl) ?_
  refine Stg.wpAnyL_one (i := 6) 0 rfl (by kernel_rfl) (by kernel_rfl) (fun K hK => ?_)
  try simp only [List.getElem_toArray, List.getElem_cons_succ, List.getElem_cons_zero]
  go_simp
  refine hK.out _ _ ?_ (fun hHeld1 => ?_)
  · exact fun _ => bNext (hHeld rfl) ((Below.refl _ _).alloc (Nat.le_refl _) _) (Nat.le_refl _)
  clear hK K
  try simp only [Act.put, List.setIfInBounds_toArray, List.set_cons_zero, List.set_cons_succ]
  refine Stg.wpAnyL_one (i := 7) 1 rfl (by kernel_rfl) (by kernel_rfl) (fun K hK => ?_)
  try simp only [List.getElem_toArray, List.getElem_cons_succ, List.getElem_cons_zero]
  go_simp
  refine hK.out _ _ ?_ (fun hHeld2 => ?_)
  · exact fun h => absurd h (by decide)
  clear hK K
  try simp only [Act.put, List.setIfInBounds_toArray, List.set_cons_zero, List.set_cons_succ]
  refine Stg.wpAnyL_done (by kernel_rfl) ?_ _
  try simp only [List.getElem_toArray, List.getElem_cons_succ, List.getElem_cons_zero]
  try simp only [Act.put, List.setIfInBounds_toArray, List.set_cons_zero, List.set_cons_succ]
  refine NoPanic.normal ?_
  obtain ⟨hx, hb4⟩ := bx_new (lb := lb) bx.out hs3 122
  have hB4 := Lib.hid (hB.out.trans (hb4.mono (by omega)))
  have hd4 := Lib.hid (hd3.out.bel hb4)
  replace hx := Lib.hid hx
  clear b0 p0 p1 hb4 hd3 hB bx hHeld
  go_upto_region 2 with fail
  generalize (w3.alloc (.cells #[.pointer (some ⟨lb, k * 3, none⟩)] 122)).drew = w4 at hx hB4 hd4 ⊢
  clear hs3
  obtain ⟨f1, f2, f3⟩ := hd4.out.flow hk
  rw [hz] at f2
  rw [hd] at f3
  have s2 := hx.out.b.b2.c 0 _ rfl
  have s3 := hx.out.b3.c 0 _ rfl
  refine wp_region_noPanic ?_
  refine Stg.wp_region_L [] (Vr.SB w4) (by kernel_rfl) (fun _ => (Below.refl _ _).drew) (fun hHeld => ?_)
  refine Stg.wpAnyL_start (n' := 20) (l' := #[false, false, false, false, false, false, false, false, false, false, false, false, false, false, false, false, false, false, false, false]) (by kernel_rfl) (by kernel_rfl) ?_
  refine Stg.wpAnyL_take (i := 0) (v := ?_) [1, 2, 3, 4, 5, 6, 7, 8, 9, 10, 11, 12, 13, 14, 15, 16, 17, 18, 19] 0 rfl (by kernel_rfl) (by kernel_rfl) (by kernel_rfl) (by kernel_rfl) (by kernel_rfl) (fun _ _ _ h => h) (Or.inl ⟨by kernel_rfl, ?_⟩) (by assumption) ?_
  rotate_left
  · intro u hSu
    skip
    have sB := hSu rfl
    have y0 := cellB sB s2
    have y1 := cellB sB s3
    have y2 := cellB sB f1
    have y3 := cellB sB f2
    have y4 := cellB sB f3
    try simp only [List.getElem_toArray, List.getElem_cons_succ, List.getElem_cons_zero]
    go_simp
    try with_reducible rfl
  try simp only [Act.put, List.setIfInBounds_toArray, List.set_cons_zero, List.set_cons_succ]
  refine Stg.wpAnyL_free (i := 1) (v := ?_) 0 rfl (by kernel_rfl) (by kernel_rfl) (by kernel_rfl) (by kernel_rfl) (by kernel_rfl) (fun _ _ _ h => h) (Or.inl ⟨by kernel_rfl, ?_⟩) (by assumption) ?_
  rotate_left
  · intro u _
    try simp only [List.getElem_toArray, List.getElem_cons_succ, List.getElem_cons_zero]
    go_simp
    try with_reducible rfl
  try simp only [Act.put, List.setIfInBounds_toArray, List.set_cons_zero, List.set_cons_succ]
  refine Stg.wpAnyL_free (i := 2) (v := ?_) 0 rfl (by kernel_rfl) (by kernel_rfl) (by kernel_rfl) (by kernel_rfl) (by kernel_rfl) (fun _ _ _ h => h) (Or.inl ⟨by kernel_rfl, ?_⟩) (by assumption) ?_
  rotate_left
  · intro u _
    try simp only [List.getElem_toArray, List.getElem_cons_succ, List.getElem_cons_zero]
    go_simp
    try with_reducible rfl
  try simp only [Act.put, List.setIfInBounds_toArray, List.set_cons_zero, List.set_cons_succ]
  refine Stg.wpAnyL_start (n' := 17) (l' := #[true, true, true, false, false, false, false, false, false, false, false, false, false, false, false, false, false, false, false, false]) (by kernel_rfl) (by kernel_rfl) ?_
  refine Stg.wpAnyL_take (i := 3) (v := ?_) [4, 5, 6, 7, 8, 9, 10, 11, 12, 13, 14, 15, 16, 17, 18, 19] 0 rfl (by kernel_rfl) (by kernel_rfl) (by kernel_rfl) (by kernel_rfl) (by kernel_rfl) (fun _ _ _ h => h) (Or.inl ⟨by kernel_rfl, ?_⟩) (by assumption) ?_
  rotate_left
  · intro u hSu
    skip
    have sB := hSu rfl
    have y0 := cellB sB s2
    have y1 := cellB sB s3
    have y2 := cellB sB f1
    have y3 := cellB sB f2
    have y4 := cellB sB f3
    try simp only [List.getElem_toArray, List.getElem_cons_succ, List.getElem_cons_zero]
    go_simp
    try with_reducible rfl
  try simp only [Act.put, List.setIfInBounds_toArray, List.set_cons_zero, List.set_cons_succ]
  refine Stg.wpAnyL_free (i := 4) (v := ?_) 0 rfl (by kernel_rfl) (by kernel_rfl) (by kernel_rfl) (by kernel_rfl) (by kernel_rfl) (fun _ _ _ h => h) (Or.inl ⟨by kernel_rfl, ?_⟩) (by assumption) ?_
  rotate_left
  · intro u _
    try simp only [List.getElem_toArray, List.getElem_cons_succ, List.getElem_cons_zero]
    go_simp
    try with_reducible rfl
  try simp only [Act.put, List.setIfInBounds_toArray, List.set_cons_zero, List.set_cons_succ]
  refine Stg.wpAnyL_free (i := 5) (v := ?_) 0 rfl (by kernel_rfl) (by kernel_rfl) (by kernel_rfl) (by kernel_rfl) (by kernel_rfl) (fun _ _ _ h => h) (Or.inl ⟨by kernel_rfl, ?_⟩) (by assumption) ?_
  rotate_left
  · intro u _
    try simp only [List.getElem_toArray, List.getElem_cons_succ, List.getElem_cons_zero]
    go_simp
    try with_reducible rfl
  try simp only [Act.put, List.setIfInBounds_toArray, List.set_cons_zero, List.set_cons_succ]
  refine Stg.wpAnyL_start (n' := 14) (l' := #[true, true, true, true, true, true, false, false, false, false, false, false, false, false, false, false, false, false, false, false]) (by kernel_rfl) (by kernel_rfl) ?_
  refine Stg.wpAnyL_free (i := 6) (v := undef) 0 rfl (by kernel_rfl) (by kernel_rfl) (by kernel_rfl) (by kernel_rfl) (by kernel_rfl) (fun _ _ _ h => h) (Or.inr ⟨by kernel_rfl, rfl⟩) (by assumption) ?_
  try simp only [Act.put, List.setIfInBounds_toArray, List.set_cons_zero, List.set_cons_succ]
  refine Stg.wpAnyL_free (i := 7) (v := undef) 0 rfl (by kernel_rfl) (by kernel_rfl) (by kernel_rfl) (by kernel_rfl) (by kernel_rfl) (fun _ _ _ h => h) (Or.inr ⟨by kernel_rfl, rfl⟩) (by assumption) ?_
  try simp only [Act.put, List.setIfInBounds_toArray, List.set_cons_zero, List.set_cons_succ]
  refine Stg.wpAnyL_free (i := 8) (v := undef) 0 rfl (by kernel_rfl) (by kernel_rfl) (by kernel_rfl) (by kernel_rfl) (by kernel_rfl) (fun _ _ _ h => h) (Or.inr ⟨by kernel_rfl, rfl⟩) (by assumption) ?_
  try simp only [Act.put, List.setIfInBounds_toArray, List.set_cons_zero, List.set_cons_succ]
  refine Stg.wpAnyL_start (n' := 11) (l' := #[true, true, true, true, true, true, true, true, true, false, false, false, false, false, false, false, false, false, false, false]) (by kernel_rfl) (by kernel_rfl) ?_
  refine Stg.wpAnyL_free (i := 9) (v := undef) 0 rfl (by kernel_rfl) (by kernel_rfl) (by kernel_rfl) (by kernel_rfl) (by kernel_rfl) (fun _ _ _ h => h) (Or.inr ⟨by kernel_rfl, rfl⟩) (by assumption) ?_
  try simp only [Act.put, List.setIfInBounds_toArray, List.set_cons_zero, List.set_cons_succ]
  refine Stg.wpAnyL_free (i := 10) (v := undef) 0 rfl (by kernel_rfl) (by kernel_rfl) (by kernel_rfl) (by kernel_rfl) (by kernel_rfl) (fun _ _ _ h => h) (Or.inr ⟨by kernel_rfl, rfl⟩) (by assumption) ?_
  try simp only [Act.put, List.setIfInBounds_toArray, List.set_cons_zero, List.set_cons_succ]
  refine Stg.wpAnyL_free (i := 11) (v := ?_) 0 rfl (by kernel_rfl) (by kernel_rfl) (by kernel_rfl) (by kernel_rfl) (by kernel_rfl) (fun _ _ _ h => h) (Or.inl ⟨by kernel_rfl, ?_⟩) (by assumption) ?_
  rotate_left
  · intro u _
    try simp only [List.getElem_toArray, List.getElem_cons_succ, List.getElem_cons_zero]
    go_simp
    try with_reducible rfl
  try simp only [Act.put, List.setIfInBounds_toArray, List.set_cons_zero, List.set_cons_succ]
  refine Stg.wpAnyL_start (n' := 8) (l' := #[true, true, true, true, true, true, true, true, true, true, true, true, false, false, false, false, false, false, false, false]) (by kernel_rfl) (by kernel_rfl) ?_
  refine Stg.wpAnyL_free (i := 12) (v := ?_) 0 rfl (by kernel_rfl) (by kernel_rfl) (by kernel_rfl) (by kernel_rfl) (by kernel_rfl) (fun _ _ _ h => h) (Or.inl ⟨by kernel_rfl, ?_⟩) (by assumption) ?_
  rotate_left
  · intro u _
    try simp only [List.getElem_toArray, List.getElem_cons_succ, List.getElem_cons_zero]
    go_simp
    try with_reducible rfl
  try simp only [Act.put, List.setIfInBounds_toArray, List.set_cons_zero, List.set_cons_succ]
  refine Stg.wpAnyL_free (i := 13) (v := undef) 0 rfl (by kernel_rfl) (by kernel_rfl) (by kernel_rfl) (by kernel_rfl) (by kernel_rfl) (fun _ _ _ h => h) (Or.inr ⟨by kernel_rfl, rfl⟩) (by assumption) ?_
  try simp only [Act.put, List.setIfInBounds_toArray, List.set_cons_zero, List.set_cons_succ]
  refine Stg.wpAnyL_free (i := 14) (v := undef) 0 rfl (by kernel_rfl) (by kernel_rfl) (by kernel_rfl) (by kernel_rfl) (by kernel_rfl) (fun _ _ _ h => h) (Or.inr ⟨by kernel_rfl, rfl⟩) (by assumption) ?_
  try simp only [Act.put, List.setIfInBounds_toArray, List.set_cons_zero, List.set_cons_succ]
  refine Stg.wpAnyL_start (n' := 5) (l' := #[true, true, true, true, true, true, true, true, true, true, true, true, true, true, true, false, false, false, false, false]) (by kernel_rfl) (by kernel_rfl) ?_
  refine Stg.wpAnyL_free (i := 15) (v := undef) 0 rfl (by kernel_rfl) (by kernel_rfl) (by kernel_rfl) (by kernel_rfl) (by kernel_rfl) (fun _ _ _ h => h) (Or.inr ⟨by kernel_rfl, rfl⟩) (by assumption) ?_
  try simp only [Act.put, List.setIfInBounds_toArray, List.set_cons_zero, List.set_cons_succ]
  refine Stg.wpAnyL_free (i := 16) (v := undef) 0 rfl (by kernel_rfl) (by kernel_rfl) (by kernel_rfl) (by kernel_rfl) (by kernel_rfl) (fun _ _ _ h => h) (Or.inr ⟨by kernel_rfl, rfl⟩) (by assumption) ?_
  try simp only [Act.put, List.setIfInBounds_toArray, List.set_cons_zero, List.set_cons_succ]
  refine Stg.wpAnyL_free (i := 17) (v := undef) 0 rfl (by kernel_rfl) (by kernel_rfl) (by kernel_rfl) (by kernel_rfl) (by kernel_rfl) (fun _ _ _ h => h) (Or.inr ⟨by kernel_rfl, rfl⟩) (by assumption) ?_
  try simp only [Act.put, List.setIfInBounds_toArray, List.set_cons_zero, List.set_cons_succ]
  refine Stg.wpAnyL_start (n' := 2) (l' := #[true, true, true, true, true, true, true, true, true, true, true, true, true, true, true, true, true, true, false, false]) (by kernel_rfl) (by kernel_rfl) ?_
  refine Stg.wpAnyL_free (i := 18) (v := undef) 0 rfl (by kernel_rfl) (by kernel_rfl) (by kernel_rfl) (by kernel_rfl) (by kernel_rfl) (fun _ _ _ h => h) (Or.inr ⟨by kernel_rfl, rfl⟩) (by assumption) ?_
  try simp only [Act.put, List.setIfInBounds_toArray, List.set_cons_zero, List.set_cons_succ]
  refine Stg.wpAnyL_free (i := 19) (v := ?_) 0 rfl (by kernel_rfl) (by kernel_rfl) (by kernel_rfl) (by kernel_rfl) (by kernel_rfl) (fun _ _ _ h => h) (Or.inl ⟨by kernel_rfl, ?_⟩) (by assumption) ?_
  rotate_left
  · intro u _
    try simp only [List.getElem_toArray, List.getElem_cons_succ, List.getElem_cons_zero]
    go_simp
    try with_reducible rfl
  try simp only [Act.put, List.setIfInBounds_toArray, List.set_cons_zero, List.set_cons_succ]
  refine Stg.wpAnyL_done (by kernel_rfl) ?_ _
  try simp only [List.getElem_toArray, List.getElem_cons_succ, List.getElem_cons_zero]
  try simp only [Act.put, List.setIfInBounds_toArray, List.set_cons_zero, List.set_cons_succ]
  refine NoPanic.normal ?_
  have hdr := (Below.refl w4.heap.size w4).drew
  generalize w4.drew = w5 at hdr ⊢
  obtain ⟨f1, f2, f3⟩ := (hd4.out.bel hdr).flow hk
  rw [hz] at f2
  rw [hd] at f3
  have p0 := (hx.out.bel hdr).b.b0.c 0 _ rfl
  have p1 := (hx.out.bel hdr).b.b1.c 0 _ rfl
  have s2 := (hx.out.bel hdr).b.b2.c 0 _ rfl
  have s3 := (hx.out.bel hdr).b3.c 0 _ rfl
  replace hdr := Lib.hid hdr
  have hd5 := Lib.hid (hd4.out.bel hdr.out)
  have hx5 := Lib.hid (hx.out.bel hdr.out)
  have k5 : RowKit.Hid (KF [f, lb] w w5) := Lib.hid (KF.of (by rw [hq]; exact hB4.out.trans (hdr.out.mono (by have := hx.out.b3.l; omega))))
  clear hdr hd4 hx hB4 hHeld
  go_upto_region 11 with fail
  have z1 := hd5.out.l.f (k * 3 + 1)
  have z2 := hd5.out.l.f (k * 3 + 2)
  refine wp_region_noPanic ?_
  refine Stg.wp_region_L [] (fun _ u => u.cell? ⟨q + 1 + 1 + 1, 0, none⟩ = some (.pointer (some ⟨lb, k * 3, none⟩)) ∧ u.cell? ⟨q + 1 + 1, 0, none⟩ = some (.int .i64 0)) (by kernel_rfl) (⟨by simpa using s3, by simpa using s2⟩) (fun hHeld => ?_)
  refine Stg.wpAnyL_start (n' := 9) (l' := #[false, false, false, false, false, false, false, false, false]) (by kernel_rfl) (by kernel_rfl) ?_
  refine Stg.wpAnyL_take (i := 0) (v := ?_) [3, 4, 5, 6, 7, 8] 0 rfl (by kernel_rfl) (by kernel_rfl) (by kernel_rfl) (by kernel_rfl) (by kernel_rfl) (fun _ _ _ h => h) (Or.inl ⟨by kernel_rfl, ?_⟩) (by assumption) ?_
  rotate_left
  · intro u hSu
    obtain ⟨y3, y2⟩ := hSu
    skip
    try simp only [List.getElem_toArray, List.getElem_cons_succ, List.getElem_cons_zero]
    go_simp
    try with_reducible rfl
  try simp only [Act.put, List.setIfInBounds_toArray, List.set_cons_zero, List.set_cons_succ]
  refine Stg.wpAnyL_take (i := 1) (v := ?_) [6, 7, 8] 0 rfl (by kernel_rfl) (by kernel_rfl) (by kernel_rfl) (by kernel_rfl) (by kernel_rfl) (fun _ _ _ h => h) (Or.inl ⟨by kernel_rfl, ?_⟩) (by assumption) ?_
  rotate_left
  · intro u hSu
    obtain ⟨y3, y2⟩ := hSu
    skip
    try simp only [List.getElem_toArray, List.getElem_cons_succ, List.getElem_cons_zero]
    go_simp
    try with_reducible rfl
  try simp only [Act.put, List.setIfInBounds_toArray, List.set_cons_zero, List.set_cons_succ]
  refine Stg.wpAnyL_take (i := 2) (v := ?_) [3, 4, 5, 6, 7, 8] 0 rfl (by kernel_rfl) (by kernel_rfl) (by kernel_rfl) (by kernel_rfl) (by kernel_rfl) (fun _ _ _ h => h) (Or.inl ⟨by kernel_rfl, ?_⟩) (by assumption) ?_
  rotate_left
  · intro u hSu
    obtain ⟨y3, y2⟩ := hSu
    skip
    try simp only [List.getElem_toArray, List.getElem_cons_succ, List.getElem_cons_zero]
    go_simp
    try with_reducible rfl
  try simp only [Act.put, List.setIfInBounds_toArray, List.set_cons_zero, List.set_cons_succ]
  refine Stg.wpAnyL_start (n' := 6) (l' := #[true, true, true, false, false, false, false, false, false]) (by kernel_rfl) (by kernel_rfl) ?_
  refine Stg.wpAnyL_free (i := 3) (v := ?_) 0 rfl (by kernel_rfl) (by kernel_rfl) (by kernel_rfl) (by kernel_rfl) (by kernel_rfl) (fun _ _ _ h => h) (Or.inl ⟨by kernel_rfl, ?_⟩) (by assumption) ?_
  rotate_left
  · intro u _
    try simp only [List.getElem_toArray, List.getElem_cons_succ, List.getElem_cons_zero]
    go_simp
    try with_reducible rfl
  try simp only [Act.put, List.setIfInBounds_toArray, List.set_cons_zero, List.set_cons_succ]
  refine Stg.wpAnyL_free (i := 4) (v := ?_) 0 rfl (by kernel_rfl) (by kernel_rfl) (by kernel_rfl) (by kernel_rfl) (by kernel_rfl) (fun _ _ _ h => h) (Or.inl ⟨by kernel_rfl, ?_⟩) (by assumption) ?_
  rotate_left
  · intro u _
    try simp only [List.getElem_toArray, List.getElem_cons_succ, List.getElem_cons_zero]
    go_simp
    try with_reducible rfl
  try simp only [Act.put, List.setIfInBounds_toArray, List.set_cons_zero, List.set_cons_succ]
  refine Stg.wpAnyL_one (i := 5) 0 rfl (by kernel_rfl) (by kernel_rfl) (fun K hK => ?_)
  have g2 := cellB ((Below.refl w5.heap.size w5).drew) f2
  have g3 := cellB ((Below.refl w5.heap.size w5).drew) f3
  have z1 : w5.drew.frozen? ⟨lb, k * 3 + 1, none⟩ = false := by simpa using z1
  have z2 : w5.drew.frozen? ⟨lb, k * 3 + 2, none⟩ = false := by simpa using z2
  try simp only [List.getElem_toArray, List.getElem_cons_succ, List.getElem_cons_zero]
  go_simp
  refine hK.out _ _ ?_ (fun hHeld1 => ?_)
  · exact ⟨(World.cell?_setCell_other _ _ _ _ (by simp <;> omega)).trans (hHeld).1, (World.cell?_setCell_other _ _ _ _ (by simp <;> omega)).trans (hHeld).2⟩
  clear hK K
  try simp only [Act.put, List.setIfInBounds_toArray, List.set_cons_zero, List.set_cons_succ]
  refine Stg.wpAnyL_start (n' := 3) (l' := #[true, true, true, true, true, true, false, false, false]) (by kernel_rfl) (by kernel_rfl) ?_
  refine Stg.wpAnyL_free (i := 6) (v := ?_) 0 rfl (by kernel_rfl) (by kernel_rfl) (by kernel_rfl) (by kernel_rfl) (by kernel_rfl) (fun _ _ _ h => h) (Or.inl ⟨by kernel_rfl, ?_⟩) (by assumption) ?_
  rotate_left
  · intro u _
    try simp only [List.getElem_toArray, List.getElem_cons_succ, List.getElem_cons_zero]
    go_simp
    try with_reducible rfl
  try simp only [Act.put, List.setIfInBounds_toArray, List.set_cons_zero, List.set_cons_succ]
  refine Stg.wpAnyL_free (i := 7) (v := ?_) 0 rfl (by kernel_rfl) (by kernel_rfl) (by kernel_rfl) (by kernel_rfl) (by kernel_rfl) (fun _ _ _ h => h) (Or.inl ⟨by kernel_rfl, ?_⟩) (by assumption) ?_
  rotate_left
  · intro u _
    try simp only [List.getElem_toArray, List.getElem_cons_succ, List.getElem_cons_zero]
    go_simp
    try with_reducible rfl
  try simp only [Act.put, List.setIfInBounds_toArray, List.set_cons_zero, List.set_cons_succ]
  refine Stg.wpAnyL_one (i := 8) 0 rfl (by kernel_rfl) (by kernel_rfl) (fun K hK => ?_)
  try simp only [List.getElem_toArray, List.getElem_cons_succ, List.getElem_cons_zero]
  go_simp
  refine hK.out _ _ ?_ (fun hHeld2 => ?_)
  · exact ⟨(World.cell?_setCell_other _ _ _ _ (by simp <;> omega)).trans (hHeld1).1, (World.cell?_setCell_other _ _ _ _ (by simp <;> omega)).trans (hHeld1).2⟩
  clear hK K
  try simp only [Act.put, List.setIfInBounds_toArray, List.set_cons_zero, List.set_cons_succ]
  refine Stg.wpAnyL_done (by kernel_rfl) ?_ _
  try simp only [List.getElem_toArray, List.getElem_cons_succ, List.getElem_cons_zero]
  try simp only [Act.put, List.setIfInBounds_toArray, List.set_cons_zero, List.set_cons_succ]
  refine NoPanic.normal ?_
  refine bodyPost_end (v := .tuple #[]) (by simp [results, Try.results48, go_sem]) rfl ?_
  have d6 := hd5.out.bel ((Below.refl _ _).drew)
  exact ⟨_, _, rfl, d6.setRow hk 0 false, .inl rfl, ((k5.out.drew).set (p := ⟨lb, k * 3 + 1, none⟩) (.inl (by simp)) _).set (p := ⟨lb, k * 3 + 2, none⟩) (.inl (by simp)) _⟩
set_option maxRecDepth 100000 in
set_option maxHeartbeats 4000000 in
theorem hear_b {w : World} {f lb cl tb ct N : Nat} {ALL V : Int} {W Z : Nat → Int} {D : Nat → Bool} {S F : Nat → Int} (h : FD w f lb cl tb ct N ALL V W Z D S F) (k : Nat) (hk : k < N) (n : Int) (z : Int) (d : Bool) (hz : Z k = z) (hd : D k = true)
    (h1 : 0 < z) :
    Calls Try.prog 48 #[.pointer (some ⟨f, 0, none⟩), .int .i64 (k : Nat), .int .i64 0] w
      (HearQ tb f lb cl N ALL V W (up Z k 0) (upb D k false) S F [f, lb] w) := by
  have h8 := h.n8
  have hkz : (k : Int) < (N : Int) := by omega
  obtain ⟨bx, hB, hs3⟩ := bx3_new w f k 0 63 3 3
  have hfl := h.b.l
  have hll := h.l.l
  have htl := h.tl
  replace h := Lib.hid h
  replace hB := Lib.hid hB
  replace bx := Lib.hid bx
  go_enter Try.func48, Try.ntmps48
  go_upto_region 1 with fail
  generalize (((w.alloc (.cells #[.pointer (some ⟨f, 0, none⟩)] 63)).alloc (.cells #[.int .i64 (k : Nat)] 3)).alloc (.cells #[.int .i64 0] 3)) = w3 at bx hB hs3 ⊢
  obtain ⟨q, hq⟩ : ∃ q, w.heap.size = q := ⟨_, rfl⟩
  rw [hq] at bx hs3 hfl hll htl hB ⊢
  have hd3 := Lib.hid (h.out.bel (by rw [hq]; exact hB.out))
  have b0 := hd3.out.b.c 0 _ rfl
  have p0 := bx.out.b0.c 0 _ rfl
  have p1 := bx.out.b1.c 0 _ rfl
  refine wp_region_noPanic ?_
  refine Stg.wp_region_L [7] (Vr.SB w3) (by kernel_rfl) (fun _ => (Below.refl _ _).drew) (fun hHeld => ?_)
  refine Stg.wpAnyL_start (n' := 8) (l' := #[false, false, false, false, false, false, false, false]) (by kernel_rfl) (by kernel_rfl) ?_
  refine Stg.wpAnyL_take (i := 0) (v := ?_) [1, 2, 3, 5, 7] 0 rfl (by kernel_rfl) (by kernel_rfl) (by kernel_rfl) (by kernel_rfl) (by kernel_rfl) (fun _ _ _ h => h) (Or.inl ⟨by kernel_rfl, ?_⟩) (by assumption) ?_
  rotate_left
  · intro u hSu
    skip
    have sB := hSu rfl
    have y0 := cellB sB b0
    have y1 := cellB sB p0
    have y2 := cellB sB p1
    try simp only [List.getElem_toArray, List.getElem_cons_succ, List.getElem_cons_zero]
    go_simp
    try with_reducible rfl
  try simp only [Act.put, List.setIfInBounds_toArray, List.set_cons_zero, List.set_cons_succ]
  refine Stg.wpAnyL_free (i := 1) (v := ?_) 0 rfl (by kernel_rfl) (by kernel_rfl) (by kernel_rfl) (by kernel_rfl) (by kernel_rfl) (fun _ _ _ h => h) (Or.inl ⟨by kernel_rfl, ?_⟩) (by assumption) ?_
  rotate_left
  · intro u _
    try simp only [List.getElem_toArray, List.getElem_cons_succ, List.getElem_cons_zero]
    go_simp
    try with_reducible rfl
  try simp only [Act.put, List.setIfInBounds_toArray, List.set_cons_zero, List.set_cons_succ]
  refine Stg.wpAnyL_free (i := 2) (v := ?_) 0 rfl (by kernel_rfl) (by kernel_rfl) (by kernel_rfl) (by kernel_rfl) (by kernel_rfl) (fun _ _ _ h => h) (Or.inl ⟨by kernel_rfl, ?_⟩) (by assumption) ?_
  rotate_left
  · intro u _
    try simp only [List.getElem_toArray, List.getElem_cons_succ, List.getElem_cons_zero]
    go_simp
    try with_reducible rfl
  try simp only [Act.put, List.setIfInBounds_toArray, List.set_cons_zero, List.set_cons_succ]
  refine Stg.wpAnyL_start (n' := 5) (l' := #[true, true, true, false, false, false, false, false]) (by kernel_rfl) (by kernel_rfl) ?_
  refine Stg.wpAnyL_take (i := 3) (v := ?_) [5, 7] 0 rfl (by kernel_rfl) (by kernel_rfl) (by kernel_rfl) (by kernel_rfl) (by kernel_rfl) (fun _ _ _ h => h) (Or.inl ⟨by kernel_rfl, ?_⟩) (by assumption) ?_
  rotate_left
  · intro u hSu
    skip
    have sB := hSu rfl
    have y0 := cellB sB b0
    have y1 := cellB sB p0
    have y2 := cellB sB p1
    try simp only [List.getElem_toArray, List.getElem_cons_succ, List.getElem_cons_zero]
    go_simp
    try with_reducible rfl
  try simp only [Act.put, List.setIfInBounds_toArray, List.set_cons_zero, List.set_cons_succ]
  refine Stg.wpAnyL_take (i := 4) (v := ?_) [5, 7] 0 rfl (by kernel_rfl) (by kernel_rfl) (by kernel_rfl) (by kernel_rfl) (by kernel_rfl) (fun _ _ _ h => h) (Or.inl ⟨by kernel_rfl, ?_⟩) (by assumption) ?_
  rotate_left
  · intro u hSu
    skip
    have sB := hSu rfl
    have y0 := cellB sB b0
    have y1 := cellB sB p0
    have y2 := cellB sB p1
    try simp only [List.getElem_toArray, List.getElem_cons_succ, List.getElem_cons_zero]
    go_simp
    try with_reducible rfl
  try simp only [Act.put, List.setIfInBounds_toArray, List.set_cons_zero, List.set_cons_succ]
  refine Stg.wpAnyL_free (i := 5) (v := ?_) 0 rfl (by kernel_rfl) (by kernel_rfl) (by kernel_rfl) (by kernel_rfl) (by kernel_rfl) (fun _ _ _ h => h) (Or.inl ⟨by kernel_rfl, ?_⟩) (by assumption) ?_
  rotate_left
  · intro u _
    try simp only [List.getElem_toArray, List.getElem_cons_succ, List.getElem_cons_zero]
    go_simp
    try with_reducible rfl
  try simp only [Act.put, List.setIfInBounds_toArray, List.set_cons_zero, List.set_cons_succ]
  refine Stg.wpAnyL_start (n' := 2) (l' := #[true, true, true, true, true, true, false, false]) (by kernel_rfl) (by kernel_rfl) ?_
  refine Stg.wpAnyL_one (i := 6) 0 rfl (by kernel_rfl) (by kernel_rfl) (fun K hK => ?_)
  try simp only [List.getElem_toArray, List.getElem_cons_succ, List.getElem_cons_zero]
  go_simp
  refine hK.out _ _ ?_ (fun hHeld1 => ?_)
  · exact fun _ => bNext (hHeld rfl) ((Below.refl _ _).alloc (Nat.le_refl _) _) (Nat.le_refl _)
  clear hK K
  try simp only [Act.put, List.setIfInBounds_toArray, List.set_cons_zero, List.set_cons_succ]
  refine Stg.wpAnyL_one (i := 7) 1 rfl (by kernel_rfl) (by kernel_rfl) (fun K hK => ?_)
  try simp only [List.getElem_toArray, List.getElem_cons_succ, List.getElem_cons_zero]
  go_simp
  refine hK.out _ _ ?_ (fun hHeld2 => ?_)
  · exact fun h => absurd h (by decide)
  clear hK K
  try simp only [Act.put, List.setIfInBounds_toArray, List.set_cons_zero, List.set_cons_succ]
  refine Stg.wpAnyL_done (by kernel_rfl) ?_ _
  try simp only [List.getElem_toArray, List.getElem_cons_succ, List.getElem_cons_zero]
  try simp only [Act.put, List.setIfInBounds_toArray, List.set_cons_zero, List.set_cons_succ]
  refine NoPanic.normal ?_
  obtain ⟨hx, hb4⟩ := bx_new (lb := lb) bx.out hs3 122
  have hB4 := Lib.hid (hB.out.trans (hb4.mono (by omega)))
  have hd4 := Lib.hid (hd3.out.bel hb4)
  replace hx := Lib.hid hx
  clear b0 p0 p1 hb4 hd3 hB bx hHeld
  go_upto_region 2 with fail
  generalize (w3.alloc (.cells #[.pointer (some ⟨lb, k * 3, none⟩)] 122)).drew = w4 at hx hB4 hd4 ⊢
  clear hs3
  obtain ⟨f1, f2, f3⟩ := hd4.out.flow hk
  rw [hz] at f2
  rw [hd] at f3
  have s2 := hx.out.b.b2.c 0 _ rfl
  have s3 := hx.out.b3.c 0 _ rfl
  refine wp_region_noPanic ?_
  refine Stg.wp_region_L [] (Vr.SB w4) (by kernel_rfl) (fun _ => (Below.refl _ _).drew) (fun hHeld => ?_)
  refine Stg.wpAnyL_start (n' := 20) (l' := #[false, false, false, false, false, false, false, false, false, false, false, false, false, false, false, false, false, false, false, false]) (by kernel_rfl) (by kernel_rfl) ?_
  refine Stg.wpAnyL_take (i := 0) (v := ?_) [1, 2, 3, 4, 5, 6, 7, 8, 9, 10, 11, 12, 13, 14, 15, 16, 17, 18, 19] 0 rfl (by kernel_rfl) (by kernel_rfl) (by kernel_rfl) (by kernel_rfl) (by kernel_rfl) (fun _ _ _ h => h) (Or.inl ⟨by kernel_rfl, ?_⟩) (by assumption) ?_
  rotate_left
  · intro u hSu
    skip
    have sB := hSu rfl
    have y0 := cellB sB s2
    have y1 := cellB sB s3
    have y2 := cellB sB f1
    have y3 := cellB sB f2
    have y4 := cellB sB f3
    try simp only [List.getElem_toArray, List.getElem_cons_succ, List.getElem_cons_zero]
    go_simp
    try with_reducible rfl
  try simp only [Act.put, List.setIfInBounds_toArray, List.set_cons_zero, List.set_cons_succ]
  refine Stg.wpAnyL_free (i := 1) (v := ?_) 0 rfl (by kernel_rfl) (by kernel_rfl) (by kernel_rfl) (by kernel_rfl) (by kernel_rfl) (fun _ _ _ h => h) (Or.inl ⟨by kernel_rfl, ?_⟩) (by assumption) ?_
  rotate_left
  · intro u _
    try simp only [List.getElem_toArray, List.getElem_cons_succ, List.getElem_cons_zero]
    go_simp
    try with_reducible rfl
  try simp only [Act.put, List.setIfInBounds_toArray, List.set_cons_zero, List.set_cons_succ]
  refine Stg.wpAnyL_free (i := 2) (v := ?_) 0 rfl (by kernel_rfl) (by kernel_rfl) (by kernel_rfl) (by kernel_rfl) (by kernel_rfl) (fun _ _ _ h => h) (Or.inl ⟨by kernel_rfl, ?_⟩) (by assumption) ?_
  rotate_left
  · intro u _
    try simp only [List.getElem_toArray, List.getElem_cons_succ, List.getElem_cons_zero]
    go_simp
    try with_reducible rfl
  try simp only [Act.put, List.setIfInBounds_toArray, List.set_cons_zero, List.set_cons_succ]
  refine Stg.wpAnyL_start (n' := 17) (l' := #[true, true, true, false, false, false, false, false, false, false, false, false, false, false, false, false, false, false, false, false]) (by kernel_rfl) (by kernel_rfl) ?_
  refine Stg.wpAnyL_take (i := 3) (v := ?_) [4, 5, 6, 7, 8, 9, 10, 11, 12, 13, 14, 15, 16, 17, 18, 19] 0 rfl (by kernel_rfl) (by kernel_rfl) (by kernel_rfl) (by kernel_rfl) (by kernel_rfl) (fun _ _ _ h => h) (Or.inl ⟨by kernel_rfl, ?_⟩) (by assumption) ?_
  rotate_left
  · intro u hSu
    skip
    have sB := hSu rfl
    have y0 := cellB sB s2
    have y1 := cellB sB s3
    have y2 := cellB sB f1
    have y3 := cellB sB f2
    have y4 := cellB sB f3
    try simp only [List.getElem_toArray, List.getElem_cons_succ, List.getElem_cons_zero]
    go_simp
    try with_reducible rfl
  try simp only [Act.put, List.setIfInBounds_toArray, List.set_cons_zero, List.set_cons_succ]
  refine Stg.wpAnyL_free (i := 4) (v := ?_) 0 rfl (by kernel_rfl) (by kernel_rfl) (by kernel_rfl) (by kernel_rfl) (by kernel_rfl) (fun _ _ _ h => h) (Or.inl ⟨by kernel_rfl, ?_⟩) (by assumption) ?_
  rotate_left
  · intro u _
    try simp only [List.getElem_toArray, List.getElem_cons_succ, List.getElem_cons_zero]
    go_simp
    try with_reducible rfl
  try simp only [Act.put, List.setIfInBounds_toArray, List.set_cons_zero, List.set_cons_succ]
  refine Stg.wpAnyL_free (i := 5) (v := ?_) 0 rfl (by kernel_rfl) (by kernel_rfl) (by kernel_rfl) (by kernel_rfl) (by kernel_rfl) (fun _ _ _ h => h) (Or.inl ⟨by kernel_rfl, ?_⟩) (by assumption) ?_
  rotate_left
  · intro u _
    try simp only [List.getElem_toArray, List.getElem_cons_succ, List.getElem_cons_zero]
    go_simp
    try with_reducible rfl
  try simp only [Act.put, List.setIfInBounds_toArray, List.set_cons_zero, List.set_cons_succ]
  refine Stg.wpAnyL_start (n' := 14) (l' := #[true, true, true, true, true, true, false, false, false, false, false, false, false, false, false, false, false, false, false, false]) (by kernel_rfl) (by kernel_rfl) ?_
  refine Stg.wpAnyL_take (i := 6) (v := ?_) [7, 8, 9, 10, 11, 12, 13, 14, 15, 16, 17, 18, 19] 0 rfl (by kernel_rfl) (by kernel_rfl) (by kernel_rfl) (by kernel_rfl) (by kernel_rfl) (fun _ _ _ h => h) (Or.inl ⟨by kernel_rfl, ?_⟩) (by assumption) ?_
  rotate_left
  · intro u hSu
    skip
    have sB := hSu rfl
    have y0 := cellB sB s2
    have y1 := cellB sB s3
    have y2 := cellB sB f1
    have y3 := cellB sB f2
    have y4 := cellB sB f3
    try simp only [List.getElem_toArray, List.getElem_cons_succ, List.getElem_cons_zero]
    go_simp
    try with_reducible rfl
  try simp only [Act.put, List.setIfInBounds_toArray, List.set_cons_zero, List.set_cons_succ]
  refine Stg.wpAnyL_free (i := 7) (v := ?_) 0 rfl (by kernel_rfl) (by kernel_rfl) (by kernel_rfl) (by kernel_rfl) (by kernel_rfl) (fun _ _ _ h => h) (Or.inl ⟨by kernel_rfl, ?_⟩) (by assumption) ?_
  rotate_left
  · intro u _
    try simp only [List.getElem_toArray, List.getElem_cons_succ, List.getElem_cons_zero]
    go_simp
    try with_reducible rfl
  try simp only [Act.put, List.setIfInBounds_toArray, List.set_cons_zero, List.set_cons_succ]
  refine Stg.wpAnyL_free (i := 8) (v := ?_) 0 rfl (by kernel_rfl) (by kernel_rfl) (by kernel_rfl) (by kernel_rfl) (by kernel_rfl) (fun _ _ _ h => h) (Or.inl ⟨by kernel_rfl, ?_⟩) (by assumption) ?_
  rotate_left
  · intro u _
    try simp only [List.getElem_toArray, List.getElem_cons_succ, List.getElem_cons_zero]
    go_simp
    try with_reducible rfl
  try simp only [Act.put, List.setIfInBounds_toArray, List.set_cons_zero, List.set_cons_succ]
  refine Stg.wpAnyL_start (n' := 11) (l' := #[true, true, true, true, true, true, true, true, true, false, false, false, false, false, false, false, false, false, false, false]) (by kernel_rfl) (by kernel_rfl) ?_
  refine Stg.wpAnyL_take (i := 9) (v := ?_) [10, 11, 12, 13, 14, 15, 16, 17, 18, 19] 0 rfl (by kernel_rfl) (by kernel_rfl) (by kernel_rfl) (by kernel_rfl) (by kernel_rfl) (fun _ _ _ h => h) (Or.inl ⟨by kernel_rfl, ?_⟩) (by assumption) ?_
  rotate_left
  · intro u hSu
    skip
    have sB := hSu rfl
    have y0 := cellB sB s2
    have y1 := cellB sB s3
    have y2 := cellB sB f1
    have y3 := cellB sB f2
    have y4 := cellB sB f3
    try simp only [List.getElem_toArray, List.getElem_cons_succ, List.getElem_cons_zero]
    go_simp
    try with_reducible rfl
  try simp only [Act.put, List.setIfInBounds_toArray, List.set_cons_zero, List.set_cons_succ]
  refine Stg.wpAnyL_free (i := 10) (v := ?_) 0 rfl (by kernel_rfl) (by kernel_rfl) (by kernel_rfl) (by kernel_rfl) (by kernel_rfl) (fun _ _ _ h => h) (Or.inl ⟨by kernel_rfl, ?_⟩) (by assumption) ?_
  rotate_left
  · intro u _
    try simp only [List.getElem_toArray, List.getElem_cons_succ, List.getElem_cons_zero]
    go_simp
    try with_reducible rfl
  try simp only [Act.put, List.setIfInBounds_toArray, List.set_cons_zero, List.set_cons_succ]
  refine Stg.wpAnyL_free (i := 11) (v := ?_) 0 rfl (by kernel_rfl) (by kernel_rfl) (by kernel_rfl) (by kernel_rfl) (by kernel_rfl) (fun _ _ _ h => h) (Or.inl ⟨by kernel_rfl, ?_⟩) (by assumption) ?_
  rotate_left
  · intro u _
    try simp only [List.getElem_toArray, List.getElem_cons_succ, List.getElem_cons_zero]
    go_simp
    try with_reducible rfl
  try simp only [Act.put, List.setIfInBounds_toArray, List.set_cons_zero, List.set_cons_succ]
  refine Stg.wpAnyL_start (n' := 8) (l' := #[true, true, true, true, true, true, true, true, true, true, true, true, false, false, false, false, false, false, false, false]) (by kernel_rfl) (by kernel_rfl) ?_
  refine Stg.wpAnyL_free (i := 12) (v := ?_) 0 rfl (by kernel_rfl) (by kernel_rfl) (by kernel_rfl) (by kernel_rfl) (by kernel_rfl) (fun _ _ _ h => h) (Or.inl ⟨by kernel_rfl, ?_⟩) (by assumption) ?_
  rotate_left
  · intro u _
    try simp only [List.getElem_toArray, List.getElem_cons_succ, List.getElem_cons_zero]
    go_simp
    try with_reducible rfl
  try simp only [Act.put, List.setIfInBounds_toArray, List.set_cons_zero, List.set_cons_succ]
  refine Stg.wpAnyL_free (i := 13) (v := undef) 0 rfl (by kernel_rfl) (by kernel_rfl) (by kernel_rfl) (by kernel_rfl) (by kernel_rfl) (fun _ _ _ h => h) (Or.inr ⟨by kernel_rfl, rfl⟩) (by assumption) ?_
  try simp only [Act.put, List.setIfInBounds_toArray, List.set_cons_zero, List.set_cons_succ]
  refine Stg.wpAnyL_free (i := 14) (v := undef) 0 rfl (by kernel_rfl) (by kernel_rfl) (by kernel_rfl) (by kernel_rfl) (by kernel_rfl) (fun _ _ _ h => h) (Or.inr ⟨by kernel_rfl, rfl⟩) (by assumption) ?_
  try simp only [Act.put, List.setIfInBounds_toArray, List.set_cons_zero, List.set_cons_succ]
  refine Stg.wpAnyL_start (n' := 5) (l' := #[true, true, true, true, true, true, true, true, true, true, true, true, true, true, true, false, false, false, false, false]) (by kernel_rfl) (by kernel_rfl) ?_
  refine Stg.wpAnyL_free (i := 15) (v := undef) 0 rfl (by kernel_rfl) (by kernel_rfl) (by kernel_rfl) (by kernel_rfl) (by kernel_rfl) (fun _ _ _ h => h) (Or.inr ⟨by kernel_rfl, rfl⟩) (by assumption) ?_
  try simp only [Act.put, List.setIfInBounds_toArray, List.set_cons_zero, List.set_cons_succ]
  refine Stg.wpAnyL_free (i := 16) (v := undef) 0 rfl (by kernel_rfl) (by kernel_rfl) (by kernel_rfl) (by kernel_rfl) (by kernel_rfl) (fun _ _ _ h => h) (Or.inr ⟨by kernel_rfl, rfl⟩) (by assumption) ?_
  try simp only [Act.put, List.setIfInBounds_toArray, List.set_cons_zero, List.set_cons_succ]
  refine Stg.wpAnyL_free (i := 17) (v := undef) 0 rfl (by kernel_rfl) (by kernel_rfl) (by kernel_rfl) (by kernel_rfl) (by kernel_rfl) (fun _ _ _ h => h) (Or.inr ⟨by kernel_rfl, rfl⟩) (by assumption) ?_
  try simp only [Act.put, List.setIfInBounds_toArray, List.set_cons_zero, List.set_cons_succ]
  refine Stg.wpAnyL_start (n' := 2) (l' := #[true, true, true, true, true, true, true, true, true, true, true, true, true, true, true, true, true, true, false, false]) (by kernel_rfl) (by kernel_rfl) ?_
  refine Stg.wpAnyL_free (i := 18) (v := undef) 0 rfl (by kernel_rfl) (by kernel_rfl) (by kernel_rfl) (by kernel_rfl) (by kernel_rfl) (fun _ _ _ h => h) (Or.inr ⟨by kernel_rfl, rfl⟩) (by assumption) ?_
  try simp only [Act.put, List.setIfInBounds_toArray, List.set_cons_zero, List.set_cons_succ]
  refine Stg.wpAnyL_free (i := 19) (v := ?_) 0 rfl (by kernel_rfl) (by kernel_rfl) (by kernel_rfl) (by kernel_rfl) (by kernel_rfl) (fun _ _ _ h => h) (Or.inl ⟨by kernel_rfl, ?_⟩) (by assumption) ?_
  rotate_left
  · intro u _
    try simp only [List.getElem_toArray, List.getElem_cons_succ, List.getElem_cons_zero]
    go_simp
    try with_reducible rfl
  try simp only [Act.put, List.setIfInBounds_toArray, List.set_cons_zero, List.set_cons_succ]
  refine Stg.wpAnyL_done (by kernel_rfl) ?_ _
  try simp only [List.getElem_toArray, List.getElem_cons_succ, List.getElem_cons_zero]
  try simp only [Act.put, List.setIfInBounds_toArray, List.set_cons_zero, List.set_cons_succ]
  refine NoPanic.normal ?_
  have hdr := (Below.refl w4.heap.size w4).drew
  generalize w4.drew = w5 at hdr ⊢
  obtain ⟨f1, f2, f3⟩ := (hd4.out.bel hdr).flow hk
  rw [hz] at f2
  rw [hd] at f3
  have p0 := (hx.out.bel hdr).b.b0.c 0 _ rfl
  have p1 := (hx.out.bel hdr).b.b1.c 0 _ rfl
  have s2 := (hx.out.bel hdr).b.b2.c 0 _ rfl
  have s3 := (hx.out.bel hdr).b3.c 0 _ rfl
  replace hdr := Lib.hid hdr
  have hd5 := Lib.hid (hd4.out.bel hdr.out)
  have hx5 := Lib.hid (hx.out.bel hdr.out)
  have k5 : RowKit.Hid (KF [f, lb] w w5) := Lib.hid (KF.of (by rw [hq]; exact hB4.out.trans (hdr.out.mono (by have := hx.out.b3.l; omega))))
  clear hdr hd4 hx hB4 hHeld
  go_upto_region 11 with fail
  have z1 := hd5.out.l.f (k * 3 + 1)
  have z2 := hd5.out.l.f (k * 3 + 2)
  refine wp_region_noPanic ?_
  refine Stg.wp_region_L [] (fun _ u => u.cell? ⟨q + 1 + 1 + 1, 0, none⟩ = some (.pointer (some ⟨lb, k * 3, none⟩)) ∧ u.cell? ⟨q + 1 + 1, 0, none⟩ = some (.int .i64 0)) (by kernel_rfl) (⟨by simpa using s3, by simpa using s2⟩) (fun hHeld => ?_)
  refine Stg.wpAnyL_start (n' := 9) (l' := #[false, false, false, false, false, false, false, false, false]) (by kernel_rfl) (by kernel_rfl) ?_
  refine Stg.wpAnyL_take (i := 0) (v := ?_) [3, 4, 5, 6, 7, 8] 0 rfl (by kernel_rfl) (by kernel_rfl) (by kernel_rfl) (by kernel_rfl) (by kernel_rfl) (fun _ _ _ h => h) (Or.inl ⟨by kernel_rfl, ?_⟩) (by assumption) ?_
  rotate_left
  · intro u hSu
    obtain ⟨y3, y2⟩ := hSu
    skip
    try simp only [List.getElem_toArray, List.getElem_cons_succ, List.getElem_cons_zero]
    go_simp
    try with_reducible rfl
  try simp only [Act.put, List.setIfInBounds_toArray, List.set_cons_zero, List.set_cons_succ]
  refine Stg.wpAnyL_take (i := 1) (v := ?_) [6, 7, 8] 0 rfl (by kernel_rfl) (by kernel_rfl) (by kernel_rfl) (by kernel_rfl) (by kernel_rfl) (fun _ _ _ h => h) (Or.inl ⟨by kernel_rfl, ?_⟩) (by assumption) ?_
  rotate_left
  · intro u hSu
    obtain ⟨y3, y2⟩ := hSu
    skip
    try simp only [List.getElem_toArray, List.getElem_cons_succ, List.getElem_cons_zero]
    go_simp
    try with_reducible rfl
  try simp only [Act.put, List.setIfInBounds_toArray, List.set_cons_zero, List.set_cons_succ]
  refine Stg.wpAnyL_take (i := 2) (v := ?_) [3, 4, 5, 6, 7, 8] 0 rfl (by kernel_rfl) (by kernel_rfl) (by kernel_rfl) (by kernel_rfl) (by kernel_rfl) (fun _ _ _ h => h) (Or.inl ⟨by kernel_rfl, ?_⟩) (by assumption) ?_
  rotate_left
  · intro u hSu
    obtain ⟨y3, y2⟩ := hSu
    skip
    try simp only [List.getElem_toArray, List.getElem_cons_succ, List.getElem_cons_zero]
    go_simp
    try with_reducible rfl
  try simp only [Act.put, List.setIfInBounds_toArray, List.set_cons_zero, List.set_cons_succ]
  refine Stg.wpAnyL_start (n' := 6) (l' := #[true, true, true, false, false, false, false, false, false]) (by kernel_rfl) (by kernel_rfl) ?_
  refine Stg.wpAnyL_free (i := 3) (v := ?_) 0 rfl (by kernel_rfl) (by kernel_rfl) (by kernel_rfl) (by kernel_rfl) (by kernel_rfl) (fun _ _ _ h => h) (Or.inl ⟨by kernel_rfl, ?_⟩) (by assumption) ?_
  rotate_left
  · intro u _
    try simp only [List.getElem_toArray, List.getElem_cons_succ, List.getElem_cons_zero]
    go_simp
    try with_reducible rfl
  try simp only [Act.put, List.setIfInBounds_toArray, List.set_cons_zero, List.set_cons_succ]
  refine Stg.wpAnyL_free (i := 4) (v := ?_) 0 rfl (by kernel_rfl) (by kernel_rfl) (by kernel_rfl) (by kernel_rfl) (by kernel_rfl) (fun _ _ _ h => h) (Or.inl ⟨by kernel_rfl, ?_⟩) (by assumption) ?_
  rotate_left
  · intro u _
    try simp only [List.getElem_toArray, List.getElem_cons_succ, List.getElem_cons_zero]
    go_simp
    try with_reducible rfl
  try simp only [Act.put, List.setIfInBounds_toArray, List.set_cons_zero, List.set_cons_succ]
  refine Stg.wpAnyL_one (i := 5) 0 rfl (by kernel_rfl) (by kernel_rfl) (fun K hK => ?_)
  have g2 := cellB ((Below.refl w5.heap.size w5).drew) f2
  have g3 := cellB ((Below.refl w5.heap.size w5).drew) f3
  have z1 : w5.drew.frozen? ⟨lb, k * 3 + 1, none⟩ = false := by simpa using z1
  have z2 : w5.drew.frozen? ⟨lb, k * 3 + 2, none⟩ = false := by simpa using z2
  try simp only [List.getElem_toArray, List.getElem_cons_succ, List.getElem_cons_zero]
  go_simp
  refine hK.out _ _ ?_ (fun hHeld1 => ?_)
  · exact ⟨(World.cell?_setCell_other _ _ _ _ (by simp <;> omega)).trans (hHeld).1, (World.cell?_setCell_other _ _ _ _ (by simp <;> omega)).trans (hHeld).2⟩
  clear hK K
  try simp only [Act.put, List.setIfInBounds_toArray, List.set_cons_zero, List.set_cons_succ]
  refine Stg.wpAnyL_start (n' := 3) (l' := #[true, true, true, true, true, true, false, false, false]) (by kernel_rfl) (by kernel_rfl) ?_
  refine Stg.wpAnyL_free (i := 6) (v := ?_) 0 rfl (by kernel_rfl) (by kernel_rfl) (by kernel_rfl) (by kernel_rfl) (by kernel_rfl) (fun _ _ _ h => h) (Or.inl ⟨by kernel_rfl, ?_⟩) (by assumption) ?_
  rotate_left
  · intro u _
    try simp only [List.getElem_toArray, List.getElem_cons_succ, List.getElem_cons_zero]
    go_simp
    try with_reducible rfl
  try simp only [Act.put, List.setIfInBounds_toArray, List.set_cons_zero, List.set_cons_succ]
  refine Stg.wpAnyL_free (i := 7) (v := ?_) 0 rfl (by kernel_rfl) (by kernel_rfl) (by kernel_rfl) (by kernel_rfl) (by kernel_rfl) (fun _ _ _ h => h) (Or.inl ⟨by kernel_rfl, ?_⟩) (by assumption) ?_
  rotate_left
  · intro u _
    try simp only [List.getElem_toArray, List.getElem_cons_succ, List.getElem_cons_zero]
    go_simp
    try with_reducible rfl
  try simp only [Act.put, List.setIfInBounds_toArray, List.set_cons_zero, List.set_cons_succ]
  refine Stg.wpAnyL_one (i := 8) 0 rfl (by kernel_rfl) (by kernel_rfl) (fun K hK => ?_)
  try simp only [List.getElem_toArray, List.getElem_cons_succ, List.getElem_cons_zero]
  go_simp
  refine hK.out _ _ ?_ (fun hHeld2 => ?_)
  · exact ⟨(World.cell?_setCell_other _ _ _ _ (by simp <;> omega)).trans (hHeld1).1, (World.cell?_setCell_other _ _ _ _ (by simp <;> omega)).trans (hHeld1).2⟩
  clear hK K
  try simp only [Act.put, List.setIfInBounds_toArray, List.set_cons_zero, List.set_cons_succ]
  refine Stg.wpAnyL_done (by kernel_rfl) ?_ _
  try simp only [List.getElem_toArray, List.getElem_cons_succ, List.getElem_cons_zero]
  try simp only [Act.put, List.setIfInBounds_toArray, List.set_cons_zero, List.set_cons_succ]
  refine NoPanic.normal ?_
  refine bodyPost_end (v := .tuple #[]) (by simp [results, Try.results48, go_sem]) rfl ?_
  have d6 := hd5.out.bel ((Below.refl _ _).drew)
  exact ⟨_, _, rfl, d6.setRow hk 0 false, .inl rfl, ((k5.out.drew).set (p := ⟨lb, k * 3 + 1, none⟩) (.inl (by simp)) _).set (p := ⟨lb, k * 3 + 2, none⟩) (.inl (by simp)) _⟩
set_option maxRecDepth 100000 in
set_option maxHeartbeats 4000000 in
theorem hear_s {w : World} {f lb cl tb ct N : Nat} {ALL V : Int} {W Z : Nat → Int} {D : Nat → Bool} {S F : Nat → Int} (h : FD w f lb cl tb ct N ALL V W Z D S F) (k : Nat) (hk : k < N) (n : Int) (z : Int) (d : Bool) (hz : Z k = z) (hd : D k = false)
    (h1 : 0 < z) (h2 : ¬ z = 0) :
    Calls Try.prog 48 #[.pointer (some ⟨f, 0, none⟩), .int .i64 (k : Nat), .int .i64 z] w
      (HearQ tb f lb cl N ALL V W (up Z k z) (upb D k false) S F [f, lb] w) := by
  have h8 := h.n8
  have hkz : (k : Int) < (N : Int) := by omega
  obtain ⟨bx, hB, hs3⟩ := bx3_new w f k z 63 3 3
  have hfl := h.b.l
  have hll := h.l.l
  have htl := h.tl
  replace h := Lib.hid h
  replace hB := Lib.hid hB
  replace bx := Lib.hid bx
  go_enter Try.func48, Try.ntmps48
  go_upto_region 1 with fail
  generalize (((w.alloc (.cells #[.pointer (some ⟨f, 0, none⟩)] 63)).alloc (.cells #[.int .i64 (k : Nat)] 3)).alloc (.cells #[.int .i64 z] 3)) = w3 at bx hB hs3 ⊢
  obtain ⟨q, hq⟩ : ∃ q, w.heap.size = q := ⟨_, rfl⟩
  rw [hq] at bx hs3 hfl hll htl hB ⊢
  have hd3 := Lib.hid (h.out.bel (by rw [hq]; exact hB.out))
  have b0 := hd3.out.b.c 0 _ rfl
  have p0 := bx.out.b0.c 0 _ rfl
  have p1 := bx.out.b1.c 0 _ rfl
  refine wp_region_noPanic ?_
  refine Stg.wp_region_L [7] (Vr.SB w3) (by kernel_rfl) (fun _ => (Below.refl _ _).drew) (fun hHeld => ?_)
  refine Stg.wpAnyL_start (n' := 8) (l' := #[false, false, false, false, false, false, false, false]) (by kernel_rfl) (by kernel_rfl) ?_
  refine Stg.wpAnyL_take (i := 0) (v := ?_) [1, 2, 3, 5, 7] 0 rfl (by kernel_rfl) (by kernel_rfl) (by kernel_rfl) (by kernel_rfl) (by kernel_rfl) (fun _ _ _ h => h) (Or.inl ⟨by kernel_rfl, ?_⟩) (by assumption) ?_
  rotate_left
  · intro u hSu
    skip
    have sB := hSu rfl
    have y0 := cellB sB b0
    have y1 := cellB sB p0
    have y2 := cellB sB p1
    try simp only [List.getElem_toArray, List.getElem_cons_succ, List.getElem_cons_zero]
    go_simp
    try with_reducible rfl
  try simp only [Act.put, List.setIfInBounds_toArray, List.set_cons_zero, List.set_cons_succ]
  refine Stg.wpAnyL_free (i := 1) (v := ?_) 0 rfl (by kernel_rfl) (by kernel_rfl) (by kernel_rfl) (by kernel_rfl) (by kernel_rfl) (fun _ _ _ h => h) (Or.inl ⟨by kernel_rfl, ?_⟩) (by assumption) ?_
  rotate_left
  · intro u _
    try simp only [List.getElem_toArray, List.getElem_cons_succ, List.getElem_cons_zero]
    go_simp
    try with_reducible rfl
  try simp only [Act.put, List.setIfInBounds_toArray, List.set_cons_zero, List.set_cons_succ]
  refine Stg.wpAnyL_free (i := 2) (v := ?_) 0 rfl (by kernel_rfl) (by kernel_rfl) (by kernel_rfl) (by kernel_rfl) (by kernel_rfl) (fun _ _ _ h => h) (Or.inl ⟨by kernel_rfl, ?_⟩) (by assumption) ?_
  rotate_left
  · intro u _
    try simp only [List.getElem_toArray, List.getElem_cons_succ, List.getElem_cons_zero]
    go_simp
    try with_reducible rfl
  try simp only [Act.put, List.setIfInBounds_toArray, List.set_cons_zero, List.set_cons_succ]
  refine Stg.wpAnyL_start (n' := 5) (l' := #[true, true, true, false, false, false, false, false]) (by kernel_rfl) (by kernel_rfl) ?_
  refine Stg.wpAnyL_take (i := 3) (v := ?_) [5, 7] 0 rfl (by kernel_rfl) (by kernel_rfl) (by kernel_rfl) (by kernel_rfl) (by kernel_rfl) (fun _ _ _ h => h) (Or.inl ⟨by kernel_rfl, ?_⟩) (by assumption) ?_
  rotate_left
  · intro u hSu
    skip
    have sB := hSu rfl
    have y0 := cellB sB b0
    have y1 := cellB sB p0
    have y2 := cellB sB p1
    try simp only [List.getElem_toArray, List.getElem_cons_succ, List.getElem_cons_zero]
    go_simp
    try with_reducible rfl
  try simp only [Act.put, List.setIfInBounds_toArray, List.set_cons_zero, List.set_cons_succ]
  refine Stg.wpAnyL_take (i := 4) (v := ?_) [5, 7] 0 rfl (by kernel_rfl) (by kernel_rfl) (by kernel_rfl) (by kernel_rfl) (by kernel_rfl) (fun _ _ _ h => h) (Or.inl ⟨by kernel_rfl, ?_⟩) (by assumption) ?_
  rotate_left
  · intro u hSu
    skip
    have sB := hSu rfl
    have y0 := cellB sB b0
    have y1 := cellB sB p0
    have y2 := cellB sB p1
    try simp only [List.getElem_toArray, List.getElem_cons_succ, List.getElem_cons_zero]
    go_simp
    try with_reducible rfl
  try simp only [Act.put, List.setIfInBounds_toArray, List.set_cons_zero, List.set_cons_succ]
  refine Stg.wpAnyL_free (i := 5) (v := ?_) 0 rfl (by kernel_rfl) (by kernel_rfl) (by kernel_rfl) (by kernel_rfl) (by kernel_rfl) (fun _ _ _ h => h) (Or.inl ⟨by kernel_rfl, ?_⟩) (by assumption) ?_
  rotate_left
  · intro u _
    try simp only [List.getElem_toArray, List.getElem_cons_succ, List.getElem_cons_zero]
    go_simp
    try with_reducible rfl
  try simp only [Act.put, List.setIfInBounds_toArray, List.set_cons_zero, List.set_cons_succ]
  refine Stg.wpAnyL_start (n' := 2) (l' := #[true, true, true, true, true, true, false, false]) (by kernel_rfl) (by kernel_rfl) ?_
  refine Stg.wpAnyL_one (i := 6) 0 rfl (by kernel_rfl) (by kernel_rfl) (fun K hK => ?_)
  try simp only [List.getElem_toArray, List.getElem_cons_succ, List.getElem_cons_zero]
  go_simp
  refine hK.out _ _ ?_ (fun hHeld1 => ?_)
  · exact fun _ => bNext (hHeld rfl) ((Below.refl _ _).alloc (Nat.le_refl _) _) (Nat.le_refl _)
  clear hK K
  try simp only [Act.put, List.setIfInBounds_toArray, List.set_cons_zero, List.set_cons_succ]
  refine Stg.wpAnyL_one (i := 7) 1 rfl (by kernel_rfl) (by kernel_rfl) (fun K hK => ?_)
  try simp only [List.getElem_toArray, List.getElem_cons_succ, List.getElem_cons_zero]
  go_simp
  refine hK.out _ _ ?_ (fun hHeld2 => ?_)
  · exact fun h => absurd h (by decide)
  clear hK K
  try simp only [Act.put, List.setIfInBounds_toArray, List.set_cons_zero, List.set_cons_succ]
  refine Stg.wpAnyL_done (by kernel_rfl) ?_ _
  try simp only [List.getElem_toArray, List.getElem_cons_succ, List.getElem_cons_zero]
  try simp only [Act.put, List.setIfInBounds_toArray, List.set_cons_zero, List.set_cons_succ]
  refine NoPanic.normal ?_
  obtain ⟨hx, hb4⟩ := bx_new (lb := lb) bx.out hs3 122
  have hB4 := Lib.hid (hB.out.trans (hb4.mono (by omega)))
  have hd4 := Lib.hid (hd3.out.bel hb4)
  replace hx := Lib.hid hx
  clear b0 p0 p1 hb4 hd3 hB bx hHeld
  go_upto_region 2 with fail
  generalize (w3.alloc (.cells #[.pointer (some ⟨lb, k * 3, none⟩)] 122)).drew = w4 at hx hB4 hd4 ⊢
  clear hs3
  obtain ⟨f1, f2, f3⟩ := hd4.out.flow hk
  rw [hz] at f2
  rw [hd] at f3
  have s2 := hx.out.b.b2.c 0 _ rfl
  have s3 := hx.out.b3.c 0 _ rfl
  refine wp_region_noPanic ?_
  refine Stg.wp_region_L [] (Vr.SB w4) (by kernel_rfl) (fun _ => (Below.refl _ _).drew) (fun hHeld => ?_)
  refine Stg.wpAnyL_start (n' := 20) (l' := #[false, false, false, false, false, false, false, false, false, false, false, false, false, false, false, false, false, false, false, false]) (by kernel_rfl) (by kernel_rfl) ?_
  refine Stg.wpAnyL_take (i := 0) (v := ?_) [1, 2, 3, 4, 5, 6, 7, 8, 9, 10, 11, 12, 13, 14, 15, 16, 17, 18, 19] 0 rfl (by kernel_rfl) (by kernel_rfl) (by kernel_rfl) (by kernel_rfl) (by kernel_rfl) (fun _ _ _ h => h) (Or.inl ⟨by kernel_rfl, ?_⟩) (by assumption) ?_
  rotate_left
  · intro u hSu
    skip
    have sB := hSu rfl
    have y0 := cellB sB s2
    have y1 := cellB sB s3
    have y2 := cellB sB f1
    have y3 := cellB sB f2
    have y4 := cellB sB f3
    try simp only [List.getElem_toArray, List.getElem_cons_succ, List.getElem_cons_zero]
    go_simp
    try with_reducible rfl
  try simp only [Act.put, List.setIfInBounds_toArray, List.set_cons_zero, List.set_cons_succ]
  refine Stg.wpAnyL_free (i := 1) (v := ?_) 0 rfl (by kernel_rfl) (by kernel_rfl) (by kernel_rfl) (by kernel_rfl) (by kernel_rfl) (fun _ _ _ h => h) (Or.inl ⟨by kernel_rfl, ?_⟩) (by assumption) ?_
  rotate_left
  · intro u _
    try simp only [List.getElem_toArray, List.getElem_cons_succ, List.getElem_cons_zero]
    go_simp
    try with_reducible rfl
  try simp only [Act.put, List.setIfInBounds_toArray, List.set_cons_zero, List.set_cons_succ]
  refine Stg.wpAnyL_free (i := 2) (v := ?_) 0 rfl (by kernel_rfl) (by kernel_rfl) (by kernel_rfl) (by kernel_rfl) (by kernel_rfl) (fun _ _ _ h => h) (Or.inl ⟨by kernel_rfl, ?_⟩) (by assumption) ?_
  rotate_left
  · intro u _
    try simp only [List.getElem_toArray, List.getElem_cons_succ, List.getElem_cons_zero]
    go_simp
    try with_reducible rfl
  try simp only [Act.put, List.setIfInBounds_toArray, List.set_cons_zero, List.set_cons_succ]
  refine Stg.wpAnyL_start (n' := 17) (l' := #[true, true, true, false, false, false, false, false, false, false, false, false, false, false, false, false, false, false, false, false]) (by kernel_rfl) (by kernel_rfl) ?_
  refine Stg.wpAnyL_take (i := 3) (v := ?_) [4, 5, 6, 7, 8, 9, 10, 11, 12, 13, 14, 15, 16, 17, 18, 19] 0 rfl (by kernel_rfl) (by kernel_rfl) (by kernel_rfl) (by kernel_rfl) (by kernel_rfl) (fun _ _ _ h => h) (Or.inl ⟨by kernel_rfl, ?_⟩) (by assumption) ?_
  rotate_left
  · intro u hSu
    skip
    have sB := hSu rfl
    have y0 := cellB sB s2
    have y1 := cellB sB s3
    have y2 := cellB sB f1
    have y3 := cellB sB f2
    have y4 := cellB sB f3
    try simp only [List.getElem_toArray, List.getElem_cons_succ, List.getElem_cons_zero]
    go_simp
    try with_reducible rfl
  try simp only [Act.put, List.setIfInBounds_toArray, List.set_cons_zero, List.set_cons_succ]
  refine Stg.wpAnyL_free (i := 4) (v := ?_) 0 rfl (by kernel_rfl) (by kernel_rfl) (by kernel_rfl) (by kernel_rfl) (by kernel_rfl) (fun _ _ _ h => h) (Or.inl ⟨by kernel_rfl, ?_⟩) (by assumption) ?_
  rotate_left
  · intro u _
    try simp only [List.getElem_toArray, List.getElem_cons_succ, List.getElem_cons_zero]
    go_simp
    try with_reducible rfl
  try simp only [Act.put, List.setIfInBounds_toArray, List.set_cons_zero, List.set_cons_succ]
  refine Stg.wpAnyL_free (i := 5) (v := ?_) 0 rfl (by kernel_rfl) (by kernel_rfl) (by kernel_rfl) (by kernel_rfl) (by kernel_rfl) (fun _ _ _ h => h) (Or.inl ⟨by kernel_rfl, ?_⟩) (by assumption) ?_
  rotate_left
  · intro u _
    try simp only [List.getElem_toArray, List.getElem_cons_succ, List.getElem_cons_zero]
    go_simp
    try with_reducible rfl
  try simp only [Act.put, List.setIfInBounds_toArray, List.set_cons_zero, List.set_cons_succ]
  refine Stg.wpAnyL_start (n' := 14) (l' := #[true, true, true, true, true, true, false, false, false, false, false, false, false, false, false, false, false, false, false, false]) (by kernel_rfl) (by kernel_rfl) ?_
  refine Stg.wpAnyL_take (i := 6) (v := ?_) [7, 8, 9, 10, 11, 12, 13, 14, 15, 16, 17, 18, 19] 0 rfl (by kernel_rfl) (by kernel_rfl) (by kernel_rfl) (by kernel_rfl) (by kernel_rfl) (fun _ _ _ h => h) (Or.inl ⟨by kernel_rfl, ?_⟩) (by assumption) ?_
  rotate_left
  · intro u hSu
    skip
    have sB := hSu rfl
    have y0 := cellB sB s2
    have y1 := cellB sB s3
    have y2 := cellB sB f1
    have y3 := cellB sB f2
    have y4 := cellB sB f3
    try simp only [List.getElem_toArray, List.getElem_cons_succ, List.getElem_cons_zero]
    go_simp
    try with_reducible rfl
  try simp only [Act.put, List.setIfInBounds_toArray, List.set_cons_zero, List.set_cons_succ]
  refine Stg.wpAnyL_free (i := 7) (v := ?_) 0 rfl (by kernel_rfl) (by kernel_rfl) (by kernel_rfl) (by kernel_rfl) (by kernel_rfl) (fun _ _ _ h => h) (Or.inl ⟨by kernel_rfl, ?_⟩) (by assumption) ?_
  rotate_left
  · intro u _
    try simp only [List.getElem_toArray, List.getElem_cons_succ, List.getElem_cons_zero]
    go_simp
    try with_reducible rfl
  try simp only [Act.put, List.setIfInBounds_toArray, List.set_cons_zero, List.set_cons_succ]
  refine Stg.wpAnyL_free (i := 8) (v := ?_) 0 rfl (by kernel_rfl) (by kernel_rfl) (by kernel_rfl) (by kernel_rfl) (by kernel_rfl) (fun _ _ _ h => h) (Or.inl ⟨by kernel_rfl, ?_⟩) (by assumption) ?_
  rotate_left
  · intro u _
    try simp only [List.getElem_toArray, List.getElem_cons_succ, List.getElem_cons_zero]
    go_simp
    try with_reducible rfl
  try simp only [Act.put, List.setIfInBounds_toArray, List.set_cons_zero, List.set_cons_succ]
  refine Stg.wpAnyL_start (n' := 11) (l' := #[true, true, true, true, true, true, true, true, true, false, false, false, false, false, false, false, false, false, false, false]) (by kernel_rfl) (by kernel_rfl) ?_
  refine Stg.wpAnyL_take (i := 9) (v := ?_) [10, 11, 12, 13, 14, 15, 16, 17, 18, 19] 0 rfl (by kernel_rfl) (by kernel_rfl) (by kernel_rfl) (by kernel_rfl) (by kernel_rfl) (fun _ _ _ h => h) (Or.inl ⟨by kernel_rfl, ?_⟩) (by assumption) ?_
  rotate_left
  · intro u hSu
    skip
    have sB := hSu rfl
    have y0 := cellB sB s2
    have y1 := cellB sB s3
    have y2 := cellB sB f1
    have y3 := cellB sB f2
    have y4 := cellB sB f3
    try simp only [List.getElem_toArray, List.getElem_cons_succ, List.getElem_cons_zero]
    go_simp
    try with_reducible rfl
  try simp only [Act.put, List.setIfInBounds_toArray, List.set_cons_zero, List.set_cons_succ]
  refine Stg.wpAnyL_free (i := 10) (v := ?_) 0 rfl (by kernel_rfl) (by kernel_rfl) (by kernel_rfl) (by kernel_rfl) (by kernel_rfl) (fun _ _ _ h => h) (Or.inl ⟨by kernel_rfl, ?_⟩) (by assumption) ?_
  rotate_left
  · intro u _
    try simp only [List.getElem_toArray, List.getElem_cons_succ, List.getElem_cons_zero]
    go_simp
    try with_reducible rfl
  try simp only [Act.put, List.setIfInBounds_toArray, List.set_cons_zero, List.set_cons_succ]
  refine Stg.wpAnyL_free (i := 11) (v := ?_) 0 rfl (by kernel_rfl) (by kernel_rfl) (by kernel_rfl) (by kernel_rfl) (by kernel_rfl) (fun _ _ _ h => h) (Or.inl ⟨by kernel_rfl, ?_⟩) (by assumption) ?_
  rotate_left
  · intro u _
    try simp only [List.getElem_toArray, List.getElem_cons_succ, List.getElem_cons_zero]
    go_simp
    try with_reducible rfl
  try simp only [Act.put, List.setIfInBounds_toArray, List.set_cons_zero, List.set_cons_succ]
  refine Stg.wpAnyL_start (n' := 8) (l' := #[true, true, true, true, true, true, true, true, true, true, true, true, false, false, false, false, false, false, false, false]) (by kernel_rfl) (by kernel_rfl) ?_
  refine Stg.wpAnyL_free (i := 12) (v := ?_) 0 rfl (by kernel_rfl) (by kernel_rfl) (by kernel_rfl) (by kernel_rfl) (by kernel_rfl) (fun _ _ _ h => h) (Or.inl ⟨by kernel_rfl, ?_⟩) (by assumption) ?_
  rotate_left
  · intro u _
    try simp only [List.getElem_toArray, List.getElem_cons_succ, List.getElem_cons_zero]
    go_simp
    try with_reducible rfl
  try simp only [Act.put, List.setIfInBounds_toArray, List.set_cons_zero, List.set_cons_succ]
  refine Stg.wpAnyL_take (i := 13) (v := ?_) [14, 15, 16, 18, 19] 0 rfl (by kernel_rfl) (by kernel_rfl) (by kernel_rfl) (by kernel_rfl) (by kernel_rfl) (fun _ _ _ h => h) (Or.inl ⟨by kernel_rfl, ?_⟩) (by assumption) ?_
  rotate_left
  · intro u hSu
    skip
    have sB := hSu rfl
    have y0 := cellB sB s2
    have y1 := cellB sB s3
    have y2 := cellB sB f1
    have y3 := cellB sB f2
    have y4 := cellB sB f3
    try simp only [List.getElem_toArray, List.getElem_cons_succ, List.getElem_cons_zero]
    go_simp
    try with_reducible rfl
  try simp only [Act.put, List.setIfInBounds_toArray, List.set_cons_zero, List.set_cons_succ]
  refine Stg.wpAnyL_free (i := 14) (v := ?_) 0 rfl (by kernel_rfl) (by kernel_rfl) (by kernel_rfl) (by kernel_rfl) (by kernel_rfl) (fun _ _ _ h => h) (Or.inl ⟨by kernel_rfl, ?_⟩) (by assumption) ?_
  rotate_left
  · intro u _
    try simp only [List.getElem_toArray, List.getElem_cons_succ, List.getElem_cons_zero]
    go_simp
    try with_reducible rfl
  try simp only [Act.put, List.setIfInBounds_toArray, List.set_cons_zero, List.set_cons_succ]
  refine Stg.wpAnyL_start (n' := 5) (l' := #[true, true, true, true, true, true, true, true, true, true, true, true, true, true, true, false, false, false, false, false]) (by kernel_rfl) (by kernel_rfl) ?_
  refine Stg.wpAnyL_free (i := 15) (v := ?_) 0 rfl (by kernel_rfl) (by kernel_rfl) (by kernel_rfl) (by kernel_rfl) (by kernel_rfl) (fun _ _ _ h => h) (Or.inl ⟨by kernel_rfl, ?_⟩) (by assumption) ?_
  rotate_left
  · intro u _
    try simp only [List.getElem_toArray, List.getElem_cons_succ, List.getElem_cons_zero]
    go_simp
    try with_reducible rfl
  try simp only [Act.put, List.setIfInBounds_toArray, List.set_cons_zero, List.set_cons_succ]
  refine Stg.wpAnyL_take (i := 16) (v := ?_) [18, 19] 0 rfl (by kernel_rfl) (by kernel_rfl) (by kernel_rfl) (by kernel_rfl) (by kernel_rfl) (fun _ _ _ h => h) (Or.inl ⟨by kernel_rfl, ?_⟩) (by assumption) ?_
  rotate_left
  · intro u hSu
    skip
    have sB := hSu rfl
    have y0 := cellB sB s2
    have y1 := cellB sB s3
    have y2 := cellB sB f1
    have y3 := cellB sB f2
    have y4 := cellB sB f3
    try simp only [List.getElem_toArray, List.getElem_cons_succ, List.getElem_cons_zero]
    go_simp
    try with_reducible rfl
  try simp only [Act.put, List.setIfInBounds_toArray, List.set_cons_zero, List.set_cons_succ]
  refine Stg.wpAnyL_take (i := 17) (v := ?_) [18, 19] 0 rfl (by kernel_rfl) (by kernel_rfl) (by kernel_rfl) (by kernel_rfl) (by kernel_rfl) (fun _ _ _ h => h) (Or.inl ⟨by kernel_rfl, ?_⟩) (by assumption) ?_
  rotate_left
  · intro u hSu
    skip
    have sB := hSu rfl
    have y0 := cellB sB s2
    have y1 := cellB sB s3
    have y2 := cellB sB f1
    have y3 := cellB sB f2
    have y4 := cellB sB f3
    try simp only [List.getElem_toArray, List.getElem_cons_succ, List.getElem_cons_zero]
    go_simp
    try with_reducible rfl
  try simp only [Act.put, List.setIfInBounds_toArray, List.set_cons_zero, List.set_cons_succ]
  refine Stg.wpAnyL_start (n' := 2) (l' := #[true, true, true, true, true, true, true, true, true, true, true, true, true, true, true, true, true, true, false, false]) (by kernel_rfl) (by kernel_rfl) ?_
  refine Stg.wpAnyL_free (i := 18) (v := ?_) 0 rfl (by kernel_rfl) (by kernel_rfl) (by kernel_rfl) (by kernel_rfl) (by kernel_rfl) (fun _ _ _ h => h) (Or.inl ⟨by kernel_rfl, ?_⟩) (by assumption) ?_
  rotate_left
  · intro u _
    try simp only [List.getElem_toArray, List.getElem_cons_succ, List.getElem_cons_zero]
    go_simp
    try with_reducible rfl
  try simp only [Act.put, List.setIfInBounds_toArray, List.set_cons_zero, List.set_cons_succ]
  refine Stg.wpAnyL_free (i := 19) (v := ?_) 0 rfl (by kernel_rfl) (by kernel_rfl) (by kernel_rfl) (by kernel_rfl) (by kernel_rfl) (fun _ _ _ h => h) (Or.inl ⟨by kernel_rfl, ?_⟩) (by assumption) ?_
  rotate_left
  · intro u _
    try simp only [List.getElem_toArray, List.getElem_cons_succ, List.getElem_cons_zero]
    go_simp
    try with_reducible rfl
  try simp only [Act.put, List.setIfInBounds_toArray, List.set_cons_zero, List.set_cons_succ]
  refine Stg.wpAnyL_done (by kernel_rfl) ?_ _
  try simp only [List.getElem_toArray, List.getElem_cons_succ, List.getElem_cons_zero]
  try simp only [Act.put, List.setIfInBounds_toArray, List.set_cons_zero, List.set_cons_succ]
  refine NoPanic.normal ?_
  have hdr := (Below.refl w4.heap.size w4).drew
  generalize w4.drew = w5 at hdr ⊢
  obtain ⟨f1, f2, f3⟩ := (hd4.out.bel hdr).flow hk
  rw [hz] at f2
  rw [hd] at f3
  have p0 := (hx.out.bel hdr).b.b0.c 0 _ rfl
  have p1 := (hx.out.bel hdr).b.b1.c 0 _ rfl
  have s2 := (hx.out.bel hdr).b.b2.c 0 _ rfl
  have s3 := (hx.out.bel hdr).b3.c 0 _ rfl
  replace hdr := Lib.hid hdr
  have hd5 := Lib.hid (hd4.out.bel hdr.out)
  have hx5 := Lib.hid (hx.out.bel hdr.out)
  have k5 : RowKit.Hid (KF [f, lb] w w5) := Lib.hid (KF.of (by rw [hq]; exact hB4.out.trans (hdr.out.mono (by have := hx.out.b3.l; omega))))
  clear hdr hd4 hx hB4 hHeld
  go_upto_region 9 with fail
  refine wp_region_noPanic ?_
  refine Stg.wp_region_L [] (Vr.SB w5) (by kernel_rfl) (fun _ => (Below.refl _ _).drew) (fun hHeld => ?_)
  refine Stg.wpAnyL_start (n' := 7) (l' := #[false, false, false, false, false, false, false]) (by kernel_rfl) (by kernel_rfl) ?_
  refine Stg.wpAnyL_take (i := 0) (v := ?_) [1, 2, 3, 5, 6] 0 rfl (by kernel_rfl) (by kernel_rfl) (by kernel_rfl) (by kernel_rfl) (by kernel_rfl) (fun _ _ _ h => h) (Or.inl ⟨by kernel_rfl, ?_⟩) (by assumption) ?_
  rotate_left
  · intro u hSu
    skip
    have sB := hSu rfl
    have y0 := cellB sB s2
    have y1 := cellB sB s3
    have y2 := cellB sB f2
    try simp only [List.getElem_toArray, List.getElem_cons_succ, List.getElem_cons_zero]
    go_simp
    try with_reducible rfl
  try simp only [Act.put, List.setIfInBounds_toArray, List.set_cons_zero, List.set_cons_succ]
  refine Stg.wpAnyL_free (i := 1) (v := ?_) 0 rfl (by kernel_rfl) (by kernel_rfl) (by kernel_rfl) (by kernel_rfl) (by kernel_rfl) (fun _ _ _ h => h) (Or.inl ⟨by kernel_rfl, ?_⟩) (by assumption) ?_
  rotate_left
  · intro u _
    try simp only [List.getElem_toArray, List.getElem_cons_succ, List.getElem_cons_zero]
    go_simp
    try with_reducible rfl
  try simp only [Act.put, List.setIfInBounds_toArray, List.set_cons_zero, List.set_cons_succ]
  refine Stg.wpAnyL_free (i := 2) (v := ?_) 0 rfl (by kernel_rfl) (by kernel_rfl) (by kernel_rfl) (by kernel_rfl) (by kernel_rfl) (fun _ _ _ h => h) (Or.inl ⟨by kernel_rfl, ?_⟩) (by assumption) ?_
  rotate_left
  · intro u _
    try simp only [List.getElem_toArray, List.getElem_cons_succ, List.getElem_cons_zero]
    go_simp
    try with_reducible rfl
  try simp only [Act.put, List.setIfInBounds_toArray, List.set_cons_zero, List.set_cons_succ]
  refine Stg.wpAnyL_start (n' := 4) (l' := #[true, true, true, false, false, false, false]) (by kernel_rfl) (by kernel_rfl) ?_
  refine Stg.wpAnyL_take (i := 3) (v := ?_) [5, 6] 0 rfl (by kernel_rfl) (by kernel_rfl) (by kernel_rfl) (by kernel_rfl) (by kernel_rfl) (fun _ _ _ h => h) (Or.inl ⟨by kernel_rfl, ?_⟩) (by assumption) ?_
  rotate_left
  · intro u hSu
    skip
    have sB := hSu rfl
    have y0 := cellB sB s2
    have y1 := cellB sB s3
    have y2 := cellB sB f2
    try simp only [List.getElem_toArray, List.getElem_cons_succ, List.getElem_cons_zero]
    go_simp
    try with_reducible rfl
  try simp only [Act.put, List.setIfInBounds_toArray, List.set_cons_zero, List.set_cons_succ]
  refine Stg.wpAnyL_take (i := 4) (v := ?_) [5, 6] 0 rfl (by kernel_rfl) (by kernel_rfl) (by kernel_rfl) (by kernel_rfl) (by kernel_rfl) (fun _ _ _ h => h) (Or.inl ⟨by kernel_rfl, ?_⟩) (by assumption) ?_
  rotate_left
  · intro u hSu
    skip
    have sB := hSu rfl
    have y0 := cellB sB s2
    have y1 := cellB sB s3
    have y2 := cellB sB f2
    try simp only [List.getElem_toArray, List.getElem_cons_succ, List.getElem_cons_zero]
    go_simp
    try with_reducible rfl
  try simp only [Act.put, List.setIfInBounds_toArray, List.set_cons_zero, List.set_cons_succ]
  refine Stg.wpAnyL_free (i := 5) (v := ?_) 0 rfl (by kernel_rfl) (by kernel_rfl) (by kernel_rfl) (by kernel_rfl) (by kernel_rfl) (fun _ _ _ h => h) (Or.inl ⟨by kernel_rfl, ?_⟩) (by assumption) ?_
  rotate_left
  · intro u _
    try simp only [List.getElem_toArray, List.getElem_cons_succ, List.getElem_cons_zero]
    go_simp
    try with_reducible rfl
  try simp only [Act.put, List.setIfInBounds_toArray, List.set_cons_zero, List.set_cons_succ]
  refine Stg.wpAnyL_start (n' := 1) (l' := #[true, true, true, true, true, true, false]) (by kernel_rfl) (by kernel_rfl) ?_
  refine Stg.wpAnyL_free (i := 6) (v := ?_) 0 rfl (by kernel_rfl) (by kernel_rfl) (by kernel_rfl) (by kernel_rfl) (by kernel_rfl) (fun _ _ _ h => h) (Or.inl ⟨by kernel_rfl, ?_⟩) (by assumption) ?_
  rotate_left
  · intro u _
    try simp only [List.getElem_toArray, List.getElem_cons_succ, List.getElem_cons_zero]
    go_simp
    try with_reducible rfl
  try simp only [Act.put, List.setIfInBounds_toArray, List.set_cons_zero, List.set_cons_succ]
  refine Stg.wpAnyL_done (by kernel_rfl) ?_ _
  try simp only [List.getElem_toArray, List.getElem_cons_succ, List.getElem_cons_zero]
  try simp only [Act.put, List.setIfInBounds_toArray, List.set_cons_zero, List.set_cons_succ]
  refine NoPanic.normal ?_
  have hdr := (Below.refl w5.heap.size w5).drew
  generalize w5.drew = w6 at hdr ⊢
  replace hd5 := Lib.hid (hd5.out.bel hdr)
  replace hx5 := Lib.hid (hx5.out.bel hdr)
  replace k5 := Lib.hid (k5.out.trans (KF.of hdr))
  clear hdr hHeld f1 f2 f3 p0 p1 s2 s3
  go_upto_region 11 with fail
  obtain ⟨f1, f2, f3⟩ := hd5.out.flow hk
  have s2 := hx5.out.b.b2.c 0 _ rfl
  have s3 := hx5.out.b3.c 0 _ rfl
  have z1 := hd5.out.l.f (k * 3 + 1)
  have z2 := hd5.out.l.f (k * 3 + 2)
  refine wp_region_noPanic ?_
  refine Stg.wp_region_L [] (fun _ u => u.cell? ⟨q + 1 + 1 + 1, 0, none⟩ = some (.pointer (some ⟨lb, k * 3, none⟩)) ∧ u.cell? ⟨q + 1 + 1, 0, none⟩ = some (.int .i64 z)) (by kernel_rfl) (⟨by simpa using s3, by simpa using s2⟩) (fun hHeld => ?_)
  refine Stg.wpAnyL_start (n' := 9) (l' := #[false, false, false, false, false, false, false, false, false]) (by kernel_rfl) (by kernel_rfl) ?_
  refine Stg.wpAnyL_take (i := 0) (v := ?_) [3, 4, 5, 6, 7, 8] 0 rfl (by kernel_rfl) (by kernel_rfl) (by kernel_rfl) (by kernel_rfl) (by kernel_rfl) (fun _ _ _ h => h) (Or.inl ⟨by kernel_rfl, ?_⟩) (by assumption) ?_
  rotate_left
  · intro u hSu
    obtain ⟨y3, y2⟩ := hSu
    skip
    try simp only [List.getElem_toArray, List.getElem_cons_succ, List.getElem_cons_zero]
    go_simp
    try with_reducible rfl
  try simp only [Act.put, List.setIfInBounds_toArray, List.set_cons_zero, List.set_cons_succ]
  refine Stg.wpAnyL_take (i := 1) (v := ?_) [6, 7, 8] 0 rfl (by kernel_rfl) (by kernel_rfl) (by kernel_rfl) (by kernel_rfl) (by kernel_rfl) (fun _ _ _ h => h) (Or.inl ⟨by kernel_rfl, ?_⟩) (by assumption) ?_
  rotate_left
  · intro u hSu
    obtain ⟨y3, y2⟩ := hSu
    skip
    try simp only [List.getElem_toArray, List.getElem_cons_succ, List.getElem_cons_zero]
    go_simp
    try with_reducible rfl
  try simp only [Act.put, List.setIfInBounds_toArray, List.set_cons_zero, List.set_cons_succ]
  refine Stg.wpAnyL_take (i := 2) (v := ?_) [3, 4, 5, 6, 7, 8] 0 rfl (by kernel_rfl) (by kernel_rfl) (by kernel_rfl) (by kernel_rfl) (by kernel_rfl) (fun _ _ _ h => h) (Or.inl ⟨by kernel_rfl, ?_⟩) (by assumption) ?_
  rotate_left
  · intro u hSu
    obtain ⟨y3, y2⟩ := hSu
    skip
    try simp only [List.getElem_toArray, List.getElem_cons_succ, List.getElem_cons_zero]
    go_simp
    try with_reducible rfl
  try simp only [Act.put, List.setIfInBounds_toArray, List.set_cons_zero, List.set_cons_succ]
  refine Stg.wpAnyL_start (n' := 6) (l' := #[true, true, true, false, false, false, false, false, false]) (by kernel_rfl) (by kernel_rfl) ?_
  refine Stg.wpAnyL_free (i := 3) (v := ?_) 0 rfl (by kernel_rfl) (by kernel_rfl) (by kernel_rfl) (by kernel_rfl) (by kernel_rfl) (fun _ _ _ h => h) (Or.inl ⟨by kernel_rfl, ?_⟩) (by assumption) ?_
  rotate_left
  · intro u _
    try simp only [List.getElem_toArray, List.getElem_cons_succ, List.getElem_cons_zero]
    go_simp
    try with_reducible rfl
  try simp only [Act.put, List.setIfInBounds_toArray, List.set_cons_zero, List.set_cons_succ]
  refine Stg.wpAnyL_free (i := 4) (v := ?_) 0 rfl (by kernel_rfl) (by kernel_rfl) (by kernel_rfl) (by kernel_rfl) (by kernel_rfl) (fun _ _ _ h => h) (Or.inl ⟨by kernel_rfl, ?_⟩) (by assumption) ?_
  rotate_left
  · intro u _
    try simp only [List.getElem_toArray, List.getElem_cons_succ, List.getElem_cons_zero]
    go_simp
    try with_reducible rfl
  try simp only [Act.put, List.setIfInBounds_toArray, List.set_cons_zero, List.set_cons_succ]
  refine Stg.wpAnyL_one (i := 5) 0 rfl (by kernel_rfl) (by kernel_rfl) (fun K hK => ?_)
  have g2 := cellB ((Below.refl w6.heap.size w6).drew) f2
  have g3 := cellB ((Below.refl w6.heap.size w6).drew) f3
  have z1 : w6.drew.frozen? ⟨lb, k * 3 + 1, none⟩ = false := by simpa using z1
  have z2 : w6.drew.frozen? ⟨lb, k * 3 + 2, none⟩ = false := by simpa using z2
  try simp only [List.getElem_toArray, List.getElem_cons_succ, List.getElem_cons_zero]
  go_simp
  refine hK.out _ _ ?_ (fun hHeld1 => ?_)
  · exact ⟨(World.cell?_setCell_other _ _ _ _ (by simp <;> omega)).trans (hHeld).1, (World.cell?_setCell_other _ _ _ _ (by simp <;> omega)).trans (hHeld).2⟩
  clear hK K
  try simp only [Act.put, List.setIfInBounds_toArray, List.set_cons_zero, List.set_cons_succ]
  refine Stg.wpAnyL_start (n' := 3) (l' := #[true, true, true, true, true, true, false, false, false]) (by kernel_rfl) (by kernel_rfl) ?_
  refine Stg.wpAnyL_free (i := 6) (v := ?_) 0 rfl (by kernel_rfl) (by kernel_rfl) (by kernel_rfl) (by kernel_rfl) (by kernel_rfl) (fun _ _ _ h => h) (Or.inl ⟨by kernel_rfl, ?_⟩) (by assumption) ?_
  rotate_left
  · intro u _
    try simp only [List.getElem_toArray, List.getElem_cons_succ, List.getElem_cons_zero]
    go_simp
    try with_reducible rfl
  try simp only [Act.put, List.setIfInBounds_toArray, List.set_cons_zero, List.set_cons_succ]
  refine Stg.wpAnyL_free (i := 7) (v := ?_) 0 rfl (by kernel_rfl) (by kernel_rfl) (by kernel_rfl) (by kernel_rfl) (by kernel_rfl) (fun _ _ _ h => h) (Or.inl ⟨by kernel_rfl, ?_⟩) (by assumption) ?_
  rotate_left
  · intro u _
    try simp only [List.getElem_toArray, List.getElem_cons_succ, List.getElem_cons_zero]
    go_simp
    try with_reducible rfl
  try simp only [Act.put, List.setIfInBounds_toArray, List.set_cons_zero, List.set_cons_succ]
  refine Stg.wpAnyL_one (i := 8) 0 rfl (by kernel_rfl) (by kernel_rfl) (fun K hK => ?_)
  try simp only [List.getElem_toArray, List.getElem_cons_succ, List.getElem_cons_zero]
  go_simp
  refine hK.out _ _ ?_ (fun hHeld2 => ?_)
  · exact ⟨(World.cell?_setCell_other _ _ _ _ (by simp <;> omega)).trans (hHeld1).1, (World.cell?_setCell_other _ _ _ _ (by simp <;> omega)).trans (hHeld1).2⟩
  clear hK K
  try simp only [Act.put, List.setIfInBounds_toArray, List.set_cons_zero, List.set_cons_succ]
  refine Stg.wpAnyL_done (by kernel_rfl) ?_ _
  try simp only [List.getElem_toArray, List.getElem_cons_succ, List.getElem_cons_zero]
  try simp only [Act.put, List.setIfInBounds_toArray, List.set_cons_zero, List.set_cons_succ]
  refine NoPanic.normal ?_
  refine bodyPost_end (v := .tuple #[]) (by simp [results, Try.results48, go_sem]) rfl ?_
  have d6 := hd5.out.bel ((Below.refl _ _).drew)
  exact ⟨_, _, rfl, d6.setRow hk z false, .inl rfl, ((k5.out.drew).set (p := ⟨lb, k * 3 + 1, none⟩) (.inl (by simp)) _).set (p := ⟨lb, k * 3 + 2, none⟩) (.inl (by simp)) _⟩
end Go.Proofs.Ytkefkophlhcbiaa
