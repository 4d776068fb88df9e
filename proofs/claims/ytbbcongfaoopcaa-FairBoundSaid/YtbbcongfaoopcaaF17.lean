/- The scheduler: Copy. -/
import Derived.Test.YtbbcongfaoopcaaF16
namespace Go.Proofs.Ytbbcongfaoopcaa
open Go.ChangeShapes Go.WideShapes Go.ChangeAt Go.RowKit Go.Maps
set_option linter.unusedVariables false
set_option linter.unusedSimpArgs false
open BigFrame Pk Fq Vr Fa

namespace Fa
theorem rowF_one (W Z : Nat → Int) (D : Nat → Bool) (n : Nat) : ∀ u ∈ rowF W Z D n, u.oneCell' = true := by
  intro u hu
  unfold rowF at hu
  obtain ⟨i, _, hi⟩ := List.mem_flatMap.1 hu
  simp [flC] at hi
  rcases hi with rfl | rfl | rfl <;> rfl
def CloneF (N : Nat) (W Z : Nat → Int) (D : Nat → Bool) (w : World) (e : Ending) (w' : World) : Prop := ∃ (g c : Nat), e = .returned (.slice (some ⟨g, 0, none⟩) N c) ∧ Blk w' g (rowF W Z D N) ∧ w.heap.size ≤ g ∧ Below w.heap.size w w'
end Fa
@[local go_sem]
theorem eql_fl_some (a : Addr) (l c : Nat) (u : World) : Sem.run Try.prog (binOp BinOp.eql 63 (.slice (some a) l c) (.slice none 0 0)) u = .ok (.bool false) u := by rfl

set_option maxRecDepth 100000 in
theorem fclone_c (lb N c : Nat) (W Z : Nat → Int) (D : Nat → Bool) (w : World) (B : Blk w lb (rowF W Z D N)) (hN : N ≤ 1000) (h0 : 0 < N) :
    Calls Try.prog 25 #[.slice (some ⟨lb, 0, none⟩) N c] w (CloneF N W Z D w) := by
  obtain ⟨i0, hi0, hz0, hz1, hz2⟩ := info_parts info_fl
  have hown0 : (w.alloc (.cells #[] 67)).ownsRow w.heap.size 67 3 (.slice (some ⟨w.heap.size, 0, none⟩) 0 0) 0 [] := World.ownsRow_lit (base := w.heap.size) (e := 67) (size := 3) w #[] 0 (Nat.le_refl _) (by unfold maxLen; omega) (by rfl)
  have hB0 : Below w.heap.size w (w.alloc (.cells #[] 67)) := (Below.refl _ _).alloc (Nat.le_refl _) _
  have hcells : ∀ j u, (rowF W Z D N)[j]? = some u → (w.alloc (.cells #[] 67)).cell? ((⟨lb, 0, none⟩ : Addr).add j) = some u := fun j u hu => by
    rw [Addr.add_lit, Nat.zero_add]
    exact (hB0.cell (p := ⟨lb, j, none⟩) B.l).trans (B.c j u hu)
  have hmx : 0 + N ≤ maxLen := by unfold maxLen; omega
  clear B
  go_enter Try.func25, Try.ntmps25
  go_wp2_with (at_builtin; refine wpList_append_lies _ rfl _ _ 63 (by rfl) w.heap.size 67 i0 _ 3 24 Try.underlying63 hi0 hz0 hz1 hz2 (by rfl) (by omega) _ _ _ (by rfl) hown0 ⟨lb, 0, none⟩ N c _ (by rfl) (rowF_len W Z D N) hcells (rowF_one W Z D N) h0 hmx (by omega) hB0.size (w.heap.size + 1) (by simp) ?_; intro g1 cap1 w3 hown1 hgrow1 hat1 hlt1)
  rw [Nat.zero_add] at hown1
  have hg : w.heap.size ≤ g1 := (hown1.lt g1 rfl).1
  have hB3 : Below w.heap.size w w3 := hB0.grown hgrow1 hB0.size (fun q hq => by have := (hown0.lt q hq).1; omega)
  go_ret
  refine ⟨g1, cap1, rfl, ⟨fun i x hx => ?_, fun o => hown1.frozenAt o, hlt1⟩, hg, hB3⟩
  have hi : i < (rowF W Z D N).length := (List.getElem?_eq_some_iff.1 hx).1
  rw [rowF_len] at hi
  rw [hown1.cellAt i (by omega), List.nil_append]
  exact hx

set_option maxRecDepth 100000 in
theorem fcopy_nil (w : World) :
    Calls Try.prog 15 #[.pointer none] w fun e w' => e = .returned (.pointer none) ∧ w' = w := by
  go_enter Try.func15, Try.ntmps15
  go_wp2_with fail
  exact bodyPost_ret (v := .pointer none) (by simp [results, Try.results15, go_sem]) rfl ⟨rfl, rfl⟩

namespace Fa
def CopyQ (N : Nat) (ALL V : Int) (W Z : Nat → Int) (D : Nat → Bool) (S F : Nat → Int) (w : World) (e : Ending) (w' : World) : Prop :=
  ∃ f lb cl tb ct, e = .returned (.pointer (some ⟨f, 0, none⟩)) ∧ FD w' f lb cl tb ct N ALL V W Z D S F ∧ w.heap.size ≤ f ∧ w.heap.size ≤ lb ∧ w.heap.size ≤ tb ∧ Below w.heap.size w w'
theorem copy_end {w u : World} {g4 c4 g5 c5 N : Nat} {ALL V : Int} {W Z : Nat → Int} {D : Nat → Bool} {S F : Nat → Int} {t : TypeId} (B : Blk u g4 (rowF W Z D N)) (T : TagsAt u (some ⟨g5, 0, none⟩) g5 0 N S F) (n1 : 1 ≤ N) (n8 : N ≤ 8) (hne : g4 ≠ g5) (h4 : w.heap.size ≤ g4) (h5 : w.heap.size ≤ g5)
    (hB : Below w.heap.size w (u.alloc (.cells #[.slice (some ⟨g4, 0, none⟩) N c4, .int .i64 ALL, .int .i64 V, .slice (some ⟨g5, 0, none⟩) N c5] t))) (hs : w.heap.size ≤ u.heap.size) :
    CopyQ N ALL V W Z D S F w (.returned (.pointer (some ⟨u.heap.size, 0, none⟩))) (u.alloc (.cells #[.slice (some ⟨g4, 0, none⟩) N c4, .int .i64 ALL, .int .i64 V, .slice (some ⟨g5, 0, none⟩) N c5] t)) := by
  have ha := (Below.refl u.heap.size u).alloc (Nat.le_refl _) (.cells #[.slice (some ⟨g4, 0, none⟩) N c4, .int .i64 ALL, .int .i64 V, .slice (some ⟨g5, 0, none⟩) N c5] t)
  have hl := B.l
  have hl2 := T.hb (by omega)
  exact ⟨u.heap.size, g4, c4, g5, c5, rfl, ⟨blkN_new u [.slice (some ⟨g4, 0, none⟩) N c4, .int .i64 ALL, .int .i64 V, .slice (some ⟨g5, 0, none⟩) N c5] t, B.bel ha, T.bel ha, by omega, by omega, hne, n1, n8⟩, hs, h4, h5, hB⟩
end Fa
set_option maxRecDepth 100000 in
set_option maxHeartbeats 4000000 in
theorem fcopy_c {w : World} {f lb cl tb ct N : Nat} {ALL V : Int} {W Z : Nat → Int} {D : Nat → Bool} {S F : Nat → Int} (hd : FD w f lb cl tb ct N ALL V W Z D S F) :
    Calls Try.prog 15 #[.pointer (some ⟨f, 0, none⟩)] w (CopyQ N ALL V W Z D S F w) := by
  have n1 := hd.n1
  have n8 := hd.n8
  have b0 := hd.b.c 0 _ rfl
  have b1 := hd.b.c 1 _ rfl
  have b2 := hd.b.c 2 _ rfl
  have b3 := hd.b.c 3 _ rfl
  replace hd := Lib.hid hd
  go_enter Try.func15, Try.ntmps15
  go_upto_region 3 with fail
  refine wp_region_noPanic ?_
  refine Stg.wp_region_L [] (Vr.SB w) (by kernel_rfl) (fun _ => (Below.refl _ _).drew) (fun hHeld => ?_)
  refine Stg.wpAnyL_start (n' := 17) (l' := #[false, false, false, false, false, false, false, false, false, false, false, false, false, false, false, false, false]) (by kernel_rfl) (by kernel_rfl) ?_
  refine Stg.wpAnyL_free (i := 0) (v := ?_) 0 rfl (by kernel_rfl) (by kernel_rfl) (by kernel_rfl) (by kernel_rfl) (by kernel_rfl) (fun _ _ _ h => h) (Or.inl ⟨by kernel_rfl, ?_⟩) (by assumption) ?_
  rotate_left
  · intro u _
    try simp only [List.getElem_toArray, List.getElem_cons_succ, List.getElem_cons_zero]
    go_simp
    try with_reducible rfl
  try simp only [Act.put, List.setIfInBounds_toArray, List.set_cons_zero, List.set_cons_succ]
  refine Stg.wpAnyL_free (i := 1) (v := ?_) 0 rfl (by kernel_rfl) (by kernel_rfl) (by kernel_rfl) (by kernel_rfl) (by kernel_rfl) (fun _ _ _ h => h) (Or.inl ⟨by kernel_rfl, ?_⟩) (by assumption) ?_
  rotate_left
  · intro u _
    try simp only [List.getElem_toArray, List.getElem_cons_succ, List.getElem_cons_zero]
    go_simp
    try with_reducible rfl
  try simp only [Act.put, List.setIfInBounds_toArray, List.set_cons_zero, List.set_cons_succ]
  refine Stg.wpAnyL_free (i := 2) (v := ?_) 0 rfl (by kernel_rfl) (by kernel_rfl) (by kernel_rfl) (by kernel_rfl) (by kernel_rfl) (fun _ _ _ h => h) (Or.inl ⟨by kernel_rfl, ?_⟩) (by assumption) ?_
  rotate_left
  · intro u _
    try simp only [List.getElem_toArray, List.getElem_cons_succ, List.getElem_cons_zero]
    go_simp
    try with_reducible rfl
  try simp only [Act.put, List.setIfInBounds_toArray, List.set_cons_zero, List.set_cons_succ]
  refine Stg.wpAnyL_start (n' := 14) (l' := #[true, true, true, false, false, false, false, false, false, false, false, false, false, false, false, false, false]) (by kernel_rfl) (by kernel_rfl) ?_
  refine Stg.wpAnyL_take (i := 3) (v := ?_) [4, 13, 14, 15, 16] 0 rfl (by kernel_rfl) (by kernel_rfl) (by kernel_rfl) (by kernel_rfl) (by kernel_rfl) (fun _ _ _ h => h) (Or.inl ⟨by kernel_rfl, ?_⟩) (by assumption) ?_
  rotate_left
  · intro u hSu
    skip
    have sB := hSu rfl
    have y0 := cellB sB b0
    have y1 := cellB sB b1
    have y2 := cellB sB b2
    have y3 := cellB sB b3
    try simp only [List.getElem_toArray, List.getElem_cons_succ, List.getElem_cons_zero]
    go_simp
    try with_reducible rfl
  try simp only [Act.put, List.setIfInBounds_toArray, List.set_cons_zero, List.set_cons_succ]
  refine Stg.wpAnyL_free (i := 5) (v := ?_) 0 rfl (by kernel_rfl) (by kernel_rfl) (by kernel_rfl) (by kernel_rfl) (by kernel_rfl) (fun _ _ _ h => h) (Or.inl ⟨by kernel_rfl, ?_⟩) (by assumption) ?_
  rotate_left
  · intro u _
    try simp only [List.getElem_toArray, List.getElem_cons_succ, List.getElem_cons_zero]
    go_simp
    try with_reducible rfl
  try simp only [Act.put, List.setIfInBounds_toArray, List.set_cons_zero, List.set_cons_succ]
  refine Stg.wpAnyL_free (i := 6) (v := ?_) 0 rfl (by kernel_rfl) (by kernel_rfl) (by kernel_rfl) (by kernel_rfl) (by kernel_rfl) (fun _ _ _ h => h) (Or.inl ⟨by kernel_rfl, ?_⟩) (by assumption) ?_
  rotate_left
  · intro u _
    try simp only [List.getElem_toArray, List.getElem_cons_succ, List.getElem_cons_zero]
    go_simp
    try with_reducible rfl
  try simp only [Act.put, List.setIfInBounds_toArray, List.set_cons_zero, List.set_cons_succ]
  refine Stg.wpAnyL_start (n' := 11) (l' := #[true, true, true, true, false, true, true, false, false, false, false, false, false, false, false, false, false]) (by kernel_rfl) (by kernel_rfl) ?_
  refine Stg.wpAnyL_free (i := 7) (v := ?_) 0 rfl (by kernel_rfl) (by kernel_rfl) (by kernel_rfl) (by kernel_rfl) (by kernel_rfl) (fun _ _ _ h => h) (Or.inl ⟨by kernel_rfl, ?_⟩) (by assumption) ?_
  rotate_left
  · intro u _
    try simp only [List.getElem_toArray, List.getElem_cons_succ, List.getElem_cons_zero]
    go_simp
    try with_reducible rfl
  try simp only [Act.put, List.setIfInBounds_toArray, List.set_cons_zero, List.set_cons_succ]
  refine Stg.wpAnyL_take (i := 8) (v := ?_) [14, 15, 16] 0 rfl (by kernel_rfl) (by kernel_rfl) (by kernel_rfl) (by kernel_rfl) (by kernel_rfl) (fun _ _ _ h => h) (Or.inl ⟨by kernel_rfl, ?_⟩) (by assumption) ?_
  rotate_left
  · intro u hSu
    skip
    have sB := hSu rfl
    have y0 := cellB sB b0
    have y1 := cellB sB b1
    have y2 := cellB sB b2
    have y3 := cellB sB b3
    try simp only [List.getElem_toArray, List.getElem_cons_succ, List.getElem_cons_zero]
    go_simp
    try with_reducible rfl
  try simp only [Act.put, List.setIfInBounds_toArray, List.set_cons_zero, List.set_cons_succ]
  refine Stg.wpAnyL_free (i := 9) (v := ?_) 0 rfl (by kernel_rfl) (by kernel_rfl) (by kernel_rfl) (by kernel_rfl) (by kernel_rfl) (fun _ _ _ h => h) (Or.inl ⟨by kernel_rfl, ?_⟩) (by assumption) ?_
  rotate_left
  · intro u _
    try simp only [List.getElem_toArray, List.getElem_cons_succ, List.getElem_cons_zero]
    go_simp
    try with_reducible rfl
  try simp only [Act.put, List.setIfInBounds_toArray, List.set_cons_zero, List.set_cons_succ]
  refine Stg.wpAnyL_start (n' := 8) (l' := #[true, true, true, true, false, true, true, true, true, true, false, false, false, false, false, false, false]) (by kernel_rfl) (by kernel_rfl) ?_
  refine Stg.wpAnyL_free (i := 10) (v := ?_) 0 rfl (by kernel_rfl) (by kernel_rfl) (by kernel_rfl) (by kernel_rfl) (by kernel_rfl) (fun _ _ _ h => h) (Or.inl ⟨by kernel_rfl, ?_⟩) (by assumption) ?_
  rotate_left
  · intro u _
    try simp only [List.getElem_toArray, List.getElem_cons_succ, List.getElem_cons_zero]
    go_simp
    try with_reducible rfl
  try simp only [Act.put, List.setIfInBounds_toArray, List.set_cons_zero, List.set_cons_succ]
  refine Stg.wpAnyL_free (i := 11) (v := ?_) 0 rfl (by kernel_rfl) (by kernel_rfl) (by kernel_rfl) (by kernel_rfl) (by kernel_rfl) (fun _ _ _ h => h) (Or.inl ⟨by kernel_rfl, ?_⟩) (by assumption) ?_
  rotate_left
  · intro u _
    try simp only [List.getElem_toArray, List.getElem_cons_succ, List.getElem_cons_zero]
    go_simp
    try with_reducible rfl
  try simp only [Act.put, List.setIfInBounds_toArray, List.set_cons_zero, List.set_cons_succ]
  refine Stg.wpAnyL_take (i := 12) (v := ?_) [13, 14, 15, 16] 0 rfl (by kernel_rfl) (by kernel_rfl) (by kernel_rfl) (by kernel_rfl) (by kernel_rfl) (fun _ _ _ h => h) (Or.inl ⟨by kernel_rfl, ?_⟩) (by assumption) ?_
  rotate_left
  · intro u hSu
    skip
    have sB := hSu rfl
    have y0 := cellB sB b0
    have y1 := cellB sB b1
    have y2 := cellB sB b2
    have y3 := cellB sB b3
    try simp only [List.getElem_toArray, List.getElem_cons_succ, List.getElem_cons_zero]
    go_simp
    try with_reducible rfl
  try simp only [Act.put, List.setIfInBounds_toArray, List.set_cons_zero, List.set_cons_succ]
  refine Stg.wpAnyL_start (n' := 5) (l' := #[true, true, true, true, false, true, true, true, true, true, true, true, true, false, false, false, false]) (by kernel_rfl) (by kernel_rfl) ?_
  refine Stg.wpAnyL_one (i := 4) 0 rfl (by kernel_rfl) (by kernel_rfl) (fun K hK => ?_)
  try simp only [List.getElem_toArray, List.getElem_cons_succ, List.getElem_cons_zero]
  go_simp
  refine (fclone_c lb N cl W Z D _ (hd.out.bel (hHeld rfl)).l (by omega) (by omega)).mono ?_
  rintro e w4 ⟨g4, c4, rfl, B4, hg4, hb1⟩
  refine hK.out _ _ ?_ (fun hHeld1 => ?_)
  · exact fun _ => bNext (hHeld rfl) hb1 (Nat.le_refl _)
  clear hK K
  try simp only [Act.put, List.setIfInBounds_toArray, List.set_cons_zero, List.set_cons_succ]
  refine Stg.wpAnyL_one (i := 13) 0 rfl (by kernel_rfl) (by kernel_rfl) (fun K hK => ?_)
  try simp only [List.getElem_toArray, List.getElem_cons_succ, List.getElem_cons_zero]
  go_simp
  refine (fcopied_c V N (some ⟨tb, 0, none⟩) tb 0 ct S F _ (hd.out.bel (hHeld1 rfl)).t (by omega)).mono ?_
  rintro e w5 ⟨a5, g5, c5, rfl, T5, hg5, hb2⟩
  obtain rfl := T5.ha (by omega)
  replace hg5 := (hg5 (by omega)).1
  refine hK.out _ _ ?_ (fun hHeld2 => ?_)
  · exact fun _ => bNext (hHeld1 rfl) hb2 (Nat.le_refl _)
  clear hK K
  try simp only [Act.put, List.setIfInBounds_toArray, List.set_cons_zero, List.set_cons_succ]
  refine Stg.wpAnyL_free (i := 14) (v := ?_) 0 rfl (by kernel_rfl) (by kernel_rfl) (by kernel_rfl) (by kernel_rfl) (by kernel_rfl) (fun _ _ _ h => h) (Or.inl ⟨by kernel_rfl, ?_⟩) (by assumption) ?_
  rotate_left
  · intro u _
    try simp only [List.getElem_toArray, List.getElem_cons_succ, List.getElem_cons_zero]
    go_simp
    try with_reducible rfl
  try simp only [Act.put, List.setIfInBounds_toArray, List.set_cons_zero, List.set_cons_succ]
  refine Stg.wpAnyL_start (n' := 2) (l' := #[true, true, true, true, true, true, true, true, true, true, true, true, true, true, true, false, false]) (by kernel_rfl) (by kernel_rfl) ?_
  refine Stg.wpAnyL_one (i := 15) 0 rfl (by kernel_rfl) (by kernel_rfl) (fun K hK => ?_)
  try simp only [List.getElem_toArray, List.getElem_cons_succ, List.getElem_cons_zero]
  go_simp
  refine hK.out _ _ ?_ (fun hHeld3 => ?_)
  · exact fun _ => bNext (hHeld2 rfl) ((Below.refl _ _).alloc (Nat.le_refl _) _) (Nat.le_refl _)
  clear hK K
  try simp only [Act.put, List.setIfInBounds_toArray, List.set_cons_zero, List.set_cons_succ]
  refine Stg.wpAnyL_free (i := 16) (v := ?_) 0 rfl (by kernel_rfl) (by kernel_rfl) (by kernel_rfl) (by kernel_rfl) (by kernel_rfl) (fun _ _ _ h => h) (Or.inl ⟨by kernel_rfl, ?_⟩) (by assumption) ?_
  rotate_left
  · intro u _
    try simp only [List.getElem_toArray, List.getElem_cons_succ, List.getElem_cons_zero]
    go_simp
    try with_reducible rfl
  try simp only [Act.put, List.setIfInBounds_toArray, List.set_cons_zero, List.set_cons_succ]
  refine Stg.wpAnyL_done (by kernel_rfl) ?_ _
  try simp only [List.getElem_toArray, List.getElem_cons_succ, List.getElem_cons_zero]
  try simp only [Act.put, List.setIfInBounds_toArray, List.set_cons_zero, List.set_cons_succ]
  refine NoPanic.normal ?_
  have hBe := Lib.hid (hHeld3 rfl)
  have hB5 := hHeld2 rfl
  have hl4 := B4.l
  have B5 := B4.bel hb2
  have hs4 : w.heap.size ≤ g4 := by simpa using hg4
  have hs5 : w.heap.size ≤ g5 := by have := hB5.size; have := (hHeld1 rfl).size; omega
  have hX := Lib.hid (copy_end B5 T5 n1 n8 (by omega) hs4 hs5 hBe.out hB5.size)
  clear B5 B4 T5 hBe b0 b1 b2 b3 hHeld hb1 hb2
  go_wp2_with fail
  exact bodyPost_ret (v := .pointer (some ⟨w5.heap.size, 0, none⟩)) (by simp [results, Try.results15, go_sem]) rfl hX.out
end Go.Proofs.Ytbbcongfaoopcaa
