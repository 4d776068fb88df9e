/- What the document says of shares, and of a leader that was just elected; GrantShares. -/
import Derived.Test.YtifohibpcngakaaD6
import Derived.Test.YtifohibpcngakaaClockG2
namespace Go.Proofs.Ytifohibpcngakaa
open Go.ChangeShapes Go.WideShapes Go.ChangeAt Go.RowKit Go.Maps
set_option linter.unusedVariables false
set_option linter.unusedSimpArgs false
open BigFrame Bs Gr
attribute [local go_sem] Bs.max_fold Bs.min_fold

namespace Gr
theorem over_any (t r : Int) (h1 : 1 ≤ t ∧ t ≤ 1099511627776) (h2 : 0 ≤ r ∧ r ≤ 200) : ∀ u, Calls Try.prog 22 #[.int .i64 t, .int .i64 r] u fun e w' => e = .returned (.int .i64 (Ck.over t r)) ∧ Below u.heap.size u w' := fun u => over_c t r u
def T2 : Int → Option Int := madeT (fun _ => none) 2 500
def f12 (i : Nat) : Int := if i = 0 then 1 else 2
theorem T2_ok (EL NO : Int) : TOk EL NO T2 := fun k c h => by
  unfold T2 madeT setT at h
  simp at h
  omega
theorem pk12 (P : Int → Bool) : pk P f12 2 = [1, 2].filter P := rfl
theorem isT2_1 (NO : Int) : isOv 12223 0 NO T2 1 = decide (12223 ≤ NO) := by simp [isOv, T2, madeT, setT]
theorem isT2_2 (NO : Int) : isOv 12223 0 NO T2 2 = decide (12223 ≤ NO - 500) := by simp [isOv, T2, madeT, setT]
end Gr

set_option maxRecDepth 100000 in
set_option maxHeartbeats 40000000 in
theorem wakes21_c (w : World) : Calls Try.prog 8 #[] w fun e w' => e = .returned (.bool true) ∧ Below w.heap.size w w' := by
  have hnew := Lib.hid (dnew_ok (mm w.heap.size []) w 10 100 0 12223 (mm_nil (Nat.le_refl _)) (by omega) (by omega) (by omega) (over_any 10 100 (by omega) (by omega)))
  have s1 := fun u => share_c 10000 50 1 1 100 u (by omega)
  rw [show shareI 10000 50 1 1 100 = 5 by decide] at s1
  have s2 := fun u => share_c 3000 50 0 10 100 u (by omega)
  rw [show shareI 3000 50 0 10 100 = 0 by decide] at s2
  replace s1 := Lib.hid s1
  replace s2 := Lib.hid s2
  go_enter Try.func8, Try.ntmps8
  go_wp2_with fail
  refine hnew.out.mono ?_
  rintro e w1 ⟨d, bm, rfl, h1, hd1, hd2, hb⟩
  have k1 := Kp.of (m := mm w.heap.size []) hb
  have ha1 := (Below.refl w1.heap.size w1).alloc (Nat.le_refl _) (.cells #[.int .i64 1, .int .i64 0, .int .i64 0, .int .i64 0, .int .i64 0, .int .i64 0, .int .i64 0, .int .i64 2, .int .i64 0, .int .i64 0, .int .i64 0, .int .i64 0, .int .i64 0, .int .i64 0] 38)
  have ha2 := ha1.alloc (by simp) (.cells #[.int .i64 0, .int .i64 0, .int .i64 0, .slice none 0 0, .slice (some ⟨w1.heap.size, 0, none⟩) 2 2, .slice none 0 0, .slice none 0 0] 44)
  have lb := (blk_new w1 [.int .i64 1, .int .i64 0, .int .i64 0, .int .i64 0, .int .i64 0, .int .i64 0, .int .i64 0, .int .i64 2, .int .i64 0, .int .i64 0, .int .i64 0, .int .i64 0, .int .i64 0, .int .i64 0] 38).bel ((Below.refl _ _).alloc (Nat.le_refl _) (.cells #[.int .i64 0, .int .i64 0, .int .i64 0, .slice none 0 0, .slice (some ⟨w1.heap.size, 0, none⟩) 2 2, .slice none 0 0, .slice none 0 0] 44))
  have sb := blk_new (w1.alloc (.cells #[.int .i64 1, .int .i64 0, .int .i64 0, .int .i64 0, .int .i64 0, .int .i64 0, .int .i64 0, .int .i64 2, .int .i64 0, .int .i64 0, .int .i64 0, .int .i64 0, .int .i64 0, .int .i64 0] 38)) [.int .i64 0, .int .i64 0, .int .i64 0, .slice none 0 0, .slice (some ⟨w1.heap.size, 0, none⟩) 2 2, .slice none 0 0, .slice none 0 0] 44
  rw [World.size_alloc] at sb
  have h2 := h1.bel ha2
  have k2 := Lib.hid (k1.trans (Kp.of ha2))
  have ld := Lib.hid h1.b.l
  have lm := Lib.hid h1.t.lt
  have lw := Lib.hid hb.size
  replace h2 := Lib.hid h2
  replace lb := Lib.hid lb
  replace sb := Lib.hid sb
  clear hnew h1 hb k1 ha1 ha2
  go_upto_region 5 with fail
  generalize (w1.alloc (.cells #[.int .i64 1, .int .i64 0, .int .i64 0, .int .i64 0, .int .i64 0, .int .i64 0, .int .i64 0, .int .i64 2, .int .i64 0, .int .i64 0, .int .i64 0, .int .i64 0, .int .i64 0, .int .i64 0] 38)).alloc (.cells #[.int .i64 0, .int .i64 0, .int .i64 0, .slice none 0 0, .slice (some ⟨w1.heap.size, 0, none⟩) 2 2, .slice none 0 0, .slice none 0 0] 44) = W2 at h2 k2 lb sb ⊢
  generalize w1.heap.size = b1 at lb sb ld lm lw ⊢
  have hm2 : ∀ b, mm w.heap.size [b1, b1 + 1] b → b < W2.heap.size := mm_two (by have := lw.out; have := lb.out.l; omega) lb.out.l sb.out.l
  have h3 := h2.out.re (m2 := mm w.heap.size [b1, b1 + 1]) (mm_not hd1 (by have := ld.out; simp; omega)) (mm_not hd2 (by have := lm.out; simp; omega)) hm2
  have hmk := Lib.hid (made_ok h3 2 500 (by omega) (by omega) (by omega) (by omega))
  clear h2 h3 hm2 hd1 hd2 ld lm lw
  go_wp2_with fail
  refine hmk.out.mono ?_
  rintro e w3 ⟨rfl, h4, k3⟩
  have lb2 := k3.blk lb.out (.inr (by simp))
  have sb2 := k3.blk sb.out (.inr (by simp))
  have k4 := Lib.hid (k2.out.trans (k3.sub (mm_sub (by simp))))
  have h5 : DK (mm w.heap.size [b1, b1 + 1]) w3 d bm 1 12223 0 500 T2 := h4
  have hL : ∀ u, Kp (mm w.heap.size [b1, b1 + 1]) w3 u → Lss (mm w.heap.size [b1, b1 + 1]) u (some ⟨b1, 0, none⟩) 2 f12 := fun u ku => by
    refine Lss.kp (fun _ => ⟨b1, 0, rfl, .inr (by simp), lb2.l, fun i hi => ?_⟩) ku
    have : i = 0 ∨ i = 1 := by omega
    rcases this with rfl | rfl
    · refine ⟨⟨lb2.c 0 _ rfl, fun j h1 h2 => ?_⟩, by decide⟩
      have : j = 1 ∨ j = 2 ∨ j = 3 ∨ j = 4 ∨ j = 5 ∨ j = 6 := by omega
      rcases this with rfl | rfl | rfl | rfl | rfl | rfl <;> exact lb2.c _ _ rfl
    · refine ⟨⟨lb2.c 7 _ rfl, fun j h1 h2 => ?_⟩, by decide⟩
      have : j = 1 ∨ j = 2 ∨ j = 3 ∨ j = 4 ∨ j = 5 ∨ j = 6 := by omega
      rcases this with rfl | rfl | rfl | rfl | rfl | rfl <;> exact lb2.c _ _ rfl
  have o1 : ∀ u, Kp (mm w.heap.size [b1, b1 + 1]) w3 u → DK (mm w.heap.size [b1, b1 + 1]) u d bm 1 12223 0 500 T2 → Calls Try.prog 13 #[.pointer (some ⟨d, 0, none⟩), .agg #[.int .i64 0, .int .i64 0, .int .i64 0, .slice none 0 0, .slice (some ⟨b1, 0, none⟩) 2 2, .slice none 0 0, .slice none 0 0], .int .i64 12222] u (OverP (mm w.heap.size [b1, b1 + 1]) d bm 1 12223 0 12222 T2 [] u) := fun u ku hu => by
    have := over_ok hu (some ⟨b1, 0, none⟩) 2 2 f12 12222 (by omega) (hL u ku) (by omega) (by omega) (by omega) (T2_ok _ _)
    rw [show max 500 12222 = (12222 : Int) by decide, pk12, show List.filter (isOv 12223 0 12222 T2) [1, 2] = [] by simp [isT2_1, isT2_2], show srt [] = [] by simp [srt]] at this
    exact this
  have o2 : ∀ u, Kp (mm w.heap.size [b1, b1 + 1]) w3 u → DK (mm w.heap.size [b1, b1 + 1]) u d bm 1 12223 0 12222 T2 → Calls Try.prog 13 #[.pointer (some ⟨d, 0, none⟩), .agg #[.int .i64 0, .int .i64 0, .int .i64 0, .slice none 0 0, .slice (some ⟨b1, 0, none⟩) 2 2, .slice none 0 0, .slice none 0 0], .int .i64 12223] u (OverP (mm w.heap.size [b1, b1 + 1]) d bm 1 12223 0 12223 T2 [1] u) := fun u ku hu => by
    have := over_ok hu (some ⟨b1, 0, none⟩) 2 2 f12 12223 (by omega) (hL u ku) (by omega) (by omega) (by omega) (T2_ok _ _)
    rw [show max 12222 12223 = (12223 : Int) by decide, pk12, show List.filter (isOv 12223 0 12223 T2) [1, 2] = [1] by simp [isT2_1, isT2_2], show srt [1] = [1] by simp [srt]] at this
    exact this
  have o3 : ∀ u, Kp (mm w.heap.size [b1, b1 + 1]) w3 u → DK (mm w.heap.size [b1, b1 + 1]) u d bm 1 12223 0 12223 T2 → Calls Try.prog 13 #[.pointer (some ⟨d, 0, none⟩), .agg #[.int .i64 0, .int .i64 0, .int .i64 0, .slice none 0 0, .slice (some ⟨b1, 0, none⟩) 2 2, .slice none 0 0, .slice none 0 0], .int .i64 12723] u (OverP (mm w.heap.size [b1, b1 + 1]) d bm 1 12223 0 12723 T2 (srt [1, 2]) u) := fun u ku hu => by
    have := over_ok hu (some ⟨b1, 0, none⟩) 2 2 f12 12723 (by omega) (hL u ku) (by omega) (by omega) (by omega) (T2_ok _ _)
    rw [show max 12223 12723 = (12723 : Int) by decide, pk12, show List.filter (isOv 12223 0 12723 T2) [1, 2] = [1, 2] by simp [isT2_1, isT2_2]] at this
    exact this
  replace hL := Lib.hid hL
  replace o1 := Lib.hid o1
  replace o2 := Lib.hid o2
  replace o3 := Lib.hid o3
  replace h5 := Lib.hid h5
  clear hmk h4 k3 k2 lb sb lb2
  go_upto_region 6 with fail
  have q0 := sb2.c 0 _ rfl
  have q1 := sb2.c 1 _ rfl
  have q2 := sb2.c 2 _ rfl
  have q3 := sb2.c 3 _ rfl
  have q4 := sb2.c 4 _ rfl
  have q5 := sb2.c 5 _ rfl
  have q6 := sb2.c 6 _ rfl
  refine wp_region_noPanic ?_
  refine Stg.wp_region_L [] (fun _ v => (v.cell? ⟨b1 + 1, 0, none⟩ = some (.int .i64 0) ∧ v.cell? ⟨b1 + 1, 1, none⟩ = some (.int .i64 0) ∧ v.cell? ⟨b1 + 1, 2, none⟩ = some (.int .i64 0) ∧ v.cell? ⟨b1 + 1, 3, none⟩ = some (.slice none 0 0) ∧ v.cell? ⟨b1 + 1, 4, none⟩ = some (.slice (some ⟨b1, 0, none⟩) 2 2) ∧ v.cell? ⟨b1 + 1, 5, none⟩ = some (.slice none 0 0) ∧ v.cell? ⟨b1 + 1, 6, none⟩ = some (.slice none 0 0)) ∧ True) (by kernel_rfl) (⟨⟨by simpa using q0, by simpa using q1, by simpa using q2, by simpa using q3, by simpa using q4, by simpa using q5, by simpa using q6⟩, trivial⟩) (fun hHeld => ?_)
  refine Stg.wpAnyL_start (n' := 8) (l' := #[false, false, false, false, false, false, false, false]) (by kernel_rfl) (by kernel_rfl) ?_
  refine Stg.wpAnyL_free (i := 0) (v := ?_) 0 rfl (by kernel_rfl) (by kernel_rfl) (by kernel_rfl) (by kernel_rfl) (by kernel_rfl) (fun _ _ _ h => h) (Or.inl ⟨by kernel_rfl, ?_⟩) (by assumption) ?_
  rotate_left
  · intro u _
    try simp only [List.getElem_toArray, List.getElem_cons_succ, List.getElem_cons_zero]
    go_simp
    try with_reducible rfl
  try simp only [Act.put, List.setIfInBounds_toArray, List.set_cons_zero, List.set_cons_succ]
  refine Stg.wpAnyL_take (i := 1) (v := ?_) [2, 5, 6, 7] 0 rfl (by kernel_rfl) (by kernel_rfl) (by kernel_rfl) (by kernel_rfl) (by kernel_rfl) (fun _ _ _ h => h) (Or.inl ⟨by kernel_rfl, ?_⟩) (by assumption) ?_
  rotate_left
  · intro u hSu
    obtain ⟨⟨y0, y1, y2, y3, y4, y5, y6⟩, _⟩ := hSu
    skip
    try simp only [List.getElem_toArray, List.getElem_cons_succ, List.getElem_cons_zero]
    go_simp
    try with_reducible rfl
  try simp only [Act.put, List.setIfInBounds_toArray, List.set_cons_zero, List.set_cons_succ]
  refine Stg.wpAnyL_free (i := 3) (v := ?_) 0 rfl (by kernel_rfl) (by kernel_rfl) (by kernel_rfl) (by kernel_rfl) (by kernel_rfl) (fun _ _ _ h => h) (Or.inl ⟨by kernel_rfl, ?_⟩) (by assumption) ?_
  rotate_left
  · intro u _
    try simp only [List.getElem_toArray, List.getElem_cons_succ, List.getElem_cons_zero]
    go_simp
    try with_reducible rfl
  try simp only [Act.put, List.setIfInBounds_toArray, List.set_cons_zero, List.set_cons_succ]
  refine Stg.wpAnyL_start (n' := 5) (l' := #[true, true, false, true, false, false, false, false]) (by kernel_rfl) (by kernel_rfl) ?_
  refine Stg.wpAnyL_take (i := 4) (v := ?_) [5, 6, 7] 0 rfl (by kernel_rfl) (by kernel_rfl) (by kernel_rfl) (by kernel_rfl) (by kernel_rfl) (fun _ _ _ h => h) (Or.inl ⟨by kernel_rfl, ?_⟩) (by assumption) ?_
  rotate_left
  · intro u hSu
    obtain ⟨⟨y0, y1, y2, y3, y4, y5, y6⟩, _⟩ := hSu
    skip
    try simp only [List.getElem_toArray, List.getElem_cons_succ, List.getElem_cons_zero]
    go_simp
    try with_reducible rfl
  try simp only [Act.put, List.setIfInBounds_toArray, List.set_cons_zero, List.set_cons_succ]
  refine Stg.wpAnyL_one (i := 2) 0 rfl (by kernel_rfl) (by kernel_rfl) (fun K hK => ?_)
  try simp only [List.getElem_toArray, List.getElem_cons_succ, List.getElem_cons_zero]
  go_simp
  have kd : Kp (mm w.heap.size [b1, b1 + 1]) w3 w3.drew := (Kp.refl _ _).drew
  refine (o1.out _ kd (h5.out.bel ((Below.refl _ _).drew))).mono ?_
  rintro e u1 ⟨v1, rfl, r1, g1, m1⟩
  have kd2 := kd.trans m1
  have sb3 := kd2.blk sb2 (.inr (by simp))
  refine hK.out _ _ ?_ (fun hHeld1 => ?_)
  · exact ⟨⟨sb3.c 0 _ rfl, sb3.c 1 _ rfl, sb3.c 2 _ rfl, sb3.c 3 _ rfl, sb3.c 4 _ rfl, sb3.c 5 _ rfl, sb3.c 6 _ rfl⟩, trivial⟩
  clear hK K
  try simp only [Act.put, List.setIfInBounds_toArray, List.set_cons_zero, List.set_cons_succ]
  refine Stg.wpAnyL_one (i := 5) 0 rfl (by kernel_rfl) (by kernel_rfl) (fun K hK => ?_)
  try simp only [List.getElem_toArray, List.getElem_cons_succ, List.getElem_cons_zero]
  go_simp
  refine (o2.out _ kd2 g1).mono ?_
  rintro e u2 ⟨v2, rfl, r2, g2, m2⟩
  have kd3 := kd2.trans m2
  have sb4 := kd3.blk sb2 (.inr (by simp))
  refine hK.out _ _ ?_ (fun hHeld2 => ?_)
  · exact ⟨⟨sb4.c 0 _ rfl, sb4.c 1 _ rfl, sb4.c 2 _ rfl, sb4.c 3 _ rfl, sb4.c 4 _ rfl, sb4.c 5 _ rfl, sb4.c 6 _ rfl⟩, trivial⟩
  clear hK K
  try simp only [Act.put, List.setIfInBounds_toArray, List.set_cons_zero, List.set_cons_succ]
  refine Stg.wpAnyL_start (n' := 2) (l' := #[true, true, true, true, true, true, false, false]) (by kernel_rfl) (by kernel_rfl) ?_
  refine Stg.wpAnyL_free (i := 6) (v := ?_) 0 rfl (by kernel_rfl) (by kernel_rfl) (by kernel_rfl) (by kernel_rfl) (by kernel_rfl) (fun _ _ _ h => h) (Or.inl ⟨by kernel_rfl, ?_⟩) (by assumption) ?_
  rotate_left
  · intro u _
    try simp only [List.getElem_toArray, List.getElem_cons_succ, List.getElem_cons_zero]
    go_simp
    try with_reducible rfl
  try simp only [Act.put, List.setIfInBounds_toArray, List.set_cons_zero, List.set_cons_succ]
  refine Stg.wpAnyL_free (i := 7) (v := ?_) 0 rfl (by kernel_rfl) (by kernel_rfl) (by kernel_rfl) (by kernel_rfl) (by kernel_rfl) (fun _ _ _ h => h) (Or.inl ⟨by kernel_rfl, ?_⟩) (by assumption) ?_
  rotate_left
  · intro u _
    try simp only [List.getElem_toArray, List.getElem_cons_succ, List.getElem_cons_zero]
    go_simp
    try with_reducible rfl
  try simp only [Act.put, List.setIfInBounds_toArray, List.set_cons_zero, List.set_cons_succ]
  refine Stg.wpAnyL_done (by kernel_rfl) ?_ _
  try simp only [List.getElem_toArray, List.getElem_cons_succ, List.getElem_cons_zero]
  try simp only [Act.put, List.setIfInBounds_toArray, List.set_cons_zero, List.set_cons_succ]
  refine NoPanic.normal ?_
  have k5 := Lib.hid (k4.out.trans (kd3.sub (mm_sub (by simp))))
  obtain ⟨a1, c1, rfl, _⟩ := r1
  obtain ⟨a2, c2, rfl, hr2⟩ := r2
  obtain ⟨g, rfl, hg1, gb⟩ := hr2 (by simp)
  have z0 := gb.c 0 _ rfl
  have q0 := sb4.c 0 _ rfl
  have q1 := sb4.c 1 _ rfl
  have q2 := sb4.c 2 _ rfl
  have q3 := sb4.c 3 _ rfl
  have q4 := sb4.c 4 _ rfl
  have q5 := sb4.c 5 _ rfl
  have q6 := sb4.c 6 _ rfl
  have ho3 := Lib.hid (o3.out _ kd3 g2)
  clear hHeld hHeld1 hHeld2 kd kd2 sb3 m1 m2 g1 g2 o1 o2 o3 gb sb2 h5 kd3 sb4 hL k4 hr2
  simp only [List.length_nil, List.length_cons, List.length_singleton]
  go_wp2_with fail
  refine ho3.out.mono ?_
  rintro e u3 ⟨v3, rfl, ⟨a3, c3, rfl, _⟩, _, m3⟩
  have k6 := Lib.hid (k5.out.trans (m3.sub (mm_sub (by simp))))
  rw [show (srt [1, 2]).length = 2 by simp [srt]]
  clear ho3 m3 k5 z0 q0 q1 q2 q3 q4 q5 q6
  go_wp2_with fail
  refine (s1.out _).mono ?_
  rintro e u4 ⟨rfl, rfl⟩
  go_wp2_with fail
  refine (s2.out _).mono ?_
  rintro e u5 ⟨rfl, rfl⟩
  go_wp2_with fail
  go_ret
  exact ⟨rfl, k6.out.bel (fun i hi => .inl hi) (Nat.le_refl _)⟩

set_option maxRecDepth 100000 in
set_option maxHeartbeats 40000000 in
theorem grantShares_walk (w : World) (a0 a1 a2 a3 a4 : Int) (w0 : (Lit.int .i64 a0).wf = true) (w1 : (Lit.int .i64 a1).wf = true) (w2 : (Lit.int .i64 a2).wf = true) (w3 : (Lit.int .i64 a3).wf = true) (w4 : (Lit.int .i64 a4).wf = true) :
    Calls Try.prog 3 #[.int .i64 a0, .int .i64 a1, .int .i64 a2, .int .i64 a3, .int .i64 a4] w fun e w' => e = .returned (.bool true) ∧ Below w.heap.size w w' := by
  have hb := bounds_i64 w0
  have h1 := share_c a0 a1 a2 a3 a4 w (by omega)
  have h2 := rshare_c a0 a1 a2 a3 a4 w (by omega)
  obtain ⟨b1, b2, b3, b4⟩ := share_b a0 a1 a2 a3 a4
  generalize shareI a0 a1 a2 a3 a4 = n at h1 h2 b1 b2 b3 b4
  have m1 : 0 ≤ max a0 0 := by omega
  have m2 : max a0 0 ≤ 9223372036854775807 := by omega
  replace h1 := Lib.hid h1
  replace h2 := Lib.hid h2
  clear w0 w1 w2 w3 w4 hb
  go_enter Try.func3, Try.ntmps3
  go_wp2_with fail
  refine h1.out.mono ?_
  rintro e w1 ⟨rfl, rfl⟩
  clear h1
  go_wp2_with fail
  refine h2.out.mono ?_
  rintro e w1 ⟨rfl, rfl⟩
  clear h2
  go_wp2_with fail
  refine (wakes21_c _).mono ?_
  rintro e w2 ⟨rfl, hb⟩
  replace hb := Lib.hid hb
  go_wp2_with fail
  go_ret
  exact ⟨rfl, hb.out⟩
end Go.Proofs.Ytifohibpcngakaa
