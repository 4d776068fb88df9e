/- The reference's Wake and Next. -/
import Derived.Test.YtbbcongfaoopcaaV12
namespace Go.Proofs.Ytbbcongfaoopcaa
open Go.ChangeShapes Go.WideShapes Go.ChangeAt Go.RowKit
set_option linter.unusedVariables false
set_option linter.unusedSimpArgs false
open BigFrame Vr Pk Fq
attribute [local go_sem] max_fold25

set_option maxRecDepth 100000 in
set_option maxHeartbeats 4000000 in
theorem rwake_c (V k size weight all : Int) (N : Nat) (a : Option Addr) (b off c : Nat) (S F : Nat → Int) (w : World) (T : TagsAt w a b off N S F) (hN : N ≤ 1000) :
    Calls Try.prog 50 #[.agg #[.int .i64 V, .slice a N c], .int .i64 k, .int .i64 size, .int .i64 weight, .int .i64 all] w (VirX (tagR V N S F k (costI size weight all) (max (F k.toNat) V)) w) := by
  obtain ⟨cc, hcc⟩ : ∃ cc, costI size weight all = cc := ⟨_, rfl⟩
  have hB0 : Below w.heap.size w ((w.alloc (.cells #[.int .i64 V, .slice a N c] 50)).alloc (.cells #[.int .i64 0, .slice none 0 0] 50)) := ((Below.refl _ _).alloc (Nat.le_refl _) _).alloc (by simp) _
  have bx0 := blk_two w (.int .i64 V) (.slice a N c) (.int .i64 0) (.slice none 0 0) 50 50
  have rs0 := blk_new (w.alloc (.cells #[.int .i64 V, .slice a N c] 50)) (.int .i64 0) (.slice none 0 0) 50
  rw [World.size_alloc] at rs0
  have hNi : (N : Int) ≤ 1000 := by omega
  by_cases hv : VOk V N S F
  · have hck := rcheck25_c true V a b off N c S F _ (T.bel hB0) hN ⟨fun _ => hv, fun _ => rfl⟩
    by_cases hk : 0 ≤ k ∧ k < (N : Int)
    · obtain ⟨j, rfl⟩ : ∃ j : Nat, k = (j : Int) := ⟨k.toNat, by omega⟩
      have hj : j < N := by omega
      have hkz : (j : Int) < (N : Int) := by omega
      have hd1 : decide ((j : Int) < 0) = false := by simp
      have hd2 : decide (N ≤ j) = false := by simp; omega
      obtain rfl := T.ha (by omega)
      rw [Int.toNat_natCast]
      have htg := fun W (hW : Below w.heap.size w W) => rtag_c V (max (F j) V) size weight all j N _ b off c S F W (T.bel hW) hv hj (by have := hv.2.2.2 j hj; omega) (by have := hv.2.2.2 j hj; have := hv.2.1; omega)
      rw [hcc] at htg ⊢
      replace htg := Lib.hid htg
      replace T := Lib.hid T
      obtain ⟨R, hR⟩ : ∃ R, tagR V N S F (j : Int) cc (max (F j) V) = R := ⟨_, rfl⟩
      rw [hR]
      have htg2 : ∀ W, Below w.heap.size w W → Calls Try.prog 59 #[.agg #[.int .i64 V, .slice (some ⟨b, off, none⟩) N c], .int .i64 (j : Nat), .int .i64 (max (F j) V), .int .i64 size, .int .i64 weight, .int .i64 all] W (VirX R W) := fun W hW => by have q := htg.out W hW; rw [hR] at q; exact q
      clear hv htg hR hk hcc
      replace htg2 := Lib.hid htg2
      go_enter Try.func50, Try.ntmps50
      go_wp2_with fail
      generalize ((w.alloc (.cells #[.int .i64 V, .slice (some ⟨b, off, none⟩) N c] 50)).alloc (.cells #[.int .i64 0, .slice none 0 0] 50)) = W1 at bx0 rs0 hB0 hck ⊢
      refine hck.mono ?_
      rintro e w1 ⟨rfl, hb1⟩
      have bx1 := bx0.bel hb1
      have rs1 := rs0.bel hb1
      have hB1 := bNext hB0 hb1 (Nat.le_refl _)
      clear bx0 rs0 hB0 hck hb1
      have p0 := bx1.c 0 _ rfl
      have p1 := bx1.c 1 _ rfl
      have x1 := (T.out.bel hB1).c1 j hj
      replace rs1 := Lib.hid rs1
      go_upto_region 3 with fail
      refine wp_region_noPanic ?_
      refine Stg.wp_region_L [17] (Vr.SB w1) (by kernel_rfl) (fun _ => (Below.refl _ _).drew) (fun hHeld => ?_)
      refine Stg.wpAnyL_start (n' := 19) (l' := #[false, false, false, false, false, false, false, false, false, false, false, false, false, false, false, false, false, false, false]) (by kernel_rfl) (by kernel_rfl) ?_
      refine Stg.wpAnyL_take (i := 0) (v := ?_) [14, 15, 16, 17, 18] 0 rfl (by kernel_rfl) (by kernel_rfl) (by kernel_rfl) (by kernel_rfl) (by kernel_rfl) (fun _ _ _ h => h) (Or.inl ⟨by kernel_rfl, ?_⟩) (by assumption) ?_
      rotate_left
      · intro u hSu
        skip
        have sB := hSu rfl
        have y0 := cellB sB p0
        have y1 := cellB sB p1
        have y2 := cellB sB x1
        try simp only [List.getElem_toArray, List.getElem_cons_succ, List.getElem_cons_zero]
        go_simp
        try with_reducible rfl
      try simp only [Act.put, List.setIfInBounds_toArray, List.set_cons_zero, List.set_cons_succ]
      refine Stg.wpAnyL_take (i := 1) (v := ?_) [14, 15, 16, 17, 18] 0 rfl (by kernel_rfl) (by kernel_rfl) (by kernel_rfl) (by kernel_rfl) (by kernel_rfl) (fun _ _ _ h => h) (Or.inl ⟨by kernel_rfl, ?_⟩) (by assumption) ?_
      rotate_left
      · intro u hSu
        skip
        try simp only [List.getElem_toArray, List.getElem_cons_succ, List.getElem_cons_zero]
        go_simp
        try with_reducible rfl
      try simp only [Act.put, List.setIfInBounds_toArray, List.set_cons_zero, List.set_cons_succ]
      refine Stg.wpAnyL_take (i := 2) (v := ?_) [3, 5, 6, 7, 10, 14, 15, 16, 17, 18] 0 rfl (by kernel_rfl) (by kernel_rfl) (by kernel_rfl) (by kernel_rfl) (by kernel_rfl) (fun _ _ _ h => h) (Or.inl ⟨by kernel_rfl, ?_⟩) (by assumption) ?_
      rotate_left
      · intro u hSu
        skip
        try simp only [List.getElem_toArray, List.getElem_cons_succ, List.getElem_cons_zero]
        go_simp
        try with_reducible rfl
      try simp only [Act.put, List.setIfInBounds_toArray, List.set_cons_zero, List.set_cons_succ]
      refine Stg.wpAnyL_start (n' := 16) (l' := #[true, true, true, false, false, false, false, false, false, false, false, false, false, false, false, false, false, false, false]) (by kernel_rfl) (by kernel_rfl) ?_
      refine Stg.wpAnyL_take (i := 3) (v := ?_) [5, 6, 7, 10, 14, 15, 16, 17, 18] 0 rfl (by kernel_rfl) (by kernel_rfl) (by kernel_rfl) (by kernel_rfl) (by kernel_rfl) (fun _ _ _ h => h) (Or.inl ⟨by kernel_rfl, ?_⟩) (by assumption) ?_
      rotate_left
      · intro u hSu
        skip
        have sB := hSu rfl
        have y0 := cellB sB p0
        have y1 := cellB sB p1
        have y2 := cellB sB x1
        try simp only [List.getElem_toArray, List.getElem_cons_succ, List.getElem_cons_zero]
        go_simp
        try with_reducible rfl
      try simp only [Act.put, List.setIfInBounds_toArray, List.set_cons_zero, List.set_cons_succ]
      refine Stg.wpAnyL_take (i := 4) (v := ?_) [5, 6, 7, 10, 14, 15, 16, 17, 18] 0 rfl (by kernel_rfl) (by kernel_rfl) (by kernel_rfl) (by kernel_rfl) (by kernel_rfl) (fun _ _ _ h => h) (Or.inl ⟨by kernel_rfl, ?_⟩) (by assumption) ?_
      rotate_left
      · intro u hSu
        skip
        try simp only [List.getElem_toArray, List.getElem_cons_succ, List.getElem_cons_zero]
        go_simp
        try with_reducible rfl
      try simp only [Act.put, List.setIfInBounds_toArray, List.set_cons_zero, List.set_cons_succ]
      refine Stg.wpAnyL_take (i := 5) (v := ?_) [6, 7, 10, 14, 15, 16, 17, 18] 0 rfl (by kernel_rfl) (by kernel_rfl) (by kernel_rfl) (by kernel_rfl) (by kernel_rfl) (fun _ _ _ h => h) (Or.inl ⟨by kernel_rfl, ?_⟩) (by assumption) ?_
      rotate_left
      · intro u hSu
        skip
        try simp only [List.getElem_toArray, List.getElem_cons_succ, List.getElem_cons_zero]
        go_simp
        try with_reducible rfl
      try simp only [Act.put, List.setIfInBounds_toArray, List.set_cons_zero, List.set_cons_succ]
      refine Stg.wpAnyL_start (n' := 13) (l' := #[true, true, true, true, true, true, false, false, false, false, false, false, false, false, false, false, false, false, false]) (by kernel_rfl) (by kernel_rfl) ?_
      refine Stg.wpAnyL_take (i := 6) (v := ?_) [7, 10, 14, 15, 16, 17, 18] 0 rfl (by kernel_rfl) (by kernel_rfl) (by kernel_rfl) (by kernel_rfl) (by kernel_rfl) (fun _ _ _ h => h) (Or.inl ⟨by kernel_rfl, ?_⟩) (by assumption) ?_
      rotate_left
      · intro u hSu
        skip
        try simp only [List.getElem_toArray, List.getElem_cons_succ, List.getElem_cons_zero]
        go_simp
        try with_reducible rfl
      try simp only [Act.put, List.setIfInBounds_toArray, List.set_cons_zero, List.set_cons_succ]
      refine Stg.wpAnyL_take (i := 7) (v := ?_) [10, 14, 15, 16, 17, 18] 0 rfl (by kernel_rfl) (by kernel_rfl) (by kernel_rfl) (by kernel_rfl) (by kernel_rfl) (fun _ _ _ h => h) (Or.inl ⟨by kernel_rfl, ?_⟩) (by assumption) ?_
      rotate_left
      · intro u hSu
        skip
        have sB := hSu rfl
        have y0 := cellB sB p0
        have y1 := cellB sB p1
        have y2 := cellB sB x1
        try simp only [List.getElem_toArray, List.getElem_cons_succ, List.getElem_cons_zero]
        go_simp
        try with_reducible rfl
      try simp only [Act.put, List.setIfInBounds_toArray, List.set_cons_zero, List.set_cons_succ]
      refine Stg.wpAnyL_take (i := 8) (v := ?_) [9, 10, 14, 15, 16, 17, 18] 0 rfl (by kernel_rfl) (by kernel_rfl) (by kernel_rfl) (by kernel_rfl) (by kernel_rfl) (fun _ _ _ h => h) (Or.inl ⟨by kernel_rfl, ?_⟩) (by assumption) ?_
      rotate_left
      · intro u hSu
        skip
        try simp only [List.getElem_toArray, List.getElem_cons_succ, List.getElem_cons_zero]
        go_simp
        try with_reducible rfl
      try simp only [Act.put, List.setIfInBounds_toArray, List.set_cons_zero, List.set_cons_succ]
      refine Stg.wpAnyL_start (n' := 10) (l' := #[true, true, true, true, true, true, true, true, true, false, false, false, false, false, false, false, false, false, false]) (by kernel_rfl) (by kernel_rfl) ?_
      refine Stg.wpAnyL_take (i := 9) (v := ?_) [10, 14, 15, 16, 17, 18] 0 rfl (by kernel_rfl) (by kernel_rfl) (by kernel_rfl) (by kernel_rfl) (by kernel_rfl) (fun _ _ _ h => h) (Or.inl ⟨by kernel_rfl, ?_⟩) (by assumption) ?_
      rotate_left
      · intro u hSu
        skip
        have sB := hSu rfl
        have y0 := cellB sB p0
        have y1 := cellB sB p1
        have y2 := cellB sB x1
        try simp only [List.getElem_toArray, List.getElem_cons_succ, List.getElem_cons_zero]
        go_simp
        try with_reducible rfl
      try simp only [Act.put, List.setIfInBounds_toArray, List.set_cons_zero, List.set_cons_succ]
      refine Stg.wpAnyL_take (i := 10) (v := ?_) [14, 15, 16, 17, 18] 0 rfl (by kernel_rfl) (by kernel_rfl) (by kernel_rfl) (by kernel_rfl) (by kernel_rfl) (fun _ _ _ h => h) (Or.inl ⟨by kernel_rfl, ?_⟩) (by assumption) ?_
      rotate_left
      · intro u hSu
        skip
        try simp only [List.getElem_toArray, List.getElem_cons_succ, List.getElem_cons_zero]
        go_simp
        try with_reducible rfl
      try simp only [Act.put, List.setIfInBounds_toArray, List.set_cons_zero, List.set_cons_succ]
      refine Stg.wpAnyL_take (i := 11) (v := ?_) [14, 15, 16, 17, 18] 0 rfl (by kernel_rfl) (by kernel_rfl) (by kernel_rfl) (by kernel_rfl) (by kernel_rfl) (fun _ _ _ h => h) (Or.inl ⟨by kernel_rfl, ?_⟩) (by assumption) ?_
      rotate_left
      · intro u hSu
        skip
        try simp only [List.getElem_toArray, List.getElem_cons_succ, List.getElem_cons_zero]
        go_simp
        try with_reducible rfl
      try simp only [Act.put, List.setIfInBounds_toArray, List.set_cons_zero, List.set_cons_succ]
      refine Stg.wpAnyL_start (n' := 7) (l' := #[true, true, true, true, true, true, true, true, true, true, true, true, false, false, false, false, false, false, false]) (by kernel_rfl) (by kernel_rfl) ?_
      refine Stg.wpAnyL_take (i := 12) (v := ?_) [14, 15, 16, 17, 18] 0 rfl (by kernel_rfl) (by kernel_rfl) (by kernel_rfl) (by kernel_rfl) (by kernel_rfl) (fun _ _ _ h => h) (Or.inl ⟨by kernel_rfl, ?_⟩) (by assumption) ?_
      rotate_left
      · intro u hSu
        skip
        try simp only [List.getElem_toArray, List.getElem_cons_succ, List.getElem_cons_zero]
        go_simp
        try with_reducible rfl
      try simp only [Act.put, List.setIfInBounds_toArray, List.set_cons_zero, List.set_cons_succ]
      refine Stg.wpAnyL_take (i := 13) (v := ?_) [14, 15, 16, 17, 18] 0 rfl (by kernel_rfl) (by kernel_rfl) (by kernel_rfl) (by kernel_rfl) (by kernel_rfl) (fun _ _ _ h => h) (Or.inl ⟨by kernel_rfl, ?_⟩) (by assumption) ?_
      rotate_left
      · intro u hSu
        skip
        try simp only [List.getElem_toArray, List.getElem_cons_succ, List.getElem_cons_zero]
        go_simp
        try with_reducible rfl
      try simp only [Act.put, List.setIfInBounds_toArray, List.set_cons_zero, List.set_cons_succ]
      refine Stg.wpAnyL_one (i := 14) 0 rfl (by kernel_rfl) (by kernel_rfl) (fun K hK => ?_)
      try simp only [List.getElem_toArray, List.getElem_cons_succ, List.getElem_cons_zero]
      go_simp
      refine (htg2.out _ (bNext hB1 (hHeld rfl) (Nat.le_refl _))).mono ?_
      rintro e u1 ⟨a', g', c', rfl, T2, hg, hb1⟩
      refine hK.out _ _ ?_ (fun hHeld1 => ?_)
      · exact fun _ => bNext (hHeld rfl) hb1 (Nat.le_refl _)
      clear hK K
      try simp only [Act.put, List.setIfInBounds_toArray, List.set_cons_zero, List.set_cons_succ]
      refine Stg.wpAnyL_start (n' := 4) (l' := #[true, true, true, true, true, true, true, true, true, true, true, true, true, true, true, false, false, false, false]) (by kernel_rfl) (by kernel_rfl) ?_
      refine Stg.wpAnyL_take (i := 15) (v := ?_) [17, 18] 0 rfl (by kernel_rfl) (by kernel_rfl) (by kernel_rfl) (by kernel_rfl) (by kernel_rfl) (fun _ _ _ h => h) (Or.inl ⟨by kernel_rfl, ?_⟩) (by assumption) ?_
      rotate_left
      · intro u hSu
        skip
        try simp only [List.getElem_toArray, List.getElem_cons_succ, List.getElem_cons_zero]
        go_simp
        try with_reducible rfl
      try simp only [Act.put, List.setIfInBounds_toArray, List.set_cons_zero, List.set_cons_succ]
      refine Stg.wpAnyL_take (i := 16) (v := ?_) [17, 18] 0 rfl (by kernel_rfl) (by kernel_rfl) (by kernel_rfl) (by kernel_rfl) (by kernel_rfl) (fun _ _ _ h => h) (Or.inl ⟨by kernel_rfl, ?_⟩) (by assumption) ?_
      rotate_left
      · intro u hSu
        skip
        try simp only [List.getElem_toArray, List.getElem_cons_succ, List.getElem_cons_zero]
        go_simp
        try with_reducible rfl
      try simp only [Act.put, List.setIfInBounds_toArray, List.set_cons_zero, List.set_cons_succ]
      refine Stg.wpAnyL_one (i := 17) 1 rfl (by kernel_rfl) (by kernel_rfl) (fun K hK => ?_)
      have z0 := (rs1.out.bel (hHeld1 rfl)).c 0 _ rfl
      have z1 := (rs1.out.bel (hHeld1 rfl)).c 1 _ rfl
      have z2 := (rs1.out.bel (hHeld1 rfl)).f 0
      have z3 := (rs1.out.bel (hHeld1 rfl)).f 1
      try simp only [List.getElem_toArray, List.getElem_cons_succ, List.getElem_cons_zero]
      go_simp
      refine hK.out _ _ ?_ (fun hHeld2 => ?_)
      · exact fun h => absurd h (by decide)
      clear hK K
      try simp only [Act.put, List.setIfInBounds_toArray, List.set_cons_zero, List.set_cons_succ]
      refine Stg.wpAnyL_start (n' := 1) (l' := #[true, true, true, true, true, true, true, true, true, true, true, true, true, true, true, true, true, true, false]) (by kernel_rfl) (by kernel_rfl) ?_
      refine Stg.wpAnyL_take (i := 18) (v := ?_) [] 1 rfl (by kernel_rfl) (by kernel_rfl) (by kernel_rfl) (by kernel_rfl) (by kernel_rfl) (fun _ _ _ h => h) (Or.inl ⟨by kernel_rfl, ?_⟩) (by assumption) ?_
      rotate_left
      · intro u hSu
        skip
        try simp only [List.getElem_toArray, List.getElem_cons_succ, List.getElem_cons_zero]
        go_simp
        try with_reducible rfl
      try simp only [Act.put, List.setIfInBounds_toArray, List.set_cons_zero, List.set_cons_succ]
      refine Stg.wpAnyL_done (by kernel_rfl) ?_ _
      try simp only [List.getElem_toArray, List.getElem_cons_succ, List.getElem_cons_zero]
      try simp only [Act.put, List.setIfInBounds_toArray, List.set_cons_zero, List.set_cons_succ]
      refine NoPanic.normal ?_
      have hsz := (hHeld rfl).size
      have hl1 := rs1.out.l
      have hB9 := bNext hB1 (hHeld1 rfl) (Nat.le_refl _)
      go_wp2_with fail
      refine bodyPost_ret (v := .tuple #[.agg #[.int .i64 R.V, .slice a' R.N c'], .int .i64 R.x]) (by simp [results, Try.results50, go_sem, z0, z1]) rfl ⟨_, g', _, rfl, ?_, fun h0 => ?_, ?_⟩
      · exact (T2.set_other (fun h0 => by have := hg h0; omega) _).set_other (fun h0 => by have := hg h0; omega) _
      · have := hg h0; have := hB1.size; omega
      · exact (hB9.setCell (p := ⟨w.heap.size + 1, 0, none⟩) (by show _ ≤ w.heap.size + 1; omega) _).setCell (p := ⟨w.heap.size + 1, 1, none⟩) (by show _ ≤ w.heap.size + 1; omega) _
    · have hno : VirX ⟨0, 0, S, F, 2⟩ = VirX (tagR V N S F k (costI size weight all) (max (F k.toNat) V)) := by unfold tagR; rw [if_neg (fun q => hk ⟨q.2.1, q.2.2.1⟩)]
      rw [← hno]
      clear hno hcc hv T
      by_cases h0 : k < 0
      · have hd1 : decide (k < 0) = true := by simpa using h0
        clear hk
        go_enter Try.func50, Try.ntmps50
        go_wp2_with fail
        generalize ((w.alloc (.cells #[.int .i64 V, .slice a N c] 50)).alloc (.cells #[.int .i64 0, .slice none 0 0] 50)) = W1 at bx0 rs0 hB0 hck ⊢
        refine hck.mono ?_
        rintro e w1 ⟨rfl, hb1⟩
        have bx1 := bx0.bel hb1
        have rs1 := rs0.bel hb1
        have hB1 := bNext hB0 hb1 (Nat.le_refl _)
        have p1 := bx1.c 1 _ rfl
        have r0 := rs1.c 0 _ rfl
        have r1 := rs1.c 1 _ rfl
        have r2 := rs1.f 0
        have r3 := rs1.f 1
        go_wp2_with fail
        refine bodyPost_ret (v := .tuple #[.agg #[.int .i64 0, .slice none 0 0], .int .i64 2]) (by simp [results, Try.results50, go_sem, r0, r1]) rfl (virX_no S F 2 ⟨rfl, ?_⟩)
        exact (hB1.setCell (p := ⟨w.heap.size + 1, 0, none⟩) (by show _ ≤ w.heap.size + 1; omega) _).setCell (p := ⟨w.heap.size + 1, 1, none⟩) (by show _ ≤ w.heap.size + 1; omega) _
      · have hd1 : decide (k < 0) = false := by simpa using h0
        have hd2 : decide ((N : Int) ≤ k) = true := by simp; omega
        have hd3 : (N : Int) ≤ k := by omega
        clear hk
        go_enter Try.func50, Try.ntmps50
        go_wp2_with fail
        generalize ((w.alloc (.cells #[.int .i64 V, .slice a N c] 50)).alloc (.cells #[.int .i64 0, .slice none 0 0] 50)) = W1 at bx0 rs0 hB0 hck ⊢
        refine hck.mono ?_
        rintro e w1 ⟨rfl, hb1⟩
        have bx1 := bx0.bel hb1
        have rs1 := rs0.bel hb1
        have hB1 := bNext hB0 hb1 (Nat.le_refl _)
        have p1 := bx1.c 1 _ rfl
        have r0 := rs1.c 0 _ rfl
        have r1 := rs1.c 1 _ rfl
        have r2 := rs1.f 0
        have r3 := rs1.f 1
        go_wp2_with fail
        refine bodyPost_ret (v := .tuple #[.agg #[.int .i64 0, .slice none 0 0], .int .i64 2]) (by simp [results, Try.results50, go_sem, r0, r1]) rfl (virX_no S F 2 ⟨rfl, ?_⟩)
        exact (hB1.setCell (p := ⟨w.heap.size + 1, 0, none⟩) (by show _ ≤ w.heap.size + 1; omega) _).setCell (p := ⟨w.heap.size + 1, 1, none⟩) (by show _ ≤ w.heap.size + 1; omega) _
  · have hck := rcheck25_c false V a b off N c S F _ (T.bel hB0) hN ⟨(fun q => by cases q), fun q => absurd q hv⟩
    have hno : VirX ⟨0, 0, S, F, 2⟩ = VirX (tagR V N S F k (costI size weight all) (max (F k.toNat) V)) := by unfold tagR; rw [if_neg (fun q => hv q.1)]
    rw [← hno]
    clear hno hcc hv T
    go_enter Try.func50, Try.ntmps50
    go_wp2_with fail
    generalize ((w.alloc (.cells #[.int .i64 V, .slice a N c] 50)).alloc (.cells #[.int .i64 0, .slice none 0 0] 50)) = W1 at bx0 rs0 hB0 hck ⊢
    refine hck.mono ?_
    rintro e w1 ⟨rfl, hb1⟩
    have bx1 := bx0.bel hb1
    have rs1 := rs0.bel hb1
    have hB1 := bNext hB0 hb1 (Nat.le_refl _)
    have p1 := bx1.c 1 _ rfl
    have r0 := rs1.c 0 _ rfl
    have r1 := rs1.c 1 _ rfl
    have r2 := rs1.f 0
    have r3 := rs1.f 1
    go_wp2_with fail
    refine bodyPost_ret (v := .tuple #[.agg #[.int .i64 0, .slice none 0 0], .int .i64 2]) (by simp [results, Try.results50, go_sem, r0, r1]) rfl (virX_no S F 2 ⟨rfl, ?_⟩)
    exact (hB1.setCell (p := ⟨w.heap.size + 1, 0, none⟩) (by show _ ≤ w.heap.size + 1; omega) _).setCell (p := ⟨w.heap.size + 1, 1, none⟩) (by show _ ≤ w.heap.size + 1; omega) _

set_option maxRecDepth 100000 in
set_option maxHeartbeats 4000000 in
theorem rnext_c (V k size weight all : Int) (N : Nat) (a : Option Addr) (b off c : Nat) (S F : Nat → Int) (w : World) (T : TagsAt w a b off N S F) (hN : N ≤ 1000) :
    Calls Try.prog 49 #[.agg #[.int .i64 V, .slice a N c], .int .i64 k, .int .i64 size, .int .i64 weight, .int .i64 all] w (VirX (tagR V N S F k (costI size weight all) (F k.toNat)) w) := by
  obtain ⟨cc, hcc⟩ : ∃ cc, costI size weight all = cc := ⟨_, rfl⟩
  have hB0 : Below w.heap.size w ((w.alloc (.cells #[.int .i64 V, .slice a N c] 50)).alloc (.cells #[.int .i64 0, .slice none 0 0] 50)) := ((Below.refl _ _).alloc (Nat.le_refl _) _).alloc (by simp) _
  have bx0 := blk_two w (.int .i64 V) (.slice a N c) (.int .i64 0) (.slice none 0 0) 50 50
  have rs0 := blk_new (w.alloc (.cells #[.int .i64 V, .slice a N c] 50)) (.int .i64 0) (.slice none 0 0) 50
  rw [World.size_alloc] at rs0
  have hNi : (N : Int) ≤ 1000 := by omega
  by_cases hv : VOk V N S F
  · have hck := rcheck25_c true V a b off N c S F _ (T.bel hB0) hN ⟨fun _ => hv, fun _ => rfl⟩
    by_cases hk : 0 ≤ k ∧ k < (N : Int)
    · obtain ⟨j, rfl⟩ : ∃ j : Nat, k = (j : Int) := ⟨k.toNat, by omega⟩
      have hj : j < N := by omega
      have hkz : (j : Int) < (N : Int) := by omega
      have hd1 : decide ((j : Int) < 0) = false := by simp
      have hd2 : decide (N ≤ j) = false := by simp; omega
      obtain rfl := T.ha (by omega)
      rw [Int.toNat_natCast]
      have htg := fun W (hW : Below w.heap.size w W) => rtag_c V (F j) size weight all j N _ b off c S F W (T.bel hW) hv hj (by have := hv.2.2.2 j hj; omega) (by have := hv.2.2.2 j hj; have := hv.2.1; omega)
      rw [hcc] at htg ⊢
      replace htg := Lib.hid htg
      replace T := Lib.hid T
      obtain ⟨R, hR⟩ : ∃ R, tagR V N S F (j : Int) cc (F j) = R := ⟨_, rfl⟩
      rw [hR]
      have htg2 : ∀ W, Below w.heap.size w W → Calls Try.prog 59 #[.agg #[.int .i64 V, .slice (some ⟨b, off, none⟩) N c], .int .i64 (j : Nat), .int .i64 (F j), .int .i64 size, .int .i64 weight, .int .i64 all] W (VirX R W) := fun W hW => by have q := htg.out W hW; rw [hR] at q; exact q
      clear hv htg hR hk hcc
      replace htg2 := Lib.hid htg2
      go_enter Try.func49, Try.ntmps49
      go_wp2_with fail
      generalize ((w.alloc (.cells #[.int .i64 V, .slice (some ⟨b, off, none⟩) N c] 50)).alloc (.cells #[.int .i64 0, .slice none 0 0] 50)) = W1 at bx0 rs0 hB0 hck ⊢
      refine hck.mono ?_
      rintro e w1 ⟨rfl, hb1⟩
      have bx1 := bx0.bel hb1
      have rs1 := rs0.bel hb1
      have hB1 := bNext hB0 hb1 (Nat.le_refl _)
      clear bx0 rs0 hB0 hck hb1
      have p0 := bx1.c 0 _ rfl
      have p1 := bx1.c 1 _ rfl
      have x1 := (T.out.bel hB1).c1 j hj
      replace rs1 := Lib.hid rs1
      go_upto_region 3 with fail
      refine wp_region_noPanic ?_
      refine Stg.wp_region_L [14] (Vr.SB w1) (by kernel_rfl) (fun _ => (Below.refl _ _).drew) (fun hHeld => ?_)
      refine Stg.wpAnyL_start (n' := 16) (l' := #[false, false, false, false, false, false, false, false, false, false, false, false, false, false, false, false]) (by kernel_rfl) (by kernel_rfl) ?_
      refine Stg.wpAnyL_take (i := 0) (v := ?_) [11, 12, 13, 14, 15] 0 rfl (by kernel_rfl) (by kernel_rfl) (by kernel_rfl) (by kernel_rfl) (by kernel_rfl) (fun _ _ _ h => h) (Or.inl ⟨by kernel_rfl, ?_⟩) (by assumption) ?_
      rotate_left
      · intro u hSu
        skip
        have sB := hSu rfl
        have y0 := cellB sB p0
        have y1 := cellB sB p1
        have y2 := cellB sB x1
        try simp only [List.getElem_toArray, List.getElem_cons_succ, List.getElem_cons_zero]
        go_simp
        try with_reducible rfl
      try simp only [Act.put, List.setIfInBounds_toArray, List.set_cons_zero, List.set_cons_succ]
      refine Stg.wpAnyL_take (i := 1) (v := ?_) [11, 12, 13, 14, 15] 0 rfl (by kernel_rfl) (by kernel_rfl) (by kernel_rfl) (by kernel_rfl) (by kernel_rfl) (fun _ _ _ h => h) (Or.inl ⟨by kernel_rfl, ?_⟩) (by assumption) ?_
      rotate_left
      · intro u hSu
        skip
        try simp only [List.getElem_toArray, List.getElem_cons_succ, List.getElem_cons_zero]
        go_simp
        try with_reducible rfl
      try simp only [Act.put, List.setIfInBounds_toArray, List.set_cons_zero, List.set_cons_succ]
      refine Stg.wpAnyL_take (i := 2) (v := ?_) [3, 5, 6, 7, 11, 12, 13, 14, 15] 0 rfl (by kernel_rfl) (by kernel_rfl) (by kernel_rfl) (by kernel_rfl) (by kernel_rfl) (fun _ _ _ h => h) (Or.inl ⟨by kernel_rfl, ?_⟩) (by assumption) ?_
      rotate_left
      · intro u hSu
        skip
        try simp only [List.getElem_toArray, List.getElem_cons_succ, List.getElem_cons_zero]
        go_simp
        try with_reducible rfl
      try simp only [Act.put, List.setIfInBounds_toArray, List.set_cons_zero, List.set_cons_succ]
      refine Stg.wpAnyL_start (n' := 13) (l' := #[true, true, true, false, false, false, false, false, false, false, false, false, false, false, false, false]) (by kernel_rfl) (by kernel_rfl) ?_
      refine Stg.wpAnyL_take (i := 3) (v := ?_) [5, 6, 7, 11, 12, 13, 14, 15] 0 rfl (by kernel_rfl) (by kernel_rfl) (by kernel_rfl) (by kernel_rfl) (by kernel_rfl) (fun _ _ _ h => h) (Or.inl ⟨by kernel_rfl, ?_⟩) (by assumption) ?_
      rotate_left
      · intro u hSu
        skip
        have sB := hSu rfl
        have y0 := cellB sB p0
        have y1 := cellB sB p1
        have y2 := cellB sB x1
        try simp only [List.getElem_toArray, List.getElem_cons_succ, List.getElem_cons_zero]
        go_simp
        try with_reducible rfl
      try simp only [Act.put, List.setIfInBounds_toArray, List.set_cons_zero, List.set_cons_succ]
      refine Stg.wpAnyL_take (i := 4) (v := ?_) [5, 6, 7, 11, 12, 13, 14, 15] 0 rfl (by kernel_rfl) (by kernel_rfl) (by kernel_rfl) (by kernel_rfl) (by kernel_rfl) (fun _ _ _ h => h) (Or.inl ⟨by kernel_rfl, ?_⟩) (by assumption) ?_
      rotate_left
      · intro u hSu
        skip
        try simp only [List.getElem_toArray, List.getElem_cons_succ, List.getElem_cons_zero]
        go_simp
        try with_reducible rfl
      try simp only [Act.put, List.setIfInBounds_toArray, List.set_cons_zero, List.set_cons_succ]
      refine Stg.wpAnyL_take (i := 5) (v := ?_) [6, 7, 11, 12, 13, 14, 15] 0 rfl (by kernel_rfl) (by kernel_rfl) (by kernel_rfl) (by kernel_rfl) (by kernel_rfl) (fun _ _ _ h => h) (Or.inl ⟨by kernel_rfl, ?_⟩) (by assumption) ?_
      rotate_left
      · intro u hSu
        skip
        try simp only [List.getElem_toArray, List.getElem_cons_succ, List.getElem_cons_zero]
        go_simp
        try with_reducible rfl
      try simp only [Act.put, List.setIfInBounds_toArray, List.set_cons_zero, List.set_cons_succ]
      refine Stg.wpAnyL_start (n' := 10) (l' := #[true, true, true, true, true, true, false, false, false, false, false, false, false, false, false, false]) (by kernel_rfl) (by kernel_rfl) ?_
      refine Stg.wpAnyL_take (i := 6) (v := ?_) [7, 11, 12, 13, 14, 15] 0 rfl (by kernel_rfl) (by kernel_rfl) (by kernel_rfl) (by kernel_rfl) (by kernel_rfl) (fun _ _ _ h => h) (Or.inl ⟨by kernel_rfl, ?_⟩) (by assumption) ?_
      rotate_left
      · intro u hSu
        skip
        try simp only [List.getElem_toArray, List.getElem_cons_succ, List.getElem_cons_zero]
        go_simp
        try with_reducible rfl
      try simp only [Act.put, List.setIfInBounds_toArray, List.set_cons_zero, List.set_cons_succ]
      refine Stg.wpAnyL_take (i := 7) (v := ?_) [11, 12, 13, 14, 15] 0 rfl (by kernel_rfl) (by kernel_rfl) (by kernel_rfl) (by kernel_rfl) (by kernel_rfl) (fun _ _ _ h => h) (Or.inl ⟨by kernel_rfl, ?_⟩) (by assumption) ?_
      rotate_left
      · intro u hSu
        skip
        have sB := hSu rfl
        have y0 := cellB sB p0
        have y1 := cellB sB p1
        have y2 := cellB sB x1
        try simp only [List.getElem_toArray, List.getElem_cons_succ, List.getElem_cons_zero]
        go_simp
        try with_reducible rfl
      try simp only [Act.put, List.setIfInBounds_toArray, List.set_cons_zero, List.set_cons_succ]
      refine Stg.wpAnyL_take (i := 8) (v := ?_) [11, 12, 13, 14, 15] 0 rfl (by kernel_rfl) (by kernel_rfl) (by kernel_rfl) (by kernel_rfl) (by kernel_rfl) (fun _ _ _ h => h) (Or.inl ⟨by kernel_rfl, ?_⟩) (by assumption) ?_
      rotate_left
      · intro u hSu
        skip
        try simp only [List.getElem_toArray, List.getElem_cons_succ, List.getElem_cons_zero]
        go_simp
        try with_reducible rfl
      try simp only [Act.put, List.setIfInBounds_toArray, List.set_cons_zero, List.set_cons_succ]
      refine Stg.wpAnyL_start (n' := 7) (l' := #[true, true, true, true, true, true, true, true, true, false, false, false, false, false, false, false]) (by kernel_rfl) (by kernel_rfl) ?_
      refine Stg.wpAnyL_take (i := 9) (v := ?_) [11, 12, 13, 14, 15] 0 rfl (by kernel_rfl) (by kernel_rfl) (by kernel_rfl) (by kernel_rfl) (by kernel_rfl) (fun _ _ _ h => h) (Or.inl ⟨by kernel_rfl, ?_⟩) (by assumption) ?_
      rotate_left
      · intro u hSu
        skip
        try simp only [List.getElem_toArray, List.getElem_cons_succ, List.getElem_cons_zero]
        go_simp
        try with_reducible rfl
      try simp only [Act.put, List.setIfInBounds_toArray, List.set_cons_zero, List.set_cons_succ]
      refine Stg.wpAnyL_take (i := 10) (v := ?_) [11, 12, 13, 14, 15] 0 rfl (by kernel_rfl) (by kernel_rfl) (by kernel_rfl) (by kernel_rfl) (by kernel_rfl) (fun _ _ _ h => h) (Or.inl ⟨by kernel_rfl, ?_⟩) (by assumption) ?_
      rotate_left
      · intro u hSu
        skip
        try simp only [List.getElem_toArray, List.getElem_cons_succ, List.getElem_cons_zero]
        go_simp
        try with_reducible rfl
      try simp only [Act.put, List.setIfInBounds_toArray, List.set_cons_zero, List.set_cons_succ]
      refine Stg.wpAnyL_one (i := 11) 0 rfl (by kernel_rfl) (by kernel_rfl) (fun K hK => ?_)
      try simp only [List.getElem_toArray, List.getElem_cons_succ, List.getElem_cons_zero]
      go_simp
      refine (htg2.out _ (bNext hB1 (hHeld rfl) (Nat.le_refl _))).mono ?_
      rintro e u1 ⟨a', g', c', rfl, T2, hg, hb1⟩
      refine hK.out _ _ ?_ (fun hHeld1 => ?_)
      · exact fun _ => bNext (hHeld rfl) hb1 (Nat.le_refl _)
      clear hK K
      try simp only [Act.put, List.setIfInBounds_toArray, List.set_cons_zero, List.set_cons_succ]
      refine Stg.wpAnyL_start (n' := 4) (l' := #[true, true, true, true, true, true, true, true, true, true, true, true, false, false, false, false]) (by kernel_rfl) (by kernel_rfl) ?_
      refine Stg.wpAnyL_take (i := 12) (v := ?_) [14, 15] 0 rfl (by kernel_rfl) (by kernel_rfl) (by kernel_rfl) (by kernel_rfl) (by kernel_rfl) (fun _ _ _ h => h) (Or.inl ⟨by kernel_rfl, ?_⟩) (by assumption) ?_
      rotate_left
      · intro u hSu
        skip
        try simp only [List.getElem_toArray, List.getElem_cons_succ, List.getElem_cons_zero]
        go_simp
        try with_reducible rfl
      try simp only [Act.put, List.setIfInBounds_toArray, List.set_cons_zero, List.set_cons_succ]
      refine Stg.wpAnyL_take (i := 13) (v := ?_) [14, 15] 0 rfl (by kernel_rfl) (by kernel_rfl) (by kernel_rfl) (by kernel_rfl) (by kernel_rfl) (fun _ _ _ h => h) (Or.inl ⟨by kernel_rfl, ?_⟩) (by assumption) ?_
      rotate_left
      · intro u hSu
        skip
        try simp only [List.getElem_toArray, List.getElem_cons_succ, List.getElem_cons_zero]
        go_simp
        try with_reducible rfl
      try simp only [Act.put, List.setIfInBounds_toArray, List.set_cons_zero, List.set_cons_succ]
      refine Stg.wpAnyL_one (i := 14) 1 rfl (by kernel_rfl) (by kernel_rfl) (fun K hK => ?_)
      have z0 := (rs1.out.bel (hHeld1 rfl)).c 0 _ rfl
      have z1 := (rs1.out.bel (hHeld1 rfl)).c 1 _ rfl
      have z2 := (rs1.out.bel (hHeld1 rfl)).f 0
      have z3 := (rs1.out.bel (hHeld1 rfl)).f 1
      try simp only [List.getElem_toArray, List.getElem_cons_succ, List.getElem_cons_zero]
      go_simp
      refine hK.out _ _ ?_ (fun hHeld2 => ?_)
      · exact fun h => absurd h (by decide)
      clear hK K
      try simp only [Act.put, List.setIfInBounds_toArray, List.set_cons_zero, List.set_cons_succ]
      refine Stg.wpAnyL_start (n' := 1) (l' := #[true, true, true, true, true, true, true, true, true, true, true, true, true, true, true, false]) (by kernel_rfl) (by kernel_rfl) ?_
      refine Stg.wpAnyL_take (i := 15) (v := ?_) [] 1 rfl (by kernel_rfl) (by kernel_rfl) (by kernel_rfl) (by kernel_rfl) (by kernel_rfl) (fun _ _ _ h => h) (Or.inl ⟨by kernel_rfl, ?_⟩) (by assumption) ?_
      rotate_left
      · intro u hSu
        skip
        try simp only [List.getElem_toArray, List.getElem_cons_succ, List.getElem_cons_zero]
        go_simp
        try with_reducible rfl
      try simp only [Act.put, List.setIfInBounds_toArray, List.set_cons_zero, List.set_cons_succ]
      refine Stg.wpAnyL_done (by kernel_rfl) ?_ _
      try simp only [List.getElem_toArray, List.getElem_cons_succ, List.getElem_cons_zero]
      try simp only [Act.put, List.setIfInBounds_toArray, List.set_cons_zero, List.set_cons_succ]
      refine NoPanic.normal ?_
      have hsz := (hHeld rfl).size
      have hl1 := rs1.out.l
      have hB9 := bNext hB1 (hHeld1 rfl) (Nat.le_refl _)
      go_wp2_with fail
      refine bodyPost_ret (v := .tuple #[.agg #[.int .i64 R.V, .slice a' R.N c'], .int .i64 R.x]) (by simp [results, Try.results49, go_sem, z0, z1]) rfl ⟨_, g', _, rfl, ?_, fun h0 => ?_, ?_⟩
      · exact (T2.set_other (fun h0 => by have := hg h0; omega) _).set_other (fun h0 => by have := hg h0; omega) _
      · have := hg h0; have := hB1.size; omega
      · exact (hB9.setCell (p := ⟨w.heap.size + 1, 0, none⟩) (by show _ ≤ w.heap.size + 1; omega) _).setCell (p := ⟨w.heap.size + 1, 1, none⟩) (by show _ ≤ w.heap.size + 1; omega) _
    · have hno : VirX ⟨0, 0, S, F, 2⟩ = VirX (tagR V N S F k (costI size weight all) (F k.toNat)) := by unfold tagR; rw [if_neg (fun q => hk ⟨q.2.1, q.2.2.1⟩)]
      rw [← hno]
      clear hno hcc hv T
      by_cases h0 : k < 0
      · have hd1 : decide (k < 0) = true := by simpa using h0
        clear hk
        go_enter Try.func49, Try.ntmps49
        go_wp2_with fail
        generalize ((w.alloc (.cells #[.int .i64 V, .slice a N c] 50)).alloc (.cells #[.int .i64 0, .slice none 0 0] 50)) = W1 at bx0 rs0 hB0 hck ⊢
        refine hck.mono ?_
        rintro e w1 ⟨rfl, hb1⟩
        have bx1 := bx0.bel hb1
        have rs1 := rs0.bel hb1
        have hB1 := bNext hB0 hb1 (Nat.le_refl _)
        have p1 := bx1.c 1 _ rfl
        have r0 := rs1.c 0 _ rfl
        have r1 := rs1.c 1 _ rfl
        have r2 := rs1.f 0
        have r3 := rs1.f 1
        go_wp2_with fail
        refine bodyPost_ret (v := .tuple #[.agg #[.int .i64 0, .slice none 0 0], .int .i64 2]) (by simp [results, Try.results49, go_sem, r0, r1]) rfl (virX_no S F 2 ⟨rfl, ?_⟩)
        exact (hB1.setCell (p := ⟨w.heap.size + 1, 0, none⟩) (by show _ ≤ w.heap.size + 1; omega) _).setCell (p := ⟨w.heap.size + 1, 1, none⟩) (by show _ ≤ w.heap.size + 1; omega) _
      · have hd1 : decide (k < 0) = false := by simpa using h0
        have hd2 : decide ((N : Int) ≤ k) = true := by simp; omega
        have hd3 : (N : Int) ≤ k := by omega
        clear hk
        go_enter Try.func49, Try.ntmps49
        go_wp2_with fail
        generalize ((w.alloc (.cells #[.int .i64 V, .slice a N c] 50)).alloc (.cells #[.int .i64 0, .slice none 0 0] 50)) = W1 at bx0 rs0 hB0 hck ⊢
        refine hck.mono ?_
        rintro e w1 ⟨rfl, hb1⟩
        have bx1 := bx0.bel hb1
        have rs1 := rs0.bel hb1
        have hB1 := bNext hB0 hb1 (Nat.le_refl _)
        have p1 := bx1.c 1 _ rfl
        have r0 := rs1.c 0 _ rfl
        have r1 := rs1.c 1 _ rfl
        have r2 := rs1.f 0
        have r3 := rs1.f 1
        go_wp2_with fail
        refine bodyPost_ret (v := .tuple #[.agg #[.int .i64 0, .slice none 0 0], .int .i64 2]) (by simp [results, Try.results49, go_sem, r0, r1]) rfl (virX_no S F 2 ⟨rfl, ?_⟩)
        exact (hB1.setCell (p := ⟨w.heap.size + 1, 0, none⟩) (by show _ ≤ w.heap.size + 1; omega) _).setCell (p := ⟨w.heap.size + 1, 1, none⟩) (by show _ ≤ w.heap.size + 1; omega) _
  · have hck := rcheck25_c false V a b off N c S F _ (T.bel hB0) hN ⟨(fun q => by cases q), fun q => absurd q hv⟩
    have hno : VirX ⟨0, 0, S, F, 2⟩ = VirX (tagR V N S F k (costI size weight all) (F k.toNat)) := by unfold tagR; rw [if_neg (fun q => hv q.1)]
    rw [← hno]
    clear hno hcc hv T
    go_enter Try.func49, Try.ntmps49
    go_wp2_with fail
    generalize ((w.alloc (.cells #[.int .i64 V, .slice a N c] 50)).alloc (.cells #[.int .i64 0, .slice none 0 0] 50)) = W1 at bx0 rs0 hB0 hck ⊢
    refine hck.mono ?_
    rintro e w1 ⟨rfl, hb1⟩
    have bx1 := bx0.bel hb1
    have rs1 := rs0.bel hb1
    have hB1 := bNext hB0 hb1 (Nat.le_refl _)
    have p1 := bx1.c 1 _ rfl
    have r0 := rs1.c 0 _ rfl
    have r1 := rs1.c 1 _ rfl
    have r2 := rs1.f 0
    have r3 := rs1.f 1
    go_wp2_with fail
    refine bodyPost_ret (v := .tuple #[.agg #[.int .i64 0, .slice none 0 0], .int .i64 2]) (by simp [results, Try.results49, go_sem, r0, r1]) rfl (virX_no S F 2 ⟨rfl, ?_⟩)
    exact (hB1.setCell (p := ⟨w.heap.size + 1, 0, none⟩) (by show _ ≤ w.heap.size + 1; omega) _).setCell (p := ⟨w.heap.size + 1, 1, none⟩) (by show _ ≤ w.heap.size + 1; omega) _
end Go.Proofs.Ytbbcongfaoopcaa
