/- The contract of the law's own 'wakes' of layer 10. -/
import Derived.Test.YthahlfabcjnkhaaAns10
import Derived.Test.YthahlfabcjnkhaaHeld
import Derived.Deep.RegionHeld3
import Derived.Deep.DeepCutAuto
namespace Go.Proofs.Ythahlfabcjnkhaa
open Go.ChangeShapes Go.WideShapes Go.ChangeAt Go.RowKit
set_option linter.unusedVariables false
set_option linter.unusedSimpArgs false
open Rw Vt R10

/-- A state of a region that is reached on several ways is shown once. -/
theorem wpAnyH_share {P : Program} {md : Region.Mode} {ops : Array Oper} {Q : Exit → Act → World → Prop} {S : World → Prop} {n : Nat} {listed0 : Array Bool} {a0 : Act} {v0 W : World}
    (fuel : Nat) (listed : Array Bool) (f : Act → Nat → Nat → Act) (xh xm : Option Obj)
    (T : ∀ (v : World) (kh km : Nat), St W v kh km xh xm → wpAnyH P md ops Q S fuel listed (f a0 kh km) v)
    (main : (∀ (v : World) (kh km : Nat), St W v kh km xh xm → wpAnyH P md ops Q S fuel listed (f a0 kh km) v) → wpAnyH P md ops Q S n listed0 a0 v0) : wpAnyH P md ops Q S n listed0 a0 v0 := main T

theorem wpAnyH_start {P : Program} {md : Region.Mode} {ops : Array Oper} {Q : Exit → Act → World → Prop} {S : World → Prop} {n n' : Nat} {l l' : Array Bool} {a0 : Act} {v0 : World}
    (h1 : n = n') (h2 : l = l') (h : wpAnyH P md ops Q S n' l' a0 v0) : wpAnyH P md ops Q S n l a0 v0 := by subst h1; subst h2; exact h

set_option maxRecDepth 100000 in
set_option maxHeartbeats 3200000 in
theorem wakes10_c (w : World) : Calls Try.prog 33 #[] w fun e w' => e = .returned (.bool true) ∧ Below w.heap.size w w' := by
  go_enter Try.func33, Try.ntmps33
  go_wp2_with fail
  refine (rows10_c _ w.heap.size 5 5 tm5 (by simp) (by omega) (by omega) (fun i hi => ?_)).mono ?_
  · have : i = 0 ∨ i = 1 ∨ i = 2 ∨ i = 3 ∨ i = 4 := by omega
    rcases this with rfl | rfl | rfl | rfl | rfl <;> go_simp <;> simp [tm5]
  rintro e w1 ⟨a, c, rfl, hr1, hb1⟩
  have hB1 := belowNext ((Below.refl w.heap.size w).alloc (Nat.le_refl _) _) hb1 (by simp)
  obtain ⟨W, hW⟩ : ∃ W, RowKit.Hid (W = w1.alloc (.cells #[.int .i64 0, .int .i64 0, .slice a 5 c] 56)) := ⟨_, Lib.hid rfl⟩
  have hWb : Below w1.heap.size w1 W := by rw [hW.out]; exact (Below.refl _ _).alloc (Nat.le_refl _) _
  have hWs : W.heap.size = w1.heap.size + 1 := by rw [hW.out]; simp
  have hr2 := Lib.hid (RAt.below hr1 hWb)
  have hBW := belowNext hB1 hWb (by have := hB1.size; omega)
  obtain ⟨k0, k1, k2⟩ := box_cells w1 (.int .i64 0) (.int .i64 0) (.slice a 5 c) 56
  rw [← hW.out] at k0 k1 k2
  clear hr1 hb1 hB1
  unfold R.val
  go_upto_region 2 with fail
  rw [← hW.out]
  go_cut [2, 3, 4] (fun s2 s3 s4 wx => ∃ g h : Nat, s2 = .pointer (some ⟨g, 0, none⟩) ∧ s3 = .pointer (some ⟨h, 0, none⟩) ∧ s4 = .int .i64 0 ∧ wx.cell? ⟨g, 1, none⟩ = some (.int .i64 2) ∧ wx.cell? ⟨h, 7, none⟩ = some (.bool true) ∧ Below W.heap.size W wx)
  case first =>
    refine wp_region_noPanic ?_
    refine wp_region_held_drew (S := fun u => Below W.heap.size W u) (by kernel_rfl) ((Below.refl _ _).drew) (fun hHeld => ?_)
    refine wpAnyH_start (n' := 13) (l' := #[false, false, false, false, false, false, false, false, false, false, false, false, false]) (by kernel_rfl) (by kernel_rfl) ?_
    have st : St W W.drew 0 0 none none := St.start 0 0
    generalize W.drew = v at st hHeld ⊢
    refine wpAnyH_share 3 #[true, true, true, true, true, true, true, true, true, true, false, false, false] (fun a0 kh km => (Act.put (Act.put (Act.put (Act.put (Act.put (Act.put (Act.put (Act.put (Act.put (Act.put a0 (some 14) (.agg #[.int .i64 3, .int .i64 0, .int .i64 0])) (some 15) (.agg #[.int .i64 0, .int .i64 0, .slice a 5 c])) (some 16) ((askMsg 3 5 2).val)) (some 17) (.tuple #[.agg #[.int .i64 3, .int .i64 2, .int .i64 0], .agg #[.int .i8 2, .int .i64 1, .int .i64 2, .int .i64 3, .int .i64 0, .int .i64 0, .int .i64 0, .bool true, .slice none 0 0, .int .i64 0, .int .i64 0, .int .u8 0, .slice none 0 0, .slice none 0 0], .int .i64 0])) (some 13) (.tuple #[.agg #[.int .i64 3, .int .i64 2, .int .i64 0], .agg #[.int .i8 2, .int .i64 1, .int .i64 2, .int .i64 3, .int .i64 0, .int .i64 0, .int .i64 0, .bool true, .slice none 0 0, .int .i64 0, .int .i64 0, .int .u8 0, .slice none 0 0, .slice none 0 0], .int .i64 0])) (some 18) (.agg #[.int .i64 3, .int .i64 2, .int .i64 0])) (some 19) (.agg #[.int .i8 2, .int .i64 1, .int .i64 2, .int .i64 3, .int .i64 0, .int .i64 0, .int .i64 0, .bool true, .slice none 0 0, .int .i64 0, .int .i64 0, .int .u8 0, .slice none 0 0, .slice none 0 0])) (some 20) (.int .i64 0)) (some 2) (.pointer (some ⟨kh, 0, none⟩))) (some 3) (.pointer (some ⟨km, 0, none⟩)))) (some (.cells #[.int .i64 0, .int .i64 0, .int .i64 0] 53 (0, 0))) (some (.cells #[.int .i8 0, .int .i64 0, .int .i64 0, .int .i64 0, .int .i64 0, .int .i64 0, .int .i64 0, .bool false, .slice none 0 0, .int .i64 0, .int .i64 0, .int .u8 0, .slice none 0 0, .slice none 0 0] 61 (0, 0))) (W := W) ?_ (fun T2389 => ?_)
    · intro v kh km st
      have hHeld := st.b
      simp only [Act.put, List.setIfInBounds_toArray, List.set_cons_zero, List.set_cons_succ]
      refine wpAnyH_ready (rs := [10]) (by kernel_rfl) (by simp) ?_
      refine AllReadyH.cons rfl (fun K hK => ?_) AllReadyH.nil
      rw [if_pos (by rfl)]
      refine wp_store_row _ _ _ rfl _ _ rfl rfl _ _ (st.h _ rfl).2 (by kernel_rfl) rfl (by simp [Value.oneCell']) ?_
      have st := st.storeH (#[.int .i64 3, .int .i64 2, .int .i64 0])
      refine hK.out _ _ st.b (fun hHeld => ?_)
      clear hK K
      try simp only [Act.put, List.setIfInBounds_toArray, List.set_cons_zero, List.set_cons_succ]
      refine wpAnyH_ready (rs := [11]) (by kernel_rfl) (by simp) ?_
      refine AllReadyH.cons rfl (fun K hK => ?_) AllReadyH.nil
      rw [if_pos (by rfl)]
      refine wp_store_row _ _ _ rfl _ _ rfl rfl _ _ (st.m _ rfl).2 (by kernel_rfl) rfl (by simp [Value.oneCell']) ?_
      have st := st.storeM (#[.int .i8 2, .int .i64 1, .int .i64 2, .int .i64 3, .int .i64 0, .int .i64 0, .int .i64 0, .bool true, .slice none 0 0, .int .i64 0, .int .i64 0, .int .u8 0, .slice none 0 0, .slice none 0 0])
      refine hK.out _ _ st.b (fun hHeld => ?_)
      clear hK K
      try simp only [Act.put, List.setIfInBounds_toArray, List.set_cons_zero, List.set_cons_succ]
      refine wpAnyH_take (i := 12) (v := ?_) rfl (by kernel_rfl) (by kernel_rfl) (by kernel_rfl) (fun _ _ _ h => h) (Or.inl ⟨by rfl, ?_⟩) (by assumption) ?_
      rotate_left
      · intro w hSw
        go_simp
        try with_reducible rfl
      try simp only [Act.put, List.setIfInBounds_toArray, List.set_cons_zero, List.set_cons_succ]
      refine wpAnyH_done (by kernel_rfl) ?_ _
      try simp only [List.getElem_toArray, List.getElem_cons_succ, List.getElem_cons_zero]
      try simp only [Act.put, List.setIfInBounds_toArray, List.set_cons_zero, List.set_cons_succ]
      refine NoPanic.normal ?_
      go_wp2_with fail
      go_meet
      exact ⟨kh, km, rfl, rfl, rfl, (cell_of_row _ kh 1 _ _ _ (st.h _ rfl).2).trans rfl, (cell_of_row _ km 7 _ _ _ (st.m _ rfl).2).trans rfl, st.b⟩
    simp only [Act.put, List.setIfInBounds_toArray, List.set_cons_zero, List.set_cons_succ] at T2389
    refine wpAnyH_share 4 #[true, true, true, true, true, true, true, true, true, false, false, false, false] (fun a0 kh km => (Act.put (Act.put (Act.put (Act.put (Act.put (Act.put (Act.put (Act.put (Act.put a0 (some 14) (.agg #[.int .i64 3, .int .i64 0, .int .i64 0])) (some 15) (.agg #[.int .i64 0, .int .i64 0, .slice a 5 c])) (some 16) ((askMsg 3 5 2).val)) (some 17) (.tuple #[.agg #[.int .i64 3, .int .i64 2, .int .i64 0], .agg #[.int .i8 2, .int .i64 1, .int .i64 2, .int .i64 3, .int .i64 0, .int .i64 0, .int .i64 0, .bool true, .slice none 0 0, .int .i64 0, .int .i64 0, .int .u8 0, .slice none 0 0, .slice none 0 0], .int .i64 0])) (some 13) (.tuple #[.agg #[.int .i64 3, .int .i64 2, .int .i64 0], .agg #[.int .i8 2, .int .i64 1, .int .i64 2, .int .i64 3, .int .i64 0, .int .i64 0, .int .i64 0, .bool true, .slice none 0 0, .int .i64 0, .int .i64 0, .int .u8 0, .slice none 0 0, .slice none 0 0], .int .i64 0])) (some 18) (.agg #[.int .i64 3, .int .i64 2, .int .i64 0])) (some 19) (.agg #[.int .i8 2, .int .i64 1, .int .i64 2, .int .i64 3, .int .i64 0, .int .i64 0, .int .i64 0, .bool true, .slice none 0 0, .int .i64 0, .int .i64 0, .int .u8 0, .slice none 0 0, .slice none 0 0])) (some 20) (.int .i64 0)) (some 2) (.pointer (some ⟨kh, 0, none⟩)))) (some (.cells #[.int .i64 0, .int .i64 0, .int .i64 0] 53 (0, 0))) none (W := W) ?_ (fun T238 => ?_)
    · intro v kh km st
      have hHeld := st.b
      simp only [Act.put, List.setIfInBounds_toArray, List.set_cons_zero, List.set_cons_succ]
      refine wpAnyH_ready (rs := [9]) (by kernel_rfl) (by simp) ?_
      refine AllReadyH.cons rfl (fun K hK => ?_) ?_
      · try simp only [List.getElem_toArray, List.getElem_cons_succ, List.getElem_cons_zero]
        go_simp
        have st := st.allocM (.cells #[.int .i8 0, .int .i64 0, .int .i64 0, .int .i64 0, .int .i64 0, .int .i64 0, .int .i64 0, .bool false, .slice none 0 0, .int .i64 0, .int .i64 0, .int .u8 0, .slice none 0 0, .slice none 0 0] 61)
        refine hK.out _ _ st.b (fun hHeld => ?_)
        exact T2389 _ _ _ st
      exact AllReadyH.nil
    simp only [Act.put, List.setIfInBounds_toArray, List.set_cons_zero, List.set_cons_succ] at T238
    refine wpAnyH_share 4 #[true, true, true, true, true, true, true, true, false, true, false, false, false] (fun a0 kh km => (Act.put (Act.put (Act.put (Act.put (Act.put (Act.put (Act.put (Act.put (Act.put a0 (some 14) (.agg #[.int .i64 3, .int .i64 0, .int .i64 0])) (some 15) (.agg #[.int .i64 0, .int .i64 0, .slice a 5 c])) (some 16) ((askMsg 3 5 2).val)) (some 17) (.tuple #[.agg #[.int .i64 3, .int .i64 2, .int .i64 0], .agg #[.int .i8 2, .int .i64 1, .int .i64 2, .int .i64 3, .int .i64 0, .int .i64 0, .int .i64 0, .bool true, .slice none 0 0, .int .i64 0, .int .i64 0, .int .u8 0, .slice none 0 0, .slice none 0 0], .int .i64 0])) (some 13) (.tuple #[.agg #[.int .i64 3, .int .i64 2, .int .i64 0], .agg #[.int .i8 2, .int .i64 1, .int .i64 2, .int .i64 3, .int .i64 0, .int .i64 0, .int .i64 0, .bool true, .slice none 0 0, .int .i64 0, .int .i64 0, .int .u8 0, .slice none 0 0, .slice none 0 0], .int .i64 0])) (some 18) (.agg #[.int .i64 3, .int .i64 2, .int .i64 0])) (some 19) (.agg #[.int .i8 2, .int .i64 1, .int .i64 2, .int .i64 3, .int .i64 0, .int .i64 0, .int .i64 0, .bool true, .slice none 0 0, .int .i64 0, .int .i64 0, .int .u8 0, .slice none 0 0, .slice none 0 0])) (some 20) (.int .i64 0)) (some 3) (.pointer (some ⟨km, 0, none⟩)))) none (some (.cells #[.int .i8 0, .int .i64 0, .int .i64 0, .int .i64 0, .int .i64 0, .int .i64 0, .int .i64 0, .bool false, .slice none 0 0, .int .i64 0, .int .i64 0, .int .u8 0, .slice none 0 0, .slice none 0 0] 61 (0, 0))) (W := W) ?_ (fun T239 => ?_)
    · intro v kh km st
      have hHeld := st.b
      simp only [Act.put, List.setIfInBounds_toArray, List.set_cons_zero, List.set_cons_succ]
      refine wpAnyH_ready (rs := [8]) (by kernel_rfl) (by simp) ?_
      refine AllReadyH.cons rfl (fun K hK => ?_) ?_
      · try simp only [List.getElem_toArray, List.getElem_cons_succ, List.getElem_cons_zero]
        go_simp
        have st := st.allocH (.cells #[.int .i64 0, .int .i64 0, .int .i64 0] 53)
        refine hK.out _ _ st.b (fun hHeld => ?_)
        exact T2389 _ _ _ st
      exact AllReadyH.nil
    simp only [Act.put, List.setIfInBounds_toArray, List.set_cons_zero, List.set_cons_succ] at T239
    refine wpAnyH_share 5 #[true, true, true, true, true, true, true, true, false, false, false, false, false] (fun a0 kh km => (Act.put (Act.put (Act.put (Act.put (Act.put (Act.put (Act.put (Act.put a0 (some 14) (.agg #[.int .i64 3, .int .i64 0, .int .i64 0])) (some 15) (.agg #[.int .i64 0, .int .i64 0, .slice a 5 c])) (some 16) ((askMsg 3 5 2).val)) (some 17) (.tuple #[.agg #[.int .i64 3, .int .i64 2, .int .i64 0], .agg #[.int .i8 2, .int .i64 1, .int .i64 2, .int .i64 3, .int .i64 0, .int .i64 0, .int .i64 0, .bool true, .slice none 0 0, .int .i64 0, .int .i64 0, .int .u8 0, .slice none 0 0, .slice none 0 0], .int .i64 0])) (some 13) (.tuple #[.agg #[.int .i64 3, .int .i64 2, .int .i64 0], .agg #[.int .i8 2, .int .i64 1, .int .i64 2, .int .i64 3, .int .i64 0, .int .i64 0, .int .i64 0, .bool true, .slice none 0 0, .int .i64 0, .int .i64 0, .int .u8 0, .slice none 0 0, .slice none 0 0], .int .i64 0])) (some 18) (.agg #[.int .i64 3, .int .i64 2, .int .i64 0])) (some 19) (.agg #[.int .i8 2, .int .i64 1, .int .i64 2, .int .i64 3, .int .i64 0, .int .i64 0, .int .i64 0, .bool true, .slice none 0 0, .int .i64 0, .int .i64 0, .int .u8 0, .slice none 0 0, .slice none 0 0])) (some 20) (.int .i64 0))) none none (W := W) ?_ (fun T23 => ?_)
    · intro v kh km st
      have hHeld := st.b
      simp only [Act.put, List.setIfInBounds_toArray, List.set_cons_zero, List.set_cons_succ]
      refine wpAnyH_ready (rs := [8, 9]) (by kernel_rfl) (by simp) ?_
      refine AllReadyH.cons rfl (fun K hK => ?_) ?_
      · try simp only [List.getElem_toArray, List.getElem_cons_succ, List.getElem_cons_zero]
        go_simp
        have st := st.allocH (.cells #[.int .i64 0, .int .i64 0, .int .i64 0] 53)
        refine hK.out _ _ st.b (fun hHeld => ?_)
        exact T238 _ _ _ st
      refine AllReadyH.cons rfl (fun K hK => ?_) ?_
      · try simp only [List.getElem_toArray, List.getElem_cons_succ, List.getElem_cons_zero]
        go_simp
        have st := st.allocM (.cells #[.int .i8 0, .int .i64 0, .int .i64 0, .int .i64 0, .int .i64 0, .int .i64 0, .int .i64 0, .bool false, .slice none 0 0, .int .i64 0, .int .i64 0, .int .u8 0, .slice none 0 0, .slice none 0 0] 61)
        refine hK.out _ _ st.b (fun hHeld => ?_)
        exact T239 _ _ _ st
      exact AllReadyH.nil
    simp only [Act.put, List.setIfInBounds_toArray, List.set_cons_zero, List.set_cons_succ] at T23
    refine wpAnyH_share 8 #[true, true, true, false, false, false, false, false, true, true, false, false, false] (fun a0 kh km => (Act.put (Act.put (Act.put (Act.put (Act.put a0 (some 14) (.agg #[.int .i64 3, .int .i64 0, .int .i64 0])) (some 15) (.agg #[.int .i64 0, .int .i64 0, .slice a 5 c])) (some 16) ((askMsg 3 5 2).val)) (some 2) (.pointer (some ⟨kh, 0, none⟩))) (some 3) (.pointer (some ⟨km, 0, none⟩)))) (some (.cells #[.int .i64 0, .int .i64 0, .int .i64 0] 53 (0, 0))) (some (.cells #[.int .i8 0, .int .i64 0, .int .i64 0, .int .i64 0, .int .i64 0, .int .i64 0, .int .i64 0, .bool false, .slice none 0 0, .int .i64 0, .int .i64 0, .int .u8 0, .slice none 0 0, .slice none 0 0] 61 (0, 0))) (W := W) ?_ (fun T289 => ?_)
    · intro v kh km st
      have hHeld := st.b
      simp only [Act.put, List.setIfInBounds_toArray, List.set_cons_zero, List.set_cons_succ]
      refine wpAnyH_ready (rs := [3]) (by kernel_rfl) (by simp) ?_
      refine AllReadyH.cons rfl (fun K hK => ?_) ?_
      · try simp only [List.getElem_toArray, List.getElem_cons_succ, List.getElem_cons_zero]
        go_simp
        refine (ans1 a c _ (RAt.below (r := rr a c) hr2.out st.b)).mono ?_
        rintro e v ⟨rfl, hb⟩
        try go_wp2_with fail
        have st := st.call hb
        refine hK.out _ _ st.b (fun hHeld => ?_)
        try simp only [Act.put, List.setIfInBounds_toArray, List.set_cons_zero, List.set_cons_succ]
        refine wpAnyH_take (i := 4) (v := ?_) rfl (by kernel_rfl) (by kernel_rfl) (by kernel_rfl) (fun _ _ _ h => h) (Or.inl ⟨by rfl, ?_⟩) (by assumption) ?_
        rotate_left
        · intro w hSw
          go_simp
          try with_reducible rfl
        try simp only [Act.put, List.setIfInBounds_toArray, List.set_cons_zero, List.set_cons_succ]
        refine wpAnyH_take (i := 5) (v := ?_) rfl (by kernel_rfl) (by kernel_rfl) (by kernel_rfl) (fun _ _ _ h => h) (Or.inl ⟨by rfl, ?_⟩) (by assumption) ?_
        rotate_left
        · intro w hSw
          go_simp
          try with_reducible rfl
        try simp only [Act.put, List.setIfInBounds_toArray, List.set_cons_zero, List.set_cons_succ]
        refine wpAnyH_take (i := 6) (v := ?_) rfl (by kernel_rfl) (by kernel_rfl) (by kernel_rfl) (fun _ _ _ h => h) (Or.inl ⟨by rfl, ?_⟩) (by assumption) ?_
        rotate_left
        · intro w hSw
          go_simp
          try with_reducible rfl
        try simp only [Act.put, List.setIfInBounds_toArray, List.set_cons_zero, List.set_cons_succ]
        refine wpAnyH_take (i := 7) (v := ?_) rfl (by kernel_rfl) (by kernel_rfl) (by kernel_rfl) (fun _ _ _ h => h) (Or.inl ⟨by rfl, ?_⟩) (by assumption) ?_
        rotate_left
        · intro w hSw
          go_simp
          try with_reducible rfl
        try simp only [Act.put, List.setIfInBounds_toArray, List.set_cons_zero, List.set_cons_succ]
        exact T2389 _ _ _ st
      exact AllReadyH.nil
    simp only [Act.put, List.setIfInBounds_toArray, List.set_cons_zero, List.set_cons_succ] at T289
    refine wpAnyH_share 9 #[true, true, true, false, false, false, false, false, true, false, false, false, false] (fun a0 kh km => (Act.put (Act.put (Act.put (Act.put a0 (some 14) (.agg #[.int .i64 3, .int .i64 0, .int .i64 0])) (some 15) (.agg #[.int .i64 0, .int .i64 0, .slice a 5 c])) (some 16) ((askMsg 3 5 2).val)) (some 2) (.pointer (some ⟨kh, 0, none⟩)))) (some (.cells #[.int .i64 0, .int .i64 0, .int .i64 0] 53 (0, 0))) none (W := W) ?_ (fun T28 => ?_)
    · intro v kh km st
      have hHeld := st.b
      simp only [Act.put, List.setIfInBounds_toArray, List.set_cons_zero, List.set_cons_succ]
      refine wpAnyH_ready (rs := [3, 9]) (by kernel_rfl) (by simp) ?_
      refine AllReadyH.cons rfl (fun K hK => ?_) ?_
      · try simp only [List.getElem_toArray, List.getElem_cons_succ, List.getElem_cons_zero]
        go_simp
        refine (ans1 a c _ (RAt.below (r := rr a c) hr2.out st.b)).mono ?_
        rintro e v ⟨rfl, hb⟩
        try go_wp2_with fail
        have st := st.call hb
        refine hK.out _ _ st.b (fun hHeld => ?_)
        try simp only [Act.put, List.setIfInBounds_toArray, List.set_cons_zero, List.set_cons_succ]
        refine wpAnyH_take (i := 4) (v := ?_) rfl (by kernel_rfl) (by kernel_rfl) (by kernel_rfl) (fun _ _ _ h => h) (Or.inl ⟨by rfl, ?_⟩) (by assumption) ?_
        rotate_left
        · intro w hSw
          go_simp
          try with_reducible rfl
        try simp only [Act.put, List.setIfInBounds_toArray, List.set_cons_zero, List.set_cons_succ]
        refine wpAnyH_take (i := 5) (v := ?_) rfl (by kernel_rfl) (by kernel_rfl) (by kernel_rfl) (fun _ _ _ h => h) (Or.inl ⟨by rfl, ?_⟩) (by assumption) ?_
        rotate_left
        · intro w hSw
          go_simp
          try with_reducible rfl
        try simp only [Act.put, List.setIfInBounds_toArray, List.set_cons_zero, List.set_cons_succ]
        refine wpAnyH_take (i := 6) (v := ?_) rfl (by kernel_rfl) (by kernel_rfl) (by kernel_rfl) (fun _ _ _ h => h) (Or.inl ⟨by rfl, ?_⟩) (by assumption) ?_
        rotate_left
        · intro w hSw
          go_simp
          try with_reducible rfl
        try simp only [Act.put, List.setIfInBounds_toArray, List.set_cons_zero, List.set_cons_succ]
        refine wpAnyH_take (i := 7) (v := ?_) rfl (by kernel_rfl) (by kernel_rfl) (by kernel_rfl) (fun _ _ _ h => h) (Or.inl ⟨by rfl, ?_⟩) (by assumption) ?_
        rotate_left
        · intro w hSw
          go_simp
          try with_reducible rfl
        try simp only [Act.put, List.setIfInBounds_toArray, List.set_cons_zero, List.set_cons_succ]
        exact T238 _ _ _ st
      refine AllReadyH.cons rfl (fun K hK => ?_) ?_
      · try simp only [List.getElem_toArray, List.getElem_cons_succ, List.getElem_cons_zero]
        go_simp
        have st := st.allocM (.cells #[.int .i8 0, .int .i64 0, .int .i64 0, .int .i64 0, .int .i64 0, .int .i64 0, .int .i64 0, .bool false, .slice none 0 0, .int .i64 0, .int .i64 0, .int .u8 0, .slice none 0 0, .slice none 0 0] 61)
        refine hK.out _ _ st.b (fun hHeld => ?_)
        exact T289 _ _ _ st
      exact AllReadyH.nil
    simp only [Act.put, List.setIfInBounds_toArray, List.set_cons_zero, List.set_cons_succ] at T28
    refine wpAnyH_share 9 #[true, true, true, false, false, false, false, false, false, true, false, false, false] (fun a0 kh km => (Act.put (Act.put (Act.put (Act.put a0 (some 14) (.agg #[.int .i64 3, .int .i64 0, .int .i64 0])) (some 15) (.agg #[.int .i64 0, .int .i64 0, .slice a 5 c])) (some 16) ((askMsg 3 5 2).val)) (some 3) (.pointer (some ⟨km, 0, none⟩)))) none (some (.cells #[.int .i8 0, .int .i64 0, .int .i64 0, .int .i64 0, .int .i64 0, .int .i64 0, .int .i64 0, .bool false, .slice none 0 0, .int .i64 0, .int .i64 0, .int .u8 0, .slice none 0 0, .slice none 0 0] 61 (0, 0))) (W := W) ?_ (fun T29 => ?_)
    · intro v kh km st
      have hHeld := st.b
      simp only [Act.put, List.setIfInBounds_toArray, List.set_cons_zero, List.set_cons_succ]
      refine wpAnyH_ready (rs := [3, 8]) (by kernel_rfl) (by simp) ?_
      refine AllReadyH.cons rfl (fun K hK => ?_) ?_
      · try simp only [List.getElem_toArray, List.getElem_cons_succ, List.getElem_cons_zero]
        go_simp
        refine (ans1 a c _ (RAt.below (r := rr a c) hr2.out st.b)).mono ?_
        rintro e v ⟨rfl, hb⟩
        try go_wp2_with fail
        have st := st.call hb
        refine hK.out _ _ st.b (fun hHeld => ?_)
        try simp only [Act.put, List.setIfInBounds_toArray, List.set_cons_zero, List.set_cons_succ]
        refine wpAnyH_take (i := 4) (v := ?_) rfl (by kernel_rfl) (by kernel_rfl) (by kernel_rfl) (fun _ _ _ h => h) (Or.inl ⟨by rfl, ?_⟩) (by assumption) ?_
        rotate_left
        · intro w hSw
          go_simp
          try with_reducible rfl
        try simp only [Act.put, List.setIfInBounds_toArray, List.set_cons_zero, List.set_cons_succ]
        refine wpAnyH_take (i := 5) (v := ?_) rfl (by kernel_rfl) (by kernel_rfl) (by kernel_rfl) (fun _ _ _ h => h) (Or.inl ⟨by rfl, ?_⟩) (by assumption) ?_
        rotate_left
        · intro w hSw
          go_simp
          try with_reducible rfl
        try simp only [Act.put, List.setIfInBounds_toArray, List.set_cons_zero, List.set_cons_succ]
        refine wpAnyH_take (i := 6) (v := ?_) rfl (by kernel_rfl) (by kernel_rfl) (by kernel_rfl) (fun _ _ _ h => h) (Or.inl ⟨by rfl, ?_⟩) (by assumption) ?_
        rotate_left
        · intro w hSw
          go_simp
          try with_reducible rfl
        try simp only [Act.put, List.setIfInBounds_toArray, List.set_cons_zero, List.set_cons_succ]
        refine wpAnyH_take (i := 7) (v := ?_) rfl (by kernel_rfl) (by kernel_rfl) (by kernel_rfl) (fun _ _ _ h => h) (Or.inl ⟨by rfl, ?_⟩) (by assumption) ?_
        rotate_left
        · intro w hSw
          go_simp
          try with_reducible rfl
        try simp only [Act.put, List.setIfInBounds_toArray, List.set_cons_zero, List.set_cons_succ]
        exact T239 _ _ _ st
      refine AllReadyH.cons rfl (fun K hK => ?_) ?_
      · try simp only [List.getElem_toArray, List.getElem_cons_succ, List.getElem_cons_zero]
        go_simp
        have st := st.allocH (.cells #[.int .i64 0, .int .i64 0, .int .i64 0] 53)
        refine hK.out _ _ st.b (fun hHeld => ?_)
        exact T289 _ _ _ st
      exact AllReadyH.nil
    simp only [Act.put, List.setIfInBounds_toArray, List.set_cons_zero, List.set_cons_succ] at T29
    refine wpAnyH_share 10 #[true, true, true, false, false, false, false, false, false, false, false, false, false] (fun a0 kh km => (Act.put (Act.put (Act.put a0 (some 14) (.agg #[.int .i64 3, .int .i64 0, .int .i64 0])) (some 15) (.agg #[.int .i64 0, .int .i64 0, .slice a 5 c])) (some 16) ((askMsg 3 5 2).val))) none none (W := W) ?_ (fun T2 => ?_)
    · intro v kh km st
      have hHeld := st.b
      simp only [Act.put, List.setIfInBounds_toArray, List.set_cons_zero, List.set_cons_succ]
      refine wpAnyH_ready (rs := [3, 8, 9]) (by kernel_rfl) (by simp) ?_
      refine AllReadyH.cons rfl (fun K hK => ?_) ?_
      · try simp only [List.getElem_toArray, List.getElem_cons_succ, List.getElem_cons_zero]
        go_simp
        refine (ans1 a c _ (RAt.below (r := rr a c) hr2.out st.b)).mono ?_
        rintro e v ⟨rfl, hb⟩
        try go_wp2_with fail
        have st := st.call hb
        refine hK.out _ _ st.b (fun hHeld => ?_)
        try simp only [Act.put, List.setIfInBounds_toArray, List.set_cons_zero, List.set_cons_succ]
        refine wpAnyH_take (i := 4) (v := ?_) rfl (by kernel_rfl) (by kernel_rfl) (by kernel_rfl) (fun _ _ _ h => h) (Or.inl ⟨by rfl, ?_⟩) (by assumption) ?_
        rotate_left
        · intro w hSw
          go_simp
          try with_reducible rfl
        try simp only [Act.put, List.setIfInBounds_toArray, List.set_cons_zero, List.set_cons_succ]
        refine wpAnyH_take (i := 5) (v := ?_) rfl (by kernel_rfl) (by kernel_rfl) (by kernel_rfl) (fun _ _ _ h => h) (Or.inl ⟨by rfl, ?_⟩) (by assumption) ?_
        rotate_left
        · intro w hSw
          go_simp
          try with_reducible rfl
        try simp only [Act.put, List.setIfInBounds_toArray, List.set_cons_zero, List.set_cons_succ]
        refine wpAnyH_take (i := 6) (v := ?_) rfl (by kernel_rfl) (by kernel_rfl) (by kernel_rfl) (fun _ _ _ h => h) (Or.inl ⟨by rfl, ?_⟩) (by assumption) ?_
        rotate_left
        · intro w hSw
          go_simp
          try with_reducible rfl
        try simp only [Act.put, List.setIfInBounds_toArray, List.set_cons_zero, List.set_cons_succ]
        refine wpAnyH_take (i := 7) (v := ?_) rfl (by kernel_rfl) (by kernel_rfl) (by kernel_rfl) (fun _ _ _ h => h) (Or.inl ⟨by rfl, ?_⟩) (by assumption) ?_
        rotate_left
        · intro w hSw
          go_simp
          try with_reducible rfl
        try simp only [Act.put, List.setIfInBounds_toArray, List.set_cons_zero, List.set_cons_succ]
        exact T23 _ _ _ st
      refine AllReadyH.cons rfl (fun K hK => ?_) ?_
      · try simp only [List.getElem_toArray, List.getElem_cons_succ, List.getElem_cons_zero]
        go_simp
        have st := st.allocH (.cells #[.int .i64 0, .int .i64 0, .int .i64 0] 53)
        refine hK.out _ _ st.b (fun hHeld => ?_)
        exact T28 _ _ _ st
      refine AllReadyH.cons rfl (fun K hK => ?_) ?_
      · try simp only [List.getElem_toArray, List.getElem_cons_succ, List.getElem_cons_zero]
        go_simp
        have st := st.allocM (.cells #[.int .i8 0, .int .i64 0, .int .i64 0, .int .i64 0, .int .i64 0, .int .i64 0, .int .i64 0, .bool false, .slice none 0 0, .int .i64 0, .int .i64 0, .int .u8 0, .slice none 0 0, .slice none 0 0] 61)
        refine hK.out _ _ st.b (fun hHeld => ?_)
        exact T29 _ _ _ st
      exact AllReadyH.nil
    simp only [Act.put, List.setIfInBounds_toArray, List.set_cons_zero, List.set_cons_succ] at T2
    refine wpAnyH_share 9 #[true, true, false, false, false, false, false, false, true, true, false, false, false] (fun a0 kh km => (Act.put (Act.put (Act.put (Act.put a0 (some 14) (.agg #[.int .i64 3, .int .i64 0, .int .i64 0])) (some 15) (.agg #[.int .i64 0, .int .i64 0, .slice a 5 c])) (some 2) (.pointer (some ⟨kh, 0, none⟩))) (some 3) (.pointer (some ⟨km, 0, none⟩)))) (some (.cells #[.int .i64 0, .int .i64 0, .int .i64 0] 53 (0, 0))) (some (.cells #[.int .i8 0, .int .i64 0, .int .i64 0, .int .i64 0, .int .i64 0, .int .i64 0, .int .i64 0, .bool false, .slice none 0 0, .int .i64 0, .int .i64 0, .int .u8 0, .slice none 0 0, .slice none 0 0] 61 (0, 0))) (W := W) ?_ (fun T89 => ?_)
    · intro v kh km st
      have hHeld := st.b
      simp only [Act.put, List.setIfInBounds_toArray, List.set_cons_zero, List.set_cons_succ]
      refine wpAnyH_ready (rs := [2]) (by kernel_rfl) (by simp) ?_
      refine AllReadyH.cons rfl (fun K hK => ?_) ?_
      · try simp only [List.getElem_toArray, List.getElem_cons_succ, List.getElem_cons_zero]
        go_simp
        refine (ask10_c _ _ _ _).mono ?_
        rintro e v ⟨rfl, hb⟩
        try go_wp2_with fail
        have st := st.call hb
        refine hK.out _ _ st.b (fun hHeld => ?_)
        exact T289 _ _ _ st
      exact AllReadyH.nil
    simp only [Act.put, List.setIfInBounds_toArray, List.set_cons_zero, List.set_cons_succ] at T89
    refine wpAnyH_share 10 #[true, true, false, false, false, false, false, false, true, false, false, false, false] (fun a0 kh km => (Act.put (Act.put (Act.put a0 (some 14) (.agg #[.int .i64 3, .int .i64 0, .int .i64 0])) (some 15) (.agg #[.int .i64 0, .int .i64 0, .slice a 5 c])) (some 2) (.pointer (some ⟨kh, 0, none⟩)))) (some (.cells #[.int .i64 0, .int .i64 0, .int .i64 0] 53 (0, 0))) none (W := W) ?_ (fun T8 => ?_)
    · intro v kh km st
      have hHeld := st.b
      simp only [Act.put, List.setIfInBounds_toArray, List.set_cons_zero, List.set_cons_succ]
      refine wpAnyH_ready (rs := [2, 9]) (by kernel_rfl) (by simp) ?_
      refine AllReadyH.cons rfl (fun K hK => ?_) ?_
      · try simp only [List.getElem_toArray, List.getElem_cons_succ, List.getElem_cons_zero]
        go_simp
        refine (ask10_c _ _ _ _).mono ?_
        rintro e v ⟨rfl, hb⟩
        try go_wp2_with fail
        have st := st.call hb
        refine hK.out _ _ st.b (fun hHeld => ?_)
        exact T28 _ _ _ st
      refine AllReadyH.cons rfl (fun K hK => ?_) ?_
      · try simp only [List.getElem_toArray, List.getElem_cons_succ, List.getElem_cons_zero]
        go_simp
        have st := st.allocM (.cells #[.int .i8 0, .int .i64 0, .int .i64 0, .int .i64 0, .int .i64 0, .int .i64 0, .int .i64 0, .bool false, .slice none 0 0, .int .i64 0, .int .i64 0, .int .u8 0, .slice none 0 0, .slice none 0 0] 61)
        refine hK.out _ _ st.b (fun hHeld => ?_)
        exact T89 _ _ _ st
      exact AllReadyH.nil
    simp only [Act.put, List.setIfInBounds_toArray, List.set_cons_zero, List.set_cons_succ] at T8
    refine wpAnyH_share 10 #[true, true, false, false, false, false, false, false, false, true, false, false, false] (fun a0 kh km => (Act.put (Act.put (Act.put a0 (some 14) (.agg #[.int .i64 3, .int .i64 0, .int .i64 0])) (some 15) (.agg #[.int .i64 0, .int .i64 0, .slice a 5 c])) (some 3) (.pointer (some ⟨km, 0, none⟩)))) none (some (.cells #[.int .i8 0, .int .i64 0, .int .i64 0, .int .i64 0, .int .i64 0, .int .i64 0, .int .i64 0, .bool false, .slice none 0 0, .int .i64 0, .int .i64 0, .int .u8 0, .slice none 0 0, .slice none 0 0] 61 (0, 0))) (W := W) ?_ (fun T9 => ?_)
    · intro v kh km st
      have hHeld := st.b
      simp only [Act.put, List.setIfInBounds_toArray, List.set_cons_zero, List.set_cons_succ]
      refine wpAnyH_ready (rs := [2, 8]) (by kernel_rfl) (by simp) ?_
      refine AllReadyH.cons rfl (fun K hK => ?_) ?_
      · try simp only [List.getElem_toArray, List.getElem_cons_succ, List.getElem_cons_zero]
        go_simp
        refine (ask10_c _ _ _ _).mono ?_
        rintro e v ⟨rfl, hb⟩
        try go_wp2_with fail
        have st := st.call hb
        refine hK.out _ _ st.b (fun hHeld => ?_)
        exact T29 _ _ _ st
      refine AllReadyH.cons rfl (fun K hK => ?_) ?_
      · try simp only [List.getElem_toArray, List.getElem_cons_succ, List.getElem_cons_zero]
        go_simp
        have st := st.allocH (.cells #[.int .i64 0, .int .i64 0, .int .i64 0] 53)
        refine hK.out _ _ st.b (fun hHeld => ?_)
        exact T89 _ _ _ st
      exact AllReadyH.nil
    simp only [Act.put, List.setIfInBounds_toArray, List.set_cons_zero, List.set_cons_succ] at T9
    refine wpAnyH_take (i := 0) (v := ?_) rfl (by kernel_rfl) (by kernel_rfl) (by kernel_rfl) (fun _ _ _ h => h) (Or.inl ⟨by rfl, ?_⟩) (by assumption) ?_
    rotate_left
    · intro w hSw
      go_simp
      try with_reducible rfl
    try simp only [Act.put, List.setIfInBounds_toArray, List.set_cons_zero, List.set_cons_succ]
    refine wpAnyH_take (i := 1) (v := ?_) rfl (by kernel_rfl) (by kernel_rfl) (by kernel_rfl) (fun _ _ _ h => h) (Or.inl ⟨by rfl, ?_⟩) (by assumption) ?_
    rotate_left
    · intro w hSw
      have l0 := (Below.cell hSw (p := ⟨w1.heap.size, 0, none⟩) (by simp; omega)).trans k0
      have l1 := (Below.cell hSw (p := ⟨w1.heap.size, 1, none⟩) (by simp; omega)).trans k1
      have l2 := (Below.cell hSw (p := ⟨w1.heap.size, 2, none⟩) (by simp; omega)).trans k2
      go_simp
      try with_reducible rfl
    try simp only [Act.put, List.setIfInBounds_toArray, List.set_cons_zero, List.set_cons_succ]
    refine wpAnyH_ready (rs := [2, 8, 9]) (by kernel_rfl) (by simp) ?_
    refine AllReadyH.cons rfl (fun K hK => ?_) ?_
    · try simp only [List.getElem_toArray, List.getElem_cons_succ, List.getElem_cons_zero]
      go_simp
      refine (ask10_c _ _ _ _).mono ?_
      rintro e v ⟨rfl, hb⟩
      try go_wp2_with fail
      have st := st.call hb
      refine hK.out _ _ st.b (fun hHeld => ?_)
      exact T2 _ _ _ st
    refine AllReadyH.cons rfl (fun K hK => ?_) ?_
    · try simp only [List.getElem_toArray, List.getElem_cons_succ, List.getElem_cons_zero]
      go_simp
      have st := st.allocH (.cells #[.int .i64 0, .int .i64 0, .int .i64 0] 53)
      refine hK.out _ _ st.b (fun hHeld => ?_)
      exact T8 _ _ _ st
    refine AllReadyH.cons rfl (fun K hK => ?_) ?_
    · try simp only [List.getElem_toArray, List.getElem_cons_succ, List.getElem_cons_zero]
      go_simp
      have st := st.allocM (.cells #[.int .i8 0, .int .i64 0, .int .i64 0, .int .i64 0, .int .i64 0, .int .i64 0, .int .i64 0, .bool false, .slice none 0 0, .int .i64 0, .int .i64 0, .int .u8 0, .slice none 0 0, .slice none 0 0] 61)
      refine hK.out _ _ st.b (fun hHeld => ?_)
      exact T9 _ _ _ st
    exact AllReadyH.nil
  case rest =>
    obtain ⟨g2, h2, rfl, rfl, rfl, m2, n2, hb2⟩ := hcut
    obtain ⟨W2, rfl⟩ : ∃ x, x = wc := ⟨_, rfl⟩
    have z2 := hb2.size
    have p0 := (Below.cell hb2 (p := ⟨w1.heap.size, 0, none⟩) (by simp; omega)).trans k0
    have p1 := (Below.cell hb2 (p := ⟨w1.heap.size, 1, none⟩) (by simp; omega)).trans k1
    have p2 := (Below.cell hb2 (p := ⟨w1.heap.size, 2, none⟩) (by simp; omega)).trans k2
    have hr3 := Lib.hid (RAt.below (r := rr a c) hr2.out hb2)
    have hB2 := belowNext hBW hb2 (Nat.le_refl _)
    clear hb2 hr2 k0 k1 k2 hBW 
    go_upto_region 3 with fail
    go_cut [5, 6, 7] (fun s5 s6 s7 wx => ∃ g h : Nat, s5 = .pointer (some ⟨g, 0, none⟩) ∧ s6 = .pointer (some ⟨h, 0, none⟩) ∧ s7 = .int .i64 0 ∧ wx.cell? ⟨h, 7, none⟩ = some (.bool false) ∧ Below W2.heap.size W2 wx)
    case first =>
      refine wp_region_noPanic ?_
      refine wp_region_held_drew (S := fun u => Below W2.heap.size W2 u) (by kernel_rfl) ((Below.refl _ _).drew) (fun hHeld => ?_)
      refine wpAnyH_start (n' := 13) (l' := #[false, false, false, false, false, false, false, false, false, false, false, false, false]) (by kernel_rfl) (by kernel_rfl) ?_
      have st : St W2 W2.drew 0 0 none none := St.start 0 0
      generalize W2.drew = v at st hHeld ⊢
      refine wpAnyH_share 3 #[true, true, true, true, true, true, true, true, true, true, false, false, false] (fun a0 kh km => (Act.put (Act.put (Act.put (Act.put (Act.put (Act.put (Act.put (Act.put (Act.put (Act.put a0 (some 22) (.agg #[.int .i64 3, .int .i64 0, .int .i64 0])) (some 23) (.agg #[.int .i64 0, .int .i64 0, .slice a 5 c])) (some 24) ((askMsg 3 9 1).val)) (some 25) (.tuple #[.agg #[.int .i64 3, .int .i64 0, .int .i64 0], .agg #[.int .i8 2, .int .i64 1, .int .i64 2, .int .i64 3, .int .i64 0, .int .i64 0, .int .i64 0, .bool false, .slice none 0 0, .int .i64 0, .int .i64 0, .int .u8 0, .slice none 0 0, .slice none 0 0], .int .i64 0])) (some 21) (.tuple #[.agg #[.int .i64 3, .int .i64 0, .int .i64 0], .agg #[.int .i8 2, .int .i64 1, .int .i64 2, .int .i64 3, .int .i64 0, .int .i64 0, .int .i64 0, .bool false, .slice none 0 0, .int .i64 0, .int .i64 0, .int .u8 0, .slice none 0 0, .slice none 0 0], .int .i64 0])) (some 26) (.agg #[.int .i64 3, .int .i64 0, .int .i64 0])) (some 27) (.agg #[.int .i8 2, .int .i64 1, .int .i64 2, .int .i64 3, .int .i64 0, .int .i64 0, .int .i64 0, .bool false, .slice none 0 0, .int .i64 0, .int .i64 0, .int .u8 0, .slice none 0 0, .slice none 0 0])) (some 28) (.int .i64 0)) (some 5) (.pointer (some ⟨kh, 0, none⟩))) (some 6) (.pointer (some ⟨km, 0, none⟩)))) (some (.cells #[.int .i64 0, .int .i64 0, .int .i64 0] 53 (0, 0))) (some (.cells #[.int .i8 0, .int .i64 0, .int .i64 0, .int .i64 0, .int .i64 0, .int .i64 0, .int .i64 0, .bool false, .slice none 0 0, .int .i64 0, .int .i64 0, .int .u8 0, .slice none 0 0, .slice none 0 0] 61 (0, 0))) (W := W2) ?_ (fun T2389 => ?_)
      · intro v kh km st
        have hHeld := st.b
        simp only [Act.put, List.setIfInBounds_toArray, List.set_cons_zero, List.set_cons_succ]
        refine wpAnyH_ready (rs := [10]) (by kernel_rfl) (by simp) ?_
        refine AllReadyH.cons rfl (fun K hK => ?_) AllReadyH.nil
        rw [if_pos (by rfl)]
        refine wp_store_row _ _ _ rfl _ _ rfl rfl _ _ (st.h _ rfl).2 (by kernel_rfl) rfl (by simp [Value.oneCell']) ?_
        have st := st.storeH (#[.int .i64 3, .int .i64 0, .int .i64 0])
        refine hK.out _ _ st.b (fun hHeld => ?_)
        clear hK K
        try simp only [Act.put, List.setIfInBounds_toArray, List.set_cons_zero, List.set_cons_succ]
        refine wpAnyH_ready (rs := [11]) (by kernel_rfl) (by simp) ?_
        refine AllReadyH.cons rfl (fun K hK => ?_) AllReadyH.nil
        rw [if_pos (by rfl)]
        refine wp_store_row _ _ _ rfl _ _ rfl rfl _ _ (st.m _ rfl).2 (by kernel_rfl) rfl (by simp [Value.oneCell']) ?_
        have st := st.storeM (#[.int .i8 2, .int .i64 1, .int .i64 2, .int .i64 3, .int .i64 0, .int .i64 0, .int .i64 0, .bool false, .slice none 0 0, .int .i64 0, .int .i64 0, .int .u8 0, .slice none 0 0, .slice none 0 0])
        refine hK.out _ _ st.b (fun hHeld => ?_)
        clear hK K
        try simp only [Act.put, List.setIfInBounds_toArray, List.set_cons_zero, List.set_cons_succ]
        refine wpAnyH_take (i := 12) (v := ?_) rfl (by kernel_rfl) (by kernel_rfl) (by kernel_rfl) (fun _ _ _ h => h) (Or.inl ⟨by rfl, ?_⟩) (by assumption) ?_
        rotate_left
        · intro w hSw
          go_simp
          try with_reducible rfl
        try simp only [Act.put, List.setIfInBounds_toArray, List.set_cons_zero, List.set_cons_succ]
        refine wpAnyH_done (by kernel_rfl) ?_ _
        try simp only [List.getElem_toArray, List.getElem_cons_succ, List.getElem_cons_zero]
        try simp only [Act.put, List.setIfInBounds_toArray, List.set_cons_zero, List.set_cons_succ]
        refine NoPanic.normal ?_
        go_wp2_with fail
        go_meet
        exact ⟨kh, km, rfl, rfl, rfl, (cell_of_row _ km 7 _ _ _ (st.m _ rfl).2).trans rfl, st.b⟩
      simp only [Act.put, List.setIfInBounds_toArray, List.set_cons_zero, List.set_cons_succ] at T2389
      refine wpAnyH_share 4 #[true, true, true, true, true, true, true, true, true, false, false, false, false] (fun a0 kh km => (Act.put (Act.put (Act.put (Act.put (Act.put (Act.put (Act.put (Act.put (Act.put a0 (some 22) (.agg #[.int .i64 3, .int .i64 0, .int .i64 0])) (some 23) (.agg #[.int .i64 0, .int .i64 0, .slice a 5 c])) (some 24) ((askMsg 3 9 1).val)) (some 25) (.tuple #[.agg #[.int .i64 3, .int .i64 0, .int .i64 0], .agg #[.int .i8 2, .int .i64 1, .int .i64 2, .int .i64 3, .int .i64 0, .int .i64 0, .int .i64 0, .bool false, .slice none 0 0, .int .i64 0, .int .i64 0, .int .u8 0, .slice none 0 0, .slice none 0 0], .int .i64 0])) (some 21) (.tuple #[.agg #[.int .i64 3, .int .i64 0, .int .i64 0], .agg #[.int .i8 2, .int .i64 1, .int .i64 2, .int .i64 3, .int .i64 0, .int .i64 0, .int .i64 0, .bool false, .slice none 0 0, .int .i64 0, .int .i64 0, .int .u8 0, .slice none 0 0, .slice none 0 0], .int .i64 0])) (some 26) (.agg #[.int .i64 3, .int .i64 0, .int .i64 0])) (some 27) (.agg #[.int .i8 2, .int .i64 1, .int .i64 2, .int .i64 3, .int .i64 0, .int .i64 0, .int .i64 0, .bool false, .slice none 0 0, .int .i64 0, .int .i64 0, .int .u8 0, .slice none 0 0, .slice none 0 0])) (some 28) (.int .i64 0)) (some 5) (.pointer (some ⟨kh, 0, none⟩)))) (some (.cells #[.int .i64 0, .int .i64 0, .int .i64 0] 53 (0, 0))) none (W := W2) ?_ (fun T238 => ?_)
      · intro v kh km st
        have hHeld := st.b
        simp only [Act.put, List.setIfInBounds_toArray, List.set_cons_zero, List.set_cons_succ]
        refine wpAnyH_ready (rs := [9]) (by kernel_rfl) (by simp) ?_
        refine AllReadyH.cons rfl (fun K hK => ?_) ?_
        · try simp only [List.getElem_toArray, List.getElem_cons_succ, List.getElem_cons_zero]
          go_simp
          have st := st.allocM (.cells #[.int .i8 0, .int .i64 0, .int .i64 0, .int .i64 0, .int .i64 0, .int .i64 0, .int .i64 0, .bool false, .slice none 0 0, .int .i64 0, .int .i64 0, .int .u8 0, .slice none 0 0, .slice none 0 0] 61)
          refine hK.out _ _ st.b (fun hHeld => ?_)
          exact T2389 _ _ _ st
        exact AllReadyH.nil
      simp only [Act.put, List.setIfInBounds_toArray, List.set_cons_zero, List.set_cons_succ] at T238
      refine wpAnyH_share 4 #[true, true, true, true, true, true, true, true, false, true, false, false, false] (fun a0 kh km => (Act.put (Act.put (Act.put (Act.put (Act.put (Act.put (Act.put (Act.put (Act.put a0 (some 22) (.agg #[.int .i64 3, .int .i64 0, .int .i64 0])) (some 23) (.agg #[.int .i64 0, .int .i64 0, .slice a 5 c])) (some 24) ((askMsg 3 9 1).val)) (some 25) (.tuple #[.agg #[.int .i64 3, .int .i64 0, .int .i64 0], .agg #[.int .i8 2, .int .i64 1, .int .i64 2, .int .i64 3, .int .i64 0, .int .i64 0, .int .i64 0, .bool false, .slice none 0 0, .int .i64 0, .int .i64 0, .int .u8 0, .slice none 0 0, .slice none 0 0], .int .i64 0])) (some 21) (.tuple #[.agg #[.int .i64 3, .int .i64 0, .int .i64 0], .agg #[.int .i8 2, .int .i64 1, .int .i64 2, .int .i64 3, .int .i64 0, .int .i64 0, .int .i64 0, .bool false, .slice none 0 0, .int .i64 0, .int .i64 0, .int .u8 0, .slice none 0 0, .slice none 0 0], .int .i64 0])) (some 26) (.agg #[.int .i64 3, .int .i64 0, .int .i64 0])) (some 27) (.agg #[.int .i8 2, .int .i64 1, .int .i64 2, .int .i64 3, .int .i64 0, .int .i64 0, .int .i64 0, .bool false, .slice none 0 0, .int .i64 0, .int .i64 0, .int .u8 0, .slice none 0 0, .slice none 0 0])) (some 28) (.int .i64 0)) (some 6) (.pointer (some ⟨km, 0, none⟩)))) none (some (.cells #[.int .i8 0, .int .i64 0, .int .i64 0, .int .i64 0, .int .i64 0, .int .i64 0, .int .i64 0, .bool false, .slice none 0 0, .int .i64 0, .int .i64 0, .int .u8 0, .slice none 0 0, .slice none 0 0] 61 (0, 0))) (W := W2) ?_ (fun T239 => ?_)
      · intro v kh km st
        have hHeld := st.b
        simp only [Act.put, List.setIfInBounds_toArray, List.set_cons_zero, List.set_cons_succ]
        refine wpAnyH_ready (rs := [8]) (by kernel_rfl) (by simp) ?_
        refine AllReadyH.cons rfl (fun K hK => ?_) ?_
        · try simp only [List.getElem_toArray, List.getElem_cons_succ, List.getElem_cons_zero]
          go_simp
          have st := st.allocH (.cells #[.int .i64 0, .int .i64 0, .int .i64 0] 53)
          refine hK.out _ _ st.b (fun hHeld => ?_)
          exact T2389 _ _ _ st
        exact AllReadyH.nil
      simp only [Act.put, List.setIfInBounds_toArray, List.set_cons_zero, List.set_cons_succ] at T239
      refine wpAnyH_share 5 #[true, true, true, true, true, true, true, true, false, false, false, false, false] (fun a0 kh km => (Act.put (Act.put (Act.put (Act.put (Act.put (Act.put (Act.put (Act.put a0 (some 22) (.agg #[.int .i64 3, .int .i64 0, .int .i64 0])) (some 23) (.agg #[.int .i64 0, .int .i64 0, .slice a 5 c])) (some 24) ((askMsg 3 9 1).val)) (some 25) (.tuple #[.agg #[.int .i64 3, .int .i64 0, .int .i64 0], .agg #[.int .i8 2, .int .i64 1, .int .i64 2, .int .i64 3, .int .i64 0, .int .i64 0, .int .i64 0, .bool false, .slice none 0 0, .int .i64 0, .int .i64 0, .int .u8 0, .slice none 0 0, .slice none 0 0], .int .i64 0])) (some 21) (.tuple #[.agg #[.int .i64 3, .int .i64 0, .int .i64 0], .agg #[.int .i8 2, .int .i64 1, .int .i64 2, .int .i64 3, .int .i64 0, .int .i64 0, .int .i64 0, .bool false, .slice none 0 0, .int .i64 0, .int .i64 0, .int .u8 0, .slice none 0 0, .slice none 0 0], .int .i64 0])) (some 26) (.agg #[.int .i64 3, .int .i64 0, .int .i64 0])) (some 27) (.agg #[.int .i8 2, .int .i64 1, .int .i64 2, .int .i64 3, .int .i64 0, .int .i64 0, .int .i64 0, .bool false, .slice none 0 0, .int .i64 0, .int .i64 0, .int .u8 0, .slice none 0 0, .slice none 0 0])) (some 28) (.int .i64 0))) none none (W := W2) ?_ (fun T23 => ?_)
      · intro v kh km st
        have hHeld := st.b
        simp only [Act.put, List.setIfInBounds_toArray, List.set_cons_zero, List.set_cons_succ]
        refine wpAnyH_ready (rs := [8, 9]) (by kernel_rfl) (by simp) ?_
        refine AllReadyH.cons rfl (fun K hK => ?_) ?_
        · try simp only [List.getElem_toArray, List.getElem_cons_succ, List.getElem_cons_zero]
          go_simp
          have st := st.allocH (.cells #[.int .i64 0, .int .i64 0, .int .i64 0] 53)
          refine hK.out _ _ st.b (fun hHeld => ?_)
          exact T238 _ _ _ st
        refine AllReadyH.cons rfl (fun K hK => ?_) ?_
        · try simp only [List.getElem_toArray, List.getElem_cons_succ, List.getElem_cons_zero]
          go_simp
          have st := st.allocM (.cells #[.int .i8 0, .int .i64 0, .int .i64 0, .int .i64 0, .int .i64 0, .int .i64 0, .int .i64 0, .bool false, .slice none 0 0, .int .i64 0, .int .i64 0, .int .u8 0, .slice none 0 0, .slice none 0 0] 61)
          refine hK.out _ _ st.b (fun hHeld => ?_)
          exact T239 _ _ _ st
        exact AllReadyH.nil
      simp only [Act.put, List.setIfInBounds_toArray, List.set_cons_zero, List.set_cons_succ] at T23
      refine wpAnyH_share 8 #[true, true, true, false, false, false, false, false, true, true, false, false, false] (fun a0 kh km => (Act.put (Act.put (Act.put (Act.put (Act.put a0 (some 22) (.agg #[.int .i64 3, .int .i64 0, .int .i64 0])) (some 23) (.agg #[.int .i64 0, .int .i64 0, .slice a 5 c])) (some 24) ((askMsg 3 9 1).val)) (some 5) (.pointer (some ⟨kh, 0, none⟩))) (some 6) (.pointer (some ⟨km, 0, none⟩)))) (some (.cells #[.int .i64 0, .int .i64 0, .int .i64 0] 53 (0, 0))) (some (.cells #[.int .i8 0, .int .i64 0, .int .i64 0, .int .i64 0, .int .i64 0, .int .i64 0, .int .i64 0, .bool false, .slice none 0 0, .int .i64 0, .int .i64 0, .int .u8 0, .slice none 0 0, .slice none 0 0] 61 (0, 0))) (W := W2) ?_ (fun T289 => ?_)
      · intro v kh km st
        have hHeld := st.b
        simp only [Act.put, List.setIfInBounds_toArray, List.set_cons_zero, List.set_cons_succ]
        refine wpAnyH_ready (rs := [3]) (by kernel_rfl) (by simp) ?_
        refine AllReadyH.cons rfl (fun K hK => ?_) ?_
        · try simp only [List.getElem_toArray, List.getElem_cons_succ, List.getElem_cons_zero]
          go_simp
          refine (ans2 a c _ (RAt.below (r := rr a c) hr3.out st.b)).mono ?_
          rintro e v ⟨rfl, hb⟩
          try go_wp2_with fail
          have st := st.call hb
          refine hK.out _ _ st.b (fun hHeld => ?_)
          try simp only [Act.put, List.setIfInBounds_toArray, List.set_cons_zero, List.set_cons_succ]
          refine wpAnyH_take (i := 4) (v := ?_) rfl (by kernel_rfl) (by kernel_rfl) (by kernel_rfl) (fun _ _ _ h => h) (Or.inl ⟨by rfl, ?_⟩) (by assumption) ?_
          rotate_left
          · intro w hSw
            go_simp
            try with_reducible rfl
          try simp only [Act.put, List.setIfInBounds_toArray, List.set_cons_zero, List.set_cons_succ]
          refine wpAnyH_take (i := 5) (v := ?_) rfl (by kernel_rfl) (by kernel_rfl) (by kernel_rfl) (fun _ _ _ h => h) (Or.inl ⟨by rfl, ?_⟩) (by assumption) ?_
          rotate_left
          · intro w hSw
            go_simp
            try with_reducible rfl
          try simp only [Act.put, List.setIfInBounds_toArray, List.set_cons_zero, List.set_cons_succ]
          refine wpAnyH_take (i := 6) (v := ?_) rfl (by kernel_rfl) (by kernel_rfl) (by kernel_rfl) (fun _ _ _ h => h) (Or.inl ⟨by rfl, ?_⟩) (by assumption) ?_
          rotate_left
          · intro w hSw
            go_simp
            try with_reducible rfl
          try simp only [Act.put, List.setIfInBounds_toArray, List.set_cons_zero, List.set_cons_succ]
          refine wpAnyH_take (i := 7) (v := ?_) rfl (by kernel_rfl) (by kernel_rfl) (by kernel_rfl) (fun _ _ _ h => h) (Or.inl ⟨by rfl, ?_⟩) (by assumption) ?_
          rotate_left
          · intro w hSw
            go_simp
            try with_reducible rfl
          try simp only [Act.put, List.setIfInBounds_toArray, List.set_cons_zero, List.set_cons_succ]
          exact T2389 _ _ _ st
        exact AllReadyH.nil
      simp only [Act.put, List.setIfInBounds_toArray, List.set_cons_zero, List.set_cons_succ] at T289
      refine wpAnyH_share 9 #[true, true, true, false, false, false, false, false, true, false, false, false, false] (fun a0 kh km => (Act.put (Act.put (Act.put (Act.put a0 (some 22) (.agg #[.int .i64 3, .int .i64 0, .int .i64 0])) (some 23) (.agg #[.int .i64 0, .int .i64 0, .slice a 5 c])) (some 24) ((askMsg 3 9 1).val)) (some 5) (.pointer (some ⟨kh, 0, none⟩)))) (some (.cells #[.int .i64 0, .int .i64 0, .int .i64 0] 53 (0, 0))) none (W := W2) ?_ (fun T28 => ?_)
      · intro v kh km st
        have hHeld := st.b
        simp only [Act.put, List.setIfInBounds_toArray, List.set_cons_zero, List.set_cons_succ]
        refine wpAnyH_ready (rs := [3, 9]) (by kernel_rfl) (by simp) ?_
        refine AllReadyH.cons rfl (fun K hK => ?_) ?_
        · try simp only [List.getElem_toArray, List.getElem_cons_succ, List.getElem_cons_zero]
          go_simp
          refine (ans2 a c _ (RAt.below (r := rr a c) hr3.out st.b)).mono ?_
          rintro e v ⟨rfl, hb⟩
          try go_wp2_with fail
          have st := st.call hb
          refine hK.out _ _ st.b (fun hHeld => ?_)
          try simp only [Act.put, List.setIfInBounds_toArray, List.set_cons_zero, List.set_cons_succ]
          refine wpAnyH_take (i := 4) (v := ?_) rfl (by kernel_rfl) (by kernel_rfl) (by kernel_rfl) (fun _ _ _ h => h) (Or.inl ⟨by rfl, ?_⟩) (by assumption) ?_
          rotate_left
          · intro w hSw
            go_simp
            try with_reducible rfl
          try simp only [Act.put, List.setIfInBounds_toArray, List.set_cons_zero, List.set_cons_succ]
          refine wpAnyH_take (i := 5) (v := ?_) rfl (by kernel_rfl) (by kernel_rfl) (by kernel_rfl) (fun _ _ _ h => h) (Or.inl ⟨by rfl, ?_⟩) (by assumption) ?_
          rotate_left
          · intro w hSw
            go_simp
            try with_reducible rfl
          try simp only [Act.put, List.setIfInBounds_toArray, List.set_cons_zero, List.set_cons_succ]
          refine wpAnyH_take (i := 6) (v := ?_) rfl (by kernel_rfl) (by kernel_rfl) (by kernel_rfl) (fun _ _ _ h => h) (Or.inl ⟨by rfl, ?_⟩) (by assumption) ?_
          rotate_left
          · intro w hSw
            go_simp
            try with_reducible rfl
          try simp only [Act.put, List.setIfInBounds_toArray, List.set_cons_zero, List.set_cons_succ]
          refine wpAnyH_take (i := 7) (v := ?_) rfl (by kernel_rfl) (by kernel_rfl) (by kernel_rfl) (fun _ _ _ h => h) (Or.inl ⟨by rfl, ?_⟩) (by assumption) ?_
          rotate_left
          · intro w hSw
            go_simp
            try with_reducible rfl
          try simp only [Act.put, List.setIfInBounds_toArray, List.set_cons_zero, List.set_cons_succ]
          exact T238 _ _ _ st
        refine AllReadyH.cons rfl (fun K hK => ?_) ?_
        · try simp only [List.getElem_toArray, List.getElem_cons_succ, List.getElem_cons_zero]
          go_simp
          have st := st.allocM (.cells #[.int .i8 0, .int .i64 0, .int .i64 0, .int .i64 0, .int .i64 0, .int .i64 0, .int .i64 0, .bool false, .slice none 0 0, .int .i64 0, .int .i64 0, .int .u8 0, .slice none 0 0, .slice none 0 0] 61)
          refine hK.out _ _ st.b (fun hHeld => ?_)
          exact T289 _ _ _ st
        exact AllReadyH.nil
      simp only [Act.put, List.setIfInBounds_toArray, List.set_cons_zero, List.set_cons_succ] at T28
      refine wpAnyH_share 9 #[true, true, true, false, false, false, false, false, false, true, false, false, false] (fun a0 kh km => (Act.put (Act.put (Act.put (Act.put a0 (some 22) (.agg #[.int .i64 3, .int .i64 0, .int .i64 0])) (some 23) (.agg #[.int .i64 0, .int .i64 0, .slice a 5 c])) (some 24) ((askMsg 3 9 1).val)) (some 6) (.pointer (some ⟨km, 0, none⟩)))) none (some (.cells #[.int .i8 0, .int .i64 0, .int .i64 0, .int .i64 0, .int .i64 0, .int .i64 0, .int .i64 0, .bool false, .slice none 0 0, .int .i64 0, .int .i64 0, .int .u8 0, .slice none 0 0, .slice none 0 0] 61 (0, 0))) (W := W2) ?_ (fun T29 => ?_)
      · intro v kh km st
        have hHeld := st.b
        simp only [Act.put, List.setIfInBounds_toArray, List.set_cons_zero, List.set_cons_succ]
        refine wpAnyH_ready (rs := [3, 8]) (by kernel_rfl) (by simp) ?_
        refine AllReadyH.cons rfl (fun K hK => ?_) ?_
        · try simp only [List.getElem_toArray, List.getElem_cons_succ, List.getElem_cons_zero]
          go_simp
          refine (ans2 a c _ (RAt.below (r := rr a c) hr3.out st.b)).mono ?_
          rintro e v ⟨rfl, hb⟩
          try go_wp2_with fail
          have st := st.call hb
          refine hK.out _ _ st.b (fun hHeld => ?_)
          try simp only [Act.put, List.setIfInBounds_toArray, List.set_cons_zero, List.set_cons_succ]
          refine wpAnyH_take (i := 4) (v := ?_) rfl (by kernel_rfl) (by kernel_rfl) (by kernel_rfl) (fun _ _ _ h => h) (Or.inl ⟨by rfl, ?_⟩) (by assumption) ?_
          rotate_left
          · intro w hSw
            go_simp
            try with_reducible rfl
          try simp only [Act.put, List.setIfInBounds_toArray, List.set_cons_zero, List.set_cons_succ]
          refine wpAnyH_take (i := 5) (v := ?_) rfl (by kernel_rfl) (by kernel_rfl) (by kernel_rfl) (fun _ _ _ h => h) (Or.inl ⟨by rfl, ?_⟩) (by assumption) ?_
          rotate_left
          · intro w hSw
            go_simp
            try with_reducible rfl
          try simp only [Act.put, List.setIfInBounds_toArray, List.set_cons_zero, List.set_cons_succ]
          refine wpAnyH_take (i := 6) (v := ?_) rfl (by kernel_rfl) (by kernel_rfl) (by kernel_rfl) (fun _ _ _ h => h) (Or.inl ⟨by rfl, ?_⟩) (by assumption) ?_
          rotate_left
          · intro w hSw
            go_simp
            try with_reducible rfl
          try simp only [Act.put, List.setIfInBounds_toArray, List.set_cons_zero, List.set_cons_succ]
          refine wpAnyH_take (i := 7) (v := ?_) rfl (by kernel_rfl) (by kernel_rfl) (by kernel_rfl) (fun _ _ _ h => h) (Or.inl ⟨by rfl, ?_⟩) (by assumption) ?_
          rotate_left
          · intro w hSw
            go_simp
            try with_reducible rfl
          try simp only [Act.put, List.setIfInBounds_toArray, List.set_cons_zero, List.set_cons_succ]
          exact T239 _ _ _ st
        refine AllReadyH.cons rfl (fun K hK => ?_) ?_
        · try simp only [List.getElem_toArray, List.getElem_cons_succ, List.getElem_cons_zero]
          go_simp
          have st := st.allocH (.cells #[.int .i64 0, .int .i64 0, .int .i64 0] 53)
          refine hK.out _ _ st.b (fun hHeld => ?_)
          exact T289 _ _ _ st
        exact AllReadyH.nil
      simp only [Act.put, List.setIfInBounds_toArray, List.set_cons_zero, List.set_cons_succ] at T29
      refine wpAnyH_share 10 #[true, true, true, false, false, false, false, false, false, false, false, false, false] (fun a0 kh km => (Act.put (Act.put (Act.put a0 (some 22) (.agg #[.int .i64 3, .int .i64 0, .int .i64 0])) (some 23) (.agg #[.int .i64 0, .int .i64 0, .slice a 5 c])) (some 24) ((askMsg 3 9 1).val))) none none (W := W2) ?_ (fun T2 => ?_)
      · intro v kh km st
        have hHeld := st.b
        simp only [Act.put, List.setIfInBounds_toArray, List.set_cons_zero, List.set_cons_succ]
        refine wpAnyH_ready (rs := [3, 8, 9]) (by kernel_rfl) (by simp) ?_
        refine AllReadyH.cons rfl (fun K hK => ?_) ?_
        · try simp only [List.getElem_toArray, List.getElem_cons_succ, List.getElem_cons_zero]
          go_simp
          refine (ans2 a c _ (RAt.below (r := rr a c) hr3.out st.b)).mono ?_
          rintro e v ⟨rfl, hb⟩
          try go_wp2_with fail
          have st := st.call hb
          refine hK.out _ _ st.b (fun hHeld => ?_)
          try simp only [Act.put, List.setIfInBounds_toArray, List.set_cons_zero, List.set_cons_succ]
          refine wpAnyH_take (i := 4) (v := ?_) rfl (by kernel_rfl) (by kernel_rfl) (by kernel_rfl) (fun _ _ _ h => h) (Or.inl ⟨by rfl, ?_⟩) (by assumption) ?_
          rotate_left
          · intro w hSw
            go_simp
            try with_reducible rfl
          try simp only [Act.put, List.setIfInBounds_toArray, List.set_cons_zero, List.set_cons_succ]
          refine wpAnyH_take (i := 5) (v := ?_) rfl (by kernel_rfl) (by kernel_rfl) (by kernel_rfl) (fun _ _ _ h => h) (Or.inl ⟨by rfl, ?_⟩) (by assumption) ?_
          rotate_left
          · intro w hSw
            go_simp
            try with_reducible rfl
          try simp only [Act.put, List.setIfInBounds_toArray, List.set_cons_zero, List.set_cons_succ]
          refine wpAnyH_take (i := 6) (v := ?_) rfl (by kernel_rfl) (by kernel_rfl) (by kernel_rfl) (fun _ _ _ h => h) (Or.inl ⟨by rfl, ?_⟩) (by assumption) ?_
          rotate_left
          · intro w hSw
            go_simp
            try with_reducible rfl
          try simp only [Act.put, List.setIfInBounds_toArray, List.set_cons_zero, List.set_cons_succ]
          refine wpAnyH_take (i := 7) (v := ?_) rfl (by kernel_rfl) (by kernel_rfl) (by kernel_rfl) (fun _ _ _ h => h) (Or.inl ⟨by rfl, ?_⟩) (by assumption) ?_
          rotate_left
          · intro w hSw
            go_simp
            try with_reducible rfl
          try simp only [Act.put, List.setIfInBounds_toArray, List.set_cons_zero, List.set_cons_succ]
          exact T23 _ _ _ st
        refine AllReadyH.cons rfl (fun K hK => ?_) ?_
        · try simp only [List.getElem_toArray, List.getElem_cons_succ, List.getElem_cons_zero]
          go_simp
          have st := st.allocH (.cells #[.int .i64 0, .int .i64 0, .int .i64 0] 53)
          refine hK.out _ _ st.b (fun hHeld => ?_)
          exact T28 _ _ _ st
        refine AllReadyH.cons rfl (fun K hK => ?_) ?_
        · try simp only [List.getElem_toArray, List.getElem_cons_succ, List.getElem_cons_zero]
          go_simp
          have st := st.allocM (.cells #[.int .i8 0, .int .i64 0, .int .i64 0, .int .i64 0, .int .i64 0, .int .i64 0, .int .i64 0, .bool false, .slice none 0 0, .int .i64 0, .int .i64 0, .int .u8 0, .slice none 0 0, .slice none 0 0] 61)
          refine hK.out _ _ st.b (fun hHeld => ?_)
          exact T29 _ _ _ st
        exact AllReadyH.nil
      simp only [Act.put, List.setIfInBounds_toArray, List.set_cons_zero, List.set_cons_succ] at T2
      refine wpAnyH_share 9 #[true, true, false, false, false, false, false, false, true, true, false, false, false] (fun a0 kh km => (Act.put (Act.put (Act.put (Act.put a0 (some 22) (.agg #[.int .i64 3, .int .i64 0, .int .i64 0])) (some 23) (.agg #[.int .i64 0, .int .i64 0, .slice a 5 c])) (some 5) (.pointer (some ⟨kh, 0, none⟩))) (some 6) (.pointer (some ⟨km, 0, none⟩)))) (some (.cells #[.int .i64 0, .int .i64 0, .int .i64 0] 53 (0, 0))) (some (.cells #[.int .i8 0, .int .i64 0, .int .i64 0, .int .i64 0, .int .i64 0, .int .i64 0, .int .i64 0, .bool false, .slice none 0 0, .int .i64 0, .int .i64 0, .int .u8 0, .slice none 0 0, .slice none 0 0] 61 (0, 0))) (W := W2) ?_ (fun T89 => ?_)
      · intro v kh km st
        have hHeld := st.b
        simp only [Act.put, List.setIfInBounds_toArray, List.set_cons_zero, List.set_cons_succ]
        refine wpAnyH_ready (rs := [2]) (by kernel_rfl) (by simp) ?_
        refine AllReadyH.cons rfl (fun K hK => ?_) ?_
        · try simp only [List.getElem_toArray, List.getElem_cons_succ, List.getElem_cons_zero]
          go_simp
          refine (ask10_c _ _ _ _).mono ?_
          rintro e v ⟨rfl, hb⟩
          try go_wp2_with fail
          have st := st.call hb
          refine hK.out _ _ st.b (fun hHeld => ?_)
          exact T289 _ _ _ st
        exact AllReadyH.nil
      simp only [Act.put, List.setIfInBounds_toArray, List.set_cons_zero, List.set_cons_succ] at T89
      refine wpAnyH_share 10 #[true, true, false, false, false, false, false, false, true, false, false, false, false] (fun a0 kh km => (Act.put (Act.put (Act.put a0 (some 22) (.agg #[.int .i64 3, .int .i64 0, .int .i64 0])) (some 23) (.agg #[.int .i64 0, .int .i64 0, .slice a 5 c])) (some 5) (.pointer (some ⟨kh, 0, none⟩)))) (some (.cells #[.int .i64 0, .int .i64 0, .int .i64 0] 53 (0, 0))) none (W := W2) ?_ (fun T8 => ?_)
      · intro v kh km st
        have hHeld := st.b
        simp only [Act.put, List.setIfInBounds_toArray, List.set_cons_zero, List.set_cons_succ]
        refine wpAnyH_ready (rs := [2, 9]) (by kernel_rfl) (by simp) ?_
        refine AllReadyH.cons rfl (fun K hK => ?_) ?_
        · try simp only [List.getElem_toArray, List.getElem_cons_succ, List.getElem_cons_zero]
          go_simp
          refine (ask10_c _ _ _ _).mono ?_
          rintro e v ⟨rfl, hb⟩
          try go_wp2_with fail
          have st := st.call hb
          refine hK.out _ _ st.b (fun hHeld => ?_)
          exact T28 _ _ _ st
        refine AllReadyH.cons rfl (fun K hK => ?_) ?_
        · try simp only [List.getElem_toArray, List.getElem_cons_succ, List.getElem_cons_zero]
          go_simp
          have st := st.allocM (.cells #[.int .i8 0, .int .i64 0, .int .i64 0, .int .i64 0, .int .i64 0, .int .i64 0, .int .i64 0, .bool false, .slice none 0 0, .int .i64 0, .int .i64 0, .int .u8 0, .slice none 0 0, .slice none 0 0] 61)
          refine hK.out _ _ st.b (fun hHeld => ?_)
          exact T89 _ _ _ st
        exact AllReadyH.nil
      simp only [Act.put, List.setIfInBounds_toArray, List.set_cons_zero, List.set_cons_succ] at T8
      refine wpAnyH_share 10 #[true, true, false, false, false, false, false, false, false, true, false, false, false] (fun a0 kh km => (Act.put (Act.put (Act.put a0 (some 22) (.agg #[.int .i64 3, .int .i64 0, .int .i64 0])) (some 23) (.agg #[.int .i64 0, .int .i64 0, .slice a 5 c])) (some 6) (.pointer (some ⟨km, 0, none⟩)))) none (some (.cells #[.int .i8 0, .int .i64 0, .int .i64 0, .int .i64 0, .int .i64 0, .int .i64 0, .int .i64 0, .bool false, .slice none 0 0, .int .i64 0, .int .i64 0, .int .u8 0, .slice none 0 0, .slice none 0 0] 61 (0, 0))) (W := W2) ?_ (fun T9 => ?_)
      · intro v kh km st
        have hHeld := st.b
        simp only [Act.put, List.setIfInBounds_toArray, List.set_cons_zero, List.set_cons_succ]
        refine wpAnyH_ready (rs := [2, 8]) (by kernel_rfl) (by simp) ?_
        refine AllReadyH.cons rfl (fun K hK => ?_) ?_
        · try simp only [List.getElem_toArray, List.getElem_cons_succ, List.getElem_cons_zero]
          go_simp
          refine (ask10_c _ _ _ _).mono ?_
          rintro e v ⟨rfl, hb⟩
          try go_wp2_with fail
          have st := st.call hb
          refine hK.out _ _ st.b (fun hHeld => ?_)
          exact T29 _ _ _ st
        refine AllReadyH.cons rfl (fun K hK => ?_) ?_
        · try simp only [List.getElem_toArray, List.getElem_cons_succ, List.getElem_cons_zero]
          go_simp
          have st := st.allocH (.cells #[.int .i64 0, .int .i64 0, .int .i64 0] 53)
          refine hK.out _ _ st.b (fun hHeld => ?_)
          exact T89 _ _ _ st
        exact AllReadyH.nil
      simp only [Act.put, List.setIfInBounds_toArray, List.set_cons_zero, List.set_cons_succ] at T9
      refine wpAnyH_take (i := 0) (v := ?_) rfl (by kernel_rfl) (by kernel_rfl) (by kernel_rfl) (fun _ _ _ h => h) (Or.inl ⟨by rfl, ?_⟩) (by assumption) ?_
      rotate_left
      · intro w hSw
        go_simp
        try with_reducible rfl
      try simp only [Act.put, List.setIfInBounds_toArray, List.set_cons_zero, List.set_cons_succ]
      refine wpAnyH_take (i := 1) (v := ?_) rfl (by kernel_rfl) (by kernel_rfl) (by kernel_rfl) (fun _ _ _ h => h) (Or.inl ⟨by rfl, ?_⟩) (by assumption) ?_
      rotate_left
      · intro w hSw
        have l0 := (Below.cell hSw (p := ⟨w1.heap.size, 0, none⟩) (by simp; omega)).trans p0
        have l1 := (Below.cell hSw (p := ⟨w1.heap.size, 1, none⟩) (by simp; omega)).trans p1
        have l2 := (Below.cell hSw (p := ⟨w1.heap.size, 2, none⟩) (by simp; omega)).trans p2
        go_simp
        try with_reducible rfl
      try simp only [Act.put, List.setIfInBounds_toArray, List.set_cons_zero, List.set_cons_succ]
      refine wpAnyH_ready (rs := [2, 8, 9]) (by kernel_rfl) (by simp) ?_
      refine AllReadyH.cons rfl (fun K hK => ?_) ?_
      · try simp only [List.getElem_toArray, List.getElem_cons_succ, List.getElem_cons_zero]
        go_simp
        refine (ask10_c _ _ _ _).mono ?_
        rintro e v ⟨rfl, hb⟩
        try go_wp2_with fail
        have st := st.call hb
        refine hK.out _ _ st.b (fun hHeld => ?_)
        exact T2 _ _ _ st
      refine AllReadyH.cons rfl (fun K hK => ?_) ?_
      · try simp only [List.getElem_toArray, List.getElem_cons_succ, List.getElem_cons_zero]
        go_simp
        have st := st.allocH (.cells #[.int .i64 0, .int .i64 0, .int .i64 0] 53)
        refine hK.out _ _ st.b (fun hHeld => ?_)
        exact T8 _ _ _ st
      refine AllReadyH.cons rfl (fun K hK => ?_) ?_
      · try simp only [List.getElem_toArray, List.getElem_cons_succ, List.getElem_cons_zero]
        go_simp
        have st := st.allocM (.cells #[.int .i8 0, .int .i64 0, .int .i64 0, .int .i64 0, .int .i64 0, .int .i64 0, .int .i64 0, .bool false, .slice none 0 0, .int .i64 0, .int .i64 0, .int .u8 0, .slice none 0 0, .slice none 0 0] 61)
        refine hK.out _ _ st.b (fun hHeld => ?_)
        exact T9 _ _ _ st
      exact AllReadyH.nil
    case rest =>
      obtain ⟨g3, h3, rfl, rfl, rfl, n3, hb3⟩ := hcut
      obtain ⟨W3, rfl⟩ : ∃ x, x = wc := ⟨_, rfl⟩
      have z3 := hb3.size
      have q0 := (Below.cell hb3 (p := ⟨w1.heap.size, 0, none⟩) (by simp; omega)).trans p0
      have q1 := (Below.cell hb3 (p := ⟨w1.heap.size, 1, none⟩) (by simp; omega)).trans p1
      have q2 := (Below.cell hb3 (p := ⟨w1.heap.size, 2, none⟩) (by simp; omega)).trans p2
      have hr4 := Lib.hid (RAt.below (r := rr a c) hr3.out hb3)
      have hB3 := belowNext hB2 hb3 (Nat.le_refl _)
      have m3 := (Below.cell hb3 (p := ⟨g2, 1, none⟩) (block_lt_of_cell m2)).trans m2
      have n2b := (Below.cell hb3 (p := ⟨h2, 7, none⟩) (block_lt_of_cell n2)).trans n2
      clear hb3 hr3 p0 p1 p2 hB2 m2 n2
      go_upto_region 4 with fail
      go_cut [8, 9, 10] (fun s5 s6 s7 wx => ∃ g h : Nat, s5 = .pointer (some ⟨g, 0, none⟩) ∧ s6 = .pointer (some ⟨h, 0, none⟩) ∧ s7 = .int .i64 0 ∧ wx.cell? ⟨g, 0, none⟩ = some (.int .i64 4) ∧ wx.cell? ⟨g, 1, none⟩ = some (.int .i64 2) ∧ wx.cell? ⟨h, 7, none⟩ = some (.bool true) ∧ Below W3.heap.size W3 wx)
      case first =>
        refine wp_region_noPanic ?_
        refine wp_region_held_drew (S := fun u => Below W3.heap.size W3 u) (by kernel_rfl) ((Below.refl _ _).drew) (fun hHeld => ?_)
        refine wpAnyH_start (n' := 13) (l' := #[false, false, false, false, false, false, false, false, false, false, false, false, false]) (by kernel_rfl) (by kernel_rfl) ?_
        have st : St W3 W3.drew 0 0 none none := St.start 0 0
        generalize W3.drew = v at st hHeld ⊢
        refine wpAnyH_share 3 #[true, true, true, true, true, true, true, true, true, true, false, false, false] (fun a0 kh km => (Act.put (Act.put (Act.put (Act.put (Act.put (Act.put (Act.put (Act.put (Act.put (Act.put a0 (some 30) (.agg #[.int .i64 3, .int .i64 1, .int .i64 0])) (some 31) (.agg #[.int .i64 0, .int .i64 0, .slice a 5 c])) (some 32) ((askMsg 4 5 2).val)) (some 33) (.tuple #[.agg #[.int .i64 4, .int .i64 2, .int .i64 0], .agg #[.int .i8 2, .int .i64 1, .int .i64 2, .int .i64 4, .int .i64 0, .int .i64 0, .int .i64 0, .bool true, .slice none 0 0, .int .i64 0, .int .i64 0, .int .u8 0, .slice none 0 0, .slice none 0 0], .int .i64 0])) (some 29) (.tuple #[.agg #[.int .i64 4, .int .i64 2, .int .i64 0], .agg #[.int .i8 2, .int .i64 1, .int .i64 2, .int .i64 4, .int .i64 0, .int .i64 0, .int .i64 0, .bool true, .slice none 0 0, .int .i64 0, .int .i64 0, .int .u8 0, .slice none 0 0, .slice none 0 0], .int .i64 0])) (some 34) (.agg #[.int .i64 4, .int .i64 2, .int .i64 0])) (some 35) (.agg #[.int .i8 2, .int .i64 1, .int .i64 2, .int .i64 4, .int .i64 0, .int .i64 0, .int .i64 0, .bool true, .slice none 0 0, .int .i64 0, .int .i64 0, .int .u8 0, .slice none 0 0, .slice none 0 0])) (some 36) (.int .i64 0)) (some 8) (.pointer (some ⟨kh, 0, none⟩))) (some 9) (.pointer (some ⟨km, 0, none⟩)))) (some (.cells #[.int .i64 0, .int .i64 0, .int .i64 0] 53 (0, 0))) (some (.cells #[.int .i8 0, .int .i64 0, .int .i64 0, .int .i64 0, .int .i64 0, .int .i64 0, .int .i64 0, .bool false, .slice none 0 0, .int .i64 0, .int .i64 0, .int .u8 0, .slice none 0 0, .slice none 0 0] 61 (0, 0))) (W := W3) ?_ (fun T2389 => ?_)
        · intro v kh km st
          have hHeld := st.b
          simp only [Act.put, List.setIfInBounds_toArray, List.set_cons_zero, List.set_cons_succ]
          refine wpAnyH_ready (rs := [10]) (by kernel_rfl) (by simp) ?_
          refine AllReadyH.cons rfl (fun K hK => ?_) AllReadyH.nil
          rw [if_pos (by rfl)]
          refine wp_store_row _ _ _ rfl _ _ rfl rfl _ _ (st.h _ rfl).2 (by kernel_rfl) rfl (by simp [Value.oneCell']) ?_
          have st := st.storeH (#[.int .i64 4, .int .i64 2, .int .i64 0])
          refine hK.out _ _ st.b (fun hHeld => ?_)
          clear hK K
          try simp only [Act.put, List.setIfInBounds_toArray, List.set_cons_zero, List.set_cons_succ]
          refine wpAnyH_ready (rs := [11]) (by kernel_rfl) (by simp) ?_
          refine AllReadyH.cons rfl (fun K hK => ?_) AllReadyH.nil
          rw [if_pos (by rfl)]
          refine wp_store_row _ _ _ rfl _ _ rfl rfl _ _ (st.m _ rfl).2 (by kernel_rfl) rfl (by simp [Value.oneCell']) ?_
          have st := st.storeM (#[.int .i8 2, .int .i64 1, .int .i64 2, .int .i64 4, .int .i64 0, .int .i64 0, .int .i64 0, .bool true, .slice none 0 0, .int .i64 0, .int .i64 0, .int .u8 0, .slice none 0 0, .slice none 0 0])
          refine hK.out _ _ st.b (fun hHeld => ?_)
          clear hK K
          try simp only [Act.put, List.setIfInBounds_toArray, List.set_cons_zero, List.set_cons_succ]
          refine wpAnyH_take (i := 12) (v := ?_) rfl (by kernel_rfl) (by kernel_rfl) (by kernel_rfl) (fun _ _ _ h => h) (Or.inl ⟨by rfl, ?_⟩) (by assumption) ?_
          rotate_left
          · intro w hSw
            go_simp
            try with_reducible rfl
          try simp only [Act.put, List.setIfInBounds_toArray, List.set_cons_zero, List.set_cons_succ]
          refine wpAnyH_done (by kernel_rfl) ?_ _
          try simp only [List.getElem_toArray, List.getElem_cons_succ, List.getElem_cons_zero]
          try simp only [Act.put, List.setIfInBounds_toArray, List.set_cons_zero, List.set_cons_succ]
          refine NoPanic.normal ?_
          go_wp2_with fail
          go_meet
          exact ⟨kh, km, rfl, rfl, rfl, (cell_of_row _ kh 0 _ _ _ (st.h _ rfl).2).trans rfl, (cell_of_row _ kh 1 _ _ _ (st.h _ rfl).2).trans rfl, (cell_of_row _ km 7 _ _ _ (st.m _ rfl).2).trans rfl, st.b⟩
        simp only [Act.put, List.setIfInBounds_toArray, List.set_cons_zero, List.set_cons_succ] at T2389
        refine wpAnyH_share 4 #[true, true, true, true, true, true, true, true, true, false, false, false, false] (fun a0 kh km => (Act.put (Act.put (Act.put (Act.put (Act.put (Act.put (Act.put (Act.put (Act.put a0 (some 30) (.agg #[.int .i64 3, .int .i64 1, .int .i64 0])) (some 31) (.agg #[.int .i64 0, .int .i64 0, .slice a 5 c])) (some 32) ((askMsg 4 5 2).val)) (some 33) (.tuple #[.agg #[.int .i64 4, .int .i64 2, .int .i64 0], .agg #[.int .i8 2, .int .i64 1, .int .i64 2, .int .i64 4, .int .i64 0, .int .i64 0, .int .i64 0, .bool true, .slice none 0 0, .int .i64 0, .int .i64 0, .int .u8 0, .slice none 0 0, .slice none 0 0], .int .i64 0])) (some 29) (.tuple #[.agg #[.int .i64 4, .int .i64 2, .int .i64 0], .agg #[.int .i8 2, .int .i64 1, .int .i64 2, .int .i64 4, .int .i64 0, .int .i64 0, .int .i64 0, .bool true, .slice none 0 0, .int .i64 0, .int .i64 0, .int .u8 0, .slice none 0 0, .slice none 0 0], .int .i64 0])) (some 34) (.agg #[.int .i64 4, .int .i64 2, .int .i64 0])) (some 35) (.agg #[.int .i8 2, .int .i64 1, .int .i64 2, .int .i64 4, .int .i64 0, .int .i64 0, .int .i64 0, .bool true, .slice none 0 0, .int .i64 0, .int .i64 0, .int .u8 0, .slice none 0 0, .slice none 0 0])) (some 36) (.int .i64 0)) (some 8) (.pointer (some ⟨kh, 0, none⟩)))) (some (.cells #[.int .i64 0, .int .i64 0, .int .i64 0] 53 (0, 0))) none (W := W3) ?_ (fun T238 => ?_)
        · intro v kh km st
          have hHeld := st.b
          simp only [Act.put, List.setIfInBounds_toArray, List.set_cons_zero, List.set_cons_succ]
          refine wpAnyH_ready (rs := [9]) (by kernel_rfl) (by simp) ?_
          refine AllReadyH.cons rfl (fun K hK => ?_) ?_
          · try simp only [List.getElem_toArray, List.getElem_cons_succ, List.getElem_cons_zero]
            go_simp
            have st := st.allocM (.cells #[.int .i8 0, .int .i64 0, .int .i64 0, .int .i64 0, .int .i64 0, .int .i64 0, .int .i64 0, .bool false, .slice none 0 0, .int .i64 0, .int .i64 0, .int .u8 0, .slice none 0 0, .slice none 0 0] 61)
            refine hK.out _ _ st.b (fun hHeld => ?_)
            exact T2389 _ _ _ st
          exact AllReadyH.nil
        simp only [Act.put, List.setIfInBounds_toArray, List.set_cons_zero, List.set_cons_succ] at T238
        refine wpAnyH_share 4 #[true, true, true, true, true, true, true, true, false, true, false, false, false] (fun a0 kh km => (Act.put (Act.put (Act.put (Act.put (Act.put (Act.put (Act.put (Act.put (Act.put a0 (some 30) (.agg #[.int .i64 3, .int .i64 1, .int .i64 0])) (some 31) (.agg #[.int .i64 0, .int .i64 0, .slice a 5 c])) (some 32) ((askMsg 4 5 2).val)) (some 33) (.tuple #[.agg #[.int .i64 4, .int .i64 2, .int .i64 0], .agg #[.int .i8 2, .int .i64 1, .int .i64 2, .int .i64 4, .int .i64 0, .int .i64 0, .int .i64 0, .bool true, .slice none 0 0, .int .i64 0, .int .i64 0, .int .u8 0, .slice none 0 0, .slice none 0 0], .int .i64 0])) (some 29) (.tuple #[.agg #[.int .i64 4, .int .i64 2, .int .i64 0], .agg #[.int .i8 2, .int .i64 1, .int .i64 2, .int .i64 4, .int .i64 0, .int .i64 0, .int .i64 0, .bool true, .slice none 0 0, .int .i64 0, .int .i64 0, .int .u8 0, .slice none 0 0, .slice none 0 0], .int .i64 0])) (some 34) (.agg #[.int .i64 4, .int .i64 2, .int .i64 0])) (some 35) (.agg #[.int .i8 2, .int .i64 1, .int .i64 2, .int .i64 4, .int .i64 0, .int .i64 0, .int .i64 0, .bool true, .slice none 0 0, .int .i64 0, .int .i64 0, .int .u8 0, .slice none 0 0, .slice none 0 0])) (some 36) (.int .i64 0)) (some 9) (.pointer (some ⟨km, 0, none⟩)))) none (some (.cells #[.int .i8 0, .int .i64 0, .int .i64 0, .int .i64 0, .int .i64 0, .int .i64 0, .int .i64 0, .bool false, .slice none 0 0, .int .i64 0, .int .i64 0, .int .u8 0, .slice none 0 0, .slice none 0 0] 61 (0, 0))) (W := W3) ?_ (fun T239 => ?_)
        · intro v kh km st
          have hHeld := st.b
          simp only [Act.put, List.setIfInBounds_toArray, List.set_cons_zero, List.set_cons_succ]
          refine wpAnyH_ready (rs := [8]) (by kernel_rfl) (by simp) ?_
          refine AllReadyH.cons rfl (fun K hK => ?_) ?_
          · try simp only [List.getElem_toArray, List.getElem_cons_succ, List.getElem_cons_zero]
            go_simp
            have st := st.allocH (.cells #[.int .i64 0, .int .i64 0, .int .i64 0] 53)
            refine hK.out _ _ st.b (fun hHeld => ?_)
            exact T2389 _ _ _ st
          exact AllReadyH.nil
        simp only [Act.put, List.setIfInBounds_toArray, List.set_cons_zero, List.set_cons_succ] at T239
        refine wpAnyH_share 5 #[true, true, true, true, true, true, true, true, false, false, false, false, false] (fun a0 kh km => (Act.put (Act.put (Act.put (Act.put (Act.put (Act.put (Act.put (Act.put a0 (some 30) (.agg #[.int .i64 3, .int .i64 1, .int .i64 0])) (some 31) (.agg #[.int .i64 0, .int .i64 0, .slice a 5 c])) (some 32) ((askMsg 4 5 2).val)) (some 33) (.tuple #[.agg #[.int .i64 4, .int .i64 2, .int .i64 0], .agg #[.int .i8 2, .int .i64 1, .int .i64 2, .int .i64 4, .int .i64 0, .int .i64 0, .int .i64 0, .bool true, .slice none 0 0, .int .i64 0, .int .i64 0, .int .u8 0, .slice none 0 0, .slice none 0 0], .int .i64 0])) (some 29) (.tuple #[.agg #[.int .i64 4, .int .i64 2, .int .i64 0], .agg #[.int .i8 2, .int .i64 1, .int .i64 2, .int .i64 4, .int .i64 0, .int .i64 0, .int .i64 0, .bool true, .slice none 0 0, .int .i64 0, .int .i64 0, .int .u8 0, .slice none 0 0, .slice none 0 0], .int .i64 0])) (some 34) (.agg #[.int .i64 4, .int .i64 2, .int .i64 0])) (some 35) (.agg #[.int .i8 2, .int .i64 1, .int .i64 2, .int .i64 4, .int .i64 0, .int .i64 0, .int .i64 0, .bool true, .slice none 0 0, .int .i64 0, .int .i64 0, .int .u8 0, .slice none 0 0, .slice none 0 0])) (some 36) (.int .i64 0))) none none (W := W3) ?_ (fun T23 => ?_)
        · intro v kh km st
          have hHeld := st.b
          simp only [Act.put, List.setIfInBounds_toArray, List.set_cons_zero, List.set_cons_succ]
          refine wpAnyH_ready (rs := [8, 9]) (by kernel_rfl) (by simp) ?_
          refine AllReadyH.cons rfl (fun K hK => ?_) ?_
          · try simp only [List.getElem_toArray, List.getElem_cons_succ, List.getElem_cons_zero]
            go_simp
            have st := st.allocH (.cells #[.int .i64 0, .int .i64 0, .int .i64 0] 53)
            refine hK.out _ _ st.b (fun hHeld => ?_)
            exact T238 _ _ _ st
          refine AllReadyH.cons rfl (fun K hK => ?_) ?_
          · try simp only [List.getElem_toArray, List.getElem_cons_succ, List.getElem_cons_zero]
            go_simp
            have st := st.allocM (.cells #[.int .i8 0, .int .i64 0, .int .i64 0, .int .i64 0, .int .i64 0, .int .i64 0, .int .i64 0, .bool false, .slice none 0 0, .int .i64 0, .int .i64 0, .int .u8 0, .slice none 0 0, .slice none 0 0] 61)
            refine hK.out _ _ st.b (fun hHeld => ?_)
            exact T239 _ _ _ st
          exact AllReadyH.nil
        simp only [Act.put, List.setIfInBounds_toArray, List.set_cons_zero, List.set_cons_succ] at T23
        refine wpAnyH_share 8 #[true, true, true, false, false, false, false, false, true, true, false, false, false] (fun a0 kh km => (Act.put (Act.put (Act.put (Act.put (Act.put a0 (some 30) (.agg #[.int .i64 3, .int .i64 1, .int .i64 0])) (some 31) (.agg #[.int .i64 0, .int .i64 0, .slice a 5 c])) (some 32) ((askMsg 4 5 2).val)) (some 8) (.pointer (some ⟨kh, 0, none⟩))) (some 9) (.pointer (some ⟨km, 0, none⟩)))) (some (.cells #[.int .i64 0, .int .i64 0, .int .i64 0] 53 (0, 0))) (some (.cells #[.int .i8 0, .int .i64 0, .int .i64 0, .int .i64 0, .int .i64 0, .int .i64 0, .int .i64 0, .bool false, .slice none 0 0, .int .i64 0, .int .i64 0, .int .u8 0, .slice none 0 0, .slice none 0 0] 61 (0, 0))) (W := W3) ?_ (fun T289 => ?_)
        · intro v kh km st
          have hHeld := st.b
          simp only [Act.put, List.setIfInBounds_toArray, List.set_cons_zero, List.set_cons_succ]
          refine wpAnyH_ready (rs := [3]) (by kernel_rfl) (by simp) ?_
          refine AllReadyH.cons rfl (fun K hK => ?_) ?_
          · try simp only [List.getElem_toArray, List.getElem_cons_succ, List.getElem_cons_zero]
            go_simp
            refine (ans3 a c _ (RAt.below (r := rr a c) hr4.out st.b)).mono ?_
            rintro e v ⟨rfl, hb⟩
            try go_wp2_with fail
            have st := st.call hb
            refine hK.out _ _ st.b (fun hHeld => ?_)
            try simp only [Act.put, List.setIfInBounds_toArray, List.set_cons_zero, List.set_cons_succ]
            refine wpAnyH_take (i := 4) (v := ?_) rfl (by kernel_rfl) (by kernel_rfl) (by kernel_rfl) (fun _ _ _ h => h) (Or.inl ⟨by rfl, ?_⟩) (by assumption) ?_
            rotate_left
            · intro w hSw
              go_simp
              try with_reducible rfl
            try simp only [Act.put, List.setIfInBounds_toArray, List.set_cons_zero, List.set_cons_succ]
            refine wpAnyH_take (i := 5) (v := ?_) rfl (by kernel_rfl) (by kernel_rfl) (by kernel_rfl) (fun _ _ _ h => h) (Or.inl ⟨by rfl, ?_⟩) (by assumption) ?_
            rotate_left
            · intro w hSw
              go_simp
              try with_reducible rfl
            try simp only [Act.put, List.setIfInBounds_toArray, List.set_cons_zero, List.set_cons_succ]
            refine wpAnyH_take (i := 6) (v := ?_) rfl (by kernel_rfl) (by kernel_rfl) (by kernel_rfl) (fun _ _ _ h => h) (Or.inl ⟨by rfl, ?_⟩) (by assumption) ?_
            rotate_left
            · intro w hSw
              go_simp
              try with_reducible rfl
            try simp only [Act.put, List.setIfInBounds_toArray, List.set_cons_zero, List.set_cons_succ]
            refine wpAnyH_take (i := 7) (v := ?_) rfl (by kernel_rfl) (by kernel_rfl) (by kernel_rfl) (fun _ _ _ h => h) (Or.inl ⟨by rfl, ?_⟩) (by assumption) ?_
            rotate_left
            · intro w hSw
              go_simp
              try with_reducible rfl
            try simp only [Act.put, List.setIfInBounds_toArray, List.set_cons_zero, List.set_cons_succ]
            exact T2389 _ _ _ st
          exact AllReadyH.nil
        simp only [Act.put, List.setIfInBounds_toArray, List.set_cons_zero, List.set_cons_succ] at T289
        refine wpAnyH_share 9 #[true, true, true, false, false, false, false, false, true, false, false, false, false] (fun a0 kh km => (Act.put (Act.put (Act.put (Act.put a0 (some 30) (.agg #[.int .i64 3, .int .i64 1, .int .i64 0])) (some 31) (.agg #[.int .i64 0, .int .i64 0, .slice a 5 c])) (some 32) ((askMsg 4 5 2).val)) (some 8) (.pointer (some ⟨kh, 0, none⟩)))) (some (.cells #[.int .i64 0, .int .i64 0, .int .i64 0] 53 (0, 0))) none (W := W3) ?_ (fun T28 => ?_)
        · intro v kh km st
          have hHeld := st.b
          simp only [Act.put, List.setIfInBounds_toArray, List.set_cons_zero, List.set_cons_succ]
          refine wpAnyH_ready (rs := [3, 9]) (by kernel_rfl) (by simp) ?_
          refine AllReadyH.cons rfl (fun K hK => ?_) ?_
          · try simp only [List.getElem_toArray, List.getElem_cons_succ, List.getElem_cons_zero]
            go_simp
            refine (ans3 a c _ (RAt.below (r := rr a c) hr4.out st.b)).mono ?_
            rintro e v ⟨rfl, hb⟩
            try go_wp2_with fail
            have st := st.call hb
            refine hK.out _ _ st.b (fun hHeld => ?_)
            try simp only [Act.put, List.setIfInBounds_toArray, List.set_cons_zero, List.set_cons_succ]
            refine wpAnyH_take (i := 4) (v := ?_) rfl (by kernel_rfl) (by kernel_rfl) (by kernel_rfl) (fun _ _ _ h => h) (Or.inl ⟨by rfl, ?_⟩) (by assumption) ?_
            rotate_left
            · intro w hSw
              go_simp
              try with_reducible rfl
            try simp only [Act.put, List.setIfInBounds_toArray, List.set_cons_zero, List.set_cons_succ]
            refine wpAnyH_take (i := 5) (v := ?_) rfl (by kernel_rfl) (by kernel_rfl) (by kernel_rfl) (fun _ _ _ h => h) (Or.inl ⟨by rfl, ?_⟩) (by assumption) ?_
            rotate_left
            · intro w hSw
              go_simp
              try with_reducible rfl
            try simp only [Act.put, List.setIfInBounds_toArray, List.set_cons_zero, List.set_cons_succ]
            refine wpAnyH_take (i := 6) (v := ?_) rfl (by kernel_rfl) (by kernel_rfl) (by kernel_rfl) (fun _ _ _ h => h) (Or.inl ⟨by rfl, ?_⟩) (by assumption) ?_
            rotate_left
            · intro w hSw
              go_simp
              try with_reducible rfl
            try simp only [Act.put, List.setIfInBounds_toArray, List.set_cons_zero, List.set_cons_succ]
            refine wpAnyH_take (i := 7) (v := ?_) rfl (by kernel_rfl) (by kernel_rfl) (by kernel_rfl) (fun _ _ _ h => h) (Or.inl ⟨by rfl, ?_⟩) (by assumption) ?_
            rotate_left
            · intro w hSw
              go_simp
              try with_reducible rfl
            try simp only [Act.put, List.setIfInBounds_toArray, List.set_cons_zero, List.set_cons_succ]
            exact T238 _ _ _ st
          refine AllReadyH.cons rfl (fun K hK => ?_) ?_
          · try simp only [List.getElem_toArray, List.getElem_cons_succ, List.getElem_cons_zero]
            go_simp
            have st := st.allocM (.cells #[.int .i8 0, .int .i64 0, .int .i64 0, .int .i64 0, .int .i64 0, .int .i64 0, .int .i64 0, .bool false, .slice none 0 0, .int .i64 0, .int .i64 0, .int .u8 0, .slice none 0 0, .slice none 0 0] 61)
            refine hK.out _ _ st.b (fun hHeld => ?_)
            exact T289 _ _ _ st
          exact AllReadyH.nil
        simp only [Act.put, List.setIfInBounds_toArray, List.set_cons_zero, List.set_cons_succ] at T28
        refine wpAnyH_share 9 #[true, true, true, false, false, false, false, false, false, true, false, false, false] (fun a0 kh km => (Act.put (Act.put (Act.put (Act.put a0 (some 30) (.agg #[.int .i64 3, .int .i64 1, .int .i64 0])) (some 31) (.agg #[.int .i64 0, .int .i64 0, .slice a 5 c])) (some 32) ((askMsg 4 5 2).val)) (some 9) (.pointer (some ⟨km, 0, none⟩)))) none (some (.cells #[.int .i8 0, .int .i64 0, .int .i64 0, .int .i64 0, .int .i64 0, .int .i64 0, .int .i64 0, .bool false, .slice none 0 0, .int .i64 0, .int .i64 0, .int .u8 0, .slice none 0 0, .slice none 0 0] 61 (0, 0))) (W := W3) ?_ (fun T29 => ?_)
        · intro v kh km st
          have hHeld := st.b
          simp only [Act.put, List.setIfInBounds_toArray, List.set_cons_zero, List.set_cons_succ]
          refine wpAnyH_ready (rs := [3, 8]) (by kernel_rfl) (by simp) ?_
          refine AllReadyH.cons rfl (fun K hK => ?_) ?_
          · try simp only [List.getElem_toArray, List.getElem_cons_succ, List.getElem_cons_zero]
            go_simp
            refine (ans3 a c _ (RAt.below (r := rr a c) hr4.out st.b)).mono ?_
            rintro e v ⟨rfl, hb⟩
            try go_wp2_with fail
            have st := st.call hb
            refine hK.out _ _ st.b (fun hHeld => ?_)
            try simp only [Act.put, List.setIfInBounds_toArray, List.set_cons_zero, List.set_cons_succ]
            refine wpAnyH_take (i := 4) (v := ?_) rfl (by kernel_rfl) (by kernel_rfl) (by kernel_rfl) (fun _ _ _ h => h) (Or.inl ⟨by rfl, ?_⟩) (by assumption) ?_
            rotate_left
            · intro w hSw
              go_simp
              try with_reducible rfl
            try simp only [Act.put, List.setIfInBounds_toArray, List.set_cons_zero, List.set_cons_succ]
            refine wpAnyH_take (i := 5) (v := ?_) rfl (by kernel_rfl) (by kernel_rfl) (by kernel_rfl) (fun _ _ _ h => h) (Or.inl ⟨by rfl, ?_⟩) (by assumption) ?_
            rotate_left
            · intro w hSw
              go_simp
              try with_reducible rfl
            try simp only [Act.put, List.setIfInBounds_toArray, List.set_cons_zero, List.set_cons_succ]
            refine wpAnyH_take (i := 6) (v := ?_) rfl (by kernel_rfl) (by kernel_rfl) (by kernel_rfl) (fun _ _ _ h => h) (Or.inl ⟨by rfl, ?_⟩) (by assumption) ?_
            rotate_left
            · intro w hSw
              go_simp
              try with_reducible rfl
            try simp only [Act.put, List.setIfInBounds_toArray, List.set_cons_zero, List.set_cons_succ]
            refine wpAnyH_take (i := 7) (v := ?_) rfl (by kernel_rfl) (by kernel_rfl) (by kernel_rfl) (fun _ _ _ h => h) (Or.inl ⟨by rfl, ?_⟩) (by assumption) ?_
            rotate_left
            · intro w hSw
              go_simp
              try with_reducible rfl
            try simp only [Act.put, List.setIfInBounds_toArray, List.set_cons_zero, List.set_cons_succ]
            exact T239 _ _ _ st
          refine AllReadyH.cons rfl (fun K hK => ?_) ?_
          · try simp only [List.getElem_toArray, List.getElem_cons_succ, List.getElem_cons_zero]
            go_simp
            have st := st.allocH (.cells #[.int .i64 0, .int .i64 0, .int .i64 0] 53)
            refine hK.out _ _ st.b (fun hHeld => ?_)
            exact T289 _ _ _ st
          exact AllReadyH.nil
        simp only [Act.put, List.setIfInBounds_toArray, List.set_cons_zero, List.set_cons_succ] at T29
        refine wpAnyH_share 10 #[true, true, true, false, false, false, false, false, false, false, false, false, false] (fun a0 kh km => (Act.put (Act.put (Act.put a0 (some 30) (.agg #[.int .i64 3, .int .i64 1, .int .i64 0])) (some 31) (.agg #[.int .i64 0, .int .i64 0, .slice a 5 c])) (some 32) ((askMsg 4 5 2).val))) none none (W := W3) ?_ (fun T2 => ?_)
        · intro v kh km st
          have hHeld := st.b
          simp only [Act.put, List.setIfInBounds_toArray, List.set_cons_zero, List.set_cons_succ]
          refine wpAnyH_ready (rs := [3, 8, 9]) (by kernel_rfl) (by simp) ?_
          refine AllReadyH.cons rfl (fun K hK => ?_) ?_
          · try simp only [List.getElem_toArray, List.getElem_cons_succ, List.getElem_cons_zero]
            go_simp
            refine (ans3 a c _ (RAt.below (r := rr a c) hr4.out st.b)).mono ?_
            rintro e v ⟨rfl, hb⟩
            try go_wp2_with fail
            have st := st.call hb
            refine hK.out _ _ st.b (fun hHeld => ?_)
            try simp only [Act.put, List.setIfInBounds_toArray, List.set_cons_zero, List.set_cons_succ]
            refine wpAnyH_take (i := 4) (v := ?_) rfl (by kernel_rfl) (by kernel_rfl) (by kernel_rfl) (fun _ _ _ h => h) (Or.inl ⟨by rfl, ?_⟩) (by assumption) ?_
            rotate_left
            · intro w hSw
              go_simp
              try with_reducible rfl
            try simp only [Act.put, List.setIfInBounds_toArray, List.set_cons_zero, List.set_cons_succ]
            refine wpAnyH_take (i := 5) (v := ?_) rfl (by kernel_rfl) (by kernel_rfl) (by kernel_rfl) (fun _ _ _ h => h) (Or.inl ⟨by rfl, ?_⟩) (by assumption) ?_
            rotate_left
            · intro w hSw
              go_simp
              try with_reducible rfl
            try simp only [Act.put, List.setIfInBounds_toArray, List.set_cons_zero, List.set_cons_succ]
            refine wpAnyH_take (i := 6) (v := ?_) rfl (by kernel_rfl) (by kernel_rfl) (by kernel_rfl) (fun _ _ _ h => h) (Or.inl ⟨by rfl, ?_⟩) (by assumption) ?_
            rotate_left
            · intro w hSw
              go_simp
              try with_reducible rfl
            try simp only [Act.put, List.setIfInBounds_toArray, List.set_cons_zero, List.set_cons_succ]
            refine wpAnyH_take (i := 7) (v := ?_) rfl (by kernel_rfl) (by kernel_rfl) (by kernel_rfl) (fun _ _ _ h => h) (Or.inl ⟨by rfl, ?_⟩) (by assumption) ?_
            rotate_left
            · intro w hSw
              go_simp
              try with_reducible rfl
            try simp only [Act.put, List.setIfInBounds_toArray, List.set_cons_zero, List.set_cons_succ]
            exact T23 _ _ _ st
          refine AllReadyH.cons rfl (fun K hK => ?_) ?_
          · try simp only [List.getElem_toArray, List.getElem_cons_succ, List.getElem_cons_zero]
            go_simp
            have st := st.allocH (.cells #[.int .i64 0, .int .i64 0, .int .i64 0] 53)
            refine hK.out _ _ st.b (fun hHeld => ?_)
            exact T28 _ _ _ st
          refine AllReadyH.cons rfl (fun K hK => ?_) ?_
          · try simp only [List.getElem_toArray, List.getElem_cons_succ, List.getElem_cons_zero]
            go_simp
            have st := st.allocM (.cells #[.int .i8 0, .int .i64 0, .int .i64 0, .int .i64 0, .int .i64 0, .int .i64 0, .int .i64 0, .bool false, .slice none 0 0, .int .i64 0, .int .i64 0, .int .u8 0, .slice none 0 0, .slice none 0 0] 61)
            refine hK.out _ _ st.b (fun hHeld => ?_)
            exact T29 _ _ _ st
          exact AllReadyH.nil
        simp only [Act.put, List.setIfInBounds_toArray, List.set_cons_zero, List.set_cons_succ] at T2
        refine wpAnyH_share 9 #[true, true, false, false, false, false, false, false, true, true, false, false, false] (fun a0 kh km => (Act.put (Act.put (Act.put (Act.put a0 (some 30) (.agg #[.int .i64 3, .int .i64 1, .int .i64 0])) (some 31) (.agg #[.int .i64 0, .int .i64 0, .slice a 5 c])) (some 8) (.pointer (some ⟨kh, 0, none⟩))) (some 9) (.pointer (some ⟨km, 0, none⟩)))) (some (.cells #[.int .i64 0, .int .i64 0, .int .i64 0] 53 (0, 0))) (some (.cells #[.int .i8 0, .int .i64 0, .int .i64 0, .int .i64 0, .int .i64 0, .int .i64 0, .int .i64 0, .bool false, .slice none 0 0, .int .i64 0, .int .i64 0, .int .u8 0, .slice none 0 0, .slice none 0 0] 61 (0, 0))) (W := W3) ?_ (fun T89 => ?_)
        · intro v kh km st
          have hHeld := st.b
          simp only [Act.put, List.setIfInBounds_toArray, List.set_cons_zero, List.set_cons_succ]
          refine wpAnyH_ready (rs := [2]) (by kernel_rfl) (by simp) ?_
          refine AllReadyH.cons rfl (fun K hK => ?_) ?_
          · try simp only [List.getElem_toArray, List.getElem_cons_succ, List.getElem_cons_zero]
            go_simp
            refine (ask10_c _ _ _ _).mono ?_
            rintro e v ⟨rfl, hb⟩
            try go_wp2_with fail
            have st := st.call hb
            refine hK.out _ _ st.b (fun hHeld => ?_)
            exact T289 _ _ _ st
          exact AllReadyH.nil
        simp only [Act.put, List.setIfInBounds_toArray, List.set_cons_zero, List.set_cons_succ] at T89
        refine wpAnyH_share 10 #[true, true, false, false, false, false, false, false, true, false, false, false, false] (fun a0 kh km => (Act.put (Act.put (Act.put a0 (some 30) (.agg #[.int .i64 3, .int .i64 1, .int .i64 0])) (some 31) (.agg #[.int .i64 0, .int .i64 0, .slice a 5 c])) (some 8) (.pointer (some ⟨kh, 0, none⟩)))) (some (.cells #[.int .i64 0, .int .i64 0, .int .i64 0] 53 (0, 0))) none (W := W3) ?_ (fun T8 => ?_)
        · intro v kh km st
          have hHeld := st.b
          simp only [Act.put, List.setIfInBounds_toArray, List.set_cons_zero, List.set_cons_succ]
          refine wpAnyH_ready (rs := [2, 9]) (by kernel_rfl) (by simp) ?_
          refine AllReadyH.cons rfl (fun K hK => ?_) ?_
          · try simp only [List.getElem_toArray, List.getElem_cons_succ, List.getElem_cons_zero]
            go_simp
            refine (ask10_c _ _ _ _).mono ?_
            rintro e v ⟨rfl, hb⟩
            try go_wp2_with fail
            have st := st.call hb
            refine hK.out _ _ st.b (fun hHeld => ?_)
            exact T28 _ _ _ st
          refine AllReadyH.cons rfl (fun K hK => ?_) ?_
          · try simp only [List.getElem_toArray, List.getElem_cons_succ, List.getElem_cons_zero]
            go_simp
            have st := st.allocM (.cells #[.int .i8 0, .int .i64 0, .int .i64 0, .int .i64 0, .int .i64 0, .int .i64 0, .int .i64 0, .bool false, .slice none 0 0, .int .i64 0, .int .i64 0, .int .u8 0, .slice none 0 0, .slice none 0 0] 61)
            refine hK.out _ _ st.b (fun hHeld => ?_)
            exact T89 _ _ _ st
          exact AllReadyH.nil
        simp only [Act.put, List.setIfInBounds_toArray, List.set_cons_zero, List.set_cons_succ] at T8
        refine wpAnyH_share 10 #[true, true, false, false, false, false, false, false, false, true, false, false, false] (fun a0 kh km => (Act.put (Act.put (Act.put a0 (some 30) (.agg #[.int .i64 3, .int .i64 1, .int .i64 0])) (some 31) (.agg #[.int .i64 0, .int .i64 0, .slice a 5 c])) (some 9) (.pointer (some ⟨km, 0, none⟩)))) none (some (.cells #[.int .i8 0, .int .i64 0, .int .i64 0, .int .i64 0, .int .i64 0, .int .i64 0, .int .i64 0, .bool false, .slice none 0 0, .int .i64 0, .int .i64 0, .int .u8 0, .slice none 0 0, .slice none 0 0] 61 (0, 0))) (W := W3) ?_ (fun T9 => ?_)
        · intro v kh km st
          have hHeld := st.b
          simp only [Act.put, List.setIfInBounds_toArray, List.set_cons_zero, List.set_cons_succ]
          refine wpAnyH_ready (rs := [2, 8]) (by kernel_rfl) (by simp) ?_
          refine AllReadyH.cons rfl (fun K hK => ?_) ?_
          · try simp only [List.getElem_toArray, List.getElem_cons_succ, List.getElem_cons_zero]
            go_simp
            refine (ask10_c _ _ _ _).mono ?_
            rintro e v ⟨rfl, hb⟩
            try go_wp2_with fail
            have st := st.call hb
            refine hK.out _ _ st.b (fun hHeld => ?_)
            exact T29 _ _ _ st
          refine AllReadyH.cons rfl (fun K hK => ?_) ?_
          · try simp only [List.getElem_toArray, List.getElem_cons_succ, List.getElem_cons_zero]
            go_simp
            have st := st.allocH (.cells #[.int .i64 0, .int .i64 0, .int .i64 0] 53)
            refine hK.out _ _ st.b (fun hHeld => ?_)
            exact T89 _ _ _ st
          exact AllReadyH.nil
        simp only [Act.put, List.setIfInBounds_toArray, List.set_cons_zero, List.set_cons_succ] at T9
        refine wpAnyH_take (i := 0) (v := ?_) rfl (by kernel_rfl) (by kernel_rfl) (by kernel_rfl) (fun _ _ _ h => h) (Or.inl ⟨by rfl, ?_⟩) (by assumption) ?_
        rotate_left
        · intro w hSw
          go_simp
          try with_reducible rfl
        try simp only [Act.put, List.setIfInBounds_toArray, List.set_cons_zero, List.set_cons_succ]
        refine wpAnyH_take (i := 1) (v := ?_) rfl (by kernel_rfl) (by kernel_rfl) (by kernel_rfl) (fun _ _ _ h => h) (Or.inl ⟨by rfl, ?_⟩) (by assumption) ?_
        rotate_left
        · intro w hSw
          have l0 := (Below.cell hSw (p := ⟨w1.heap.size, 0, none⟩) (by simp; omega)).trans q0
          have l1 := (Below.cell hSw (p := ⟨w1.heap.size, 1, none⟩) (by simp; omega)).trans q1
          have l2 := (Below.cell hSw (p := ⟨w1.heap.size, 2, none⟩) (by simp; omega)).trans q2
          go_simp
          try with_reducible rfl
        try simp only [Act.put, List.setIfInBounds_toArray, List.set_cons_zero, List.set_cons_succ]
        refine wpAnyH_ready (rs := [2, 8, 9]) (by kernel_rfl) (by simp) ?_
        refine AllReadyH.cons rfl (fun K hK => ?_) ?_
        · try simp only [List.getElem_toArray, List.getElem_cons_succ, List.getElem_cons_zero]
          go_simp
          refine (ask10_c _ _ _ _).mono ?_
          rintro e v ⟨rfl, hb⟩
          try go_wp2_with fail
          have st := st.call hb
          refine hK.out _ _ st.b (fun hHeld => ?_)
          exact T2 _ _ _ st
        refine AllReadyH.cons rfl (fun K hK => ?_) ?_
        · try simp only [List.getElem_toArray, List.getElem_cons_succ, List.getElem_cons_zero]
          go_simp
          have st := st.allocH (.cells #[.int .i64 0, .int .i64 0, .int .i64 0] 53)
          refine hK.out _ _ st.b (fun hHeld => ?_)
          exact T8 _ _ _ st
        refine AllReadyH.cons rfl (fun K hK => ?_) ?_
        · try simp only [List.getElem_toArray, List.getElem_cons_succ, List.getElem_cons_zero]
          go_simp
          have st := st.allocM (.cells #[.int .i8 0, .int .i64 0, .int .i64 0, .int .i64 0, .int .i64 0, .int .i64 0, .int .i64 0, .bool false, .slice none 0 0, .int .i64 0, .int .i64 0, .int .u8 0, .slice none 0 0, .slice none 0 0] 61)
          refine hK.out _ _ st.b (fun hHeld => ?_)
          exact T9 _ _ _ st
        exact AllReadyH.nil
      case rest =>
        obtain ⟨g4, h4, rfl, rfl, rfl, x4, y4, n4, hb4⟩ := hcut
        obtain ⟨W4, rfl⟩ : ∃ x, x = wc := ⟨_, rfl⟩
        have z4 := hb4.size
        have r0 := (Below.cell hb4 (p := ⟨w1.heap.size, 0, none⟩) (by simp; omega)).trans q0
        have r1 := (Below.cell hb4 (p := ⟨w1.heap.size, 1, none⟩) (by simp; omega)).trans q1
        have r2 := (Below.cell hb4 (p := ⟨w1.heap.size, 2, none⟩) (by simp; omega)).trans q2
        have hr5 := Lib.hid (RAt.below (r := rr a c) hr4.out hb4)
        have hB4 := belowNext hB3 hb4 (Nat.le_refl _)
        have m5 := (Below.cell hb4 (p := ⟨g2, 1, none⟩) (block_lt_of_cell m3)).trans m3
        have n5 := (Below.cell hb4 (p := ⟨h2, 7, none⟩) (block_lt_of_cell n2b)).trans n2b
        have n6 := (Below.cell hb4 (p := ⟨h3, 7, none⟩) (block_lt_of_cell n3)).trans n3
        clear hb4 hr4 q0 q1 q2 hB3 m3 n2b n3
        go_wp2
        go_ret
        exact ⟨rfl, hB4⟩
end Go.Proofs.Ythahlfabcjnkhaa
