/- The reference's scheduler: what is told of all heads. -/
import Derived.Test.YtbbcongfaoopcaaF20
namespace Go.Proofs.Ytbbcongfaoopcaa
open Go.ChangeShapes Go.WideShapes Go.ChangeAt Go.RowKit Go.Maps
set_option linter.unusedVariables false
set_option linter.unusedSimpArgs false
open BigFrame Pk Fq Vr Fa

namespace Fa
def ToldQ (x : Sched) (B : RB) (tb0 N : Nat) (ALL : Int) (W : Nat → Int) (w : World) (e : Ending) (w' : World) : Prop :=
  ∃ tb ct, e = .returned (.tuple #[]) ∧ RF w' B tb ct N ALL x.V W x.Z x.D x.S x.F ∧ (tb = tb0 ∨ w.heap.size ≤ tb) ∧ KF (B.l tb0) w w'
theorem s1_at {V ALL z n s f w : Int} {W Z : Nat → Int} {D : Nat → Bool} {S F h : Nat → Int} {i : Nat} {b : Bool} (h1 : Z i = z) (h2 : h i = n) (h3 : D i = b) (h4 : S i = s) (h5 : F i = f) (h6 : W i = w) :
    S1 V ALL W Z D S F h i = hrS V s f z n (costI n w ALL) b ∧ F1 V ALL W Z D S F h i = hrF V s f z n (costI n w ALL) b := by
  subst h1 h2 h3 h4 h5 h6
  exact ⟨rfl, rfl⟩
end Fa

set_option maxRecDepth 100000 in
set_option maxHeartbeats 20000000 in
theorem rtold_c {w : World} {B : RB} {tb ct N : Nat} {ALL V M : Int} {W Z : Nat → Int} {D : Nat → Bool} {S F : Nat → Int} (hd : RF w B tb ct N ALL V W Z D S F) (H : Inv M ALL V N W Z D S F) (hM : M ≤ 1000000000000000)
    (b off c : Nat) (h g : Nat → Int) (T : TagsAt w (some ⟨b, off, none⟩) b off N h g) (hbr : b ≠ B.r) (hbs : b ≠ B.sb) (hbd : b ≠ B.db) (hbt : b ≠ tb) (hh : ∀ i, i < N → headBad (h i) = false) :
    Calls Try.prog 33 #[.pointer (some ⟨B.r, 0, none⟩), .slice (some ⟨b, off, none⟩) N c] w (ToldQ (toldN N ALL V W Z D S F h) B tb N ALL W w) := by
  have hN1 : (1 : Int) ≤ (N : Int) := by have := hd.n1; omega
  have hN8 : (N : Int) ≤ 8 := by have := hd.n8; omega
  have hbw := T.hb (by omega)
  have hrl := hd.b.l
  have hwl := hd.wr.l
  have hsl := hd.s.l
  have hdl := hd.d.l
  have htl := hd.tl
  replace hd := Lib.hid hd
  replace H := Lib.hid H
  replace T := Lib.hid T
  replace hh := Lib.hid hh
  go_enter Try.func33, Try.ntmps33
  go_wp2_with fail
  go_loopw [4, 5, 6, 7, 8, 9] (fun s4 _ _ _ _ _ wr => ∃ (i tbr ctr : Nat), s4 = .int .i64 (i : Nat) ∧ i ≤ N ∧ RowKit.Hid (RF wr B tbr ctr N ALL V W (mix i h Z) (mixb i nof D) (mix i (S1 V ALL W Z D S F h) S) (mix i (F1 V ALL W Z D S F h) F)) ∧ RowKit.Hid (KF (B.l tb) w wr) ∧ RowKit.Hid (tbr = tb ∨ w.heap.size ≤ tbr)) (fun s4 _ _ _ _ _ _ => N - (intOf s4).toNat)
  case atStart => exact ⟨0, tb, ct, rfl, Nat.zero_le _, by rw [mix_zero, mixb_zero, mix_zero, mix_zero]; exact hd, Lib.hid (KF.refl _ _), Lib.hid (.inl rfl)⟩
  case round =>
    obtain ⟨i, tbr, ctr, rfl, hi, hF, hK, ht⟩ := hrel
    have ii : (i : Int) ≤ (N : Int) := by omega
    by_cases hlt : i < N
    · have ii1 : (i : Int) < (N : Int) := by omega
      have T2 := Lib.hid (hK.out.tags T.out (fun _ => by simp [RB.l]; omega))
      have t0 := T2.out.c0 i hlt
      obtain ⟨f0, f1, f2, f3, f4⟩ := hF.out.flow hlt
      simp only [mix_at, mixb_at] at f1 f2 f3 f4
      have hx := headOk (hh.out i hlt)
      have hw := H.out.w i hlt
      have hz := H.out.z i hlt
      have hdz := H.out.d i hlt
      have hfar := H.out.far.2.2 i hlt
      have hfV := H.out.far.2.1
      have hfV0 := H.out.far.1
      have hv : VOk V N (mix i (S1 V ALL W Z D S F h) S) (mix i (F1 V ALL W Z D S F h) F) := (H.out.told hh.out i).far.vok (by unfold CM; omega) (by omega)
      have b0 := hF.out.b.c 0 _ rfl
      have b1 := hF.out.b.c 1 _ rfl
      have b2 := hF.out.b.c 2 _ rfl
      have b3 := hF.out.b.c 3 _ rfl
      have b4 := hF.out.b.c 4 _ rfl
      have b5 := hF.out.b.c 5 _ rfl
      have hall := H.out.all
      have hkw := hK.out.size
      have htr := hF.out.tl
      obtain ⟨s, es⟩ : ∃ s, S i = s := ⟨_, rfl⟩
      obtain ⟨ff, ef⟩ : ∃ f, F i = f := ⟨_, rfl⟩
      obtain ⟨z, ez⟩ : ∃ z, Z i = z := ⟨_, rfl⟩
      obtain ⟨n, en⟩ : ∃ n, h i = n := ⟨_, rfl⟩
      obtain ⟨wi, ew⟩ : ∃ x, W i = x := ⟨_, rfl⟩
      obtain ⟨dd, ed⟩ : ∃ x, D i = x := ⟨_, rfl⟩
      have hsf := Lib.hid (s1_at (V := V) (ALL := ALL) ez en ed es ef ew)
      have gS := Lib.hid (show mix (i + 1) (S1 V ALL W Z D S F h) S = up (mix i (S1 V ALL W Z D S F h) S) i (S1 V ALL W Z D S F h i) from (mix_succ _ _ _).symm)
      have gF := Lib.hid (show mix (i + 1) (F1 V ALL W Z D S F h) F = up (mix i (F1 V ALL W Z D S F h) F) i (F1 V ALL W Z D S F h i) from (mix_succ _ _ _).symm)
      have gZ := Lib.hid (show mix (i + 1) h Z = up (mix i h Z) i n from by rw [← mix_succ, en])
      have gD := Lib.hid (show mixb (i + 1) nof D = upb (mixb i nof D) i false from by rw [← mixb_succ]; rfl)
      have aS := Lib.hid (show mix i (S1 V ALL W Z D S F h) S i = s from by rw [mix_at, es])
      have aF := Lib.hid (show mix i (F1 V ALL W Z D S F h) F i = ff from by rw [mix_at, ef])
      generalize mix i (S1 V ALL W Z D S F h) S = Sm at hF hv gS aS
      generalize mix i (F1 V ALL W Z D S F h) F = Fm at hF hv gF aF
      rw [es] at f3 hfar
      rw [ef] at f4 hfar
      rw [ez] at f1 hz hdz
      rw [en] at t0 hx
      rw [ew] at f0 hw
      rw [ed] at f2 hdz
      have hwi : RowKit.Hid (W i = wi) := Lib.hid ew
      have hhn : RowKit.Hid (h i = n) := Lib.hid en
      have zi : RowKit.Hid (Z i = z) := Lib.hid ez
      have di : RowKit.Hid (D i = dd) := Lib.hid ed
      have hc := fun (q : ¬ n = 0) => cost_pos (n := n) (w := wi) (all := ALL) (by omega) hx.2 hw.1 hw.2.1 hw.2.2 hall
      replace hc := Lib.hid hc
      replace hv := Lib.hid hv
      clear es ef ez en ew ed T2
      obtain ⟨hx1, hx2⟩ := hx
      obtain ⟨hz1, hz2⟩ := hz
      obtain ⟨hfa, hfb, hfc⟩ := hfar
      by_cases hn0 : n = 0
      · subst hn0
        by_cases hzp : 0 < z
        · cases dd with
          | true =>
            go_upto_region 13 with fail
            have y1 := hF.out.b.c 4 _ rfl
            have y2 := hF.out.s.f i
            have y3 := (hF.out.flow hlt).2.1
            have d2 := Lib.hid (hF.out.setSize hlt 0)
            have k2 := Lib.hid (hK.out.set (p := ⟨B.sb, i, none⟩) (.inl (by simp [RB.l])) (.int .i64 0))
            go_upto_region 14 with fail
            generalize (wr.setCell ⟨B.sb, i, none⟩ (.int .i64 0)) = wd at d2 k2 ⊢
            clear y1 y2 y3 hF hK
            have y1 := d2.out.b.c 5 _ rfl
            have y2 := d2.out.d.f i
            have y3 := (d2.out.flow hlt).2.2.1
            have d3 := Lib.hid (d2.out.setServed hlt false)
            have k3 := Lib.hid (k2.out.set (p := ⟨B.db, i, none⟩) (.inl (by simp [RB.l])) (.bool false))
            clear d2 k2
            go_wp2_with fail
            go_roundw
            case rel => exact ⟨i + 1, tbr, ctr, by go_num, hlt, Lib.hid (by rw [gZ.out, gD.out, gS.out, gF.out, hsf.out.1, hsf.out.2, show hrS V s ff z 0 (costI 0 wi ALL) true = s from by simp [hrS], show hrF V s ff z 0 (costI 0 wi ALL) true = ff from by simp [hrF, hrF1], ← aS.out, up_same, ← aF.out, up_same]; exact d3.out), k3, ht⟩
            case measure => simp [intOf]; omega
          | false =>
            have hzn : ¬ z = 0 := by omega
            go_upto_region 5 with fail
            refine wp_region_noPanic ?_
            refine Stg.wp_region_L [17] (Vr.SB wr) (by kernel_rfl) (fun _ => (Below.refl _ _).drew) (fun hHeld => ?_)
            refine Stg.wpAnyL_start (n' := 18) (l' := #[false, false, false, false, false, false, false, false, false, false, false, false, false, false, false, false, false, false]) (by kernel_rfl) (by kernel_rfl) ?_
            refine Stg.wpAnyL_free (i := 0) (v := ?_) 0 rfl (by kernel_rfl) (by kernel_rfl) (by kernel_rfl) (by kernel_rfl) (by kernel_rfl) (fun _ _ _ h => h) (Or.inl ⟨by kernel_rfl, ?_⟩) (by assumption) ?_
            rotate_left
            · intro u _
              try simp only [List.getElem_toArray, List.getElem_cons_succ, List.getElem_cons_zero]
              go_simp
              try with_reducible rfl
            try simp only [Act.put, List.setIfInBounds_toArray, List.set_cons_zero, List.set_cons_succ]
            refine Stg.wpAnyL_free (i := 1) (v := ?_) 0 rfl (by kernel_rfl) (by kernel_rfl) (by kernel_rfl) (by kernel_rfl) (by kernel_rfl) (fun _ _ _ h => h) (Or.inl ⟨by kernel_rfl, ?_⟩) (by assumption) ?_
            rotate_left
            · intro u _
              try simp only [List.getElem_toArray, List.getElem_cons_succ, List.getElem_cons_zero]
              go_simp
              try with_reducible rfl
            try simp only [Act.put, List.setIfInBounds_toArray, List.set_cons_zero, List.set_cons_succ]
            refine Stg.wpAnyL_free (i := 2) (v := ?_) 0 rfl (by kernel_rfl) (by kernel_rfl) (by kernel_rfl) (by kernel_rfl) (by kernel_rfl) (fun _ _ _ h => h) (Or.inl ⟨by kernel_rfl, ?_⟩) (by assumption) ?_
            rotate_left
            · intro u _
              try simp only [List.getElem_toArray, List.getElem_cons_succ, List.getElem_cons_zero]
              go_simp
              try with_reducible rfl
            try simp only [Act.put, List.setIfInBounds_toArray, List.set_cons_zero, List.set_cons_succ]
            refine Stg.wpAnyL_start (n' := 15) (l' := #[true, true, true, false, false, false, false, false, false, false, false, false, false, false, false, false, false, false]) (by kernel_rfl) (by kernel_rfl) ?_
            refine Stg.wpAnyL_free (i := 3) (v := ?_) 0 rfl (by kernel_rfl) (by kernel_rfl) (by kernel_rfl) (by kernel_rfl) (by kernel_rfl) (fun _ _ _ h => h) (Or.inl ⟨by kernel_rfl, ?_⟩) (by assumption) ?_
            rotate_left
            · intro u _
              try simp only [List.getElem_toArray, List.getElem_cons_succ, List.getElem_cons_zero]
              go_simp
              try with_reducible rfl
            try simp only [Act.put, List.setIfInBounds_toArray, List.set_cons_zero, List.set_cons_succ]
            refine Stg.wpAnyL_take (i := 4) (v := ?_) [15, 16, 17] 0 rfl (by kernel_rfl) (by kernel_rfl) (by kernel_rfl) (by kernel_rfl) (by kernel_rfl) (fun _ _ _ h => h) (Or.inl ⟨by kernel_rfl, ?_⟩) (by assumption) ?_
            rotate_left
            · intro u hSu
              skip
              have sB := hSu rfl
              have y0 := cellB sB b3
              have y1 := cellB sB f3
              try simp only [List.getElem_toArray, List.getElem_cons_succ, List.getElem_cons_zero]
              go_simp
              try with_reducible rfl
            try simp only [Act.put, List.setIfInBounds_toArray, List.set_cons_zero, List.set_cons_succ]
            refine Stg.wpAnyL_free (i := 5) (v := ?_) 0 rfl (by kernel_rfl) (by kernel_rfl) (by kernel_rfl) (by kernel_rfl) (by kernel_rfl) (fun _ _ _ h => h) (Or.inl ⟨by kernel_rfl, ?_⟩) (by assumption) ?_
            rotate_left
            · intro u _
              try simp only [List.getElem_toArray, List.getElem_cons_succ, List.getElem_cons_zero]
              go_simp
              try with_reducible rfl
            try simp only [Act.put, List.setIfInBounds_toArray, List.set_cons_zero, List.set_cons_succ]
            refine Stg.wpAnyL_start (n' := 12) (l' := #[true, true, true, true, true, true, false, false, false, false, false, false, false, false, false, false, false, false]) (by kernel_rfl) (by kernel_rfl) ?_
            refine Stg.wpAnyL_free (i := 6) (v := ?_) 0 rfl (by kernel_rfl) (by kernel_rfl) (by kernel_rfl) (by kernel_rfl) (by kernel_rfl) (fun _ _ _ h => h) (Or.inl ⟨by kernel_rfl, ?_⟩) (by assumption) ?_
            rotate_left
            · intro u _
              try simp only [List.getElem_toArray, List.getElem_cons_succ, List.getElem_cons_zero]
              go_simp
              try with_reducible rfl
            try simp only [Act.put, List.setIfInBounds_toArray, List.set_cons_zero, List.set_cons_succ]
            refine Stg.wpAnyL_free (i := 7) (v := ?_) 0 rfl (by kernel_rfl) (by kernel_rfl) (by kernel_rfl) (by kernel_rfl) (by kernel_rfl) (fun _ _ _ h => h) (Or.inl ⟨by kernel_rfl, ?_⟩) (by assumption) ?_
            rotate_left
            · intro u _
              try simp only [List.getElem_toArray, List.getElem_cons_succ, List.getElem_cons_zero]
              go_simp
              try with_reducible rfl
            try simp only [Act.put, List.setIfInBounds_toArray, List.set_cons_zero, List.set_cons_succ]
            refine Stg.wpAnyL_free (i := 8) (v := ?_) 0 rfl (by kernel_rfl) (by kernel_rfl) (by kernel_rfl) (by kernel_rfl) (by kernel_rfl) (fun _ _ _ h => h) (Or.inl ⟨by kernel_rfl, ?_⟩) (by assumption) ?_
            rotate_left
            · intro u _
              try simp only [List.getElem_toArray, List.getElem_cons_succ, List.getElem_cons_zero]
              go_simp
              try with_reducible rfl
            try simp only [Act.put, List.setIfInBounds_toArray, List.set_cons_zero, List.set_cons_succ]
            refine Stg.wpAnyL_start (n' := 9) (l' := #[true, true, true, true, true, true, true, true, true, false, false, false, false, false, false, false, false, false]) (by kernel_rfl) (by kernel_rfl) ?_
            refine Stg.wpAnyL_free (i := 9) (v := ?_) 0 rfl (by kernel_rfl) (by kernel_rfl) (by kernel_rfl) (by kernel_rfl) (by kernel_rfl) (fun _ _ _ h => h) (Or.inl ⟨by kernel_rfl, ?_⟩) (by assumption) ?_
            rotate_left
            · intro u _
              try simp only [List.getElem_toArray, List.getElem_cons_succ, List.getElem_cons_zero]
              go_simp
              try with_reducible rfl
            try simp only [Act.put, List.setIfInBounds_toArray, List.set_cons_zero, List.set_cons_succ]
            refine Stg.wpAnyL_take (i := 10) (v := ?_) [12, 13, 14, 15, 16, 17] 0 rfl (by kernel_rfl) (by kernel_rfl) (by kernel_rfl) (by kernel_rfl) (by kernel_rfl) (fun _ _ _ h => h) (Or.inl ⟨by kernel_rfl, ?_⟩) (by assumption) ?_
            rotate_left
            · intro u hSu
              skip
              have sB := hSu rfl
              have y0 := cellB sB b3
              have y1 := cellB sB f3
              try simp only [List.getElem_toArray, List.getElem_cons_succ, List.getElem_cons_zero]
              go_simp
              try with_reducible rfl
            try simp only [Act.put, List.setIfInBounds_toArray, List.set_cons_zero, List.set_cons_succ]
            refine Stg.wpAnyL_free (i := 11) (v := ?_) 0 rfl (by kernel_rfl) (by kernel_rfl) (by kernel_rfl) (by kernel_rfl) (by kernel_rfl) (fun _ _ _ h => h) (Or.inl ⟨by kernel_rfl, ?_⟩) (by assumption) ?_
            rotate_left
            · intro u _
              try simp only [List.getElem_toArray, List.getElem_cons_succ, List.getElem_cons_zero]
              go_simp
              try with_reducible rfl
            try simp only [Act.put, List.setIfInBounds_toArray, List.set_cons_zero, List.set_cons_succ]
            refine Stg.wpAnyL_start (n' := 6) (l' := #[true, true, true, true, true, true, true, true, true, true, true, true, false, false, false, false, false, false]) (by kernel_rfl) (by kernel_rfl) ?_
            refine Stg.wpAnyL_free (i := 12) (v := ?_) 0 rfl (by kernel_rfl) (by kernel_rfl) (by kernel_rfl) (by kernel_rfl) (by kernel_rfl) (fun _ _ _ h => h) (Or.inl ⟨by kernel_rfl, ?_⟩) (by assumption) ?_
            rotate_left
            · intro u _
              try simp only [List.getElem_toArray, List.getElem_cons_succ, List.getElem_cons_zero]
              go_simp
              try with_reducible rfl
            try simp only [Act.put, List.setIfInBounds_toArray, List.set_cons_zero, List.set_cons_succ]
            refine Stg.wpAnyL_free (i := 13) (v := ?_) 0 rfl (by kernel_rfl) (by kernel_rfl) (by kernel_rfl) (by kernel_rfl) (by kernel_rfl) (fun _ _ _ h => h) (Or.inl ⟨by kernel_rfl, ?_⟩) (by assumption) ?_
            rotate_left
            · intro u _
              try simp only [List.getElem_toArray, List.getElem_cons_succ, List.getElem_cons_zero]
              go_simp
              try with_reducible rfl
            try simp only [Act.put, List.setIfInBounds_toArray, List.set_cons_zero, List.set_cons_succ]
            refine Stg.wpAnyL_take (i := 14) (v := ?_) [15, 16, 17] 0 rfl (by kernel_rfl) (by kernel_rfl) (by kernel_rfl) (by kernel_rfl) (by kernel_rfl) (fun _ _ _ h => h) (Or.inl ⟨by kernel_rfl, ?_⟩) (by assumption) ?_
            rotate_left
            · intro u hSu
              skip
              have sB := hSu rfl
              have y0 := cellB sB b3
              have y1 := cellB sB f3
              try simp only [List.getElem_toArray, List.getElem_cons_succ, List.getElem_cons_zero]
              go_simp
              try with_reducible rfl
            try simp only [Act.put, List.setIfInBounds_toArray, List.set_cons_zero, List.set_cons_succ]
            refine Stg.wpAnyL_start (n' := 3) (l' := #[true, true, true, true, true, true, true, true, true, true, true, true, true, true, true, false, false, false]) (by kernel_rfl) (by kernel_rfl) ?_
            refine Stg.wpAnyL_free (i := 15) (v := ?_) 0 rfl (by kernel_rfl) (by kernel_rfl) (by kernel_rfl) (by kernel_rfl) (by kernel_rfl) (fun _ _ _ h => h) (Or.inl ⟨by kernel_rfl, ?_⟩) (by assumption) ?_
            rotate_left
            · intro u _
              try simp only [List.getElem_toArray, List.getElem_cons_succ, List.getElem_cons_zero]
              go_simp
              try with_reducible rfl
            try simp only [Act.put, List.setIfInBounds_toArray, List.set_cons_zero, List.set_cons_succ]
            refine Stg.wpAnyL_free (i := 16) (v := ?_) 0 rfl (by kernel_rfl) (by kernel_rfl) (by kernel_rfl) (by kernel_rfl) (by kernel_rfl) (fun _ _ _ h => h) (Or.inl ⟨by kernel_rfl, ?_⟩) (by assumption) ?_
            rotate_left
            · intro u _
              try simp only [List.getElem_toArray, List.getElem_cons_succ, List.getElem_cons_zero]
              go_simp
              try with_reducible rfl
            try simp only [Act.put, List.setIfInBounds_toArray, List.set_cons_zero, List.set_cons_succ]
            refine Stg.wpAnyL_one (i := 17) 1 rfl (by kernel_rfl) (by kernel_rfl) (fun K hK => ?_)
            have y4 := cellB (hHeld rfl) f4
            have y5 := (World.frozen?_of_block ((hHeld rfl).block tbr hF.out.tl)).trans (hF.out.tf (i * 2 + 1))
            try simp only [List.getElem_toArray, List.getElem_cons_succ, List.getElem_cons_zero]
            go_simp
            refine hK.out _ _ ?_ (fun hHeld1 => ?_)
            · exact fun h => absurd h (by decide)
            clear hK K
            try simp only [Act.put, List.setIfInBounds_toArray, List.set_cons_zero, List.set_cons_succ]
            refine Stg.wpAnyL_done (by kernel_rfl) ?_ _
            try simp only [List.getElem_toArray, List.getElem_cons_succ, List.getElem_cons_zero]
            try simp only [Act.put, List.setIfInBounds_toArray, List.set_cons_zero, List.set_cons_succ]
            refine NoPanic.normal ?_
            clear y4 y5 b0 b1 b2 b3 b4 b5 f0 f1 f2 f3 f4 t0 hHeld
            have d5 := Lib.hid ((hF.out.setFin hlt s).bel (Below.refl _ _).drew)
            have k5 := Lib.hid ((hK.out.set (p := ⟨tbr, i * 2 + 1, none⟩) (by rcases ht.out with e | e; exact .inl (by rw [e]; simp [RB.l]); exact .inr e) (.int .i64 s)).drew)
            have hw5 : wr.heap.size ≤ (wr.setCell ⟨tbr, i * 2 + 1, none⟩ (.int .i64 s)).drew.heap.size := by simp
            generalize (wr.setCell ⟨tbr, i * 2 + 1, none⟩ (.int .i64 s)).drew = w5 at d5 k5 hw5 ⊢
            have T5 := Lib.hid (k5.out.tags T.out (fun _ => by simp [RB.l]; omega))
            have t0 := T5.out.c0 i hlt
            rw [hhn.out] at t0
            obtain ⟨f0, f1, f2, f3, f4⟩ := d5.out.flow hlt
            simp only [mix_at, mixb_at, hwi.out, zi.out, di.out] at f0 f1 f2
            have b0 := d5.out.b.c 0 _ rfl
            have b1 := d5.out.b.c 1 _ rfl
            have b2 := d5.out.b.c 2 _ rfl
            have b3 := d5.out.b.c 3 _ rfl
            have b4 := d5.out.b.c 4 _ rfl
            have b5 := d5.out.b.c 5 _ rfl
            clear f3 f4 hF hK T5
            go_upto_region 13 with fail
            have y1 := d5.out.b.c 4 _ rfl
            have y2 := d5.out.s.f i
            have y3 := (d5.out.flow hlt).2.1
            have d2 := Lib.hid (d5.out.setSize hlt 0)
            have k2 := Lib.hid (k5.out.set (p := ⟨B.sb, i, none⟩) (.inl (by simp [RB.l])) (.int .i64 0))
            go_upto_region 14 with fail
            generalize (w5.setCell ⟨B.sb, i, none⟩ (.int .i64 0)) = wd at d2 k2 ⊢
            clear y1 y2 y3 d5 k5
            have y1 := d2.out.b.c 5 _ rfl
            have y2 := d2.out.d.f i
            have y3 := (d2.out.flow hlt).2.2.1
            have d3 := Lib.hid (d2.out.setServed hlt false)
            have k3 := Lib.hid (k2.out.set (p := ⟨B.db, i, none⟩) (.inl (by simp [RB.l])) (.bool false))
            clear d2 k2
            go_wp2_with fail
            go_roundw
            case rel => exact ⟨i + 1, tbr, ctr, by go_num, hlt, Lib.hid (by rw [gZ.out, gD.out, gS.out, gF.out, hsf.out.1, hsf.out.2, show hrS V s ff z 0 (costI 0 wi ALL) false = s from by simp [hrS], show hrF V s ff z 0 (costI 0 wi ALL) false = s from by simp [hrF, hrF1, hzp, hzn], show up Sm i s = Sm from by rw [← aS.out, up_same]]; exact d3.out), k3, ht⟩
            case measure => simp [intOf]; omega
        · have hdd : dd = false := by cases dd with
            | true => exact absurd (hdz rfl) hzp
            | false => rfl
          subst hdd
          go_upto_region 13 with fail
          have y1 := hF.out.b.c 4 _ rfl
          have y2 := hF.out.s.f i
          have y3 := (hF.out.flow hlt).2.1
          have d2 := Lib.hid (hF.out.setSize hlt 0)
          have k2 := Lib.hid (hK.out.set (p := ⟨B.sb, i, none⟩) (.inl (by simp [RB.l])) (.int .i64 0))
          go_upto_region 14 with fail
          generalize (wr.setCell ⟨B.sb, i, none⟩ (.int .i64 0)) = wd at d2 k2 ⊢
          clear y1 y2 y3 hF hK
          have y1 := d2.out.b.c 5 _ rfl
          have y2 := d2.out.d.f i
          have y3 := (d2.out.flow hlt).2.2.1
          have d3 := Lib.hid (d2.out.setServed hlt false)
          have k3 := Lib.hid (k2.out.set (p := ⟨B.db, i, none⟩) (.inl (by simp [RB.l])) (.bool false))
          clear d2 k2
          go_wp2_with fail
          go_roundw
          case rel => exact ⟨i + 1, tbr, ctr, by go_num, hlt, Lib.hid (by rw [gZ.out, gD.out, gS.out, gF.out, hsf.out.1, hsf.out.2, show hrS V s ff z 0 (costI 0 wi ALL) false = s from by simp [hrS], show hrF V s ff z 0 (costI 0 wi ALL) false = ff from by simp [hrF, hrF1, hzp], ← aS.out, up_same, ← aF.out, up_same]; exact d3.out), k3, ht⟩
          case measure => simp [intOf]; omega
      · cases dd with
        | true =>
          have hzp := hdz rfl
          go_upto_region 8 with fail
          have hok : RowKit.Hid (tagOk V N Sm Fm (i : Int) (costI n wi ALL) ff) := Lib.hid ⟨hv.out, by omega, by omega, by have := (hc.out hn0).1; omega, by have := (hc.out hn0).2; unfold CM at this; omega⟩
          have hcc := Lib.hid (fun (u : World) (hu : Below wr.heap.size wr u) => rnextF_c V (i : Int) n wi ALL N (some ⟨tbr, 0, none⟩) tbr 0 ctr Sm Fm u (hF.out.t.bel hu) (by omega))
          rw [Int.toNat_natCast, aF.out] at hcc
          refine wp_region_noPanic ?_
          refine Stg.wp_region_L [22] (Vr.SB wr) (by kernel_rfl) (fun _ => (Below.refl _ _).drew) (fun hHeld => ?_)
          refine Stg.wpAnyL_start (n' := 24) (l' := #[false, false, false, false, false, false, false, false, false, false, false, false, false, false, false, false, false, false, false, false, false, false, false, false]) (by kernel_rfl) (by kernel_rfl) ?_
          refine Stg.wpAnyL_free (i := 0) (v := ?_) 0 rfl (by kernel_rfl) (by kernel_rfl) (by kernel_rfl) (by kernel_rfl) (by kernel_rfl) (fun _ _ _ h => h) (Or.inl ⟨by kernel_rfl, ?_⟩) (by assumption) ?_
          rotate_left
          · intro u _
            try simp only [List.getElem_toArray, List.getElem_cons_succ, List.getElem_cons_zero]
            go_simp
            try with_reducible rfl
          try simp only [Act.put, List.setIfInBounds_toArray, List.set_cons_zero, List.set_cons_succ]
          refine Stg.wpAnyL_free (i := 1) (v := ?_) 0 rfl (by kernel_rfl) (by kernel_rfl) (by kernel_rfl) (by kernel_rfl) (by kernel_rfl) (fun _ _ _ h => h) (Or.inl ⟨by kernel_rfl, ?_⟩) (by assumption) ?_
          rotate_left
          · intro u _
            try simp only [List.getElem_toArray, List.getElem_cons_succ, List.getElem_cons_zero]
            go_simp
            try with_reducible rfl
          try simp only [Act.put, List.setIfInBounds_toArray, List.set_cons_zero, List.set_cons_succ]
          refine Stg.wpAnyL_free (i := 2) (v := ?_) 0 rfl (by kernel_rfl) (by kernel_rfl) (by kernel_rfl) (by kernel_rfl) (by kernel_rfl) (fun _ _ _ h => h) (Or.inl ⟨by kernel_rfl, ?_⟩) (by assumption) ?_
          rotate_left
          · intro u _
            try simp only [List.getElem_toArray, List.getElem_cons_succ, List.getElem_cons_zero]
            go_simp
            try with_reducible rfl
          try simp only [Act.put, List.setIfInBounds_toArray, List.set_cons_zero, List.set_cons_succ]
          refine Stg.wpAnyL_start (n' := 21) (l' := #[true, true, true, false, false, false, false, false, false, false, false, false, false, false, false, false, false, false, false, false, false, false, false, false]) (by kernel_rfl) (by kernel_rfl) ?_
          refine Stg.wpAnyL_take (i := 3) (v := ?_) [17, 18, 19, 20, 22, 23] 0 rfl (by kernel_rfl) (by kernel_rfl) (by kernel_rfl) (by kernel_rfl) (by kernel_rfl) (fun _ _ _ h => h) (Or.inl ⟨by kernel_rfl, ?_⟩) (by assumption) ?_
          rotate_left
          · intro u hSu
            skip
            have sB := hSu rfl
            have y0 := cellB sB b0
            have y1 := cellB sB b1
            have y2 := cellB sB b2
            have y3 := cellB sB b3
            have y4 := cellB sB f0
            have y5 := cellB sB t0
            try simp only [List.getElem_toArray, List.getElem_cons_succ, List.getElem_cons_zero]
            go_simp
            try with_reducible rfl
          try simp only [Act.put, List.setIfInBounds_toArray, List.set_cons_zero, List.set_cons_succ]
          refine Stg.wpAnyL_free (i := 4) (v := ?_) 0 rfl (by kernel_rfl) (by kernel_rfl) (by kernel_rfl) (by kernel_rfl) (by kernel_rfl) (fun _ _ _ h => h) (Or.inl ⟨by kernel_rfl, ?_⟩) (by assumption) ?_
          rotate_left
          · intro u _
            try simp only [List.getElem_toArray, List.getElem_cons_succ, List.getElem_cons_zero]
            go_simp
            try with_reducible rfl
          try simp only [Act.put, List.setIfInBounds_toArray, List.set_cons_zero, List.set_cons_succ]
          refine Stg.wpAnyL_free (i := 5) (v := ?_) 0 rfl (by kernel_rfl) (by kernel_rfl) (by kernel_rfl) (by kernel_rfl) (by kernel_rfl) (fun _ _ _ h => h) (Or.inl ⟨by kernel_rfl, ?_⟩) (by assumption) ?_
          rotate_left
          · intro u _
            try simp only [List.getElem_toArray, List.getElem_cons_succ, List.getElem_cons_zero]
            go_simp
            try with_reducible rfl
          try simp only [Act.put, List.setIfInBounds_toArray, List.set_cons_zero, List.set_cons_succ]
          refine Stg.wpAnyL_start (n' := 18) (l' := #[true, true, true, true, true, true, false, false, false, false, false, false, false, false, false, false, false, false, false, false, false, false, false, false]) (by kernel_rfl) (by kernel_rfl) ?_
          refine Stg.wpAnyL_free (i := 6) (v := ?_) 0 rfl (by kernel_rfl) (by kernel_rfl) (by kernel_rfl) (by kernel_rfl) (by kernel_rfl) (fun _ _ _ h => h) (Or.inl ⟨by kernel_rfl, ?_⟩) (by assumption) ?_
          rotate_left
          · intro u _
            try simp only [List.getElem_toArray, List.getElem_cons_succ, List.getElem_cons_zero]
            go_simp
            try with_reducible rfl
          try simp only [Act.put, List.setIfInBounds_toArray, List.set_cons_zero, List.set_cons_succ]
          refine Stg.wpAnyL_free (i := 7) (v := ?_) 0 rfl (by kernel_rfl) (by kernel_rfl) (by kernel_rfl) (by kernel_rfl) (by kernel_rfl) (fun _ _ _ h => h) (Or.inl ⟨by kernel_rfl, ?_⟩) (by assumption) ?_
          rotate_left
          · intro u _
            try simp only [List.getElem_toArray, List.getElem_cons_succ, List.getElem_cons_zero]
            go_simp
            try with_reducible rfl
          try simp only [Act.put, List.setIfInBounds_toArray, List.set_cons_zero, List.set_cons_succ]
          refine Stg.wpAnyL_free (i := 8) (v := ?_) 0 rfl (by kernel_rfl) (by kernel_rfl) (by kernel_rfl) (by kernel_rfl) (by kernel_rfl) (fun _ _ _ h => h) (Or.inl ⟨by kernel_rfl, ?_⟩) (by assumption) ?_
          rotate_left
          · intro u _
            try simp only [List.getElem_toArray, List.getElem_cons_succ, List.getElem_cons_zero]
            go_simp
            try with_reducible rfl
          try simp only [Act.put, List.setIfInBounds_toArray, List.set_cons_zero, List.set_cons_succ]
          refine Stg.wpAnyL_start (n' := 15) (l' := #[true, true, true, true, true, true, true, true, true, false, false, false, false, false, false, false, false, false, false, false, false, false, false, false]) (by kernel_rfl) (by kernel_rfl) ?_
          refine Stg.wpAnyL_take (i := 9) (v := ?_) [11, 12, 17, 18, 19, 20, 22, 23] 0 rfl (by kernel_rfl) (by kernel_rfl) (by kernel_rfl) (by kernel_rfl) (by kernel_rfl) (fun _ _ _ h => h) (Or.inl ⟨by kernel_rfl, ?_⟩) (by assumption) ?_
          rotate_left
          · intro u hSu
            skip
            have sB := hSu rfl
            have y0 := cellB sB b0
            have y1 := cellB sB b1
            have y2 := cellB sB b2
            have y3 := cellB sB b3
            have y4 := cellB sB f0
            have y5 := cellB sB t0
            try simp only [List.getElem_toArray, List.getElem_cons_succ, List.getElem_cons_zero]
            go_simp
            try with_reducible rfl
          try simp only [Act.put, List.setIfInBounds_toArray, List.set_cons_zero, List.set_cons_succ]
          refine Stg.wpAnyL_free (i := 10) (v := ?_) 0 rfl (by kernel_rfl) (by kernel_rfl) (by kernel_rfl) (by kernel_rfl) (by kernel_rfl) (fun _ _ _ h => h) (Or.inl ⟨by kernel_rfl, ?_⟩) (by assumption) ?_
          rotate_left
          · intro u _
            try simp only [List.getElem_toArray, List.getElem_cons_succ, List.getElem_cons_zero]
            go_simp
            try with_reducible rfl
          try simp only [Act.put, List.setIfInBounds_toArray, List.set_cons_zero, List.set_cons_succ]
          refine Stg.wpAnyL_free (i := 11) (v := ?_) 0 rfl (by kernel_rfl) (by kernel_rfl) (by kernel_rfl) (by kernel_rfl) (by kernel_rfl) (fun _ _ _ h => h) (Or.inl ⟨by kernel_rfl, ?_⟩) (by assumption) ?_
          rotate_left
          · intro u _
            try simp only [List.getElem_toArray, List.getElem_cons_succ, List.getElem_cons_zero]
            go_simp
            try with_reducible rfl
          try simp only [Act.put, List.setIfInBounds_toArray, List.set_cons_zero, List.set_cons_succ]
          refine Stg.wpAnyL_start (n' := 12) (l' := #[true, true, true, true, true, true, true, true, true, true, true, true, false, false, false, false, false, false, false, false, false, false, false, false]) (by kernel_rfl) (by kernel_rfl) ?_
          refine Stg.wpAnyL_take (i := 12) (v := ?_) [17, 18, 19, 20, 22, 23] 0 rfl (by kernel_rfl) (by kernel_rfl) (by kernel_rfl) (by kernel_rfl) (by kernel_rfl) (fun _ _ _ h => h) (Or.inl ⟨by kernel_rfl, ?_⟩) (by assumption) ?_
          rotate_left
          · intro u hSu
            skip
            have sB := hSu rfl
            have y0 := cellB sB b0
            have y1 := cellB sB b1
            have y2 := cellB sB b2
            have y3 := cellB sB b3
            have y4 := cellB sB f0
            have y5 := cellB sB t0
            try simp only [List.getElem_toArray, List.getElem_cons_succ, List.getElem_cons_zero]
            go_simp
            try with_reducible rfl
          try simp only [Act.put, List.setIfInBounds_toArray, List.set_cons_zero, List.set_cons_succ]
          refine Stg.wpAnyL_free (i := 13) (v := ?_) 0 rfl (by kernel_rfl) (by kernel_rfl) (by kernel_rfl) (by kernel_rfl) (by kernel_rfl) (fun _ _ _ h => h) (Or.inl ⟨by kernel_rfl, ?_⟩) (by assumption) ?_
          rotate_left
          · intro u _
            try simp only [List.getElem_toArray, List.getElem_cons_succ, List.getElem_cons_zero]
            go_simp
            try with_reducible rfl
          try simp only [Act.put, List.setIfInBounds_toArray, List.set_cons_zero, List.set_cons_succ]
          refine Stg.wpAnyL_free (i := 14) (v := ?_) 0 rfl (by kernel_rfl) (by kernel_rfl) (by kernel_rfl) (by kernel_rfl) (by kernel_rfl) (fun _ _ _ h => h) (Or.inl ⟨by kernel_rfl, ?_⟩) (by assumption) ?_
          rotate_left
          · intro u _
            try simp only [List.getElem_toArray, List.getElem_cons_succ, List.getElem_cons_zero]
            go_simp
            try with_reducible rfl
          try simp only [Act.put, List.setIfInBounds_toArray, List.set_cons_zero, List.set_cons_succ]
          refine Stg.wpAnyL_start (n' := 9) (l' := #[true, true, true, true, true, true, true, true, true, true, true, true, true, true, true, false, false, false, false, false, false, false, false, false]) (by kernel_rfl) (by kernel_rfl) ?_
          refine Stg.wpAnyL_free (i := 15) (v := ?_) 0 rfl (by kernel_rfl) (by kernel_rfl) (by kernel_rfl) (by kernel_rfl) (by kernel_rfl) (fun _ _ _ h => h) (Or.inl ⟨by kernel_rfl, ?_⟩) (by assumption) ?_
          rotate_left
          · intro u _
            try simp only [List.getElem_toArray, List.getElem_cons_succ, List.getElem_cons_zero]
            go_simp
            try with_reducible rfl
          try simp only [Act.put, List.setIfInBounds_toArray, List.set_cons_zero, List.set_cons_succ]
          refine Stg.wpAnyL_take (i := 16) (v := ?_) [17, 18, 19, 20, 22, 23] 0 rfl (by kernel_rfl) (by kernel_rfl) (by kernel_rfl) (by kernel_rfl) (by kernel_rfl) (fun _ _ _ h => h) (Or.inl ⟨by kernel_rfl, ?_⟩) (by assumption) ?_
          rotate_left
          · intro u hSu
            skip
            have sB := hSu rfl
            have y0 := cellB sB b0
            have y1 := cellB sB b1
            have y2 := cellB sB b2
            have y3 := cellB sB b3
            have y4 := cellB sB f0
            have y5 := cellB sB t0
            try simp only [List.getElem_toArray, List.getElem_cons_succ, List.getElem_cons_zero]
            go_simp
            try with_reducible rfl
          try simp only [Act.put, List.setIfInBounds_toArray, List.set_cons_zero, List.set_cons_succ]
          refine Stg.wpAnyL_two (i := 17) (k := 21) 0 0 rfl rfl (by kernel_rfl) (by kernel_rfl) (by kernel_rfl) (fun K hK => ?_) (fun K hK => ?_)
          · try simp only [List.getElem_toArray, List.getElem_cons_succ, List.getElem_cons_zero]
            go_simp
            refine (hcc.out _ (hHeld rfl)).mono ?_
            rintro e w1 hX
            obtain ⟨g1, c1, rfl, T1, hg1, hz1, hb1⟩ := virXF_ok hX hok.out
            clear hX
            refine hK.out _ _ ?_ (fun hHeld1 => ?_)
            · exact fun _ => bNext (hHeld rfl) hb1 (Nat.le_refl _)
            clear hK K
            try simp only [Act.put, List.setIfInBounds_toArray, List.set_cons_zero, List.set_cons_succ]
            refine Stg.wpAnyL_start (n' := 6) (l' := #[true, true, true, true, true, true, true, true, true, true, true, true, true, true, true, true, true, true, false, false, false, false, false, false]) (by kernel_rfl) (by kernel_rfl) ?_
            refine Stg.wpAnyL_free (i := 18) (v := ?_) 0 rfl (by kernel_rfl) (by kernel_rfl) (by kernel_rfl) (by kernel_rfl) (by kernel_rfl) (fun _ _ _ h => h) (Or.inl ⟨by kernel_rfl, ?_⟩) (by assumption) ?_
            rotate_left
            · intro u _
              try simp only [List.getElem_toArray, List.getElem_cons_succ, List.getElem_cons_zero]
              go_simp
              try with_reducible rfl
            try simp only [Act.put, List.setIfInBounds_toArray, List.set_cons_zero, List.set_cons_succ]
            refine Stg.wpAnyL_free (i := 19) (v := ?_) 0 rfl (by kernel_rfl) (by kernel_rfl) (by kernel_rfl) (by kernel_rfl) (by kernel_rfl) (fun _ _ _ h => h) (Or.inl ⟨by kernel_rfl, ?_⟩) (by assumption) ?_
            rotate_left
            · intro u _
              try simp only [List.getElem_toArray, List.getElem_cons_succ, List.getElem_cons_zero]
              go_simp
              try with_reducible rfl
            try simp only [Act.put, List.setIfInBounds_toArray, List.set_cons_zero, List.set_cons_succ]
            refine Stg.wpAnyL_free (i := 20) (v := ?_) 0 rfl (by kernel_rfl) (by kernel_rfl) (by kernel_rfl) (by kernel_rfl) (by kernel_rfl) (fun _ _ _ h => h) (Or.inl ⟨by kernel_rfl, ?_⟩) (by assumption) ?_
            rotate_left
            · intro u _
              try simp only [List.getElem_toArray, List.getElem_cons_succ, List.getElem_cons_zero]
              go_simp
              try with_reducible rfl
            try simp only [Act.put, List.setIfInBounds_toArray, List.set_cons_zero, List.set_cons_succ]
            refine Stg.wpAnyL_start (n' := 3) (l' := #[true, true, true, true, true, true, true, true, true, true, true, true, true, true, true, true, true, true, true, true, true, false, false, false]) (by kernel_rfl) (by kernel_rfl) ?_
            refine Stg.wpAnyL_one (i := 21) 0 rfl (by kernel_rfl) (by kernel_rfl) (fun K hK => ?_)
            try simp only [List.getElem_toArray, List.getElem_cons_succ, List.getElem_cons_zero]
            go_simp
            refine hK.out _ _ ?_ (fun hHeld2 => ?_)
            · exact fun _ => bNext (hHeld1 rfl) ((Below.refl _ _).alloc (Nat.le_refl _) _) (Nat.le_refl _)
            clear hK K
            try simp only [Act.put, List.setIfInBounds_toArray, List.set_cons_zero, List.set_cons_succ]
            refine Stg.wpAnyL_one (i := 22) 1 rfl (by kernel_rfl) (by kernel_rfl) (fun K hK => ?_)
            have hU := Lib.hid (bNext (hHeld1 rfl) ((Below.refl w1.heap.size w1).alloc (Nat.le_refl _) (.cells #[.int .i64 V, .slice (some ⟨g1, 0, none⟩) N c1] 50)) (Nat.le_refl _))
            have nb3 := blkN_new w1 [.int .i64 V, .slice (some ⟨g1, 0, none⟩) N c1] 50
            try simp only [List.getElem_toArray, List.getElem_cons_succ, List.getElem_cons_zero]
            go_simp
            refine hK.out _ _ ?_ (fun hHeld3 => ?_)
            · exact fun h => absurd h (by decide)
            clear hK K
            try simp only [Act.put, List.setIfInBounds_toArray, List.set_cons_zero, List.set_cons_succ]
            refine Stg.wpAnyL_free (i := 23) (v := ?_) 1 rfl (by kernel_rfl) (by kernel_rfl) (by kernel_rfl) (by kernel_rfl) (by kernel_rfl) (fun _ _ _ h => h) (Or.inl ⟨by kernel_rfl, ?_⟩) (by assumption) ?_
            rotate_left
            · intro u _
              try simp only [List.getElem_toArray, List.getElem_cons_succ, List.getElem_cons_zero]
              go_simp
              try with_reducible rfl
            try simp only [Act.put, List.setIfInBounds_toArray, List.set_cons_zero, List.set_cons_succ]
            refine Stg.wpAnyL_done (by kernel_rfl) ?_ _
            try simp only [List.getElem_toArray, List.getElem_cons_succ, List.getElem_cons_zero]
            try simp only [Act.put, List.setIfInBounds_toArray, List.set_cons_zero, List.set_cons_succ]
            refine NoPanic.normal ?_
            have hg2 : wr.heap.size ≤ g1 := by simpa using hg1
            have d3 := hF.out.bel hU.out
            have k3 := hK.out.trans (KF.of (l := B.l tb) hU.out)
            have hgn : g1 < w1.heap.size := T1.hb (by omega)
            have ha3 := (Below.refl w1.heap.size w1).alloc (Nat.le_refl _) (.cells #[.int .i64 V, .slice (some ⟨g1, 0, none⟩) N c1] 50)
            have T3 := T1.bel ha3
            have hz3 : ∀ o, (w1.alloc (.cells #[.int .i64 V, .slice (some ⟨g1, 0, none⟩) N c1] 50)).frozen? ⟨g1, o, none⟩ = false := fun o => (World.frozen?_of_block (ha3.block g1 hgn)).trans (hz1 o)
            have hu3 : (w1.alloc (.cells [.int .i64 V, .slice (some ⟨g1, 0, none⟩) N c1].toArray 50)) = w1.alloc (.cells #[.int .i64 V, .slice (some ⟨g1, 0, none⟩) N c1] 50) := rfl
            rw [hu3] at nb3
            generalize (w1.alloc (.cells #[.int .i64 V, .slice (some ⟨g1, 0, none⟩) N c1] 50)) = u3 at nb3 d3 T3 k3 hz3 ⊢
            generalize w1.heap.size = nbb at nb3 ⊢
            have hU1 := hU
            clear hU
            replace nb3 := Lib.hid nb3
            go_upto_region 9 with fail
            have x0 := nb3.out.c 0 _ rfl
            have x1 := nb3.out.c 1 _ rfl
            have x2 := d3.b.c 2 _ rfl
            have x3 := d3.b.c 3 _ rfl
            have x4 := d3.b.f 2
            have x5 := d3.b.f 3
            have d4 := Lib.hid (d3.setV (V2 := V) (c := c1) T3 hz3 (by have := hF.out.b.l; omega) (by have := hF.out.wr.l; omega) (by have := hF.out.s.l; omega) (by have := hF.out.d.l; omega))
            have k4 := Lib.hid ((k3.set (p := ⟨B.r, 2, none⟩) (.inl (by simp [RB.l])) (.int .i64 V)).set (p := ⟨B.r, 3, none⟩) (.inl (by simp [RB.l])) (.slice (some ⟨g1, 0, none⟩) N c1))
            have ht4 : RowKit.Hid (g1 = tb ∨ w.heap.size ≤ g1) := Lib.hid (.inr (by have := hK.out.size; omega))
            clear d3 T3 k3 nb3 hU1 T1 hz1 hz3 b0 b1 b2 b3 b4 b5 f0 f1 f2 f3 f4 t0 hcc
            go_upto_region 13 with fail
            clear x0 x1 x2 x3 x4 x5
            generalize ((u3.setCell ⟨B.r, 2, none⟩ (.int .i64 V)).setCell ⟨B.r, 3, none⟩ (.slice (some ⟨g1, 0, none⟩) N c1)) = u4 at d4 k4 ⊢
            have y1 := d4.out.b.c 4 _ rfl
            have y2 := d4.out.s.f i
            have y3 := (d4.out.flow hlt).2.1
            have d2 := Lib.hid (d4.out.setSize hlt n)
            have k2 := Lib.hid (k4.out.set (p := ⟨B.sb, i, none⟩) (.inl (by simp [RB.l])) (.int .i64 n))
            go_upto_region 14 with fail
            generalize (u4.setCell ⟨B.sb, i, none⟩ (.int .i64 n)) = wd at d2 k2 ⊢
            clear y1 y2 y3 d4 k4
            have y1 := d2.out.b.c 5 _ rfl
            have y2 := d2.out.d.f i
            have y3 := (d2.out.flow hlt).2.2.1
            have d3 := Lib.hid (d2.out.setServed hlt false)
            have k3 := Lib.hid (k2.out.set (p := ⟨B.db, i, none⟩) (.inl (by simp [RB.l])) (.bool false))
            clear d2 k2
            go_wp2_with fail
            go_roundw
            case rel => exact ⟨i + 1, g1, c1, by go_num, hlt, Lib.hid (by rw [gZ.out, gD.out, gS.out, gF.out, hsf.out.1, hsf.out.2, show hrS V s ff z n (costI n wi ALL) true = ff from by simp [hrS, hrF1, hn0], show hrF V s ff z n (costI n wi ALL) true = ff + costI n wi ALL from by simp [hrF, hrF1, hn0]]; exact d3.out), k3, ht4⟩
            case measure => simp [intOf]; omega
          · try simp only [List.getElem_toArray, List.getElem_cons_succ, List.getElem_cons_zero]
            go_simp
            refine hK.out _ _ ?_ (fun hHeld1 => ?_)
            · exact fun _ => bNext (hHeld rfl) ((Below.refl _ _).alloc (Nat.le_refl _) _) (Nat.le_refl _)
            clear hK K
            try simp only [Act.put, List.setIfInBounds_toArray, List.set_cons_zero, List.set_cons_succ]
            refine Stg.wpAnyL_start (n' := 6) (l' := #[true, true, true, true, true, true, true, true, true, true, true, true, true, true, true, true, true, false, false, false, false, true, false, false]) (by kernel_rfl) (by kernel_rfl) ?_
            refine Stg.wpAnyL_one (i := 17) 0 rfl (by kernel_rfl) (by kernel_rfl) (fun K hK => ?_)
            try simp only [List.getElem_toArray, List.getElem_cons_succ, List.getElem_cons_zero]
            go_simp
            refine (hcc.out _ (hHeld1 rfl)).mono ?_
            rintro e w1 hX
            obtain ⟨g1, c1, rfl, T1, hg1, hz1, hb2⟩ := virXF_ok hX hok.out
            clear hX
            refine hK.out _ _ ?_ (fun hHeld2 => ?_)
            · exact fun _ => bNext (hHeld1 rfl) hb2 (Nat.le_refl _)
            clear hK K
            try simp only [Act.put, List.setIfInBounds_toArray, List.set_cons_zero, List.set_cons_succ]
            refine Stg.wpAnyL_free (i := 18) (v := ?_) 0 rfl (by kernel_rfl) (by kernel_rfl) (by kernel_rfl) (by kernel_rfl) (by kernel_rfl) (fun _ _ _ h => h) (Or.inl ⟨by kernel_rfl, ?_⟩) (by assumption) ?_
            rotate_left
            · intro u _
              try simp only [List.getElem_toArray, List.getElem_cons_succ, List.getElem_cons_zero]
              go_simp
              try with_reducible rfl
            try simp only [Act.put, List.setIfInBounds_toArray, List.set_cons_zero, List.set_cons_succ]
            refine Stg.wpAnyL_free (i := 19) (v := ?_) 0 rfl (by kernel_rfl) (by kernel_rfl) (by kernel_rfl) (by kernel_rfl) (by kernel_rfl) (fun _ _ _ h => h) (Or.inl ⟨by kernel_rfl, ?_⟩) (by assumption) ?_
            rotate_left
            · intro u _
              try simp only [List.getElem_toArray, List.getElem_cons_succ, List.getElem_cons_zero]
              go_simp
              try with_reducible rfl
            try simp only [Act.put, List.setIfInBounds_toArray, List.set_cons_zero, List.set_cons_succ]
            refine Stg.wpAnyL_start (n' := 3) (l' := #[true, true, true, true, true, true, true, true, true, true, true, true, true, true, true, true, true, true, true, true, false, true, false, false]) (by kernel_rfl) (by kernel_rfl) ?_
            refine Stg.wpAnyL_free (i := 20) (v := ?_) 0 rfl (by kernel_rfl) (by kernel_rfl) (by kernel_rfl) (by kernel_rfl) (by kernel_rfl) (fun _ _ _ h => h) (Or.inl ⟨by kernel_rfl, ?_⟩) (by assumption) ?_
            rotate_left
            · intro u _
              try simp only [List.getElem_toArray, List.getElem_cons_succ, List.getElem_cons_zero]
              go_simp
              try with_reducible rfl
            try simp only [Act.put, List.setIfInBounds_toArray, List.set_cons_zero, List.set_cons_succ]
            refine Stg.wpAnyL_one (i := 22) 1 rfl (by kernel_rfl) (by kernel_rfl) (fun K hK => ?_)
            have hU := Lib.hid (hHeld2 rfl)
            have nb := (blkN_new wr.drew [.int .i64 0, .slice none 0 0] 50).bel hb2
            have hne : g1 ≠ wr.drew.heap.size := by have := hg1; simp at this ⊢; omega
            simp only [World.size_drew] at nb hne
            have r0 := nb.f 0
            have r1 := nb.f 1
            have q0 := nb.c 0 _ rfl
            have q1 := nb.c 1 _ rfl
            try simp only [List.getElem_toArray, List.getElem_cons_succ, List.getElem_cons_zero]
            go_simp
            refine hK.out _ _ ?_ (fun hHeld3 => ?_)
            · exact fun h => absurd h (by decide)
            clear hK K
            try simp only [Act.put, List.setIfInBounds_toArray, List.set_cons_zero, List.set_cons_succ]
            refine Stg.wpAnyL_free (i := 23) (v := ?_) 1 rfl (by kernel_rfl) (by kernel_rfl) (by kernel_rfl) (by kernel_rfl) (by kernel_rfl) (fun _ _ _ h => h) (Or.inl ⟨by kernel_rfl, ?_⟩) (by assumption) ?_
            rotate_left
            · intro u _
              try simp only [List.getElem_toArray, List.getElem_cons_succ, List.getElem_cons_zero]
              go_simp
              try with_reducible rfl
            try simp only [Act.put, List.setIfInBounds_toArray, List.set_cons_zero, List.set_cons_succ]
            refine Stg.wpAnyL_done (by kernel_rfl) ?_ _
            try simp only [List.getElem_toArray, List.getElem_cons_succ, List.getElem_cons_zero]
            try simp only [Act.put, List.setIfInBounds_toArray, List.set_cons_zero, List.set_cons_succ]
            refine NoPanic.normal ?_
            have hg2 : wr.heap.size ≤ g1 := by have := hg1; simp at this; omega
            have hnb : wr.heap.size ≤ wr.heap.size := Nat.le_refl _
            obtain ⟨nbb, hnb⟩ : ∃ n, wr.heap.size = n := ⟨_, rfl⟩
            rw [hnb] at hne nb r0 r1 q0 q1 ⊢
            have nb3 := (nb.set (i := 0) (by simp) (.int .i64 V)).set (i := 1) (by simp) (.slice (some ⟨g1, 0, none⟩) N c1)
            have K3 : KF [] wr ((w1.setCell ⟨nbb, 0, none⟩ (.int .i64 V)).setCell ⟨nbb, 1, none⟩ (.slice (some ⟨g1, 0, none⟩) N c1)) := ((KF.of (l := []) hU.out).set (p := ⟨nbb, 0, none⟩) (.inr (Nat.le_of_eq hnb)) _).set (p := ⟨nbb, 1, none⟩) (.inr (Nat.le_of_eq hnb)) _
            have d3 := RF.kf K3 hF.out (by simp) (by simp) (by simp) (by simp) (by simp)
            have k3 := hK.out.trans (K3.sub (l2 := B.l tb) (by simp))
            have T3 := (T1.set_other (q := nbb) (o := 0) (fun _ => hne) (.int .i64 V)).set_other (q := nbb) (o := 1) (fun _ => hne) (.slice (some ⟨g1, 0, none⟩) N c1)
            have hz3 : ∀ o, ((w1.setCell ⟨nbb, 0, none⟩ (.int .i64 V)).setCell ⟨nbb, 1, none⟩ (.slice (some ⟨g1, 0, none⟩) N c1)).frozen? ⟨g1, o, none⟩ = false := fun o => (World.frozen?_setCell _ _ _ _).trans ((World.frozen?_setCell _ _ _ _).trans (hz1 o))
            clear K3 r0 r1 q0 q1
            generalize ((w1.setCell ⟨nbb, 0, none⟩ (.int .i64 V)).setCell ⟨nbb, 1, none⟩ (.slice (some ⟨g1, 0, none⟩) N c1)) = u3 at nb3 d3 T3 k3 hz3 ⊢
            have hU1 := hU
            clear hU
            replace nb3 := Lib.hid nb3
            go_upto_region 9 with fail
            have x0 := nb3.out.c 0 _ rfl
            have x1 := nb3.out.c 1 _ rfl
            have x2 := d3.b.c 2 _ rfl
            have x3 := d3.b.c 3 _ rfl
            have x4 := d3.b.f 2
            have x5 := d3.b.f 3
            have d4 := Lib.hid (d3.setV (V2 := V) (c := c1) T3 hz3 (by have := hF.out.b.l; omega) (by have := hF.out.wr.l; omega) (by have := hF.out.s.l; omega) (by have := hF.out.d.l; omega))
            have k4 := Lib.hid ((k3.set (p := ⟨B.r, 2, none⟩) (.inl (by simp [RB.l])) (.int .i64 V)).set (p := ⟨B.r, 3, none⟩) (.inl (by simp [RB.l])) (.slice (some ⟨g1, 0, none⟩) N c1))
            have ht4 : RowKit.Hid (g1 = tb ∨ w.heap.size ≤ g1) := Lib.hid (.inr (by have := hK.out.size; omega))
            clear d3 T3 k3 nb3 hU1 T1 hz1 hz3 b0 b1 b2 b3 b4 b5 f0 f1 f2 f3 f4 t0 hcc
            go_upto_region 13 with fail
            clear x0 x1 x2 x3 x4 x5
            generalize ((u3.setCell ⟨B.r, 2, none⟩ (.int .i64 V)).setCell ⟨B.r, 3, none⟩ (.slice (some ⟨g1, 0, none⟩) N c1)) = u4 at d4 k4 ⊢
            have y1 := d4.out.b.c 4 _ rfl
            have y2 := d4.out.s.f i
            have y3 := (d4.out.flow hlt).2.1
            have d2 := Lib.hid (d4.out.setSize hlt n)
            have k2 := Lib.hid (k4.out.set (p := ⟨B.sb, i, none⟩) (.inl (by simp [RB.l])) (.int .i64 n))
            go_upto_region 14 with fail
            generalize (u4.setCell ⟨B.sb, i, none⟩ (.int .i64 n)) = wd at d2 k2 ⊢
            clear y1 y2 y3 d4 k4
            have y1 := d2.out.b.c 5 _ rfl
            have y2 := d2.out.d.f i
            have y3 := (d2.out.flow hlt).2.2.1
            have d3 := Lib.hid (d2.out.setServed hlt false)
            have k3 := Lib.hid (k2.out.set (p := ⟨B.db, i, none⟩) (.inl (by simp [RB.l])) (.bool false))
            clear d2 k2
            go_wp2_with fail
            go_roundw
            case rel => exact ⟨i + 1, g1, c1, by go_num, hlt, Lib.hid (by rw [gZ.out, gD.out, gS.out, gF.out, hsf.out.1, hsf.out.2, show hrS V s ff z n (costI n wi ALL) true = ff from by simp [hrS, hrF1, hn0], show hrF V s ff z n (costI n wi ALL) true = ff + costI n wi ALL from by simp [hrF, hrF1, hn0]]; exact d3.out), k3, ht4⟩
            case measure => simp [intOf]; omega
        | false =>
          by_cases hzn : z = n
          · subst hzn
            have hzp : 0 < z := by omega
            go_upto_region 13 with fail
            have y1 := hF.out.b.c 4 _ rfl
            have y2 := hF.out.s.f i
            have y3 := (hF.out.flow hlt).2.1
            have d2 := Lib.hid (hF.out.setSize hlt z)
            have k2 := Lib.hid (hK.out.set (p := ⟨B.sb, i, none⟩) (.inl (by simp [RB.l])) (.int .i64 z))
            go_upto_region 14 with fail
            generalize (wr.setCell ⟨B.sb, i, none⟩ (.int .i64 z)) = wd at d2 k2 ⊢
            clear y1 y2 y3 hF hK
            have y1 := d2.out.b.c 5 _ rfl
            have y2 := d2.out.d.f i
            have y3 := (d2.out.flow hlt).2.2.1
            have d3 := Lib.hid (d2.out.setServed hlt false)
            have k3 := Lib.hid (k2.out.set (p := ⟨B.db, i, none⟩) (.inl (by simp [RB.l])) (.bool false))
            clear d2 k2
            go_wp2_with fail
            go_roundw
            case rel => exact ⟨i + 1, tbr, ctr, by go_num, hlt, Lib.hid (by rw [gZ.out, gD.out, gS.out, gF.out, hsf.out.1, hsf.out.2, show hrS V s ff z z (costI z wi ALL) false = s from by simp [hrS, hrF1, hn0], show hrF V s ff z z (costI z wi ALL) false = ff from by simp [hrF, hrF1, hn0], ← aS.out, up_same, ← aF.out, up_same]; exact d3.out), k3, ht⟩
            case measure => simp [intOf]; omega
          · by_cases hzp : 0 < z
            · skip
              have hv2 : RowKit.Hid (VOk V N Sm (up Fm i s)) := Lib.hid ⟨hv.out.1, hv.out.2.1, hv.out.2.2.1, fun j hj => by
                have := hv.out.2.2.2 j hj
                unfold up
                split
                · rename_i e; subst e; rw [aS.out] at this ⊢; omega
                · exact this⟩
              go_upto_region 5 with fail
              refine wp_region_noPanic ?_
              refine Stg.wp_region_L [17] (Vr.SB wr) (by kernel_rfl) (fun _ => (Below.refl _ _).drew) (fun hHeld => ?_)
              refine Stg.wpAnyL_start (n' := 18) (l' := #[false, false, false, false, false, false, false, false, false, false, false, false, false, false, false, false, false, false]) (by kernel_rfl) (by kernel_rfl) ?_
              refine Stg.wpAnyL_free (i := 0) (v := ?_) 0 rfl (by kernel_rfl) (by kernel_rfl) (by kernel_rfl) (by kernel_rfl) (by kernel_rfl) (fun _ _ _ h => h) (Or.inl ⟨by kernel_rfl, ?_⟩) (by assumption) ?_
              rotate_left
              · intro u _
                try simp only [List.getElem_toArray, List.getElem_cons_succ, List.getElem_cons_zero]
                go_simp
                try with_reducible rfl
              try simp only [Act.put, List.setIfInBounds_toArray, List.set_cons_zero, List.set_cons_succ]
              refine Stg.wpAnyL_free (i := 1) (v := ?_) 0 rfl (by kernel_rfl) (by kernel_rfl) (by kernel_rfl) (by kernel_rfl) (by kernel_rfl) (fun _ _ _ h => h) (Or.inl ⟨by kernel_rfl, ?_⟩) (by assumption) ?_
              rotate_left
              · intro u _
                try simp only [List.getElem_toArray, List.getElem_cons_succ, List.getElem_cons_zero]
                go_simp
                try with_reducible rfl
              try simp only [Act.put, List.setIfInBounds_toArray, List.set_cons_zero, List.set_cons_succ]
              refine Stg.wpAnyL_free (i := 2) (v := ?_) 0 rfl (by kernel_rfl) (by kernel_rfl) (by kernel_rfl) (by kernel_rfl) (by kernel_rfl) (fun _ _ _ h => h) (Or.inl ⟨by kernel_rfl, ?_⟩) (by assumption) ?_
              rotate_left
              · intro u _
                try simp only [List.getElem_toArray, List.getElem_cons_succ, List.getElem_cons_zero]
                go_simp
                try with_reducible rfl
              try simp only [Act.put, List.setIfInBounds_toArray, List.set_cons_zero, List.set_cons_succ]
              refine Stg.wpAnyL_start (n' := 15) (l' := #[true, true, true, false, false, false, false, false, false, false, false, false, false, false, false, false, false, false]) (by kernel_rfl) (by kernel_rfl) ?_
              refine Stg.wpAnyL_free (i := 3) (v := ?_) 0 rfl (by kernel_rfl) (by kernel_rfl) (by kernel_rfl) (by kernel_rfl) (by kernel_rfl) (fun _ _ _ h => h) (Or.inl ⟨by kernel_rfl, ?_⟩) (by assumption) ?_
              rotate_left
              · intro u _
                try simp only [List.getElem_toArray, List.getElem_cons_succ, List.getElem_cons_zero]
                go_simp
                try with_reducible rfl
              try simp only [Act.put, List.setIfInBounds_toArray, List.set_cons_zero, List.set_cons_succ]
              refine Stg.wpAnyL_take (i := 4) (v := ?_) [15, 16, 17] 0 rfl (by kernel_rfl) (by kernel_rfl) (by kernel_rfl) (by kernel_rfl) (by kernel_rfl) (fun _ _ _ h => h) (Or.inl ⟨by kernel_rfl, ?_⟩) (by assumption) ?_
              rotate_left
              · intro u hSu
                skip
                have sB := hSu rfl
                have y0 := cellB sB b3
                have y1 := cellB sB f3
                try simp only [List.getElem_toArray, List.getElem_cons_succ, List.getElem_cons_zero]
                go_simp
                try with_reducible rfl
              try simp only [Act.put, List.setIfInBounds_toArray, List.set_cons_zero, List.set_cons_succ]
              refine Stg.wpAnyL_free (i := 5) (v := ?_) 0 rfl (by kernel_rfl) (by kernel_rfl) (by kernel_rfl) (by kernel_rfl) (by kernel_rfl) (fun _ _ _ h => h) (Or.inl ⟨by kernel_rfl, ?_⟩) (by assumption) ?_
              rotate_left
              · intro u _
                try simp only [List.getElem_toArray, List.getElem_cons_succ, List.getElem_cons_zero]
                go_simp
                try with_reducible rfl
              try simp only [Act.put, List.setIfInBounds_toArray, List.set_cons_zero, List.set_cons_succ]
              refine Stg.wpAnyL_start (n' := 12) (l' := #[true, true, true, true, true, true, false, false, false, false, false, false, false, false, false, false, false, false]) (by kernel_rfl) (by kernel_rfl) ?_
              refine Stg.wpAnyL_free (i := 6) (v := ?_) 0 rfl (by kernel_rfl) (by kernel_rfl) (by kernel_rfl) (by kernel_rfl) (by kernel_rfl) (fun _ _ _ h => h) (Or.inl ⟨by kernel_rfl, ?_⟩) (by assumption) ?_
              rotate_left
              · intro u _
                try simp only [List.getElem_toArray, List.getElem_cons_succ, List.getElem_cons_zero]
                go_simp
                try with_reducible rfl
              try simp only [Act.put, List.setIfInBounds_toArray, List.set_cons_zero, List.set_cons_succ]
              refine Stg.wpAnyL_free (i := 7) (v := ?_) 0 rfl (by kernel_rfl) (by kernel_rfl) (by kernel_rfl) (by kernel_rfl) (by kernel_rfl) (fun _ _ _ h => h) (Or.inl ⟨by kernel_rfl, ?_⟩) (by assumption) ?_
              rotate_left
              · intro u _
                try simp only [List.getElem_toArray, List.getElem_cons_succ, List.getElem_cons_zero]
                go_simp
                try with_reducible rfl
              try simp only [Act.put, List.setIfInBounds_toArray, List.set_cons_zero, List.set_cons_succ]
              refine Stg.wpAnyL_free (i := 8) (v := ?_) 0 rfl (by kernel_rfl) (by kernel_rfl) (by kernel_rfl) (by kernel_rfl) (by kernel_rfl) (fun _ _ _ h => h) (Or.inl ⟨by kernel_rfl, ?_⟩) (by assumption) ?_
              rotate_left
              · intro u _
                try simp only [List.getElem_toArray, List.getElem_cons_succ, List.getElem_cons_zero]
                go_simp
                try with_reducible rfl
              try simp only [Act.put, List.setIfInBounds_toArray, List.set_cons_zero, List.set_cons_succ]
              refine Stg.wpAnyL_start (n' := 9) (l' := #[true, true, true, true, true, true, true, true, true, false, false, false, false, false, false, false, false, false]) (by kernel_rfl) (by kernel_rfl) ?_
              refine Stg.wpAnyL_free (i := 9) (v := ?_) 0 rfl (by kernel_rfl) (by kernel_rfl) (by kernel_rfl) (by kernel_rfl) (by kernel_rfl) (fun _ _ _ h => h) (Or.inl ⟨by kernel_rfl, ?_⟩) (by assumption) ?_
              rotate_left
              · intro u _
                try simp only [List.getElem_toArray, List.getElem_cons_succ, List.getElem_cons_zero]
                go_simp
                try with_reducible rfl
              try simp only [Act.put, List.setIfInBounds_toArray, List.set_cons_zero, List.set_cons_succ]
              refine Stg.wpAnyL_take (i := 10) (v := ?_) [12, 13, 14, 15, 16, 17] 0 rfl (by kernel_rfl) (by kernel_rfl) (by kernel_rfl) (by kernel_rfl) (by kernel_rfl) (fun _ _ _ h => h) (Or.inl ⟨by kernel_rfl, ?_⟩) (by assumption) ?_
              rotate_left
              · intro u hSu
                skip
                have sB := hSu rfl
                have y0 := cellB sB b3
                have y1 := cellB sB f3
                try simp only [List.getElem_toArray, List.getElem_cons_succ, List.getElem_cons_zero]
                go_simp
                try with_reducible rfl
              try simp only [Act.put, List.setIfInBounds_toArray, List.set_cons_zero, List.set_cons_succ]
              refine Stg.wpAnyL_free (i := 11) (v := ?_) 0 rfl (by kernel_rfl) (by kernel_rfl) (by kernel_rfl) (by kernel_rfl) (by kernel_rfl) (fun _ _ _ h => h) (Or.inl ⟨by kernel_rfl, ?_⟩) (by assumption) ?_
              rotate_left
              · intro u _
                try simp only [List.getElem_toArray, List.getElem_cons_succ, List.getElem_cons_zero]
                go_simp
                try with_reducible rfl
              try simp only [Act.put, List.setIfInBounds_toArray, List.set_cons_zero, List.set_cons_succ]
              refine Stg.wpAnyL_start (n' := 6) (l' := #[true, true, true, true, true, true, true, true, true, true, true, true, false, false, false, false, false, false]) (by kernel_rfl) (by kernel_rfl) ?_
              refine Stg.wpAnyL_free (i := 12) (v := ?_) 0 rfl (by kernel_rfl) (by kernel_rfl) (by kernel_rfl) (by kernel_rfl) (by kernel_rfl) (fun _ _ _ h => h) (Or.inl ⟨by kernel_rfl, ?_⟩) (by assumption) ?_
              rotate_left
              · intro u _
                try simp only [List.getElem_toArray, List.getElem_cons_succ, List.getElem_cons_zero]
                go_simp
                try with_reducible rfl
              try simp only [Act.put, List.setIfInBounds_toArray, List.set_cons_zero, List.set_cons_succ]
              refine Stg.wpAnyL_free (i := 13) (v := ?_) 0 rfl (by kernel_rfl) (by kernel_rfl) (by kernel_rfl) (by kernel_rfl) (by kernel_rfl) (fun _ _ _ h => h) (Or.inl ⟨by kernel_rfl, ?_⟩) (by assumption) ?_
              rotate_left
              · intro u _
                try simp only [List.getElem_toArray, List.getElem_cons_succ, List.getElem_cons_zero]
                go_simp
                try with_reducible rfl
              try simp only [Act.put, List.setIfInBounds_toArray, List.set_cons_zero, List.set_cons_succ]
              refine Stg.wpAnyL_take (i := 14) (v := ?_) [15, 16, 17] 0 rfl (by kernel_rfl) (by kernel_rfl) (by kernel_rfl) (by kernel_rfl) (by kernel_rfl) (fun _ _ _ h => h) (Or.inl ⟨by kernel_rfl, ?_⟩) (by assumption) ?_
              rotate_left
              · intro u hSu
                skip
                have sB := hSu rfl
                have y0 := cellB sB b3
                have y1 := cellB sB f3
                try simp only [List.getElem_toArray, List.getElem_cons_succ, List.getElem_cons_zero]
                go_simp
                try with_reducible rfl
              try simp only [Act.put, List.setIfInBounds_toArray, List.set_cons_zero, List.set_cons_succ]
              refine Stg.wpAnyL_start (n' := 3) (l' := #[true, true, true, true, true, true, true, true, true, true, true, true, true, true, true, false, false, false]) (by kernel_rfl) (by kernel_rfl) ?_
              refine Stg.wpAnyL_free (i := 15) (v := ?_) 0 rfl (by kernel_rfl) (by kernel_rfl) (by kernel_rfl) (by kernel_rfl) (by kernel_rfl) (fun _ _ _ h => h) (Or.inl ⟨by kernel_rfl, ?_⟩) (by assumption) ?_
              rotate_left
              · intro u _
                try simp only [List.getElem_toArray, List.getElem_cons_succ, List.getElem_cons_zero]
                go_simp
                try with_reducible rfl
              try simp only [Act.put, List.setIfInBounds_toArray, List.set_cons_zero, List.set_cons_succ]
              refine Stg.wpAnyL_free (i := 16) (v := ?_) 0 rfl (by kernel_rfl) (by kernel_rfl) (by kernel_rfl) (by kernel_rfl) (by kernel_rfl) (fun _ _ _ h => h) (Or.inl ⟨by kernel_rfl, ?_⟩) (by assumption) ?_
              rotate_left
              · intro u _
                try simp only [List.getElem_toArray, List.getElem_cons_succ, List.getElem_cons_zero]
                go_simp
                try with_reducible rfl
              try simp only [Act.put, List.setIfInBounds_toArray, List.set_cons_zero, List.set_cons_succ]
              refine Stg.wpAnyL_one (i := 17) 1 rfl (by kernel_rfl) (by kernel_rfl) (fun K hK => ?_)
              have y4 := cellB (hHeld rfl) f4
              have y5 := (World.frozen?_of_block ((hHeld rfl).block tbr hF.out.tl)).trans (hF.out.tf (i * 2 + 1))
              try simp only [List.getElem_toArray, List.getElem_cons_succ, List.getElem_cons_zero]
              go_simp
              refine hK.out _ _ ?_ (fun hHeld1 => ?_)
              · exact fun h => absurd h (by decide)
              clear hK K
              try simp only [Act.put, List.setIfInBounds_toArray, List.set_cons_zero, List.set_cons_succ]
              refine Stg.wpAnyL_done (by kernel_rfl) ?_ _
              try simp only [List.getElem_toArray, List.getElem_cons_succ, List.getElem_cons_zero]
              try simp only [Act.put, List.setIfInBounds_toArray, List.set_cons_zero, List.set_cons_succ]
              refine NoPanic.normal ?_
              clear y4 y5 b0 b1 b2 b3 b4 b5 f0 f1 f2 f3 f4 t0 hHeld
              have d5 := Lib.hid ((hF.out.setFin hlt s).bel (Below.refl _ _).drew)
              have k5 := Lib.hid ((hK.out.set (p := ⟨tbr, i * 2 + 1, none⟩) (by rcases ht.out with e | e; exact .inl (by rw [e]; simp [RB.l]); exact .inr e) (.int .i64 s)).drew)
              have hw5 : wr.heap.size ≤ (wr.setCell ⟨tbr, i * 2 + 1, none⟩ (.int .i64 s)).drew.heap.size := by simp
              generalize (wr.setCell ⟨tbr, i * 2 + 1, none⟩ (.int .i64 s)).drew = w5 at d5 k5 hw5 ⊢
              have T5 := Lib.hid (k5.out.tags T.out (fun _ => by simp [RB.l]; omega))
              have t0 := T5.out.c0 i hlt
              rw [hhn.out] at t0
              obtain ⟨f0, f1, f2, f3, f4⟩ := d5.out.flow hlt
              simp only [mix_at, mixb_at, hwi.out, zi.out, di.out] at f0 f1 f2
              have b0 := d5.out.b.c 0 _ rfl
              have b1 := d5.out.b.c 1 _ rfl
              have b2 := d5.out.b.c 2 _ rfl
              have b3 := d5.out.b.c 3 _ rfl
              have b4 := d5.out.b.c 4 _ rfl
              have b5 := d5.out.b.c 5 _ rfl
              clear f3 f4 hF hK T5
              go_upto_region 11 with fail
              have hok : RowKit.Hid (tagOk V N Sm (up Fm i s) (i : Int) (costI n wi ALL) (max s V)) := Lib.hid ⟨hv2.out, by omega, by omega, by have := (hc.out hn0).1; omega, by have := (hc.out hn0).2; unfold CM at this; omega⟩
              have hcc := Lib.hid (fun (u : World) (hu : Below w5.heap.size w5 u) => rwakeF_c V (i : Int) n wi ALL N (some ⟨tbr, 0, none⟩) tbr 0 ctr Sm (up Fm i s) u (d5.out.t.bel hu) (by omega))
              rw [Int.toNat_natCast, up_at] at hcc
              refine wp_region_noPanic ?_
              refine Stg.wp_region_L [22] (Vr.SB w5) (by kernel_rfl) (fun _ => (Below.refl _ _).drew) (fun hHeld => ?_)
              refine Stg.wpAnyL_start (n' := 24) (l' := #[false, false, false, false, false, false, false, false, false, false, false, false, false, false, false, false, false, false, false, false, false, false, false, false]) (by kernel_rfl) (by kernel_rfl) ?_
              refine Stg.wpAnyL_free (i := 0) (v := ?_) 0 rfl (by kernel_rfl) (by kernel_rfl) (by kernel_rfl) (by kernel_rfl) (by kernel_rfl) (fun _ _ _ h => h) (Or.inl ⟨by kernel_rfl, ?_⟩) (by assumption) ?_
              rotate_left
              · intro u _
                try simp only [List.getElem_toArray, List.getElem_cons_succ, List.getElem_cons_zero]
                go_simp
                try with_reducible rfl
              try simp only [Act.put, List.setIfInBounds_toArray, List.set_cons_zero, List.set_cons_succ]
              refine Stg.wpAnyL_free (i := 1) (v := ?_) 0 rfl (by kernel_rfl) (by kernel_rfl) (by kernel_rfl) (by kernel_rfl) (by kernel_rfl) (fun _ _ _ h => h) (Or.inl ⟨by kernel_rfl, ?_⟩) (by assumption) ?_
              rotate_left
              · intro u _
                try simp only [List.getElem_toArray, List.getElem_cons_succ, List.getElem_cons_zero]
                go_simp
                try with_reducible rfl
              try simp only [Act.put, List.setIfInBounds_toArray, List.set_cons_zero, List.set_cons_succ]
              refine Stg.wpAnyL_free (i := 2) (v := ?_) 0 rfl (by kernel_rfl) (by kernel_rfl) (by kernel_rfl) (by kernel_rfl) (by kernel_rfl) (fun _ _ _ h => h) (Or.inl ⟨by kernel_rfl, ?_⟩) (by assumption) ?_
              rotate_left
              · intro u _
                try simp only [List.getElem_toArray, List.getElem_cons_succ, List.getElem_cons_zero]
                go_simp
                try with_reducible rfl
              try simp only [Act.put, List.setIfInBounds_toArray, List.set_cons_zero, List.set_cons_succ]
              refine Stg.wpAnyL_start (n' := 21) (l' := #[true, true, true, false, false, false, false, false, false, false, false, false, false, false, false, false, false, false, false, false, false, false, false, false]) (by kernel_rfl) (by kernel_rfl) ?_
              refine Stg.wpAnyL_take (i := 3) (v := ?_) [17, 18, 19, 20, 22, 23] 0 rfl (by kernel_rfl) (by kernel_rfl) (by kernel_rfl) (by kernel_rfl) (by kernel_rfl) (fun _ _ _ h => h) (Or.inl ⟨by kernel_rfl, ?_⟩) (by assumption) ?_
              rotate_left
              · intro u hSu
                skip
                have sB := hSu rfl
                have y0 := cellB sB b0
                have y1 := cellB sB b1
                have y2 := cellB sB b2
                have y3 := cellB sB b3
                have y4 := cellB sB f0
                have y5 := cellB sB t0
                try simp only [List.getElem_toArray, List.getElem_cons_succ, List.getElem_cons_zero]
                go_simp
                try with_reducible rfl
              try simp only [Act.put, List.setIfInBounds_toArray, List.set_cons_zero, List.set_cons_succ]
              refine Stg.wpAnyL_free (i := 4) (v := ?_) 0 rfl (by kernel_rfl) (by kernel_rfl) (by kernel_rfl) (by kernel_rfl) (by kernel_rfl) (fun _ _ _ h => h) (Or.inl ⟨by kernel_rfl, ?_⟩) (by assumption) ?_
              rotate_left
              · intro u _
                try simp only [List.getElem_toArray, List.getElem_cons_succ, List.getElem_cons_zero]
                go_simp
                try with_reducible rfl
              try simp only [Act.put, List.setIfInBounds_toArray, List.set_cons_zero, List.set_cons_succ]
              refine Stg.wpAnyL_free (i := 5) (v := ?_) 0 rfl (by kernel_rfl) (by kernel_rfl) (by kernel_rfl) (by kernel_rfl) (by kernel_rfl) (fun _ _ _ h => h) (Or.inl ⟨by kernel_rfl, ?_⟩) (by assumption) ?_
              rotate_left
              · intro u _
                try simp only [List.getElem_toArray, List.getElem_cons_succ, List.getElem_cons_zero]
                go_simp
                try with_reducible rfl
              try simp only [Act.put, List.setIfInBounds_toArray, List.set_cons_zero, List.set_cons_succ]
              refine Stg.wpAnyL_start (n' := 18) (l' := #[true, true, true, true, true, true, false, false, false, false, false, false, false, false, false, false, false, false, false, false, false, false, false, false]) (by kernel_rfl) (by kernel_rfl) ?_
              refine Stg.wpAnyL_free (i := 6) (v := ?_) 0 rfl (by kernel_rfl) (by kernel_rfl) (by kernel_rfl) (by kernel_rfl) (by kernel_rfl) (fun _ _ _ h => h) (Or.inl ⟨by kernel_rfl, ?_⟩) (by assumption) ?_
              rotate_left
              · intro u _
                try simp only [List.getElem_toArray, List.getElem_cons_succ, List.getElem_cons_zero]
                go_simp
                try with_reducible rfl
              try simp only [Act.put, List.setIfInBounds_toArray, List.set_cons_zero, List.set_cons_succ]
              refine Stg.wpAnyL_free (i := 7) (v := ?_) 0 rfl (by kernel_rfl) (by kernel_rfl) (by kernel_rfl) (by kernel_rfl) (by kernel_rfl) (fun _ _ _ h => h) (Or.inl ⟨by kernel_rfl, ?_⟩) (by assumption) ?_
              rotate_left
              · intro u _
                try simp only [List.getElem_toArray, List.getElem_cons_succ, List.getElem_cons_zero]
                go_simp
                try with_reducible rfl
              try simp only [Act.put, List.setIfInBounds_toArray, List.set_cons_zero, List.set_cons_succ]
              refine Stg.wpAnyL_free (i := 8) (v := ?_) 0 rfl (by kernel_rfl) (by kernel_rfl) (by kernel_rfl) (by kernel_rfl) (by kernel_rfl) (fun _ _ _ h => h) (Or.inl ⟨by kernel_rfl, ?_⟩) (by assumption) ?_
              rotate_left
              · intro u _
                try simp only [List.getElem_toArray, List.getElem_cons_succ, List.getElem_cons_zero]
                go_simp
                try with_reducible rfl
              try simp only [Act.put, List.setIfInBounds_toArray, List.set_cons_zero, List.set_cons_succ]
              refine Stg.wpAnyL_start (n' := 15) (l' := #[true, true, true, true, true, true, true, true, true, false, false, false, false, false, false, false, false, false, false, false, false, false, false, false]) (by kernel_rfl) (by kernel_rfl) ?_
              refine Stg.wpAnyL_take (i := 9) (v := ?_) [11, 12, 17, 18, 19, 20, 22, 23] 0 rfl (by kernel_rfl) (by kernel_rfl) (by kernel_rfl) (by kernel_rfl) (by kernel_rfl) (fun _ _ _ h => h) (Or.inl ⟨by kernel_rfl, ?_⟩) (by assumption) ?_
              rotate_left
              · intro u hSu
                skip
                have sB := hSu rfl
                have y0 := cellB sB b0
                have y1 := cellB sB b1
                have y2 := cellB sB b2
                have y3 := cellB sB b3
                have y4 := cellB sB f0
                have y5 := cellB sB t0
                try simp only [List.getElem_toArray, List.getElem_cons_succ, List.getElem_cons_zero]
                go_simp
                try with_reducible rfl
              try simp only [Act.put, List.setIfInBounds_toArray, List.set_cons_zero, List.set_cons_succ]
              refine Stg.wpAnyL_free (i := 10) (v := ?_) 0 rfl (by kernel_rfl) (by kernel_rfl) (by kernel_rfl) (by kernel_rfl) (by kernel_rfl) (fun _ _ _ h => h) (Or.inl ⟨by kernel_rfl, ?_⟩) (by assumption) ?_
              rotate_left
              · intro u _
                try simp only [List.getElem_toArray, List.getElem_cons_succ, List.getElem_cons_zero]
                go_simp
                try with_reducible rfl
              try simp only [Act.put, List.setIfInBounds_toArray, List.set_cons_zero, List.set_cons_succ]
              refine Stg.wpAnyL_free (i := 11) (v := ?_) 0 rfl (by kernel_rfl) (by kernel_rfl) (by kernel_rfl) (by kernel_rfl) (by kernel_rfl) (fun _ _ _ h => h) (Or.inl ⟨by kernel_rfl, ?_⟩) (by assumption) ?_
              rotate_left
              · intro u _
                try simp only [List.getElem_toArray, List.getElem_cons_succ, List.getElem_cons_zero]
                go_simp
                try with_reducible rfl
              try simp only [Act.put, List.setIfInBounds_toArray, List.set_cons_zero, List.set_cons_succ]
              refine Stg.wpAnyL_start (n' := 12) (l' := #[true, true, true, true, true, true, true, true, true, true, true, true, false, false, false, false, false, false, false, false, false, false, false, false]) (by kernel_rfl) (by kernel_rfl) ?_
              refine Stg.wpAnyL_take (i := 12) (v := ?_) [17, 18, 19, 20, 22, 23] 0 rfl (by kernel_rfl) (by kernel_rfl) (by kernel_rfl) (by kernel_rfl) (by kernel_rfl) (fun _ _ _ h => h) (Or.inl ⟨by kernel_rfl, ?_⟩) (by assumption) ?_
              rotate_left
              · intro u hSu
                skip
                have sB := hSu rfl
                have y0 := cellB sB b0
                have y1 := cellB sB b1
                have y2 := cellB sB b2
                have y3 := cellB sB b3
                have y4 := cellB sB f0
                have y5 := cellB sB t0
                try simp only [List.getElem_toArray, List.getElem_cons_succ, List.getElem_cons_zero]
                go_simp
                try with_reducible rfl
              try simp only [Act.put, List.setIfInBounds_toArray, List.set_cons_zero, List.set_cons_succ]
              refine Stg.wpAnyL_free (i := 13) (v := ?_) 0 rfl (by kernel_rfl) (by kernel_rfl) (by kernel_rfl) (by kernel_rfl) (by kernel_rfl) (fun _ _ _ h => h) (Or.inl ⟨by kernel_rfl, ?_⟩) (by assumption) ?_
              rotate_left
              · intro u _
                try simp only [List.getElem_toArray, List.getElem_cons_succ, List.getElem_cons_zero]
                go_simp
                try with_reducible rfl
              try simp only [Act.put, List.setIfInBounds_toArray, List.set_cons_zero, List.set_cons_succ]
              refine Stg.wpAnyL_free (i := 14) (v := ?_) 0 rfl (by kernel_rfl) (by kernel_rfl) (by kernel_rfl) (by kernel_rfl) (by kernel_rfl) (fun _ _ _ h => h) (Or.inl ⟨by kernel_rfl, ?_⟩) (by assumption) ?_
              rotate_left
              · intro u _
                try simp only [List.getElem_toArray, List.getElem_cons_succ, List.getElem_cons_zero]
                go_simp
                try with_reducible rfl
              try simp only [Act.put, List.setIfInBounds_toArray, List.set_cons_zero, List.set_cons_succ]
              refine Stg.wpAnyL_start (n' := 9) (l' := #[true, true, true, true, true, true, true, true, true, true, true, true, true, true, true, false, false, false, false, false, false, false, false, false]) (by kernel_rfl) (by kernel_rfl) ?_
              refine Stg.wpAnyL_free (i := 15) (v := ?_) 0 rfl (by kernel_rfl) (by kernel_rfl) (by kernel_rfl) (by kernel_rfl) (by kernel_rfl) (fun _ _ _ h => h) (Or.inl ⟨by kernel_rfl, ?_⟩) (by assumption) ?_
              rotate_left
              · intro u _
                try simp only [List.getElem_toArray, List.getElem_cons_succ, List.getElem_cons_zero]
                go_simp
                try with_reducible rfl
              try simp only [Act.put, List.setIfInBounds_toArray, List.set_cons_zero, List.set_cons_succ]
              refine Stg.wpAnyL_take (i := 16) (v := ?_) [17, 18, 19, 20, 22, 23] 0 rfl (by kernel_rfl) (by kernel_rfl) (by kernel_rfl) (by kernel_rfl) (by kernel_rfl) (fun _ _ _ h => h) (Or.inl ⟨by kernel_rfl, ?_⟩) (by assumption) ?_
              rotate_left
              · intro u hSu
                skip
                have sB := hSu rfl
                have y0 := cellB sB b0
                have y1 := cellB sB b1
                have y2 := cellB sB b2
                have y3 := cellB sB b3
                have y4 := cellB sB f0
                have y5 := cellB sB t0
                try simp only [List.getElem_toArray, List.getElem_cons_succ, List.getElem_cons_zero]
                go_simp
                try with_reducible rfl
              try simp only [Act.put, List.setIfInBounds_toArray, List.set_cons_zero, List.set_cons_succ]
              refine Stg.wpAnyL_two (i := 17) (k := 21) 0 0 rfl rfl (by kernel_rfl) (by kernel_rfl) (by kernel_rfl) (fun K hK => ?_) (fun K hK => ?_)
              · try simp only [List.getElem_toArray, List.getElem_cons_succ, List.getElem_cons_zero]
                go_simp
                refine (hcc.out _ (hHeld rfl)).mono ?_
                rintro e w1 hX
                obtain ⟨g1, c1, rfl, T1, hg1, hz1, hb1⟩ := virXF_ok hX hok.out
                rw [up_up] at T1
                clear hX
                refine hK.out _ _ ?_ (fun hHeld1 => ?_)
                · exact fun _ => bNext (hHeld rfl) hb1 (Nat.le_refl _)
                clear hK K
                try simp only [Act.put, List.setIfInBounds_toArray, List.set_cons_zero, List.set_cons_succ]
                refine Stg.wpAnyL_start (n' := 6) (l' := #[true, true, true, true, true, true, true, true, true, true, true, true, true, true, true, true, true, true, false, false, false, false, false, false]) (by kernel_rfl) (by kernel_rfl) ?_
                refine Stg.wpAnyL_free (i := 18) (v := ?_) 0 rfl (by kernel_rfl) (by kernel_rfl) (by kernel_rfl) (by kernel_rfl) (by kernel_rfl) (fun _ _ _ h => h) (Or.inl ⟨by kernel_rfl, ?_⟩) (by assumption) ?_
                rotate_left
                · intro u _
                  try simp only [List.getElem_toArray, List.getElem_cons_succ, List.getElem_cons_zero]
                  go_simp
                  try with_reducible rfl
                try simp only [Act.put, List.setIfInBounds_toArray, List.set_cons_zero, List.set_cons_succ]
                refine Stg.wpAnyL_free (i := 19) (v := ?_) 0 rfl (by kernel_rfl) (by kernel_rfl) (by kernel_rfl) (by kernel_rfl) (by kernel_rfl) (fun _ _ _ h => h) (Or.inl ⟨by kernel_rfl, ?_⟩) (by assumption) ?_
                rotate_left
                · intro u _
                  try simp only [List.getElem_toArray, List.getElem_cons_succ, List.getElem_cons_zero]
                  go_simp
                  try with_reducible rfl
                try simp only [Act.put, List.setIfInBounds_toArray, List.set_cons_zero, List.set_cons_succ]
                refine Stg.wpAnyL_free (i := 20) (v := ?_) 0 rfl (by kernel_rfl) (by kernel_rfl) (by kernel_rfl) (by kernel_rfl) (by kernel_rfl) (fun _ _ _ h => h) (Or.inl ⟨by kernel_rfl, ?_⟩) (by assumption) ?_
                rotate_left
                · intro u _
                  try simp only [List.getElem_toArray, List.getElem_cons_succ, List.getElem_cons_zero]
                  go_simp
                  try with_reducible rfl
                try simp only [Act.put, List.setIfInBounds_toArray, List.set_cons_zero, List.set_cons_succ]
                refine Stg.wpAnyL_start (n' := 3) (l' := #[true, true, true, true, true, true, true, true, true, true, true, true, true, true, true, true, true, true, true, true, true, false, false, false]) (by kernel_rfl) (by kernel_rfl) ?_
                refine Stg.wpAnyL_one (i := 21) 0 rfl (by kernel_rfl) (by kernel_rfl) (fun K hK => ?_)
                try simp only [List.getElem_toArray, List.getElem_cons_succ, List.getElem_cons_zero]
                go_simp
                refine hK.out _ _ ?_ (fun hHeld2 => ?_)
                · exact fun _ => bNext (hHeld1 rfl) ((Below.refl _ _).alloc (Nat.le_refl _) _) (Nat.le_refl _)
                clear hK K
                try simp only [Act.put, List.setIfInBounds_toArray, List.set_cons_zero, List.set_cons_succ]
                refine Stg.wpAnyL_one (i := 22) 1 rfl (by kernel_rfl) (by kernel_rfl) (fun K hK => ?_)
                have hU := Lib.hid (bNext (hHeld1 rfl) ((Below.refl w1.heap.size w1).alloc (Nat.le_refl _) (.cells #[.int .i64 V, .slice (some ⟨g1, 0, none⟩) N c1] 50)) (Nat.le_refl _))
                have nb3 := blkN_new w1 [.int .i64 V, .slice (some ⟨g1, 0, none⟩) N c1] 50
                try simp only [List.getElem_toArray, List.getElem_cons_succ, List.getElem_cons_zero]
                go_simp
                refine hK.out _ _ ?_ (fun hHeld3 => ?_)
                · exact fun h => absurd h (by decide)
                clear hK K
                try simp only [Act.put, List.setIfInBounds_toArray, List.set_cons_zero, List.set_cons_succ]
                refine Stg.wpAnyL_free (i := 23) (v := ?_) 1 rfl (by kernel_rfl) (by kernel_rfl) (by kernel_rfl) (by kernel_rfl) (by kernel_rfl) (fun _ _ _ h => h) (Or.inl ⟨by kernel_rfl, ?_⟩) (by assumption) ?_
                rotate_left
                · intro u _
                  try simp only [List.getElem_toArray, List.getElem_cons_succ, List.getElem_cons_zero]
                  go_simp
                  try with_reducible rfl
                try simp only [Act.put, List.setIfInBounds_toArray, List.set_cons_zero, List.set_cons_succ]
                refine Stg.wpAnyL_done (by kernel_rfl) ?_ _
                try simp only [List.getElem_toArray, List.getElem_cons_succ, List.getElem_cons_zero]
                try simp only [Act.put, List.setIfInBounds_toArray, List.set_cons_zero, List.set_cons_succ]
                refine NoPanic.normal ?_
                have hg2 : w5.heap.size ≤ g1 := by simpa using hg1
                have d3 := d5.out.bel hU.out
                have k3 := k5.out.trans (KF.of (l := B.l tb) hU.out)
                have hgn : g1 < w1.heap.size := T1.hb (by omega)
                have ha3 := (Below.refl w1.heap.size w1).alloc (Nat.le_refl _) (.cells #[.int .i64 V, .slice (some ⟨g1, 0, none⟩) N c1] 50)
                have T3 := T1.bel ha3
                have hz3 : ∀ o, (w1.alloc (.cells #[.int .i64 V, .slice (some ⟨g1, 0, none⟩) N c1] 50)).frozen? ⟨g1, o, none⟩ = false := fun o => (World.frozen?_of_block (ha3.block g1 hgn)).trans (hz1 o)
                have hu3 : (w1.alloc (.cells [.int .i64 V, .slice (some ⟨g1, 0, none⟩) N c1].toArray 50)) = w1.alloc (.cells #[.int .i64 V, .slice (some ⟨g1, 0, none⟩) N c1] 50) := rfl
                rw [hu3] at nb3
                generalize (w1.alloc (.cells #[.int .i64 V, .slice (some ⟨g1, 0, none⟩) N c1] 50)) = u3 at nb3 d3 T3 k3 hz3 ⊢
                generalize w1.heap.size = nbb at nb3 ⊢
                have hU1 := hU
                clear hU
                replace nb3 := Lib.hid nb3
                go_upto_region 12 with fail
                have x0 := nb3.out.c 0 _ rfl
                have x1 := nb3.out.c 1 _ rfl
                have x2 := d3.b.c 2 _ rfl
                have x3 := d3.b.c 3 _ rfl
                have x4 := d3.b.f 2
                have x5 := d3.b.f 3
                have d4 := Lib.hid (d3.setV (V2 := V) (c := c1) T3 hz3 (by have := d5.out.b.l; omega) (by have := d5.out.wr.l; omega) (by have := d5.out.s.l; omega) (by have := d5.out.d.l; omega))
                have k4 := Lib.hid ((k3.set (p := ⟨B.r, 2, none⟩) (.inl (by simp [RB.l])) (.int .i64 V)).set (p := ⟨B.r, 3, none⟩) (.inl (by simp [RB.l])) (.slice (some ⟨g1, 0, none⟩) N c1))
                have ht4 : RowKit.Hid (g1 = tb ∨ w.heap.size ≤ g1) := Lib.hid (.inr (by have := k5.out.size; omega))
                clear d3 T3 k3 nb3 hU1 T1 hz1 hz3 b0 b1 b2 b3 b4 b5 f0 f1 f2  t0 hcc
                go_upto_region 13 with fail
                clear x0 x1 x2 x3 x4 x5
                generalize ((u3.setCell ⟨B.r, 2, none⟩ (.int .i64 V)).setCell ⟨B.r, 3, none⟩ (.slice (some ⟨g1, 0, none⟩) N c1)) = u4 at d4 k4 ⊢
                have y1 := d4.out.b.c 4 _ rfl
                have y2 := d4.out.s.f i
                have y3 := (d4.out.flow hlt).2.1
                have d2 := Lib.hid (d4.out.setSize hlt n)
                have k2 := Lib.hid (k4.out.set (p := ⟨B.sb, i, none⟩) (.inl (by simp [RB.l])) (.int .i64 n))
                go_upto_region 14 with fail
                generalize (u4.setCell ⟨B.sb, i, none⟩ (.int .i64 n)) = wd at d2 k2 ⊢
                clear y1 y2 y3 d4 k4
                have y1 := d2.out.b.c 5 _ rfl
                have y2 := d2.out.d.f i
                have y3 := (d2.out.flow hlt).2.2.1
                have d3 := Lib.hid (d2.out.setServed hlt false)
                have k3 := Lib.hid (k2.out.set (p := ⟨B.db, i, none⟩) (.inl (by simp [RB.l])) (.bool false))
                clear d2 k2
                go_wp2_with fail
                go_roundw
                case rel => exact ⟨i + 1, g1, c1, by go_num, hlt, Lib.hid (by rw [gZ.out, gD.out, gS.out, gF.out, hsf.out.1, hsf.out.2, show hrS V s ff z n (costI n wi ALL) false = max s V from by simp [hrS, hrF1, hn0, hzn, hzp], show hrF V s ff z n (costI n wi ALL) false = max s V + costI n wi ALL from by simp [hrF, hrF1, hn0, hzn, hzp]]; exact d3.out), k3, ht4⟩
                case measure => simp [intOf]; omega
              · try simp only [List.getElem_toArray, List.getElem_cons_succ, List.getElem_cons_zero]
                go_simp
                refine hK.out _ _ ?_ (fun hHeld1 => ?_)
                · exact fun _ => bNext (hHeld rfl) ((Below.refl _ _).alloc (Nat.le_refl _) _) (Nat.le_refl _)
                clear hK K
                try simp only [Act.put, List.setIfInBounds_toArray, List.set_cons_zero, List.set_cons_succ]
                refine Stg.wpAnyL_start (n' := 6) (l' := #[true, true, true, true, true, true, true, true, true, true, true, true, true, true, true, true, true, false, false, false, false, true, false, false]) (by kernel_rfl) (by kernel_rfl) ?_
                refine Stg.wpAnyL_one (i := 17) 0 rfl (by kernel_rfl) (by kernel_rfl) (fun K hK => ?_)
                try simp only [List.getElem_toArray, List.getElem_cons_succ, List.getElem_cons_zero]
                go_simp
                refine (hcc.out _ (hHeld1 rfl)).mono ?_
                rintro e w1 hX
                obtain ⟨g1, c1, rfl, T1, hg1, hz1, hb2⟩ := virXF_ok hX hok.out
                rw [up_up] at T1
                clear hX
                refine hK.out _ _ ?_ (fun hHeld2 => ?_)
                · exact fun _ => bNext (hHeld1 rfl) hb2 (Nat.le_refl _)
                clear hK K
                try simp only [Act.put, List.setIfInBounds_toArray, List.set_cons_zero, List.set_cons_succ]
                refine Stg.wpAnyL_free (i := 18) (v := ?_) 0 rfl (by kernel_rfl) (by kernel_rfl) (by kernel_rfl) (by kernel_rfl) (by kernel_rfl) (fun _ _ _ h => h) (Or.inl ⟨by kernel_rfl, ?_⟩) (by assumption) ?_
                rotate_left
                · intro u _
                  try simp only [List.getElem_toArray, List.getElem_cons_succ, List.getElem_cons_zero]
                  go_simp
                  try with_reducible rfl
                try simp only [Act.put, List.setIfInBounds_toArray, List.set_cons_zero, List.set_cons_succ]
                refine Stg.wpAnyL_free (i := 19) (v := ?_) 0 rfl (by kernel_rfl) (by kernel_rfl) (by kernel_rfl) (by kernel_rfl) (by kernel_rfl) (fun _ _ _ h => h) (Or.inl ⟨by kernel_rfl, ?_⟩) (by assumption) ?_
                rotate_left
                · intro u _
                  try simp only [List.getElem_toArray, List.getElem_cons_succ, List.getElem_cons_zero]
                  go_simp
                  try with_reducible rfl
                try simp only [Act.put, List.setIfInBounds_toArray, List.set_cons_zero, List.set_cons_succ]
                refine Stg.wpAnyL_start (n' := 3) (l' := #[true, true, true, true, true, true, true, true, true, true, true, true, true, true, true, true, true, true, true, true, false, true, false, false]) (by kernel_rfl) (by kernel_rfl) ?_
                refine Stg.wpAnyL_free (i := 20) (v := ?_) 0 rfl (by kernel_rfl) (by kernel_rfl) (by kernel_rfl) (by kernel_rfl) (by kernel_rfl) (fun _ _ _ h => h) (Or.inl ⟨by kernel_rfl, ?_⟩) (by assumption) ?_
                rotate_left
                · intro u _
                  try simp only [List.getElem_toArray, List.getElem_cons_succ, List.getElem_cons_zero]
                  go_simp
                  try with_reducible rfl
                try simp only [Act.put, List.setIfInBounds_toArray, List.set_cons_zero, List.set_cons_succ]
                refine Stg.wpAnyL_one (i := 22) 1 rfl (by kernel_rfl) (by kernel_rfl) (fun K hK => ?_)
                have hU := Lib.hid (hHeld2 rfl)
                have nb := (blkN_new w5.drew [.int .i64 0, .slice none 0 0] 50).bel hb2
                have hne : g1 ≠ w5.drew.heap.size := by have := hg1; simp at this ⊢; omega
                simp only [World.size_drew] at nb hne
                have r0 := nb.f 0
                have r1 := nb.f 1
                have q0 := nb.c 0 _ rfl
                have q1 := nb.c 1 _ rfl
                try simp only [List.getElem_toArray, List.getElem_cons_succ, List.getElem_cons_zero]
                go_simp
                refine hK.out _ _ ?_ (fun hHeld3 => ?_)
                · exact fun h => absurd h (by decide)
                clear hK K
                try simp only [Act.put, List.setIfInBounds_toArray, List.set_cons_zero, List.set_cons_succ]
                refine Stg.wpAnyL_free (i := 23) (v := ?_) 1 rfl (by kernel_rfl) (by kernel_rfl) (by kernel_rfl) (by kernel_rfl) (by kernel_rfl) (fun _ _ _ h => h) (Or.inl ⟨by kernel_rfl, ?_⟩) (by assumption) ?_
                rotate_left
                · intro u _
                  try simp only [List.getElem_toArray, List.getElem_cons_succ, List.getElem_cons_zero]
                  go_simp
                  try with_reducible rfl
                try simp only [Act.put, List.setIfInBounds_toArray, List.set_cons_zero, List.set_cons_succ]
                refine Stg.wpAnyL_done (by kernel_rfl) ?_ _
                try simp only [List.getElem_toArray, List.getElem_cons_succ, List.getElem_cons_zero]
                try simp only [Act.put, List.setIfInBounds_toArray, List.set_cons_zero, List.set_cons_succ]
                refine NoPanic.normal ?_
                have hg2 : w5.heap.size ≤ g1 := by have := hg1; simp at this; omega
                have hnb : w5.heap.size ≤ w5.heap.size := Nat.le_refl _
                obtain ⟨nbb, hnb⟩ : ∃ n, w5.heap.size = n := ⟨_, rfl⟩
                rw [hnb] at hne nb r0 r1 q0 q1 ⊢
                have nb3 := (nb.set (i := 0) (by simp) (.int .i64 V)).set (i := 1) (by simp) (.slice (some ⟨g1, 0, none⟩) N c1)
                have K3 : KF [] w5 ((w1.setCell ⟨nbb, 0, none⟩ (.int .i64 V)).setCell ⟨nbb, 1, none⟩ (.slice (some ⟨g1, 0, none⟩) N c1)) := ((KF.of (l := []) hU.out).set (p := ⟨nbb, 0, none⟩) (.inr (Nat.le_of_eq hnb)) _).set (p := ⟨nbb, 1, none⟩) (.inr (Nat.le_of_eq hnb)) _
                have d3 := RF.kf K3 d5.out (by simp) (by simp) (by simp) (by simp) (by simp)
                have k3 := k5.out.trans (K3.sub (l2 := B.l tb) (by simp))
                have T3 := (T1.set_other (q := nbb) (o := 0) (fun _ => hne) (.int .i64 V)).set_other (q := nbb) (o := 1) (fun _ => hne) (.slice (some ⟨g1, 0, none⟩) N c1)
                have hz3 : ∀ o, ((w1.setCell ⟨nbb, 0, none⟩ (.int .i64 V)).setCell ⟨nbb, 1, none⟩ (.slice (some ⟨g1, 0, none⟩) N c1)).frozen? ⟨g1, o, none⟩ = false := fun o => (World.frozen?_setCell _ _ _ _).trans ((World.frozen?_setCell _ _ _ _).trans (hz1 o))
                clear K3 r0 r1 q0 q1
                generalize ((w1.setCell ⟨nbb, 0, none⟩ (.int .i64 V)).setCell ⟨nbb, 1, none⟩ (.slice (some ⟨g1, 0, none⟩) N c1)) = u3 at nb3 d3 T3 k3 hz3 ⊢
                have hU1 := hU
                clear hU
                replace nb3 := Lib.hid nb3
                go_upto_region 12 with fail
                have x0 := nb3.out.c 0 _ rfl
                have x1 := nb3.out.c 1 _ rfl
                have x2 := d3.b.c 2 _ rfl
                have x3 := d3.b.c 3 _ rfl
                have x4 := d3.b.f 2
                have x5 := d3.b.f 3
                have d4 := Lib.hid (d3.setV (V2 := V) (c := c1) T3 hz3 (by have := d5.out.b.l; omega) (by have := d5.out.wr.l; omega) (by have := d5.out.s.l; omega) (by have := d5.out.d.l; omega))
                have k4 := Lib.hid ((k3.set (p := ⟨B.r, 2, none⟩) (.inl (by simp [RB.l])) (.int .i64 V)).set (p := ⟨B.r, 3, none⟩) (.inl (by simp [RB.l])) (.slice (some ⟨g1, 0, none⟩) N c1))
                have ht4 : RowKit.Hid (g1 = tb ∨ w.heap.size ≤ g1) := Lib.hid (.inr (by have := k5.out.size; omega))
                clear d3 T3 k3 nb3 hU1 T1 hz1 hz3 b0 b1 b2 b3 b4 b5 f0 f1 f2  t0 hcc
                go_upto_region 13 with fail
                clear x0 x1 x2 x3 x4 x5
                generalize ((u3.setCell ⟨B.r, 2, none⟩ (.int .i64 V)).setCell ⟨B.r, 3, none⟩ (.slice (some ⟨g1, 0, none⟩) N c1)) = u4 at d4 k4 ⊢
                have y1 := d4.out.b.c 4 _ rfl
                have y2 := d4.out.s.f i
                have y3 := (d4.out.flow hlt).2.1
                have d2 := Lib.hid (d4.out.setSize hlt n)
                have k2 := Lib.hid (k4.out.set (p := ⟨B.sb, i, none⟩) (.inl (by simp [RB.l])) (.int .i64 n))
                go_upto_region 14 with fail
                generalize (u4.setCell ⟨B.sb, i, none⟩ (.int .i64 n)) = wd at d2 k2 ⊢
                clear y1 y2 y3 d4 k4
                have y1 := d2.out.b.c 5 _ rfl
                have y2 := d2.out.d.f i
                have y3 := (d2.out.flow hlt).2.2.1
                have d3 := Lib.hid (d2.out.setServed hlt false)
                have k3 := Lib.hid (k2.out.set (p := ⟨B.db, i, none⟩) (.inl (by simp [RB.l])) (.bool false))
                clear d2 k2
                go_wp2_with fail
                go_roundw
                case rel => exact ⟨i + 1, g1, c1, by go_num, hlt, Lib.hid (by rw [gZ.out, gD.out, gS.out, gF.out, hsf.out.1, hsf.out.2, show hrS V s ff z n (costI n wi ALL) false = max s V from by simp [hrS, hrF1, hn0, hzn, hzp], show hrF V s ff z n (costI n wi ALL) false = max s V + costI n wi ALL from by simp [hrF, hrF1, hn0, hzn, hzp]]; exact d3.out), k3, ht4⟩
                case measure => simp [intOf]; omega
            · skip
              go_upto_region 11 with fail
              have hok : RowKit.Hid (tagOk V N Sm Fm (i : Int) (costI n wi ALL) (max ff V)) := Lib.hid ⟨hv.out, by omega, by omega, by have := (hc.out hn0).1; omega, by have := (hc.out hn0).2; unfold CM at this; omega⟩
              have hcc := Lib.hid (fun (u : World) (hu : Below wr.heap.size wr u) => rwakeF_c V (i : Int) n wi ALL N (some ⟨tbr, 0, none⟩) tbr 0 ctr Sm Fm u (hF.out.t.bel hu) (by omega))
              rw [Int.toNat_natCast, aF.out] at hcc
              refine wp_region_noPanic ?_
              refine Stg.wp_region_L [22] (Vr.SB wr) (by kernel_rfl) (fun _ => (Below.refl _ _).drew) (fun hHeld => ?_)
              refine Stg.wpAnyL_start (n' := 24) (l' := #[false, false, false, false, false, false, false, false, false, false, false, false, false, false, false, false, false, false, false, false, false, false, false, false]) (by kernel_rfl) (by kernel_rfl) ?_
              refine Stg.wpAnyL_free (i := 0) (v := ?_) 0 rfl (by kernel_rfl) (by kernel_rfl) (by kernel_rfl) (by kernel_rfl) (by kernel_rfl) (fun _ _ _ h => h) (Or.inl ⟨by kernel_rfl, ?_⟩) (by assumption) ?_
              rotate_left
              · intro u _
                try simp only [List.getElem_toArray, List.getElem_cons_succ, List.getElem_cons_zero]
                go_simp
                try with_reducible rfl
              try simp only [Act.put, List.setIfInBounds_toArray, List.set_cons_zero, List.set_cons_succ]
              refine Stg.wpAnyL_free (i := 1) (v := ?_) 0 rfl (by kernel_rfl) (by kernel_rfl) (by kernel_rfl) (by kernel_rfl) (by kernel_rfl) (fun _ _ _ h => h) (Or.inl ⟨by kernel_rfl, ?_⟩) (by assumption) ?_
              rotate_left
              · intro u _
                try simp only [List.getElem_toArray, List.getElem_cons_succ, List.getElem_cons_zero]
                go_simp
                try with_reducible rfl
              try simp only [Act.put, List.setIfInBounds_toArray, List.set_cons_zero, List.set_cons_succ]
              refine Stg.wpAnyL_free (i := 2) (v := ?_) 0 rfl (by kernel_rfl) (by kernel_rfl) (by kernel_rfl) (by kernel_rfl) (by kernel_rfl) (fun _ _ _ h => h) (Or.inl ⟨by kernel_rfl, ?_⟩) (by assumption) ?_
              rotate_left
              · intro u _
                try simp only [List.getElem_toArray, List.getElem_cons_succ, List.getElem_cons_zero]
                go_simp
                try with_reducible rfl
              try simp only [Act.put, List.setIfInBounds_toArray, List.set_cons_zero, List.set_cons_succ]
              refine Stg.wpAnyL_start (n' := 21) (l' := #[true, true, true, false, false, false, false, false, false, false, false, false, false, false, false, false, false, false, false, false, false, false, false, false]) (by kernel_rfl) (by kernel_rfl) ?_
              refine Stg.wpAnyL_take (i := 3) (v := ?_) [17, 18, 19, 20, 22, 23] 0 rfl (by kernel_rfl) (by kernel_rfl) (by kernel_rfl) (by kernel_rfl) (by kernel_rfl) (fun _ _ _ h => h) (Or.inl ⟨by kernel_rfl, ?_⟩) (by assumption) ?_
              rotate_left
              · intro u hSu
                skip
                have sB := hSu rfl
                have y0 := cellB sB b0
                have y1 := cellB sB b1
                have y2 := cellB sB b2
                have y3 := cellB sB b3
                have y4 := cellB sB f0
                have y5 := cellB sB t0
                try simp only [List.getElem_toArray, List.getElem_cons_succ, List.getElem_cons_zero]
                go_simp
                try with_reducible rfl
              try simp only [Act.put, List.setIfInBounds_toArray, List.set_cons_zero, List.set_cons_succ]
              refine Stg.wpAnyL_free (i := 4) (v := ?_) 0 rfl (by kernel_rfl) (by kernel_rfl) (by kernel_rfl) (by kernel_rfl) (by kernel_rfl) (fun _ _ _ h => h) (Or.inl ⟨by kernel_rfl, ?_⟩) (by assumption) ?_
              rotate_left
              · intro u _
                try simp only [List.getElem_toArray, List.getElem_cons_succ, List.getElem_cons_zero]
                go_simp
                try with_reducible rfl
              try simp only [Act.put, List.setIfInBounds_toArray, List.set_cons_zero, List.set_cons_succ]
              refine Stg.wpAnyL_free (i := 5) (v := ?_) 0 rfl (by kernel_rfl) (by kernel_rfl) (by kernel_rfl) (by kernel_rfl) (by kernel_rfl) (fun _ _ _ h => h) (Or.inl ⟨by kernel_rfl, ?_⟩) (by assumption) ?_
              rotate_left
              · intro u _
                try simp only [List.getElem_toArray, List.getElem_cons_succ, List.getElem_cons_zero]
                go_simp
                try with_reducible rfl
              try simp only [Act.put, List.setIfInBounds_toArray, List.set_cons_zero, List.set_cons_succ]
              refine Stg.wpAnyL_start (n' := 18) (l' := #[true, true, true, true, true, true, false, false, false, false, false, false, false, false, false, false, false, false, false, false, false, false, false, false]) (by kernel_rfl) (by kernel_rfl) ?_
              refine Stg.wpAnyL_free (i := 6) (v := ?_) 0 rfl (by kernel_rfl) (by kernel_rfl) (by kernel_rfl) (by kernel_rfl) (by kernel_rfl) (fun _ _ _ h => h) (Or.inl ⟨by kernel_rfl, ?_⟩) (by assumption) ?_
              rotate_left
              · intro u _
                try simp only [List.getElem_toArray, List.getElem_cons_succ, List.getElem_cons_zero]
                go_simp
                try with_reducible rfl
              try simp only [Act.put, List.setIfInBounds_toArray, List.set_cons_zero, List.set_cons_succ]
              refine Stg.wpAnyL_free (i := 7) (v := ?_) 0 rfl (by kernel_rfl) (by kernel_rfl) (by kernel_rfl) (by kernel_rfl) (by kernel_rfl) (fun _ _ _ h => h) (Or.inl ⟨by kernel_rfl, ?_⟩) (by assumption) ?_
              rotate_left
              · intro u _
                try simp only [List.getElem_toArray, List.getElem_cons_succ, List.getElem_cons_zero]
                go_simp
                try with_reducible rfl
              try simp only [Act.put, List.setIfInBounds_toArray, List.set_cons_zero, List.set_cons_succ]
              refine Stg.wpAnyL_free (i := 8) (v := ?_) 0 rfl (by kernel_rfl) (by kernel_rfl) (by kernel_rfl) (by kernel_rfl) (by kernel_rfl) (fun _ _ _ h => h) (Or.inl ⟨by kernel_rfl, ?_⟩) (by assumption) ?_
              rotate_left
              · intro u _
                try simp only [List.getElem_toArray, List.getElem_cons_succ, List.getElem_cons_zero]
                go_simp
                try with_reducible rfl
              try simp only [Act.put, List.setIfInBounds_toArray, List.set_cons_zero, List.set_cons_succ]
              refine Stg.wpAnyL_start (n' := 15) (l' := #[true, true, true, true, true, true, true, true, true, false, false, false, false, false, false, false, false, false, false, false, false, false, false, false]) (by kernel_rfl) (by kernel_rfl) ?_
              refine Stg.wpAnyL_take (i := 9) (v := ?_) [11, 12, 17, 18, 19, 20, 22, 23] 0 rfl (by kernel_rfl) (by kernel_rfl) (by kernel_rfl) (by kernel_rfl) (by kernel_rfl) (fun _ _ _ h => h) (Or.inl ⟨by kernel_rfl, ?_⟩) (by assumption) ?_
              rotate_left
              · intro u hSu
                skip
                have sB := hSu rfl
                have y0 := cellB sB b0
                have y1 := cellB sB b1
                have y2 := cellB sB b2
                have y3 := cellB sB b3
                have y4 := cellB sB f0
                have y5 := cellB sB t0
                try simp only [List.getElem_toArray, List.getElem_cons_succ, List.getElem_cons_zero]
                go_simp
                try with_reducible rfl
              try simp only [Act.put, List.setIfInBounds_toArray, List.set_cons_zero, List.set_cons_succ]
              refine Stg.wpAnyL_free (i := 10) (v := ?_) 0 rfl (by kernel_rfl) (by kernel_rfl) (by kernel_rfl) (by kernel_rfl) (by kernel_rfl) (fun _ _ _ h => h) (Or.inl ⟨by kernel_rfl, ?_⟩) (by assumption) ?_
              rotate_left
              · intro u _
                try simp only [List.getElem_toArray, List.getElem_cons_succ, List.getElem_cons_zero]
                go_simp
                try with_reducible rfl
              try simp only [Act.put, List.setIfInBounds_toArray, List.set_cons_zero, List.set_cons_succ]
              refine Stg.wpAnyL_free (i := 11) (v := ?_) 0 rfl (by kernel_rfl) (by kernel_rfl) (by kernel_rfl) (by kernel_rfl) (by kernel_rfl) (fun _ _ _ h => h) (Or.inl ⟨by kernel_rfl, ?_⟩) (by assumption) ?_
              rotate_left
              · intro u _
                try simp only [List.getElem_toArray, List.getElem_cons_succ, List.getElem_cons_zero]
                go_simp
                try with_reducible rfl
              try simp only [Act.put, List.setIfInBounds_toArray, List.set_cons_zero, List.set_cons_succ]
              refine Stg.wpAnyL_start (n' := 12) (l' := #[true, true, true, true, true, true, true, true, true, true, true, true, false, false, false, false, false, false, false, false, false, false, false, false]) (by kernel_rfl) (by kernel_rfl) ?_
              refine Stg.wpAnyL_take (i := 12) (v := ?_) [17, 18, 19, 20, 22, 23] 0 rfl (by kernel_rfl) (by kernel_rfl) (by kernel_rfl) (by kernel_rfl) (by kernel_rfl) (fun _ _ _ h => h) (Or.inl ⟨by kernel_rfl, ?_⟩) (by assumption) ?_
              rotate_left
              · intro u hSu
                skip
                have sB := hSu rfl
                have y0 := cellB sB b0
                have y1 := cellB sB b1
                have y2 := cellB sB b2
                have y3 := cellB sB b3
                have y4 := cellB sB f0
                have y5 := cellB sB t0
                try simp only [List.getElem_toArray, List.getElem_cons_succ, List.getElem_cons_zero]
                go_simp
                try with_reducible rfl
              try simp only [Act.put, List.setIfInBounds_toArray, List.set_cons_zero, List.set_cons_succ]
              refine Stg.wpAnyL_free (i := 13) (v := ?_) 0 rfl (by kernel_rfl) (by kernel_rfl) (by kernel_rfl) (by kernel_rfl) (by kernel_rfl) (fun _ _ _ h => h) (Or.inl ⟨by kernel_rfl, ?_⟩) (by assumption) ?_
              rotate_left
              · intro u _
                try simp only [List.getElem_toArray, List.getElem_cons_succ, List.getElem_cons_zero]
                go_simp
                try with_reducible rfl
              try simp only [Act.put, List.setIfInBounds_toArray, List.set_cons_zero, List.set_cons_succ]
              refine Stg.wpAnyL_free (i := 14) (v := ?_) 0 rfl (by kernel_rfl) (by kernel_rfl) (by kernel_rfl) (by kernel_rfl) (by kernel_rfl) (fun _ _ _ h => h) (Or.inl ⟨by kernel_rfl, ?_⟩) (by assumption) ?_
              rotate_left
              · intro u _
                try simp only [List.getElem_toArray, List.getElem_cons_succ, List.getElem_cons_zero]
                go_simp
                try with_reducible rfl
              try simp only [Act.put, List.setIfInBounds_toArray, List.set_cons_zero, List.set_cons_succ]
              refine Stg.wpAnyL_start (n' := 9) (l' := #[true, true, true, true, true, true, true, true, true, true, true, true, true, true, true, false, false, false, false, false, false, false, false, false]) (by kernel_rfl) (by kernel_rfl) ?_
              refine Stg.wpAnyL_free (i := 15) (v := ?_) 0 rfl (by kernel_rfl) (by kernel_rfl) (by kernel_rfl) (by kernel_rfl) (by kernel_rfl) (fun _ _ _ h => h) (Or.inl ⟨by kernel_rfl, ?_⟩) (by assumption) ?_
              rotate_left
              · intro u _
                try simp only [List.getElem_toArray, List.getElem_cons_succ, List.getElem_cons_zero]
                go_simp
                try with_reducible rfl
              try simp only [Act.put, List.setIfInBounds_toArray, List.set_cons_zero, List.set_cons_succ]
              refine Stg.wpAnyL_take (i := 16) (v := ?_) [17, 18, 19, 20, 22, 23] 0 rfl (by kernel_rfl) (by kernel_rfl) (by kernel_rfl) (by kernel_rfl) (by kernel_rfl) (fun _ _ _ h => h) (Or.inl ⟨by kernel_rfl, ?_⟩) (by assumption) ?_
              rotate_left
              · intro u hSu
                skip
                have sB := hSu rfl
                have y0 := cellB sB b0
                have y1 := cellB sB b1
                have y2 := cellB sB b2
                have y3 := cellB sB b3
                have y4 := cellB sB f0
                have y5 := cellB sB t0
                try simp only [List.getElem_toArray, List.getElem_cons_succ, List.getElem_cons_zero]
                go_simp
                try with_reducible rfl
              try simp only [Act.put, List.setIfInBounds_toArray, List.set_cons_zero, List.set_cons_succ]
              refine Stg.wpAnyL_two (i := 17) (k := 21) 0 0 rfl rfl (by kernel_rfl) (by kernel_rfl) (by kernel_rfl) (fun K hK => ?_) (fun K hK => ?_)
              · try simp only [List.getElem_toArray, List.getElem_cons_succ, List.getElem_cons_zero]
                go_simp
                refine (hcc.out _ (hHeld rfl)).mono ?_
                rintro e w1 hX
                obtain ⟨g1, c1, rfl, T1, hg1, hz1, hb1⟩ := virXF_ok hX hok.out
                clear hX
                refine hK.out _ _ ?_ (fun hHeld1 => ?_)
                · exact fun _ => bNext (hHeld rfl) hb1 (Nat.le_refl _)
                clear hK K
                try simp only [Act.put, List.setIfInBounds_toArray, List.set_cons_zero, List.set_cons_succ]
                refine Stg.wpAnyL_start (n' := 6) (l' := #[true, true, true, true, true, true, true, true, true, true, true, true, true, true, true, true, true, true, false, false, false, false, false, false]) (by kernel_rfl) (by kernel_rfl) ?_
                refine Stg.wpAnyL_free (i := 18) (v := ?_) 0 rfl (by kernel_rfl) (by kernel_rfl) (by kernel_rfl) (by kernel_rfl) (by kernel_rfl) (fun _ _ _ h => h) (Or.inl ⟨by kernel_rfl, ?_⟩) (by assumption) ?_
                rotate_left
                · intro u _
                  try simp only [List.getElem_toArray, List.getElem_cons_succ, List.getElem_cons_zero]
                  go_simp
                  try with_reducible rfl
                try simp only [Act.put, List.setIfInBounds_toArray, List.set_cons_zero, List.set_cons_succ]
                refine Stg.wpAnyL_free (i := 19) (v := ?_) 0 rfl (by kernel_rfl) (by kernel_rfl) (by kernel_rfl) (by kernel_rfl) (by kernel_rfl) (fun _ _ _ h => h) (Or.inl ⟨by kernel_rfl, ?_⟩) (by assumption) ?_
                rotate_left
                · intro u _
                  try simp only [List.getElem_toArray, List.getElem_cons_succ, List.getElem_cons_zero]
                  go_simp
                  try with_reducible rfl
                try simp only [Act.put, List.setIfInBounds_toArray, List.set_cons_zero, List.set_cons_succ]
                refine Stg.wpAnyL_free (i := 20) (v := ?_) 0 rfl (by kernel_rfl) (by kernel_rfl) (by kernel_rfl) (by kernel_rfl) (by kernel_rfl) (fun _ _ _ h => h) (Or.inl ⟨by kernel_rfl, ?_⟩) (by assumption) ?_
                rotate_left
                · intro u _
                  try simp only [List.getElem_toArray, List.getElem_cons_succ, List.getElem_cons_zero]
                  go_simp
                  try with_reducible rfl
                try simp only [Act.put, List.setIfInBounds_toArray, List.set_cons_zero, List.set_cons_succ]
                refine Stg.wpAnyL_start (n' := 3) (l' := #[true, true, true, true, true, true, true, true, true, true, true, true, true, true, true, true, true, true, true, true, true, false, false, false]) (by kernel_rfl) (by kernel_rfl) ?_
                refine Stg.wpAnyL_one (i := 21) 0 rfl (by kernel_rfl) (by kernel_rfl) (fun K hK => ?_)
                try simp only [List.getElem_toArray, List.getElem_cons_succ, List.getElem_cons_zero]
                go_simp
                refine hK.out _ _ ?_ (fun hHeld2 => ?_)
                · exact fun _ => bNext (hHeld1 rfl) ((Below.refl _ _).alloc (Nat.le_refl _) _) (Nat.le_refl _)
                clear hK K
                try simp only [Act.put, List.setIfInBounds_toArray, List.set_cons_zero, List.set_cons_succ]
                refine Stg.wpAnyL_one (i := 22) 1 rfl (by kernel_rfl) (by kernel_rfl) (fun K hK => ?_)
                have hU := Lib.hid (bNext (hHeld1 rfl) ((Below.refl w1.heap.size w1).alloc (Nat.le_refl _) (.cells #[.int .i64 V, .slice (some ⟨g1, 0, none⟩) N c1] 50)) (Nat.le_refl _))
                have nb3 := blkN_new w1 [.int .i64 V, .slice (some ⟨g1, 0, none⟩) N c1] 50
                try simp only [List.getElem_toArray, List.getElem_cons_succ, List.getElem_cons_zero]
                go_simp
                refine hK.out _ _ ?_ (fun hHeld3 => ?_)
                · exact fun h => absurd h (by decide)
                clear hK K
                try simp only [Act.put, List.setIfInBounds_toArray, List.set_cons_zero, List.set_cons_succ]
                refine Stg.wpAnyL_free (i := 23) (v := ?_) 1 rfl (by kernel_rfl) (by kernel_rfl) (by kernel_rfl) (by kernel_rfl) (by kernel_rfl) (fun _ _ _ h => h) (Or.inl ⟨by kernel_rfl, ?_⟩) (by assumption) ?_
                rotate_left
                · intro u _
                  try simp only [List.getElem_toArray, List.getElem_cons_succ, List.getElem_cons_zero]
                  go_simp
                  try with_reducible rfl
                try simp only [Act.put, List.setIfInBounds_toArray, List.set_cons_zero, List.set_cons_succ]
                refine Stg.wpAnyL_done (by kernel_rfl) ?_ _
                try simp only [List.getElem_toArray, List.getElem_cons_succ, List.getElem_cons_zero]
                try simp only [Act.put, List.setIfInBounds_toArray, List.set_cons_zero, List.set_cons_succ]
                refine NoPanic.normal ?_
                have hg2 : wr.heap.size ≤ g1 := by simpa using hg1
                have d3 := hF.out.bel hU.out
                have k3 := hK.out.trans (KF.of (l := B.l tb) hU.out)
                have hgn : g1 < w1.heap.size := T1.hb (by omega)
                have ha3 := (Below.refl w1.heap.size w1).alloc (Nat.le_refl _) (.cells #[.int .i64 V, .slice (some ⟨g1, 0, none⟩) N c1] 50)
                have T3 := T1.bel ha3
                have hz3 : ∀ o, (w1.alloc (.cells #[.int .i64 V, .slice (some ⟨g1, 0, none⟩) N c1] 50)).frozen? ⟨g1, o, none⟩ = false := fun o => (World.frozen?_of_block (ha3.block g1 hgn)).trans (hz1 o)
                have hu3 : (w1.alloc (.cells [.int .i64 V, .slice (some ⟨g1, 0, none⟩) N c1].toArray 50)) = w1.alloc (.cells #[.int .i64 V, .slice (some ⟨g1, 0, none⟩) N c1] 50) := rfl
                rw [hu3] at nb3
                generalize (w1.alloc (.cells #[.int .i64 V, .slice (some ⟨g1, 0, none⟩) N c1] 50)) = u3 at nb3 d3 T3 k3 hz3 ⊢
                generalize w1.heap.size = nbb at nb3 ⊢
                have hU1 := hU
                clear hU
                replace nb3 := Lib.hid nb3
                go_upto_region 12 with fail
                have x0 := nb3.out.c 0 _ rfl
                have x1 := nb3.out.c 1 _ rfl
                have x2 := d3.b.c 2 _ rfl
                have x3 := d3.b.c 3 _ rfl
                have x4 := d3.b.f 2
                have x5 := d3.b.f 3
                have d4 := Lib.hid (d3.setV (V2 := V) (c := c1) T3 hz3 (by have := hF.out.b.l; omega) (by have := hF.out.wr.l; omega) (by have := hF.out.s.l; omega) (by have := hF.out.d.l; omega))
                have k4 := Lib.hid ((k3.set (p := ⟨B.r, 2, none⟩) (.inl (by simp [RB.l])) (.int .i64 V)).set (p := ⟨B.r, 3, none⟩) (.inl (by simp [RB.l])) (.slice (some ⟨g1, 0, none⟩) N c1))
                have ht4 : RowKit.Hid (g1 = tb ∨ w.heap.size ≤ g1) := Lib.hid (.inr (by have := hK.out.size; omega))
                clear d3 T3 k3 nb3 hU1 T1 hz1 hz3 b0 b1 b2 b3 b4 b5 f0 f1 f2 f3 f4 t0 hcc
                go_upto_region 13 with fail
                clear x0 x1 x2 x3 x4 x5
                generalize ((u3.setCell ⟨B.r, 2, none⟩ (.int .i64 V)).setCell ⟨B.r, 3, none⟩ (.slice (some ⟨g1, 0, none⟩) N c1)) = u4 at d4 k4 ⊢
                have y1 := d4.out.b.c 4 _ rfl
                have y2 := d4.out.s.f i
                have y3 := (d4.out.flow hlt).2.1
                have d2 := Lib.hid (d4.out.setSize hlt n)
                have k2 := Lib.hid (k4.out.set (p := ⟨B.sb, i, none⟩) (.inl (by simp [RB.l])) (.int .i64 n))
                go_upto_region 14 with fail
                generalize (u4.setCell ⟨B.sb, i, none⟩ (.int .i64 n)) = wd at d2 k2 ⊢
                clear y1 y2 y3 d4 k4
                have y1 := d2.out.b.c 5 _ rfl
                have y2 := d2.out.d.f i
                have y3 := (d2.out.flow hlt).2.2.1
                have d3 := Lib.hid (d2.out.setServed hlt false)
                have k3 := Lib.hid (k2.out.set (p := ⟨B.db, i, none⟩) (.inl (by simp [RB.l])) (.bool false))
                clear d2 k2
                go_wp2_with fail
                go_roundw
                case rel => exact ⟨i + 1, g1, c1, by go_num, hlt, Lib.hid (by rw [gZ.out, gD.out, gS.out, gF.out, hsf.out.1, hsf.out.2, show hrS V s ff z n (costI n wi ALL) false = max ff V from by simp [hrS, hrF1, hn0, hzn, hzp], show hrF V s ff z n (costI n wi ALL) false = max ff V + costI n wi ALL from by simp [hrF, hrF1, hn0, hzn, hzp]]; exact d3.out), k3, ht4⟩
                case measure => simp [intOf]; omega
              · try simp only [List.getElem_toArray, List.getElem_cons_succ, List.getElem_cons_zero]
                go_simp
                refine hK.out _ _ ?_ (fun hHeld1 => ?_)
                · exact fun _ => bNext (hHeld rfl) ((Below.refl _ _).alloc (Nat.le_refl _) _) (Nat.le_refl _)
                clear hK K
                try simp only [Act.put, List.setIfInBounds_toArray, List.set_cons_zero, List.set_cons_succ]
                refine Stg.wpAnyL_start (n' := 6) (l' := #[true, true, true, true, true, true, true, true, true, true, true, true, true, true, true, true, true, false, false, false, false, true, false, false]) (by kernel_rfl) (by kernel_rfl) ?_
                refine Stg.wpAnyL_one (i := 17) 0 rfl (by kernel_rfl) (by kernel_rfl) (fun K hK => ?_)
                try simp only [List.getElem_toArray, List.getElem_cons_succ, List.getElem_cons_zero]
                go_simp
                refine (hcc.out _ (hHeld1 rfl)).mono ?_
                rintro e w1 hX
                obtain ⟨g1, c1, rfl, T1, hg1, hz1, hb2⟩ := virXF_ok hX hok.out
                clear hX
                refine hK.out _ _ ?_ (fun hHeld2 => ?_)
                · exact fun _ => bNext (hHeld1 rfl) hb2 (Nat.le_refl _)
                clear hK K
                try simp only [Act.put, List.setIfInBounds_toArray, List.set_cons_zero, List.set_cons_succ]
                refine Stg.wpAnyL_free (i := 18) (v := ?_) 0 rfl (by kernel_rfl) (by kernel_rfl) (by kernel_rfl) (by kernel_rfl) (by kernel_rfl) (fun _ _ _ h => h) (Or.inl ⟨by kernel_rfl, ?_⟩) (by assumption) ?_
                rotate_left
                · intro u _
                  try simp only [List.getElem_toArray, List.getElem_cons_succ, List.getElem_cons_zero]
                  go_simp
                  try with_reducible rfl
                try simp only [Act.put, List.setIfInBounds_toArray, List.set_cons_zero, List.set_cons_succ]
                refine Stg.wpAnyL_free (i := 19) (v := ?_) 0 rfl (by kernel_rfl) (by kernel_rfl) (by kernel_rfl) (by kernel_rfl) (by kernel_rfl) (fun _ _ _ h => h) (Or.inl ⟨by kernel_rfl, ?_⟩) (by assumption) ?_
                rotate_left
                · intro u _
                  try simp only [List.getElem_toArray, List.getElem_cons_succ, List.getElem_cons_zero]
                  go_simp
                  try with_reducible rfl
                try simp only [Act.put, List.setIfInBounds_toArray, List.set_cons_zero, List.set_cons_succ]
                refine Stg.wpAnyL_start (n' := 3) (l' := #[true, true, true, true, true, true, true, true, true, true, true, true, true, true, true, true, true, true, true, true, false, true, false, false]) (by kernel_rfl) (by kernel_rfl) ?_
                refine Stg.wpAnyL_free (i := 20) (v := ?_) 0 rfl (by kernel_rfl) (by kernel_rfl) (by kernel_rfl) (by kernel_rfl) (by kernel_rfl) (fun _ _ _ h => h) (Or.inl ⟨by kernel_rfl, ?_⟩) (by assumption) ?_
                rotate_left
                · intro u _
                  try simp only [List.getElem_toArray, List.getElem_cons_succ, List.getElem_cons_zero]
                  go_simp
                  try with_reducible rfl
                try simp only [Act.put, List.setIfInBounds_toArray, List.set_cons_zero, List.set_cons_succ]
                refine Stg.wpAnyL_one (i := 22) 1 rfl (by kernel_rfl) (by kernel_rfl) (fun K hK => ?_)
                have hU := Lib.hid (hHeld2 rfl)
                have nb := (blkN_new wr.drew [.int .i64 0, .slice none 0 0] 50).bel hb2
                have hne : g1 ≠ wr.drew.heap.size := by have := hg1; simp at this ⊢; omega
                simp only [World.size_drew] at nb hne
                have r0 := nb.f 0
                have r1 := nb.f 1
                have q0 := nb.c 0 _ rfl
                have q1 := nb.c 1 _ rfl
                try simp only [List.getElem_toArray, List.getElem_cons_succ, List.getElem_cons_zero]
                go_simp
                refine hK.out _ _ ?_ (fun hHeld3 => ?_)
                · exact fun h => absurd h (by decide)
                clear hK K
                try simp only [Act.put, List.setIfInBounds_toArray, List.set_cons_zero, List.set_cons_succ]
                refine Stg.wpAnyL_free (i := 23) (v := ?_) 1 rfl (by kernel_rfl) (by kernel_rfl) (by kernel_rfl) (by kernel_rfl) (by kernel_rfl) (fun _ _ _ h => h) (Or.inl ⟨by kernel_rfl, ?_⟩) (by assumption) ?_
                rotate_left
                · intro u _
                  try simp only [List.getElem_toArray, List.getElem_cons_succ, List.getElem_cons_zero]
                  go_simp
                  try with_reducible rfl
                try simp only [Act.put, List.setIfInBounds_toArray, List.set_cons_zero, List.set_cons_succ]
                refine Stg.wpAnyL_done (by kernel_rfl) ?_ _
                try simp only [List.getElem_toArray, List.getElem_cons_succ, List.getElem_cons_zero]
                try simp only [Act.put, List.setIfInBounds_toArray, List.set_cons_zero, List.set_cons_succ]
                refine NoPanic.normal ?_
                have hg2 : wr.heap.size ≤ g1 := by have := hg1; simp at this; omega
                have hnb : wr.heap.size ≤ wr.heap.size := Nat.le_refl _
                obtain ⟨nbb, hnb⟩ : ∃ n, wr.heap.size = n := ⟨_, rfl⟩
                rw [hnb] at hne nb r0 r1 q0 q1 ⊢
                have nb3 := (nb.set (i := 0) (by simp) (.int .i64 V)).set (i := 1) (by simp) (.slice (some ⟨g1, 0, none⟩) N c1)
                have K3 : KF [] wr ((w1.setCell ⟨nbb, 0, none⟩ (.int .i64 V)).setCell ⟨nbb, 1, none⟩ (.slice (some ⟨g1, 0, none⟩) N c1)) := ((KF.of (l := []) hU.out).set (p := ⟨nbb, 0, none⟩) (.inr (Nat.le_of_eq hnb)) _).set (p := ⟨nbb, 1, none⟩) (.inr (Nat.le_of_eq hnb)) _
                have d3 := RF.kf K3 hF.out (by simp) (by simp) (by simp) (by simp) (by simp)
                have k3 := hK.out.trans (K3.sub (l2 := B.l tb) (by simp))
                have T3 := (T1.set_other (q := nbb) (o := 0) (fun _ => hne) (.int .i64 V)).set_other (q := nbb) (o := 1) (fun _ => hne) (.slice (some ⟨g1, 0, none⟩) N c1)
                have hz3 : ∀ o, ((w1.setCell ⟨nbb, 0, none⟩ (.int .i64 V)).setCell ⟨nbb, 1, none⟩ (.slice (some ⟨g1, 0, none⟩) N c1)).frozen? ⟨g1, o, none⟩ = false := fun o => (World.frozen?_setCell _ _ _ _).trans ((World.frozen?_setCell _ _ _ _).trans (hz1 o))
                clear K3 r0 r1 q0 q1
                generalize ((w1.setCell ⟨nbb, 0, none⟩ (.int .i64 V)).setCell ⟨nbb, 1, none⟩ (.slice (some ⟨g1, 0, none⟩) N c1)) = u3 at nb3 d3 T3 k3 hz3 ⊢
                have hU1 := hU
                clear hU
                replace nb3 := Lib.hid nb3
                go_upto_region 12 with fail
                have x0 := nb3.out.c 0 _ rfl
                have x1 := nb3.out.c 1 _ rfl
                have x2 := d3.b.c 2 _ rfl
                have x3 := d3.b.c 3 _ rfl
                have x4 := d3.b.f 2
                have x5 := d3.b.f 3
                have d4 := Lib.hid (d3.setV (V2 := V) (c := c1) T3 hz3 (by have := hF.out.b.l; omega) (by have := hF.out.wr.l; omega) (by have := hF.out.s.l; omega) (by have := hF.out.d.l; omega))
                have k4 := Lib.hid ((k3.set (p := ⟨B.r, 2, none⟩) (.inl (by simp [RB.l])) (.int .i64 V)).set (p := ⟨B.r, 3, none⟩) (.inl (by simp [RB.l])) (.slice (some ⟨g1, 0, none⟩) N c1))
                have ht4 : RowKit.Hid (g1 = tb ∨ w.heap.size ≤ g1) := Lib.hid (.inr (by have := hK.out.size; omega))
                clear d3 T3 k3 nb3 hU1 T1 hz1 hz3 b0 b1 b2 b3 b4 b5 f0 f1 f2 f3 f4 t0 hcc
                go_upto_region 13 with fail
                clear x0 x1 x2 x3 x4 x5
                generalize ((u3.setCell ⟨B.r, 2, none⟩ (.int .i64 V)).setCell ⟨B.r, 3, none⟩ (.slice (some ⟨g1, 0, none⟩) N c1)) = u4 at d4 k4 ⊢
                have y1 := d4.out.b.c 4 _ rfl
                have y2 := d4.out.s.f i
                have y3 := (d4.out.flow hlt).2.1
                have d2 := Lib.hid (d4.out.setSize hlt n)
                have k2 := Lib.hid (k4.out.set (p := ⟨B.sb, i, none⟩) (.inl (by simp [RB.l])) (.int .i64 n))
                go_upto_region 14 with fail
                generalize (u4.setCell ⟨B.sb, i, none⟩ (.int .i64 n)) = wd at d2 k2 ⊢
                clear y1 y2 y3 d4 k4
                have y1 := d2.out.b.c 5 _ rfl
                have y2 := d2.out.d.f i
                have y3 := (d2.out.flow hlt).2.2.1
                have d3 := Lib.hid (d2.out.setServed hlt false)
                have k3 := Lib.hid (k2.out.set (p := ⟨B.db, i, none⟩) (.inl (by simp [RB.l])) (.bool false))
                clear d2 k2
                go_wp2_with fail
                go_roundw
                case rel => exact ⟨i + 1, g1, c1, by go_num, hlt, Lib.hid (by rw [gZ.out, gD.out, gS.out, gF.out, hsf.out.1, hsf.out.2, show hrS V s ff z n (costI n wi ALL) false = max ff V from by simp [hrS, hrF1, hn0, hzn, hzp], show hrF V s ff z n (costI n wi ALL) false = max ff V + costI n wi ALL from by simp [hrF, hrF1, hn0, hzn, hzp]]; exact d3.out), k3, ht4⟩
                case measure => simp [intOf]; omega
    · obtain rfl : i = N := by omega
      replace hF : RowKit.Hid (RF wr B tbr ctr i ALL (toldN i ALL V W Z D S F h).V W (toldN i ALL V W Z D S F h).Z (toldN i ALL V W Z D S F h).D (toldN i ALL V W Z D S F h).S (toldN i ALL V W Z D S F h).F) := hF
      go_wp2_with fail
      exact bodyPost_end (v := .tuple #[]) (by simp [results, Try.results33, go_sem]) rfl ⟨tbr, ctr, rfl, hF.out, ht.out, hK.out⟩
end Go.Proofs.Ytbbcongfaoopcaa
