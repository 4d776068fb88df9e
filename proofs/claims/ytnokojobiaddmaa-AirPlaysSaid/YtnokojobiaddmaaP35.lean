/- Messages sent, delivered, lost, doubled; ways cut and mended: the law. -/
import Derived.Test.YtnokojobiaddmaaP34
namespace Go.Proofs.Ytnokojobiaddmaa
open Go.ChangeShapes Go.WideShapes Go.ChangeAt Go.RowKit Go.Maps
set_option linter.unusedVariables false
set_option linter.unusedSimpArgs false
open BigFrame Bs By Am Ar

namespace Stg
/-- What is kept may be said more narrowly. -/
theorem wpAnyL_narrow {P : Program} {ops : Array Oper} {Q : Exit → Act → World → Prop} {md : Region.Mode} {marks : List Nat} {S S' : Nat → World → Prop} (hS : ∀ n u, S' n u → S n u) :
    ∀ (fuel : Nat) (l : Array Bool) (a : Act) (w : World), wpAnyL P md ops Q marks S' fuel l a w → wpAnyL P md ops Q marks S fuel l a w
  | 0, _, _, _, h => h
  | fuel + 1, _, _, _, h => ⟨h.1, fun i hi => wpOp_mono (fun a' w' h' => ⟨hS _ _ h'.1, wpAnyL_narrow hS fuel _ a' w' h'.2⟩) (h.2 i hi)⟩
end Stg
namespace Ar
theorem AirAt.low {m m' : Nat} {w : World} {g base : Nat} {lv : Value} {l : List RM} {bm n : Nat} {C : Int → Int → Bool} (h : AirAt m w g base lv l bm n C) (hm : m' ≤ m) : AirAt m' w g base lv l bm n C :=
  ⟨h.hg, h.own, h.mp, h.h1, h.h2, h.h3, Nat.le_trans hm h.h4, Nat.le_trans hm h.h5, h.h6⟩
theorem Ok.bel {m g rg bp br c : Nat} {w w' : World} (h : Ok m g rg bp br c w) (k : Below w.heap.size w w') : Ok m g rg bp br c w' := by
  obtain ⟨bm, n, lv, rv, cv, l, q, C, ps, ms, hT, hG⟩ := h
  exact ⟨bm, n, lv, rv, cv, l, q, C, ps, ms, hT.bel k, hG⟩
/-- At the start. -/
theorem Ok.start {m g base bm : Nat} {w2 : World} (hA : AirAt m w2 g base (.slice none 0 0) [] bm 0 (fun _ _ => false)) : Ok m g w2.heap.size base (w2.heap.size + 1) 0 (w2.alloc (.cells #[.slice none 0 0, .slice none 0 0] 52)) := by
  have hal := (Below.refl w2.heap.size w2).alloc (Nat.le_refl _) (.cells #[.slice none 0 0, .slice none 0 0] 52)
  refine ⟨bm, 0, .slice none 0 0, .slice none 0 0, .slice none 0 0, [], [], fun _ _ => false, [], [], ⟨hA.bel hal, ⟨⟨heap_alloc_new w2 _, World.ownsRow_nil _ _ _ _, by omega, by simp⟩, World.ownsRow_nil _ _ _ _, hA.below⟩, TML.nil _, TML.nil _, fun b hb => by simp [Value.ownBlock] at hb⟩, ⟨fun f t _ _ => by simp, fun x hx => by simp at hx, fun x hx => by simp at hx, by simp, by omega, by simp⟩⟩
end Ar

set_option maxRecDepth 100000 in
set_option maxHeartbeats 16000000 in
/-- **The law.** -/
theorem airPlays_h (w : World) (a : Option Addr) (n c : Nat) (f : Nat → Ac) (hA : AcAt w a n f) (hnc : n ≤ c) (hc : c ≤ 9223372036854775807) (hsz : ∀ i, i < n → Sz (f i)) :
    Calls Try.prog 6 #[.slice a n c] w fun e w' => e = .returned (.bool true) ∧ Below w.heap.size w w' := by
  have hgr := great02_c a n c f w hA hnc hc hsz
  have hnz0 : (n : Int) ≤ 9223372036854775807 := by omega
  replace hA := Lib.hid hA
  clear hsz hc
  go_enter Try.func6, Try.ntmps6
  go_wp2_with fail
  refine hgr.mono ?_
  rintro e w1 ⟨bb, rfl, hb, hB1⟩
  clear hgr
  cases bb with
  | true =>
    clear hb
    go_wp2_with fail
    refine (wakes02_c _).mono ?_
    rintro e w2 ⟨rfl, hb2⟩
    have hf := Lib.hid (bNext hB1 hb2 (Nat.le_refl _))
    clear hB1 hb2
    go_wp2_with fail
    go_ret
    exact ⟨rfl, hf.out⟩
  | false =>
    obtain ⟨hn, hSm⟩ := hb rfl
    have hn2 : (n : Int) ≤ 1100 := by omega
    replace hSm := Lib.hid hSm
    have hnew := air_new w1
    clear hb
    go_wp2_with fail
    refine hnew.mono ?_
    rintro e w2 ⟨g, bm, bp, rfl, hA2, hB2⟩
    have hA3 := hA2.low hB1.size
    have hO0 := Ok.start hA3
    have hB3 := ((bNext hB1 hB2 (Nat.le_refl _)).alloc (Nat.le_trans hB1.size hB2.size) (.cells #[.slice none 0 0, .slice none 0 0] 52))
    replace hO0 := Lib.hid hO0
    replace hB3 := Lib.hid hB3
    clear hnew hA2 hA3 hB1 hB2
    go_upto_region 4 with fail
    replace hO0 := hO0.out
    replace hB3 := hB3.out
    generalize (w2.alloc (.cells #[.slice none 0 0, .slice none 0 0] 52)) = W3 at hO0 hB3 ⊢
    generalize hbr : w2.heap.size + 1 = br at hO0
    clear hbr
    generalize w2.heap.size = rg at hO0 ⊢
    replace hO0 := Lib.hid hO0
    replace hB3 := Lib.hid hB3
    go_wp2_with fail
    go_loopw [5] (fun i wr => ∃ j : Nat, j ≤ n ∧ i = .int .i64 (j : Nat) ∧ Ok w.heap.size g rg bp br j wr ∧ Below w.heap.size w wr) (fun i _ => n - (intOf i).toNat)
    case atStart => exact ⟨0, by omega, rfl, hO0.out, hB3.out⟩
    case round =>
      clear hO0 hB3
      obtain ⟨j, hj, rfl, hO, hB⟩ := hrel
      by_cases hjl : j < n
      · have hjz : (j : Int) < (n : Int) := by omega
        have hj0 : (0 : Int) ≤ (j : Int) := by omega
        have hA2 := hA.out.is j hjl
        obtain ⟨b, off, rfl, hbl, hcl⟩ := hA.out.row (by omega)
        have hcl := hcl j hjl
        have hmj := hSm.out j hjl
        generalize f j = y at hA2 hcl hmj
        obtain ⟨dd, kk, x, ea, en, ec, sa, sn, sc, da, dn, dc⟩ := y
        have x0 := (hB.cell (p := ⟨b, off + j * 16 + 0, none⟩) hbl).trans (hcl 0 (.int .i64 dd) rfl)
        have x1 := (hB.cell (p := ⟨b, off + j * 16 + 1, none⟩) hbl).trans (hcl 1 (.int .i64 kk) rfl)
        have x2 := (hB.cell (p := ⟨b, off + j * 16 + 2, none⟩) hbl).trans (hcl 2 (.int .i8 x.f.k) rfl)
        have x3 := (hB.cell (p := ⟨b, off + j * 16 + 3, none⟩) hbl).trans (hcl 3 (.int .i64 x.f.fr) rfl)
        have x4 := (hB.cell (p := ⟨b, off + j * 16 + 4, none⟩) hbl).trans (hcl 4 (.int .i64 x.f.to) rfl)
        have x5 := (hB.cell (p := ⟨b, off + j * 16 + 5, none⟩) hbl).trans (hcl 5 (.int .i64 x.f.te) rfl)
        have x6 := (hB.cell (p := ⟨b, off + j * 16 + 6, none⟩) hbl).trans (hcl 6 (.int .i64 x.f.ix) rfl)
        have x7 := (hB.cell (p := ⟨b, off + j * 16 + 7, none⟩) hbl).trans (hcl 7 (.int .i64 x.f.la) rfl)
        have x8 := (hB.cell (p := ⟨b, off + j * 16 + 8, none⟩) hbl).trans (hcl 8 (.int .i64 x.f.co) rfl)
        have x9 := (hB.cell (p := ⟨b, off + j * 16 + 9, none⟩) hbl).trans (hcl 9 (.bool x.f.ok) rfl)
        have x10 := (hB.cell (p := ⟨b, off + j * 16 + 10, none⟩) hbl).trans (hcl 10 (.slice ea en ec) rfl)
        have x11 := (hB.cell (p := ⟨b, off + j * 16 + 11, none⟩) hbl).trans (hcl 11 (.int .i64 x.f.si) rfl)
        have x12 := (hB.cell (p := ⟨b, off + j * 16 + 12, none⟩) hbl).trans (hcl 12 (.int .i64 x.f.st) rfl)
        have x13 := (hB.cell (p := ⟨b, off + j * 16 + 13, none⟩) hbl).trans (hcl 13 (.int .u8 x.f.su) rfl)
        have x14 := (hB.cell (p := ⟨b, off + j * 16 + 14, none⟩) hbl).trans (hcl 14 (.slice sa sn sc) rfl)
        have x15 := (hB.cell (p := ⟨b, off + j * 16 + 15, none⟩) hbl).trans (hcl 15 (.slice da dn dc) rfl)
        rw [Nat.add_zero] at x0
        have hst : ∀ u, Below wr.heap.size wr u → Calls Try.prog 19 #[.pointer (some ⟨g, 0, none⟩), .pointer (some ⟨rg, 0, none⟩), .agg #[.int .i64 dd, .int .i64 kk, .int .i8 x.f.k, .int .i64 x.f.fr, .int .i64 x.f.to, .int .i64 x.f.te, .int .i64 x.f.ix, .int .i64 x.f.la, .int .i64 x.f.co, .bool x.f.ok, .slice ea en ec, .int .i64 x.f.si, .int .i64 x.f.st, .int .u8 x.f.su, .slice sa sn sc, .slice da dn dc]] u (StepP w.heap.size g rg bp br j u) := fun u hu => step_c (hO.bel hu) (by omega) x ea en ec sa sn sc da dn dc (fun v hv => hA2.bel ((hB.trans (hu.mono hB.size)).trans hv)) hmj dd kk
        replace hst := Lib.hid hst
        replace hB := Lib.hid hB
        clear hcl hA2 hmj hO
        go_upto_region 9 with fail
        refine wp_region_noPanic ?_
        refine Stg.wp_region_L [6] (fun n u => (n = 0 → Below wr.heap.size wr u) ∧ True) (by kernel_rfl) (⟨fun _ => (Below.refl _ _).drew, trivial⟩) (fun hHeld => ?_)
        refine Stg.wpAnyL_start (n' := 18) (l' := #[false, false, false, false, false, false, false, false, false, false, false, false, false, false, false, false, false, false]) (by kernel_rfl) (by kernel_rfl) ?_
        refine Stg.wpAnyL_free (i := 0) (v := ?_) 0 rfl (by kernel_rfl) (by kernel_rfl) (by kernel_rfl) (by kernel_rfl) (by kernel_rfl) (fun _ _ _ h => h) (Or.inl ⟨by kernel_rfl, ?_⟩) (by assumption) ?_
        rotate_left
        · intro u _
          try simp only [List.getElem_toArray, List.getElem_cons_succ, List.getElem_cons_zero]
          go_simp
          try with_reducible rfl
        try simp only [Act.put, List.setIfInBounds_toArray, List.set_cons_zero, List.set_cons_succ]
        refine Stg.wpAnyL_free (i := 1) (v := ?_) 0 rfl (by kernel_rfl) (by kernel_rfl) (by kernel_rfl) (by kernel_rfl) (by kernel_rfl) (fun _ _ _ h => h) (Or.inl ⟨by kernel_rfl, ?_⟩) (by assumption) ?_
        rotate_left
        · intro u _
          try simp only [List.getElem_toArray, List.getElem_cons_succ, List.getElem_cons_zero]
          go_simp
          try with_reducible rfl
        try simp only [Act.put, List.setIfInBounds_toArray, List.set_cons_zero, List.set_cons_succ]
        refine Stg.wpAnyL_free (i := 2) (v := ?_) 0 rfl (by kernel_rfl) (by kernel_rfl) (by kernel_rfl) (by kernel_rfl) (by kernel_rfl) (fun _ _ _ h => h) (Or.inl ⟨by kernel_rfl, ?_⟩) (by assumption) ?_
        rotate_left
        · intro u _
          try simp only [List.getElem_toArray, List.getElem_cons_succ, List.getElem_cons_zero]
          go_simp
          try with_reducible rfl
        try simp only [Act.put, List.setIfInBounds_toArray, List.set_cons_zero, List.set_cons_succ]
        refine Stg.wpAnyL_start (n' := 15) (l' := #[true, true, true, false, false, false, false, false, false, false, false, false, false, false, false, false, false, false]) (by kernel_rfl) (by kernel_rfl) ?_
        refine Stg.wpAnyL_free (i := 3) (v := ?_) 0 rfl (by kernel_rfl) (by kernel_rfl) (by kernel_rfl) (by kernel_rfl) (by kernel_rfl) (fun _ _ _ h => h) (Or.inl ⟨by kernel_rfl, ?_⟩) (by assumption) ?_
        rotate_left
        · intro u _
          try simp only [List.getElem_toArray, List.getElem_cons_succ, List.getElem_cons_zero]
          go_simp
          try with_reducible rfl
        try simp only [Act.put, List.setIfInBounds_toArray, List.set_cons_zero, List.set_cons_succ]
        refine Stg.wpAnyL_free (i := 4) (v := ?_) 0 rfl (by kernel_rfl) (by kernel_rfl) (by kernel_rfl) (by kernel_rfl) (by kernel_rfl) (fun _ _ _ h => h) (Or.inl ⟨by kernel_rfl, ?_⟩) (by assumption) ?_
        rotate_left
        · intro u _
          try simp only [List.getElem_toArray, List.getElem_cons_succ, List.getElem_cons_zero]
          go_simp
          try with_reducible rfl
        try simp only [Act.put, List.setIfInBounds_toArray, List.set_cons_zero, List.set_cons_succ]
        refine Stg.wpAnyL_take (i := 5) (v := ?_) [6, 7, 8, 9, 10, 11, 12, 13, 14, 15, 16, 17] 0 rfl (by kernel_rfl) (by kernel_rfl) (by kernel_rfl) (by kernel_rfl) (by kernel_rfl) (fun _ _ _ h => h) (Or.inl ⟨by kernel_rfl, ?_⟩) (by assumption) ?_
        rotate_left
        · intro u hSu
          obtain ⟨sX, _⟩ := hSu
          have sB := sX rfl
          have y0 := cellB sB x0
          have y1 := cellB sB x1
          have y2 := cellB sB x2
          have y3 := cellB sB x3
          have y4 := cellB sB x4
          have y5 := cellB sB x5
          have y6 := cellB sB x6
          have y7 := cellB sB x7
          have y8 := cellB sB x8
          have y9 := cellB sB x9
          have y10 := cellB sB x10
          have y11 := cellB sB x11
          have y12 := cellB sB x12
          have y13 := cellB sB x13
          have y14 := cellB sB x14
          have y15 := cellB sB x15
          try simp only [List.getElem_toArray, List.getElem_cons_succ, List.getElem_cons_zero]
          go_simp
          try with_reducible rfl
        try simp only [Act.put, List.setIfInBounds_toArray, List.set_cons_zero, List.set_cons_succ]
        refine Stg.wpAnyL_start (n' := 12) (l' := #[true, true, true, true, true, true, false, false, false, false, false, false, false, false, false, false, false, false]) (by kernel_rfl) (by kernel_rfl) ?_
        refine Stg.wpAnyL_one (i := 6) 1 rfl (by kernel_rfl) (by kernel_rfl) (fun K hK => ?_)
        try simp only [List.getElem_toArray, List.getElem_cons_succ, List.getElem_cons_zero]
        go_simp
        have hBu := hB.out.trans ((hHeld.1 rfl).mono hB.out.size)
        refine (hst.out _ (hHeld.1 rfl)).mono ?_
        rintro e w5 ⟨rfl, hO5, hb5⟩
        have hB5 := Lib.hid (hBu.trans hb5)
        obtain ⟨bm5, n5, lv5, rv5, cv5, l5, q5, C5, ps5, ms5, hT5, hG5⟩ := hO5
        have hL := air_len hT5.a
        have hlq : l5.length = q5.length := hT5.ta.1.trans hT5.tr.1.symm
        have c1 := hT5.r.ra.c0
        obtain ⟨la5, cap5, hsh⟩ := own_shape hT5.r.ra.own
        rw [hsh] at c1
        have hO6 := Lib.hid (show Ok w.heap.size g rg bp br (j + 1) w5 from ⟨bm5, n5, lv5, rv5, cv5, l5, q5, C5, ps5, ms5, hT5, hG5⟩)
        rw [hlq] at hL
        generalize q5.length = N5 at hL c1
        replace hL := Lib.hid hL
        clear hst hT5 hG5 hlq hsh hBu
        refine hK.out _ _ ?_ (fun hHeld1 => ?_)
        · exact ⟨fun h => absurd h (by decide), trivial⟩
        clear hK K
        try simp only [Act.put, List.setIfInBounds_toArray, List.set_cons_zero, List.set_cons_succ]
        refine Stg.wpAnyL_narrow (S' := fun n u => 1 ≤ n ∧ u = w5) (fun n u h => ⟨fun h0 => absurd h.1 (by omega), trivial⟩) _ _ _ _ ?_
        clear hHeld1
        have hHeld1 : (fun n u => 1 ≤ n ∧ u = w5) 1 w5 := ⟨Nat.le_refl _, rfl⟩
        refine Stg.wpAnyL_free (i := 7) (v := ?_) 1 rfl (by kernel_rfl) (by kernel_rfl) (by kernel_rfl) (by kernel_rfl) (by kernel_rfl) (fun _ _ _ h => h) (Or.inl ⟨by kernel_rfl, ?_⟩) (by assumption) ?_
        rotate_left
        · intro u _
          try simp only [List.getElem_toArray, List.getElem_cons_succ, List.getElem_cons_zero]
          go_simp
          try with_reducible rfl
        try simp only [Act.put, List.setIfInBounds_toArray, List.set_cons_zero, List.set_cons_succ]
        refine Stg.wpAnyL_free (i := 8) (v := ?_) 1 rfl (by kernel_rfl) (by kernel_rfl) (by kernel_rfl) (by kernel_rfl) (by kernel_rfl) (fun _ _ _ h => h) (Or.inl ⟨by kernel_rfl, ?_⟩) (by assumption) ?_
        rotate_left
        · intro u _
          try simp only [List.getElem_toArray, List.getElem_cons_succ, List.getElem_cons_zero]
          go_simp
          try with_reducible rfl
        try simp only [Act.put, List.setIfInBounds_toArray, List.set_cons_zero, List.set_cons_succ]
        refine Stg.wpAnyL_start (n' := 9) (l' := #[true, true, true, true, true, true, true, true, true, false, false, false, false, false, false, false, false, false]) (by kernel_rfl) (by kernel_rfl) ?_
        refine Stg.wpAnyL_free (i := 9) (v := ?_) 1 rfl (by kernel_rfl) (by kernel_rfl) (by kernel_rfl) (by kernel_rfl) (by kernel_rfl) (fun _ _ _ h => h) (Or.inl ⟨by kernel_rfl, ?_⟩) (by assumption) ?_
        rotate_left
        · intro u _
          try simp only [List.getElem_toArray, List.getElem_cons_succ, List.getElem_cons_zero]
          go_simp
          try with_reducible rfl
        try simp only [Act.put, List.setIfInBounds_toArray, List.set_cons_zero, List.set_cons_succ]
        refine Stg.wpAnyL_free (i := 11) (v := ?_) 1 rfl (by kernel_rfl) (by kernel_rfl) (by kernel_rfl) (by kernel_rfl) (by kernel_rfl) (fun _ _ _ h => h) (Or.inl ⟨by kernel_rfl, ?_⟩) (by assumption) ?_
        rotate_left
        · intro u _
          try simp only [List.getElem_toArray, List.getElem_cons_succ, List.getElem_cons_zero]
          go_simp
          try with_reducible rfl
        try simp only [Act.put, List.setIfInBounds_toArray, List.set_cons_zero, List.set_cons_succ]
        refine Stg.wpAnyL_free (i := 12) (v := ?_) 1 rfl (by kernel_rfl) (by kernel_rfl) (by kernel_rfl) (by kernel_rfl) (by kernel_rfl) (fun _ _ _ h => h) (Or.inl ⟨by kernel_rfl, ?_⟩) (by assumption) ?_
        rotate_left
        · intro u _
          try simp only [List.getElem_toArray, List.getElem_cons_succ, List.getElem_cons_zero]
          go_simp
          try with_reducible rfl
        try simp only [Act.put, List.setIfInBounds_toArray, List.set_cons_zero, List.set_cons_succ]
        refine Stg.wpAnyL_start (n' := 6) (l' := #[true, true, true, true, true, true, true, true, true, true, false, true, true, false, false, false, false, false]) (by kernel_rfl) (by kernel_rfl) ?_
        refine Stg.wpAnyL_free (i := 13) (v := ?_) 1 rfl (by kernel_rfl) (by kernel_rfl) (by kernel_rfl) (by kernel_rfl) (by kernel_rfl) (fun _ _ _ h => h) (Or.inl ⟨by kernel_rfl, ?_⟩) (by assumption) ?_
        rotate_left
        · intro u _
          try simp only [List.getElem_toArray, List.getElem_cons_succ, List.getElem_cons_zero]
          go_simp
          try with_reducible rfl
        try simp only [Act.put, List.setIfInBounds_toArray, List.set_cons_zero, List.set_cons_succ]
        refine Stg.wpAnyL_take (i := 14) (v := ?_) [15, 16, 17] 1 rfl (by kernel_rfl) (by kernel_rfl) (by kernel_rfl) (by kernel_rfl) (by kernel_rfl) (fun _ _ _ h => h) (Or.inl ⟨by kernel_rfl, ?_⟩) (by assumption) ?_
        rotate_left
        · intro u hSu
          obtain ⟨_, rfl⟩ := hSu
          try simp only [List.getElem_toArray, List.getElem_cons_succ, List.getElem_cons_zero]
          go_simp
          try with_reducible rfl
        try simp only [Act.put, List.setIfInBounds_toArray, List.set_cons_zero, List.set_cons_succ]
        refine Stg.wpAnyL_free (i := 15) (v := ?_) 1 rfl (by kernel_rfl) (by kernel_rfl) (by kernel_rfl) (by kernel_rfl) (by kernel_rfl) (fun _ _ _ h => h) (Or.inl ⟨by kernel_rfl, ?_⟩) (by assumption) ?_
        rotate_left
        · intro u _
          try simp only [List.getElem_toArray, List.getElem_cons_succ, List.getElem_cons_zero]
          go_simp
          try with_reducible rfl
        try simp only [Act.put, List.setIfInBounds_toArray, List.set_cons_zero, List.set_cons_succ]
        refine Stg.wpAnyL_start (n' := 3) (l' := #[true, true, true, true, true, true, true, true, true, true, false, true, true, true, true, true, false, false]) (by kernel_rfl) (by kernel_rfl) ?_
        refine Stg.wpAnyL_one (i := 10) 1 rfl (by kernel_rfl) (by kernel_rfl) (fun K hK => ?_)
        try simp only [List.getElem_toArray, List.getElem_cons_succ, List.getElem_cons_zero]
        go_simp
        refine (hL.out).mono ?_
        rintro e w6 ⟨rfl, rfl⟩
        refine hK.out _ _ ?_ (fun hHeld2 => ?_)
        · exact ⟨Nat.le_refl _, rfl⟩
        clear hK K
        try simp only [Act.put, List.setIfInBounds_toArray, List.set_cons_zero, List.set_cons_succ]
        refine Stg.wpAnyL_free (i := 16) (v := ?_) 1 rfl (by kernel_rfl) (by kernel_rfl) (by kernel_rfl) (by kernel_rfl) (by kernel_rfl) (fun _ _ _ h => h) (Or.inl ⟨by kernel_rfl, ?_⟩) (by assumption) ?_
        rotate_left
        · intro u _
          try simp only [List.getElem_toArray, List.getElem_cons_succ, List.getElem_cons_zero]
          go_simp
          try with_reducible rfl
        try simp only [Act.put, List.setIfInBounds_toArray, List.set_cons_zero, List.set_cons_succ]
        refine Stg.wpAnyL_free (i := 17) (v := ?_) 1 rfl (by kernel_rfl) (by kernel_rfl) (by kernel_rfl) (by kernel_rfl) (by kernel_rfl) (fun _ _ _ h => h) (Or.inl ⟨by kernel_rfl, ?_⟩) (by assumption) ?_
        rotate_left
        · intro u _
          try simp only [List.getElem_toArray, List.getElem_cons_succ, List.getElem_cons_zero]
          go_simp
          try with_reducible rfl
        try simp only [Act.put, List.setIfInBounds_toArray, List.set_cons_zero, List.set_cons_succ]
        refine Stg.wpAnyL_done (by kernel_rfl) ?_ _
        try simp only [List.getElem_toArray, List.getElem_cons_succ, List.getElem_cons_zero]
        try simp only [Act.put, List.setIfInBounds_toArray, List.set_cons_zero, List.set_cons_succ]
        refine NoPanic.normal ?_
        go_wp2_with fail
        go_roundw
        case rel => exact ⟨j + 1, by omega, by go_num, hO6.out, hB5.out⟩
        case measure => simp [intOf]; omega
      · obtain rfl : j = n := by omega
        obtain ⟨bm5, n5, lv5, rv5, cv5, l5, q5, C5, ps5, ms5, hT5, hG5⟩ := hO
        have c1 := hT5.r.ra.c0
        obtain ⟨la5, cap5, rfl⟩ := own_shape hT5.r.ra.own
        have htold := told_ok hT5.a hT5.ta hG5.sm hG5.le la5 cap5 br q5 hT5.r.ra.own hT5.tr 0
        generalize q5.length = N5 at htold c1
        replace htold := Lib.hid htold
        clear hT5 hG5
        replace hB := Lib.hid hB
        go_wp2_with fail
        refine htold.out.mono ?_
        rintro e w4 ⟨rfl, hb4⟩
        have hB4 := Lib.hid (bNext hB.out hb4 (Nat.le_refl _))
        have hB5 := Lib.hid (hB.out.trans (hb4.mono hB.out.size))
        clear hb4 htold c1
        go_wp2_with fail
        refine (wakes02_c _).mono ?_
        rintro e w6 ⟨rfl, hb6⟩
        have hf := Lib.hid (hB5.out.trans (hb6.mono hB5.out.size))
        clear hb6
        go_wp2_with fail
        go_ret
        exact ⟨rfl, hf.out⟩
end Go.Proofs.Ytnokojobiaddmaa
