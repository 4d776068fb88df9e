/- The air: a way is cut one way: the law. -/
import Derived.Test.YtnokojobiaddmaaA10
import Derived.Test.YtnokojobiaddmaaOpenInts
namespace Go.Proofs.Ytnokojobiaddmaa
open Go.ChangeShapes Go.WideShapes Go.ChangeAt Go.RowKit Go.Maps
set_option linter.unusedVariables false
set_option linter.unusedSimpArgs false
open BigFrame Bs Ar

abbrev XT_Lint := Nat → Int
abbrev Is_Lint (w : World) (v : Value) (f : XT_Lint) : Prop := IsInts .i64 w v f
set_option maxRecDepth 100000 in
theorem open_Lint {H : Type} {enc : TypeId × Value → H} {w : World} {r : Reach} {b0 : Nat} {v : Value} {d : DataW H} {p : List MemPlace} (hv : Value.okWide Try.prog w r b0 22 v) (h : DataW.Trod enc Try.prog w 0 (fun _ => true) true 22 v d p) : ∃ f, Is_Lint w v f :=
  open_row Try.underlying22 Try.underlying3 (by kernel_rfl) hv h

namespace Ar
theorem adr_ex (a : Int) : ∃ F : Int, (1 ≤ F ∧ F ≤ 255) ∧ wrap64 (1 + (wrap64 (a.tmod 255 + 255)).tmod 255) = F := by
  refine ⟨_, ?_, rfl⟩
  have h1 : a.tmod 255 < 255 := Int.tmod_lt_of_pos a (by omega)
  have h2 : -255 < a.tmod 255 := Int.lt_tmod_of_pos a (by omega)
  have e : wrap64 (a.tmod 255 + 255) = a.tmod 255 + 255 := by unfold wrap64; omega
  rw [e]
  have h3 : (a.tmod 255 + 255).tmod 255 < 255 := Int.tmod_lt_of_pos _ (by omega)
  have h4 : 0 ≤ (a.tmod 255 + 255).tmod 255 := Int.tmod_nonneg _ (by omega)
  unfold wrap64
  omega
def xm (F T : Int) : FM := ⟨0, F, T, 0, 0, 0, 0, false, 0, 0, 0⟩
theorem HB.kpt {u u' : World} {m g bm b : Nat} {lv lv' : Value} {cs : Array Value} (h : HB u b cs) (k : Kpt m g bm lv lv' u u') (h1 : b ≠ g) (h2 : b ≠ bm) (h3 : lv.ownBlock ≠ some b) : HB u' b cs := ⟨(k.blk b h.lt h1 h2 h3).trans h.h⟩
def CutsR (m g base bm mb : Nat) (F T : Int) (w : World) (i n : Nat) (C : Int → Int → Bool) (wr : World) : Prop :=
  AirAt m wr g base (.slice none 0 0) [] bm n C ∧ C F T = false ∧ HB wr mb #[.int .i8 0, .int .i64 F, .int .i64 T, .int .i64 0, .int .i64 0, .int .i64 0, .int .i64 0, .bool false, .slice none 0 0, .int .i64 0, .int .i64 0, .int .u8 0, .slice none 0 0, .slice none 0 0] ∧ Below m w wr
end Ar

set_option maxRecDepth 100000 in
set_option maxHeartbeats 4000000 in
theorem airCuts_some (w : World) (a0 a1 : Int) (f : Nat → Int) (a : Option Addr) (N cap : Nat) (hN : N ≤ 60) (hf : 0 < N → ∃ b off, a = some ⟨b, off, none⟩ ∧ b < w.heap.size ∧ ∀ i, i < N → w.cell? ⟨b, off + i, none⟩ = some (.int .i64 (f i))) :
    Calls Try.prog 4 #[.int .i64 a0, .int .i64 a1, .slice a N cap] w fun e w' => e = .returned (.bool true) ∧ Below w.heap.size w w' := by
  have hNi : (N : Int) ≤ 60 := by omega
  obtain ⟨F, ⟨F1, F2⟩, hF⟩ := adr_ex a0
  obtain ⟨T, ⟨T1, T2⟩, hT⟩ := adr_ex a1
  have hnew := air_new w
  replace hf := Lib.hid hf
  go_enter Try.func4, Try.ntmps4
  go_upto_region 5 with fail
  rw [hF, hT]
  clear hF hT
  go_wp2_with fail
  refine hnew.mono ?_
  rintro e w1 ⟨g, bm, base, rfl, hA, hB⟩
  clear hnew
  have hbb := (Below.refl w1.heap.size w1).alloc (Nat.le_refl _) (.cells #[.int .i8 0, .int .i64 F, .int .i64 T, .int .i64 0, .int .i64 0, .int .i64 0, .int .i64 0, .bool false, .slice none 0 0, .int .i64 0, .int .i64 0, .int .u8 0, .slice none 0 0, .slice none 0 0] 34)
  have hm : HB (w1.alloc (.cells #[.int .i8 0, .int .i64 F, .int .i64 T, .int .i64 0, .int .i64 0, .int .i64 0, .int .i64 0, .bool false, .slice none 0 0, .int .i64 0, .int .i64 0, .int .u8 0, .slice none 0 0, .slice none 0 0] 34)) w1.heap.size #[.int .i8 0, .int .i64 F, .int .i64 T, .int .i64 0, .int .i64 0, .int .i64 0, .int .i64 0, .bool false, .slice none 0 0, .int .i64 0, .int .i64 0, .int .u8 0, .slice none 0 0, .slice none 0 0] := HB.new w1 _
  have hA1 := hA.bel hbb
  have hB1 : Below w.heap.size w (w1.alloc (.cells #[.int .i8 0, .int .i64 F, .int .i64 T, .int .i64 0, .int .i64 0, .int .i64 0, .int .i64 0, .bool false, .slice none 0 0, .int .i64 0, .int .i64 0, .int .u8 0, .slice none 0 0, .slice none 0 0] 34)) := hB.trans (hbb.mono hB.size)
  have hg := hA.lt
  have hbm := hA.bmlt
  replace hm := Lib.hid hm
  replace hA1 := Lib.hid hA1
  replace hB1 := Lib.hid hB1
  clear hA hB hbb
  go_upto_region 7 with fail
  replace hm := hm.out
  replace hA1 := hA1.out
  replace hB1 := hB1.out
  generalize (w1.alloc (.cells #[.int .i8 0, .int .i64 F, .int .i64 T, .int .i64 0, .int .i64 0, .int .i64 0, .int .i64 0, .bool false, .slice none 0 0, .int .i64 0, .int .i64 0, .int .u8 0, .slice none 0 0, .slice none 0 0] 34)) = W1 at hm hA1 hB1 ⊢
  generalize w1.heap.size = mb at hm hg hbm ⊢
  have hmg : mb ≠ g := by omega
  have hmb : mb ≠ bm := by omega
  have hm0 := hA1.below
  obtain ⟨m, hmw⟩ : ∃ m, w.heap.size = m := ⟨_, rfl⟩
  rw [hmw] at hA1 hB1 hm0
  clear hg hbm
  replace hmw := Lib.hid hmw
  have hR1 : CutsR m g base bm mb F T w 0 0 (fun _ _ => false) W1 := ⟨hA1, rfl, hm, hB1⟩
  clear hA1 hm hB1 hm0
  go_wp2_with fail
  go_loopw [9] (fun s9 wr => ∃ (i n : Nat) (C : Int → Int → Bool), s9 = .int .i64 (i : Nat) ∧ i ≤ 61 ∧ n ≤ i ∧ CutsR m g base bm mb F T w i n C wr) (fun s9 _ => (62 - (intOf s9).toNat))
  case atStart => exact ⟨0, 0, _, rfl, by omega, Nat.le_refl _, hR1⟩
  case round =>
    obtain ⟨i, n, C, rfl, hi, hni, hR⟩ := hrel
    replace hR := Lib.hid hR
    by_cases hlt : i + 1 < N
    · have hltz : (i : Int) + 1 < (N : Int) := by omega
      have hlt0 : (i : Int) < (N : Int) := by omega
      have hiz : (0 : Int) ≤ (i : Int) := by omega
      have hiz1 : (0 : Int) ≤ (i : Int) + 1 := by omega
      have hto : ((i : Int) + 1).toNat = i + 1 := by omega
      obtain ⟨b, off, rfl, hb, hc⟩ := hf.out (by omega)
      have hbl : Below w.heap.size w wr := by rw [hmw.out]; exact hR.out.2.2.2
      have x0 := (hbl.cell (p := ⟨b, off + i, none⟩) hb).trans (hc i (by omega))
      have x1 := (hbl.cell (p := ⟨b, off + (i + 1), none⟩) hb).trans (hc (i + 1) hlt)
      clear hbl hc hb
      have hw1 := IntWalk.i64_in ((i : Int) + 1) (by omega)
      obtain ⟨p, hp⟩ : ∃ p, f i = p := ⟨_, rfl⟩
      obtain ⟨q, hq⟩ : ∃ q, f (i + 1) = q := ⟨_, rfl⟩
      rw [hp] at x0
      rw [hq] at x1
      clear hp hq
      by_cases hpq : p = F ∧ q = T
      · obtain ⟨rfl, rfl⟩ := hpq
        have e1 : (p != p) = false := by simp
        have e2 : (q != q) = false := by simp
        clear hw1
        go_wp2_with fail
        go_roundw
        case rel => exact ⟨i + 2, n, C, by go_num, by omega, by omega, hR.out⟩
        case measure => simp [intOf]; omega
      · have hcut : Calls Try.prog 13 #[.pointer (some ⟨g, 0, none⟩), .int .i64 p, .int .i64 q] wr.drew fun e w' => ∃ (C2 : Int → Int → Bool) (n2 : Nat), (∃ k, e = .returned (.int .i64 k)) ∧ n2 ≤ i + 2 ∧ CutsR m g base bm mb F T w 0 n2 C2 w' := by
          obtain ⟨r1, r2, r3, r4⟩ := hR.out
          have d1 := r1.bel (Below.refl wr.heap.size wr).drew
          have d3 := r3.bel (Below.refl wr.heap.size wr).drew
          by_cases hv : (1 ≤ p ∧ p ≤ 255) ∧ 1 ≤ q ∧ q ≤ 255
          · refine (air_Cut p q d1 hv.1 hv.2 (by omega)).mono ?_
            rintro e w' ⟨rfl, hA, hK⟩
            refine ⟨setC C p q true, n + 1, ⟨_, rfl⟩, by omega, hA, ?_, d3.kpt hK hmg hmb (by simp [Value.ownBlock]), r4.drew.trans hK.bel⟩
            unfold setC
            rw [if_neg (fun h => hpq ⟨h.1.symm, h.2.symm⟩)]
            exact r2
          · refine (air_Cut_no p q g wr.drew hv).mono ?_
            rintro e w' ⟨rfl, rfl⟩
            exact ⟨C, n, ⟨_, rfl⟩, by omega, d1, r2, d3, r4.drew⟩
        have hcond : (p != F) = true ∨ ((p != F) = false ∧ (q != T) = true) := by
          by_cases e : p = F
          · exact .inr ⟨by simp [e], by simp; exact fun e2 => hpq ⟨e, e2⟩⟩
          · exact .inl (by simpa using e)
        clear hpq
        replace hcut := Lib.hid hcut
        rcases hcond with e1 | ⟨e1, e2⟩
        all_goals
          clear hw1
          go_upto_region 11 with fail
          have hw1 := IntWalk.i64_in ((i : Int) + 1) (by omega)
          refine wp_region_noPanic ?_
          refine Stg.wp_region_L [10] (Bs.SB wr) (by kernel_rfl) (fun _ => (Below.refl _ _).drew) (fun hHeld => ?_)
          refine Stg.wpAnyL_start (n' := 11) (l' := #[false, false, false, false, false, false, false, false, false, false, false]) (by kernel_rfl) (by kernel_rfl) ?_
          refine Stg.wpAnyL_free (i := 0) (v := ?_) 0 rfl (by kernel_rfl) (by kernel_rfl) (by kernel_rfl) (by kernel_rfl) (by kernel_rfl) (fun _ _ _ h => h) (Or.inl ⟨by kernel_rfl, ?_⟩) (by assumption) ?_
          rotate_left
          · intro u _
            try simp only [List.getElem_toArray, List.getElem_cons_succ, List.getElem_cons_zero]
            go_simp
            try with_reducible rfl
          try simp only [Act.put, List.setIfInBounds_toArray, List.set_cons_zero, List.set_cons_succ]
          refine Stg.wpAnyL_free (i := 1) (v := ?_) 0 rfl (by kernel_rfl) (by kernel_rfl) (by kernel_rfl) (by kernel_rfl) (by kernel_rfl) (fun _ _ _ h => h) (Or.inl ⟨by kernel_rfl, ?_⟩) (by assumption) ?_
          rotate_left
          · intro u _
            try simp only [List.getElem_toArray, List.getElem_cons_succ, List.getElem_cons_zero]
            go_simp
            try with_reducible rfl
          try simp only [Act.put, List.setIfInBounds_toArray, List.set_cons_zero, List.set_cons_succ]
          refine Stg.wpAnyL_free (i := 2) (v := ?_) 0 rfl (by kernel_rfl) (by kernel_rfl) (by kernel_rfl) (by kernel_rfl) (by kernel_rfl) (fun _ _ _ h => h) (Or.inl ⟨by kernel_rfl, ?_⟩) (by assumption) ?_
          rotate_left
          · intro u _
            try simp only [List.getElem_toArray, List.getElem_cons_succ, List.getElem_cons_zero]
            go_simp
            try with_reducible rfl
          try simp only [Act.put, List.setIfInBounds_toArray, List.set_cons_zero, List.set_cons_succ]
          refine Stg.wpAnyL_start (n' := 8) (l' := #[true, true, true, false, false, false, false, false, false, false, false]) (by kernel_rfl) (by kernel_rfl) ?_
          refine Stg.wpAnyL_free (i := 3) (v := ?_) 0 rfl (by kernel_rfl) (by kernel_rfl) (by kernel_rfl) (by kernel_rfl) (by kernel_rfl) (fun _ _ _ h => h) (Or.inl ⟨by kernel_rfl, ?_⟩) (by assumption) ?_
          rotate_left
          · intro u _
            try simp only [List.getElem_toArray, List.getElem_cons_succ, List.getElem_cons_zero]
            go_simp
            try with_reducible rfl
          try simp only [Act.put, List.setIfInBounds_toArray, List.set_cons_zero, List.set_cons_succ]
          refine Stg.wpAnyL_take (i := 4) (v := ?_) [10] 0 rfl (by kernel_rfl) (by kernel_rfl) (by kernel_rfl) (by kernel_rfl) (by kernel_rfl) (fun _ _ _ h => h) (Or.inl ⟨by kernel_rfl, ?_⟩) (by assumption) ?_
          rotate_left
          · intro u hSu
            skip
            have sB := hSu rfl
            have y0 := cellB sB x0
            have y1 := cellB sB x1
            try simp only [List.getElem_toArray, List.getElem_cons_succ, List.getElem_cons_zero]
            go_simp
            try with_reducible rfl
          try simp only [Act.put, List.setIfInBounds_toArray, List.set_cons_zero, List.set_cons_succ]
          refine Stg.wpAnyL_free (i := 5) (v := ?_) 0 rfl (by kernel_rfl) (by kernel_rfl) (by kernel_rfl) (by kernel_rfl) (by kernel_rfl) (fun _ _ _ h => h) (Or.inl ⟨by kernel_rfl, ?_⟩) (by assumption) ?_
          rotate_left
          · intro u _
            try simp only [List.getElem_toArray, List.getElem_cons_succ, List.getElem_cons_zero]
            go_simp
            try with_reducible rfl
          try simp only [Act.put, List.setIfInBounds_toArray, List.set_cons_zero, List.set_cons_succ]
          refine Stg.wpAnyL_start (n' := 5) (l' := #[true, true, true, true, true, true, false, false, false, false, false]) (by kernel_rfl) (by kernel_rfl) ?_
          refine Stg.wpAnyL_free (i := 6) (v := ?_) 0 rfl (by kernel_rfl) (by kernel_rfl) (by kernel_rfl) (by kernel_rfl) (by kernel_rfl) (fun _ _ _ h => h) (Or.inl ⟨by kernel_rfl, ?_⟩) (by assumption) ?_
          rotate_left
          · intro u _
            try simp only [List.getElem_toArray, List.getElem_cons_succ, List.getElem_cons_zero]
            go_simp
            try with_reducible rfl
          try simp only [Act.put, List.setIfInBounds_toArray, List.set_cons_zero, List.set_cons_succ]
          refine Stg.wpAnyL_free (i := 7) (v := ?_) 0 rfl (by kernel_rfl) (by kernel_rfl) (by kernel_rfl) (by kernel_rfl) (by kernel_rfl) (fun _ _ _ h => h) (Or.inl ⟨by kernel_rfl, ?_⟩) (by assumption) ?_
          rotate_left
          · intro u _
            try simp only [List.getElem_toArray, List.getElem_cons_succ, List.getElem_cons_zero]
            go_simp
            try with_reducible rfl
          try simp only [Act.put, List.setIfInBounds_toArray, List.set_cons_zero, List.set_cons_succ]
          refine Stg.wpAnyL_free (i := 8) (v := ?_) 0 rfl (by kernel_rfl) (by kernel_rfl) (by kernel_rfl) (by kernel_rfl) (by kernel_rfl) (fun _ _ _ h => h) (Or.inl ⟨by kernel_rfl, ?_⟩) (by assumption) ?_
          rotate_left
          · intro u _
            try simp only [List.getElem_toArray, List.getElem_cons_succ, List.getElem_cons_zero]
            go_simp
            try with_reducible rfl
          try simp only [Act.put, List.setIfInBounds_toArray, List.set_cons_zero, List.set_cons_succ]
          refine Stg.wpAnyL_start (n' := 2) (l' := #[true, true, true, true, true, true, true, true, true, false, false]) (by kernel_rfl) (by kernel_rfl) ?_
          refine Stg.wpAnyL_take (i := 9) (v := ?_) [10] 0 rfl (by kernel_rfl) (by kernel_rfl) (by kernel_rfl) (by kernel_rfl) (by kernel_rfl) (fun _ _ _ h => h) (Or.inl ⟨by kernel_rfl, ?_⟩) (by assumption) ?_
          rotate_left
          · intro u hSu
            skip
            have sB := hSu rfl
            have y0 := cellB sB x0
            have y1 := cellB sB x1
            try simp only [List.getElem_toArray, List.getElem_cons_succ, List.getElem_cons_zero]
            go_simp
            try with_reducible rfl
          try simp only [Act.put, List.setIfInBounds_toArray, List.set_cons_zero, List.set_cons_succ]
          refine Stg.wpAnyL_one (i := 10) 1 rfl (by kernel_rfl) (by kernel_rfl) (fun K hK => ?_)
          try simp only [List.getElem_toArray, List.getElem_cons_succ, List.getElem_cons_zero]
          go_simp
          refine hcut.out.mono ?_
          rintro e w4 ⟨C2, n2, ⟨kk, rfl⟩, hn2, hR2⟩
          refine hK.out _ _ ?_ (fun hHeld1 => ?_)
          · exact fun h => absurd h (by decide)
          clear hK K
          try simp only [Act.put, List.setIfInBounds_toArray, List.set_cons_zero, List.set_cons_succ]
          refine Stg.wpAnyL_done (by kernel_rfl) ?_ _
          try simp only [List.getElem_toArray, List.getElem_cons_succ, List.getElem_cons_zero]
          try simp only [Act.put, List.setIfInBounds_toArray, List.set_cons_zero, List.set_cons_succ]
          refine NoPanic.normal ?_
          clear hw1
          go_wp2_with fail
          go_roundw
          case rel => exact ⟨i + 2, n2, C2, by go_num, by omega, hn2, hR2⟩
          case measure => simp [intOf]; omega
    · have hltz : ¬ (i : Int) + 1 < (N : Int) := by omega
      obtain ⟨r1, r2, r3, r4⟩ := hR.out
      have hR2 : AirAt m wr g base (.slice none 0 0) (List.replicate 0 (xm F T)) bm n C ∧ (Value.slice none 0 0).ownBlock ≠ some mb ∧ HB wr mb #[.int .i8 0, .int .i64 F, .int .i64 T, .int .i64 0, .int .i64 0, .int .i64 0, .int .i64 0, .bool false, .slice none 0 0, .int .i64 0, .int .i64 0, .int .u8 0, .slice none 0 0, .slice none 0 0] ∧ Below m w wr := ⟨r1, by simp [Value.ownBlock], r3, r4⟩
      clear r1 r3 r4 hR
      replace r2 := Lib.hid r2
      replace hR2 := Lib.hid hR2
      obtain ⟨W2, rfl⟩ : ∃ W2, W2 = wr := ⟨_, rfl⟩
      go_wp2_with fail
      go_loopw [10] (fun s10 wr => ∃ (j : Nat) (lv : Value), s10 = .int .i64 (j : Nat) ∧ j ≤ 3 ∧ AirAt m wr g base lv (List.replicate j (xm F T)) bm n C ∧ lv.ownBlock ≠ some mb ∧ HB wr mb #[.int .i8 0, .int .i64 F, .int .i64 T, .int .i64 0, .int .i64 0, .int .i64 0, .int .i64 0, .bool false, .slice none 0 0, .int .i64 0, .int .i64 0, .int .u8 0, .slice none 0 0, .slice none 0 0] ∧ Below m w wr) (fun s10 _ => (3 - (intOf s10).toNat))
      case atStart => exact ⟨0, _, rfl, by omega, hR2.out⟩
      case round =>
        obtain ⟨j, lv, rfl, hj, hA, hlv, hm, hB⟩ := hrel
        clear hR2
        by_cases hlt : j < 3
        · have hltz : (j : Int) < 3 := by omega
          have y0 := hm.c 0 _ rfl
          have y1 := hm.c 1 _ rfl
          have y2 := hm.c 2 _ rfl
          have y3 := hm.c 3 _ rfl
          have y4 := hm.c 4 _ rfl
          have y5 := hm.c 5 _ rfl
          have y6 := hm.c 6 _ rfl
          have y7 := hm.c 7 _ rfl
          have y8 := hm.c 8 _ rfl
          have y9 := hm.c 9 _ rfl
          have y10 := hm.c 10 _ rfl
          have y11 := hm.c 11 _ rfl
          have y12 := hm.c 12 _ rfl
          have y13 := hm.c 13 _ rfl
          have hs := air_send_ok (xm F T) hA ⟨F1, F2⟩ ⟨T1, T2⟩ (by simp; omega)
          replace hA := Lib.hid hA
          replace hm := Lib.hid hm
          go_wp2_with fail
          refine hs.mono ?_
          rintro e w3 ⟨lv2, rfl, hA2, hK⟩
          have hm2 := hm.out.kpt hK hmg hmb hlv
          have hrow := hK.row mb hm.out.lt hlv
          have hB2 := hB.trans hK.bel
          rw [← List.replicate_succ'] at hA2
          clear hs hK y0 y1 y2 y3 y4 y5 y6 y7 y8 y9 y10 y11 y12 y13
          replace hA2 := Lib.hid hA2
          replace hm2 := Lib.hid hm2
          go_wp2_with fail
          go_roundw
          case rel => exact ⟨j + 1, lv2, by go_num, by omega, hA2.out, hrow, hm2.out, hB2⟩
          case measure => simp [intOf]; omega
        · have hltz : ¬ (j : Int) < 3 := by omega
          obtain rfl : j = 3 := by omega
          clear hm hlv hj hltz hlt
          have hA : AirAt m wr g base lv [xm F T, xm F T, xm F T] bm n C := hA
          have wf := addr_wf F1 F2
          have wt := addr_wf T1 T2
          have hd := air_deliver 0 hA (xm F T) (by simp) rfl (by simp) wf wt
          rw [show ([xm F T, xm F T, xm F T].eraseIdx 0) = [xm F T, xm F T] from rfl] at hd
          replace hA := Lib.hid hA
          go_wp2_with fail
          refine hd.mono ?_
          rintro e w3 ⟨lv3, rfl, hA3, hK3⟩
          rw [show (!C (xm F T).fr (xm F T).to) = true by show (!C F T) = true; rw [r2.out]; rfl]
          have hbb := (Below.refl w3.heap.size w3).alloc (Nat.le_refl _) (.cells #[.int .i8 (xm F T).k, .int .i64 (xm F T).fr, .int .i64 (xm F T).to, .int .i64 (xm F T).te, .int .i64 (xm F T).ix, .int .i64 (xm F T).la, .int .i64 (xm F T).co, .bool (xm F T).ok, .slice none 0 0, .int .i64 (xm F T).si, .int .i64 (xm F T).st, .int .u8 (xm F T).su, .slice none 0 0, .slice none 0 0] 34)
          have hA4 := hA3.bel hbb
          have hB4 := (hB.trans hK3.bel).trans (hbb.mono hA3.below)
          have hc := air_Cut F T hA4 ⟨F1, F2⟩ ⟨T1, T2⟩ (by omega)
          clear hd hA3 hK3 hbb hA hB
          replace hA4 := Lib.hid hA4
          go_wp2_with fail
          refine hc.mono ?_
          rintro e w5 ⟨rfl, hA5, hK5⟩
          have hB5 := hB4.trans hK5.bel
          have hd := air_deliver 0 hA5 (xm F T) (by simp) rfl (by simp) wf wt
          rw [show ([xm F T, xm F T].eraseIdx 0) = [xm F T] from rfl] at hd
          clear hc hK5 hB4 hA4
          replace hA5 := Lib.hid hA5
          go_wp2_with fail
          refine hd.mono ?_
          rintro e w6 ⟨lv6, rfl, hA6, hK6⟩
          rw [show (!setC C F T true (xm F T).fr (xm F T).to) = false by show (!setC C F T true F T) = false; unfold setC; rw [if_pos ⟨rfl, rfl⟩]; rfl]
          have hbb := (Below.refl w6.heap.size w6).alloc (Nat.le_refl _) (.cells #[.int .i8 (xm F T).k, .int .i64 (xm F T).fr, .int .i64 (xm F T).to, .int .i64 (xm F T).te, .int .i64 (xm F T).ix, .int .i64 (xm F T).la, .int .i64 (xm F T).co, .bool (xm F T).ok, .slice none 0 0, .int .i64 (xm F T).si, .int .i64 (xm F T).st, .int .u8 (xm F T).su, .slice none 0 0, .slice none 0 0] 34)
          have hA7 := hA6.bel hbb
          have hB7 := (hB5.trans hK6.bel).trans (hbb.mono hA6.below)
          have hc := air_Mend F T hA7 ⟨F1, F2⟩ ⟨T1, T2⟩ (by omega)
          clear hd hA6 hK6 hbb hA5 hB5
          replace hA7 := Lib.hid hA7
          go_wp2_with fail
          refine hc.mono ?_
          rintro e w8 ⟨rfl, hA8, hK8⟩
          have hB8 := hB7.trans hK8.bel
          have hd := air_deliver 0 hA8 (xm F T) (by simp) rfl (by simp) wf wt
          rw [show ([xm F T].eraseIdx 0) = [] from rfl] at hd
          clear hc hK8 hB7 hA7
          replace hA8 := Lib.hid hA8
          go_wp2_with fail
          refine hd.mono ?_
          rintro e w9 ⟨lv9, rfl, hA9, hK9⟩
          rw [show (!setC (setC C F T true) F T false (xm F T).fr (xm F T).to) = true by show (!setC (setC C F T true) F T false F T) = true; unfold setC; rw [if_pos ⟨rfl, rfl⟩]; rfl]
          have hbb := (Below.refl w9.heap.size w9).alloc (Nat.le_refl _) (.cells #[.int .i8 (xm F T).k, .int .i64 (xm F T).fr, .int .i64 (xm F T).to, .int .i64 (xm F T).te, .int .i64 (xm F T).ix, .int .i64 (xm F T).la, .int .i64 (xm F T).co, .bool (xm F T).ok, .slice none 0 0, .int .i64 (xm F T).si, .int .i64 (xm F T).st, .int .u8 (xm F T).su, .slice none 0 0, .slice none 0 0] 34)
          have hAa := hA9.bel hbb
          have hBa := (hB8.trans hK9.bel).trans (hbb.mono hA9.below)
          have hl := air_len hAa
          rw [show ((([] : List FM).length : Nat) : Int) = 0 from rfl] at hl
          have hma := hAa.below
          clear hd hA9 hK9 hbb hA8 hB8 hAa
          go_wp2_with fail
          refine hl.mono ?_
          rintro e wb ⟨rfl, rfl⟩
          have hwk := wakes02_c (w9.alloc (.cells #[.int .i8 (xm F T).k, .int .i64 (xm F T).fr, .int .i64 (xm F T).to, .int .i64 (xm F T).te, .int .i64 (xm F T).ix, .int .i64 (xm F T).la, .int .i64 (xm F T).co, .bool (xm F T).ok, .slice none 0 0, .int .i64 (xm F T).si, .int .i64 (xm F T).st, .int .u8 (xm F T).su, .slice none 0 0, .slice none 0 0] 34))
          clear hl
          go_wp2_with fail
          refine hwk.mono ?_
          rintro e wc ⟨rfl, hBc⟩
          go_wp2_with fail
          go_ret
          exact ⟨rfl, by rw [hmw.out]; exact hBa.trans (hBc.mono hma)⟩

set_option maxRecDepth 100000 in
set_option maxHeartbeats 4000000 in
theorem airCuts_walk (w : World) (a0 a1 : Int) (v2 : Value) (a2 : XT_Lint) (w0 : (Lit.int .i64 a0).wf = true) (w1 : (Lit.int .i64 a1).wf = true) (w2 : Is_Lint w v2 a2) :
    Calls Try.prog 4 #[.int .i64 a0, .int .i64 a1, v2] w fun e w' => e = .returned (.bool true) ∧ Below w.heap.size w w' := by
  obtain ⟨a, N, cap, rfl, _, _, hf⟩ := w2
  by_cases hN : (60 : Int) < (N : Int)
  · have hwk := wakes02_c w
    clear hf w0 w1
    go_enter Try.func4, Try.ntmps4
    go_wp2_with fail
    refine hwk.mono ?_
    rintro e w' ⟨rfl, hB⟩
    go_wp2_with fail
    go_ret
    exact ⟨rfl, hB⟩
  · exact airCuts_some w a0 a1 a2 a N cap (by omega) (fun h => by
      obtain ⟨b, off, h1, h2, h3⟩ := hf h
      exact ⟨b, off, h1, h2, fun i hi => (h3 i hi).1⟩)
end Go.Proofs.Ytnokojobiaddmaa
