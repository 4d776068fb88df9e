/- The reference's scheduler: Pick. -/
import Derived.Test.YtbbcongfaoopcaaF21
namespace Go.Proofs.Ytbbcongfaoopcaa
open Go.ChangeShapes Go.WideShapes Go.ChangeAt Go.RowKit Go.Maps
set_option linter.unusedVariables false
set_option linter.unusedSimpArgs false
open BigFrame Pk Fq Vr Fa

namespace Fa
def RPickQ (p : Picked) (B : RB) (tb0 N : Nat) (ALL : Int) (W : Nat → Int) (w : World) (e : Ending) (w' : World) : Prop :=
  ∃ tb ct, e = .returned (.tuple #[.int .i64 p.k, .bool p.ok]) ∧ RF w' B tb ct N ALL p.x.V W p.x.Z p.x.D p.x.S p.x.F ∧ (tb = tb0 ∨ w.heap.size ≤ tb) ∧ KF (B.l tb0) w w'
/-- Some flow is ready, of the first so many? -/
def someR (h : Nat → Int) (n : Nat) : Bool := decide (∃ i, i < n ∧ 0 < h i)
theorem someR_zero (h : Nat → Int) : someR h 0 = false := by simp [someR]
theorem someR_succ (h : Nat → Int) (n : Nat) : someR h (n + 1) = (someR h n || decide (0 < h n)) := by
  unfold someR
  by_cases h1 : 0 < h n
  · have : ∃ i, i < n + 1 ∧ 0 < h i := ⟨n, by omega, h1⟩
    simp [this, h1]
  · by_cases h2 : ∃ i, i < n ∧ 0 < h i
    · have : ∃ i, i < n + 1 ∧ 0 < h i := by obtain ⟨i, a, b⟩ := h2; exact ⟨i, by omega, b⟩
      simp [this, h2]
    · have : ¬ ∃ i, i < n + 1 ∧ 0 < h i := by
        rintro ⟨i, a, b⟩
        by_cases e : i = n
        · subst e; exact h1 b
        · exact h2 ⟨i, by omega, b⟩
      simp [this, h2, h1]
theorem someR_least {h : Nat → Int} {n : Nat} {S : Nat → Int} : someR h n = false ↔ leastK S (rdy h) n < 0 := by
  constructor
  · intro e
    refine Classical.byContradiction fun q => ?_
    have h1 := leastK_yes (O := S) (m := rdy h) (n := n) (by omega)
    have h2 := (leastK_lt S (rdy h) n).2
    have : someR h n = true := by
      unfold someR
      rw [decide_eq_true_iff]
      exact ⟨(leastK S (rdy h) n).toNat, by omega, by simpa [rdy] using h1.1⟩
    rw [e] at this
    cases this
  · intro e
    unfold someR
    rw [decide_eq_false_iff_not]
    rintro ⟨i, a, b⟩
    have := leastK_no e i a
    simp [rdy] at this
    omega
end Fa

set_option maxRecDepth 100000 in
set_option maxHeartbeats 8000000 in
theorem rpickF_ok {w : World} {B : RB} {tb ct N : Nat} {ALL V M : Int} {W Z : Nat → Int} {D : Nat → Bool} {S F : Nat → Int} (hd : RF w B tb ct N ALL V W Z D S F) (H : Inv M ALL V N W Z D S F) (hM : M ≤ 1000000000000000)
    (b off c : Nat) (h g : Nat → Int) (T : TagsAt w (some ⟨b, off, none⟩) b off N h g) (hbr : b ≠ B.r) (hbs : b ≠ B.sb) (hbd : b ≠ B.db) (hbt : b ≠ tb) (hh : ∀ i, i < N → headBad (h i) = false) :
    Calls Try.prog 17 #[.pointer (some ⟨B.r, 0, none⟩), .slice (some ⟨b, off, none⟩) N c] w (RPickQ (pickX N h (toldN N ALL V W Z D S F h)) B tb N ALL W w) := by
  have hN1 : (1 : Int) ≤ (N : Int) := by have := hd.n1; omega
  have hN8 : (N : Int) ≤ 8 := by have := hd.n8; omega
  have hbw := T.hb (by omega)
  have b0 := hd.b.c 0 _ rfl
  have hrl := hd.b.l
  have hwl := hd.wr.l
  have hsl := hd.s.l
  have hdl := hd.d.l
  have htl := hd.tl
  replace hd := Lib.hid hd
  replace H := Lib.hid H
  replace T := Lib.hid T
  replace hh := Lib.hid hh
  go_enter Try.func17, Try.ntmps17
  go_wp2_with fail
  go_loopw [6, 7] (fun s6 s7 wr => ∃ (i : Nat), s6 = .bool (someR h i) ∧ s7 = .int .i64 (i : Nat) ∧ i ≤ N ∧ wr = w) (fun _ s7 _ => N - (intOf s7).toNat)
  case atStart => exact ⟨0, by rw [someR_zero], rfl, Nat.zero_le _, rfl⟩
  case round =>
    obtain ⟨i, rfl, rfl, hi, rfl⟩ := hrel
    have ii : (i : Int) ≤ (N : Int) := by omega
    by_cases hlt : i < N
    · have ii1 : (i : Int) < (N : Int) := by omega
      have t0 := T.out.c0 i hlt
      obtain ⟨hx1, hx2⟩ := headOk (hh.out i hlt)
      have hsc := Lib.hid (someR_succ h i)
      cases hsm : someR h i with
      | true =>
        rw [hsm] at hsc
        go_wp2_with fail
        go_roundw
        case rel => exact ⟨i + 1, by rw [hsc.out]; simp, by go_num, hlt, by first | rfl | trivial⟩
        case measure => simp [intOf]; omega
      | false =>
        rw [hsm] at hsc
        go_wp2_with fail
        go_roundw
        case rel => exact ⟨i + 1, by rw [hsc.out]; simp, by go_num, hlt, by first | rfl | trivial⟩
        case measure => simp [intOf]; omega
    · obtain rfl : i = N := by omega
      have htold := Lib.hid (rtold_c hd.out H.out hM b off c h g T.out hbr hbs hbd hbt hh.out)
      obtain ⟨x, hx⟩ : ∃ x, RowKit.Hid (toldN i ALL V W Z D S F h = x) := ⟨_, Lib.hid rfl⟩
      have hxV : x.V = V := by rw [← hx.out]; rfl
      have hI := Lib.hid (H.out.told hh.out i)
      rw [hx.out] at hI
      have hlk := Lib.hid (someR_least (h := h) (n := i) (S := x.S))
      have hxD : ∀ j, j < i → x.D j = false := by rw [← hx.out]; exact fun j hj => mixb_lt nof D hj
      cases hsm : someR h i with
      | false =>
        have e2 := Lib.hid (show pickX i h (toldN i ALL V W Z D S F h) = ⟨0, false, x⟩ by unfold pickX; rw [hx.out, if_pos (hlk.out.1 hsm)])
        clear hsm
        go_wp2_with fail
        refine htold.out.mono ?_
        rintro e w1 ⟨tb1, ct1, rfl, hR, ht1, k1⟩
        have hQ := Lib.hid (show RPickQ (pickX i h (toldN i ALL V W Z D S F h)) B tb i ALL W wr (.returned (.tuple #[.int .i64 0, .bool false])) w1 by
          rw [hx.out] at hR
          rw [e2.out]
          exact ⟨tb1, ct1, rfl, hR, ht1, k1⟩)
        clear hR ht1 k1 htold
        go_wp2_with fail
        exact bodyPost_ret (v := .tuple #[.int .i64 0, .bool false]) (by simp [results, Try.results17, go_sem]) rfl hQ.out
      | true =>
        have hno : ¬ leastK x.S (rdy h) i < 0 := fun q => by have := hlk.out.2 q; rw [hsm] at this; cases this
        replace hno := Lib.hid hno
        clear hsm
        go_wp2_with fail
        refine htold.out.mono ?_
        rintro e w1 ⟨tb1, ct1, rfl, hR, ht1, k1⟩
        rw [hx.out, hxV] at hR
        replace hR := Lib.hid hR
        replace ht1 := Lib.hid ht1
        replace k1 := Lib.hid k1
        have T1 := Lib.hid (k1.out.tags T.out (fun _ => by simp [RB.l]; omega))
        clear htold b0
        go_wp2_with fail
        go_loopw [8, 9] (fun s8 s9 wr => ∃ (j : Nat) (rv : Option Addr) (rc : Nat), s8 = .slice rv j rc ∧ s9 = .int .i64 (j : Nat) ∧ j ≤ i ∧ RowKit.Hid (OwnB wr w1.heap.size (.slice rv j rc) (rdy h) j) ∧ RowKit.Hid (Below w1.heap.size w1 wr)) (fun _ s9 _ => i - (intOf s9).toNat)
        case atStart => exact ⟨0, none, 0, rfl, rfl, Nat.zero_le _, Lib.hid (OwnB.nil _ _ _), Lib.hid (Below.refl _ _)⟩
        case round =>
          obtain ⟨j, rv, rc, rfl, rfl, hj, hO, hB⟩ := hrel
          have jj : (j : Int) ≤ (i : Int) := by omega
          by_cases hjl : j < i
          · have jj1 : (j : Int) < (i : Int) := by omega
            have t0 := (T1.out.bel hB.out).c0 j hjl
            have hbk := Lib.hid (blkN_new wr [.bool (decide (0 < h j))] 4)
            have hO8 := Lib.hid (hO.out.kf (KF.of (l := []) ((Below.refl wr.heap.size wr).alloc (Nat.le_refl _) (.cells #[.bool (decide (0 < h j))] 4))) (fun q hq => by simp))
            have hszA := Lib.hid (show w1.heap.size ≤ (wr.alloc (.cells #[.bool (decide (0 < h j))] 4)).heap.size by have := hB.out.size; simp; omega)
            go_wp2_with (at_builtin; refine wpList_appB rfl _ _ rfl w1.heap.size (.slice rv j rc) (rdy h) j (by rfl) hO8.out hszA.out (by rfl) hbk.out (by omega) ?_; intro a5 n5 c5 w5 hown5 hn5 hsz5 hgrow5 hor5; obtain rfl : n5 = j + 1 := hn5; have hown5 := Lib.hid hown5; have hgrow5 := Lib.hid hgrow5; clear hor5 hsz5 t0 hbk hO8)
            go_roundw
            case rel => exact ⟨j + 1, a5, c5, rfl, by go_num, hjl, hown5, Lib.hid ((hB.out.alloc hB.out.size _).grown hgrow5.out hszA.out (fun q hq => (hO.out.lt hq).1))⟩
            case measure => simp [intOf]; omega
          · obtain rfl : j = i := by omega
            obtain ⟨rb, rfl, hrb, BR⟩ := hO.out.at_ (by omega)
            have hF2 := Lib.hid (hR.out.bel hB.out)
            have T2 := Lib.hid (T1.out.bel hB.out)
            have hpk := rpick_c V (some ⟨tb1, 0, none⟩) (some ⟨rb, 0, none⟩) tb1 0 j ct1 rb 0 j rc x.S x.F (rdy h) wr hF2.out.t (by omega) BR
            have b2 := hF2.out.b.c 2 _ rfl
            have b3 := hF2.out.b.c 3 _ rfl
            have hvok : VOk V j x.S x.F := hI.out.far.vok (by unfold CM; omega) (by omega)
            have k2 := Lib.hid (k1.out.trans (KF.of (l := B.l tb) hB.out))
            clear hO BR hd H hR T1 T k1 hB
            have hno1 : ¬ leastK x.S (rdy h) j < 0 := by have := hno.out; omega
            obtain ⟨kn, hkn, hkN, hkr, hkS⟩ := pick_some (F := x.F) (V := V) hno1
            obtain ⟨V1, hV1⟩ : ∃ V1, max V (x.S (leastK x.S (rdy h) j).toNat) = V1 := ⟨_, rfl⟩
            have hV1b : 0 ≤ V1 ∧ V1 ≤ M + CM := by
              have h1 := hI.out.far
              have h2 := h1.2.2 (leastK x.S (rdy h) j).toNat (by have := (leastK_lt x.S (rdy h) j).2; omega)
              have h3 := h1.1
              have h4 := h1.2.1
              omega
            have e : pickR V j x.S x.F j (rdy h) = ⟨V1, j, x.S, x.F, kn, true⟩ := by
              unfold pickR
              rw [if_pos ⟨hvok, rfl, by omega⟩]
              simp only [hV1] at hkn ⊢
              rw [hkn]
            have hpos : 0 < h kn := by simpa [rdy] using hkr
            have hle := (headOk (hh.out kn hkN)).2
            have e2 : pickX j h x = ⟨kn, true, ⟨V1 + h kn * 720720, x.Z, upb x.D kn true, x.S, x.F⟩⟩ := by
              unfold pickX
              rw [if_neg hno1, hxV]
              simp only [hV1] at hkn ⊢
              rw [hkn]
              rfl
            rw [e] at hpk
            replace e2 := Lib.hid ((congrArg (pickX j h) hx.out).trans e2)
            replace hpk := Lib.hid hpk
            replace hvok := Lib.hid hvok
            clear hno hno1 e hkn hkS hV1 hkr hlk hxD
            go_wp2_with fail
            refine hpk.out.mono ?_
            rintro e w8 ⟨a8, g8, c8, rfl, T8, hg8, hb8⟩
            obtain rfl := T8.ha (by show 0 < j; omega)
            replace hg8 : wr.heap.size ≤ g8 := hg8 (by show 0 < j; omega)
            replace T8 : TagsAt w8 (some ⟨g8, 0, none⟩) g8 0 j x.S x.F := T8
            have ha := (Below.refl w8.heap.size w8).alloc (Nat.le_refl _) (.cells #[.int .i64 V1, .slice (some ⟨g8, 0, none⟩) j c8] 50)
            have nb := blk_new w8 (.int .i64 V1) (.slice (some ⟨g8, 0, none⟩) j c8) 50
            have hb9 := hb8.trans (ha.mono hb8.size)
            have d9 := Lib.hid (hF2.out.bel hb9)
            have T9 := Lib.hid (T8.bel ha)
            have k9 := Lib.hid (k2.out.trans (KF.of (l := B.l tb) hb9))
            have H9 := Lib.hid (T2.out.bel hb9)
            have hg8l := T8.hb (by omega)
            clear T8 hb8 hpk ha hb9 hF2 k2 T2 b2 b3
            go_upto_region 21 with fail
            generalize w8.alloc (.cells #[.int .i64 V1, .slice (some ⟨g8, 0, none⟩) j c8] 50) = w9 at nb d9 T9 k9 H9 ⊢
            generalize w8.heap.size = nbb at nb hg8l ⊢
            have q0 := nb.c 0 _ rfl
            have q1 := nb.c 1 _ rfl
            have t0 := H9.out.c0 kn hkN
            have hkn2 : (kn : Int) < (j : Int) := by omega
            have hsv := Lib.hid (show serveOk V1 j x.S x.F (h kn) from ⟨⟨hV1b.1, by have := hV1b.2; unfold CM at this; omega, by omega, hvok.out.2.2.2⟩, by omega, hle, by have := hV1b.2; unfold CM at this; omega⟩)
            have hr9 := d9.out.b.l
            have hr9a := d9.out.wr.l
            have hr9b := d9.out.s.l
            have hr9c := d9.out.d.l
            refine wp_region_noPanic ?_
            refine Stg.wp_region_L [13] (Vr.SB w9) (by kernel_rfl) (fun _ => (Below.refl _ _).drew) (fun hHeld => ?_)
            refine Stg.wpAnyL_start (n' := 14) (l' := #[false, false, false, false, false, false, false, false, false, false, false, false, false, false]) (by kernel_rfl) (by kernel_rfl) ?_
            refine Stg.wpAnyL_free (i := 0) (v := ?_) 0 rfl (by kernel_rfl) (by kernel_rfl) (by kernel_rfl) (by kernel_rfl) (by kernel_rfl) (fun _ _ _ h => h) (Or.inl ⟨by kernel_rfl, ?_⟩) (by assumption) ?_
            rotate_left
            · intro u _
              try simp only [List.getElem_toArray, List.getElem_cons_succ, List.getElem_cons_zero]
              go_simp
              try with_reducible rfl
            try simp only [Act.put, List.setIfInBounds_toArray, List.set_cons_zero, List.set_cons_succ]
            refine Stg.wpAnyL_take (i := 1) (v := ?_) [7, 8, 9, 10, 11, 12, 13] 0 rfl (by kernel_rfl) (by kernel_rfl) (by kernel_rfl) (by kernel_rfl) (by kernel_rfl) (fun _ _ _ h => h) (Or.inl ⟨by kernel_rfl, ?_⟩) (by assumption) ?_
            rotate_left
            · intro u hSu
              skip
              have sB := hSu rfl
              have y0 := cellB sB q0
              have y1 := cellB sB q1
              have y2 := cellB sB t0
              try simp only [List.getElem_toArray, List.getElem_cons_succ, List.getElem_cons_zero]
              go_simp
              try with_reducible rfl
            try simp only [Act.put, List.setIfInBounds_toArray, List.set_cons_zero, List.set_cons_succ]
            refine Stg.wpAnyL_free (i := 2) (v := ?_) 0 rfl (by kernel_rfl) (by kernel_rfl) (by kernel_rfl) (by kernel_rfl) (by kernel_rfl) (fun _ _ _ h => h) (Or.inl ⟨by kernel_rfl, ?_⟩) (by assumption) ?_
            rotate_left
            · intro u _
              try simp only [List.getElem_toArray, List.getElem_cons_succ, List.getElem_cons_zero]
              go_simp
              try with_reducible rfl
            try simp only [Act.put, List.setIfInBounds_toArray, List.set_cons_zero, List.set_cons_succ]
            refine Stg.wpAnyL_start (n' := 11) (l' := #[true, true, true, false, false, false, false, false, false, false, false, false, false, false]) (by kernel_rfl) (by kernel_rfl) ?_
            refine Stg.wpAnyL_free (i := 3) (v := ?_) 0 rfl (by kernel_rfl) (by kernel_rfl) (by kernel_rfl) (by kernel_rfl) (by kernel_rfl) (fun _ _ _ h => h) (Or.inl ⟨by kernel_rfl, ?_⟩) (by assumption) ?_
            rotate_left
            · intro u _
              try simp only [List.getElem_toArray, List.getElem_cons_succ, List.getElem_cons_zero]
              go_simp
              try with_reducible rfl
            try simp only [Act.put, List.setIfInBounds_toArray, List.set_cons_zero, List.set_cons_succ]
            refine Stg.wpAnyL_free (i := 4) (v := ?_) 0 rfl (by kernel_rfl) (by kernel_rfl) (by kernel_rfl) (by kernel_rfl) (by kernel_rfl) (fun _ _ _ h => h) (Or.inl ⟨by kernel_rfl, ?_⟩) (by assumption) ?_
            rotate_left
            · intro u _
              try simp only [List.getElem_toArray, List.getElem_cons_succ, List.getElem_cons_zero]
              go_simp
              try with_reducible rfl
            try simp only [Act.put, List.setIfInBounds_toArray, List.set_cons_zero, List.set_cons_succ]
            refine Stg.wpAnyL_free (i := 5) (v := ?_) 0 rfl (by kernel_rfl) (by kernel_rfl) (by kernel_rfl) (by kernel_rfl) (by kernel_rfl) (fun _ _ _ h => h) (Or.inl ⟨by kernel_rfl, ?_⟩) (by assumption) ?_
            rotate_left
            · intro u _
              try simp only [List.getElem_toArray, List.getElem_cons_succ, List.getElem_cons_zero]
              go_simp
              try with_reducible rfl
            try simp only [Act.put, List.setIfInBounds_toArray, List.set_cons_zero, List.set_cons_succ]
            refine Stg.wpAnyL_start (n' := 8) (l' := #[true, true, true, true, true, true, false, false, false, false, false, false, false, false]) (by kernel_rfl) (by kernel_rfl) ?_
            refine Stg.wpAnyL_take (i := 6) (v := ?_) [7, 8, 9, 10, 11, 12, 13] 0 rfl (by kernel_rfl) (by kernel_rfl) (by kernel_rfl) (by kernel_rfl) (by kernel_rfl) (fun _ _ _ h => h) (Or.inl ⟨by kernel_rfl, ?_⟩) (by assumption) ?_
            rotate_left
            · intro u hSu
              skip
              have sB := hSu rfl
              have y0 := cellB sB q0
              have y1 := cellB sB q1
              have y2 := cellB sB t0
              try simp only [List.getElem_toArray, List.getElem_cons_succ, List.getElem_cons_zero]
              go_simp
              try with_reducible rfl
            try simp only [Act.put, List.setIfInBounds_toArray, List.set_cons_zero, List.set_cons_succ]
            refine Stg.wpAnyL_one (i := 7) 0 rfl (by kernel_rfl) (by kernel_rfl) (fun K hK => ?_)
            try simp only [List.getElem_toArray, List.getElem_cons_succ, List.getElem_cons_zero]
            go_simp
            refine (rserve_c V1 (h kn) j (some ⟨g8, 0, none⟩) g8 0 c8 x.S x.F _ (T9.out.bel (hHeld rfl)) (by omega)).mono ?_
            rintro e w10 hX
            unfold serveR at hX
            rw [if_pos hsv.out] at hX
            obtain ⟨a10, g10, c10, rfl, T10, hg10, hb1⟩ := hX
            obtain rfl := T10.ha (by show 0 < j; omega)
            replace hg10 : w9.heap.size ≤ g10 := by have := hg10 (by show 0 < j; omega); simpa using this
            replace T10 : TagsAt w10 (some ⟨g10, 0, none⟩) g10 0 j x.S x.F := T10
            refine hK.out _ _ ?_ (fun hHeld1 => ?_)
            · exact fun _ => bNext (hHeld rfl) hb1 (Nat.le_refl _)
            clear hK K
            try simp only [Act.put, List.setIfInBounds_toArray, List.set_cons_zero, List.set_cons_succ]
            refine Stg.wpAnyL_free (i := 8) (v := ?_) 0 rfl (by kernel_rfl) (by kernel_rfl) (by kernel_rfl) (by kernel_rfl) (by kernel_rfl) (fun _ _ _ h => h) (Or.inl ⟨by kernel_rfl, ?_⟩) (by assumption) ?_
            rotate_left
            · intro u _
              try simp only [List.getElem_toArray, List.getElem_cons_succ, List.getElem_cons_zero]
              go_simp
              try with_reducible rfl
            try simp only [Act.put, List.setIfInBounds_toArray, List.set_cons_zero, List.set_cons_succ]
            refine Stg.wpAnyL_start (n' := 5) (l' := #[true, true, true, true, true, true, true, true, true, false, false, false, false, false]) (by kernel_rfl) (by kernel_rfl) ?_
            refine Stg.wpAnyL_free (i := 9) (v := ?_) 0 rfl (by kernel_rfl) (by kernel_rfl) (by kernel_rfl) (by kernel_rfl) (by kernel_rfl) (fun _ _ _ h => h) (Or.inl ⟨by kernel_rfl, ?_⟩) (by assumption) ?_
            rotate_left
            · intro u _
              try simp only [List.getElem_toArray, List.getElem_cons_succ, List.getElem_cons_zero]
              go_simp
              try with_reducible rfl
            try simp only [Act.put, List.setIfInBounds_toArray, List.set_cons_zero, List.set_cons_succ]
            refine Stg.wpAnyL_free (i := 10) (v := ?_) 0 rfl (by kernel_rfl) (by kernel_rfl) (by kernel_rfl) (by kernel_rfl) (by kernel_rfl) (fun _ _ _ h => h) (Or.inl ⟨by kernel_rfl, ?_⟩) (by assumption) ?_
            rotate_left
            · intro u _
              try simp only [List.getElem_toArray, List.getElem_cons_succ, List.getElem_cons_zero]
              go_simp
              try with_reducible rfl
            try simp only [Act.put, List.setIfInBounds_toArray, List.set_cons_zero, List.set_cons_succ]
            refine Stg.wpAnyL_free (i := 11) (v := ?_) 0 rfl (by kernel_rfl) (by kernel_rfl) (by kernel_rfl) (by kernel_rfl) (by kernel_rfl) (fun _ _ _ h => h) (Or.inl ⟨by kernel_rfl, ?_⟩) (by assumption) ?_
            rotate_left
            · intro u _
              try simp only [List.getElem_toArray, List.getElem_cons_succ, List.getElem_cons_zero]
              go_simp
              try with_reducible rfl
            try simp only [Act.put, List.setIfInBounds_toArray, List.set_cons_zero, List.set_cons_succ]
            refine Stg.wpAnyL_start (n' := 2) (l' := #[true, true, true, true, true, true, true, true, true, true, true, true, false, false]) (by kernel_rfl) (by kernel_rfl) ?_
            refine Stg.wpAnyL_free (i := 12) (v := ?_) 0 rfl (by kernel_rfl) (by kernel_rfl) (by kernel_rfl) (by kernel_rfl) (by kernel_rfl) (fun _ _ _ h => h) (Or.inl ⟨by kernel_rfl, ?_⟩) (by assumption) ?_
            rotate_left
            · intro u _
              try simp only [List.getElem_toArray, List.getElem_cons_succ, List.getElem_cons_zero]
              go_simp
              try with_reducible rfl
            try simp only [Act.put, List.setIfInBounds_toArray, List.set_cons_zero, List.set_cons_succ]
            refine Stg.wpAnyL_one (i := 13) 1 rfl (by kernel_rfl) (by kernel_rfl) (fun K hK => ?_)
            have hb10 := hHeld1 rfl
            have z0 := (d9.out.bel hb10).b.f 2
            have z1 := (d9.out.bel hb10).b.f 3
            have z2 := (d9.out.bel hb10).b.c 2 _ rfl
            have z3 := (d9.out.bel hb10).b.c 3 _ rfl
            try simp only [List.getElem_toArray, List.getElem_cons_succ, List.getElem_cons_zero]
            go_simp
            refine hK.out _ _ ?_ (fun hHeld2 => ?_)
            · exact fun h => absurd h (by decide)
            clear hK K
            try simp only [Act.put, List.setIfInBounds_toArray, List.set_cons_zero, List.set_cons_succ]
            refine Stg.wpAnyL_done (by kernel_rfl) ?_ _
            try simp only [List.getElem_toArray, List.getElem_cons_succ, List.getElem_cons_zero]
            try simp only [Act.put, List.setIfInBounds_toArray, List.set_cons_zero, List.set_cons_succ]
            refine NoPanic.normal ?_
            clear q0 q1 t0 z0 z1 z2 z3 hHeld
            have d11 := Lib.hid ((d9.out.bel hb10).b)
            have hfr : ∀ o, w10.frozen? ⟨g10, o, none⟩ = w10.frozen? ⟨g10, o, none⟩ := fun o => rfl
            have nb11 := (((d9.out.bel hb10).b.set (i := 2) (by simp) (.int .i64 (V1 + h kn * 720720))).set (i := 3) (by simp) (.slice (some ⟨g10, 0, none⟩) j c10))
            have K10 : KF [B.r] w9 ((w10.setCell ⟨B.r, 2, none⟩ (.int .i64 (V1 + h kn * 720720))).setCell ⟨B.r, 3, none⟩ (.slice (some ⟨g10, 0, none⟩) j c10)) := ((KF.of hb10).set (p := ⟨B.r, 2, none⟩) (.inl (by simp)) _).set (p := ⟨B.r, 3, none⟩) (.inl (by simp)) _
            have T11 := Lib.hid ((T10.set_other (q := B.r) (o := 2) (fun _ => by omega) (.int .i64 (V1 + h kn * 720720))).set_other (q := B.r) (o := 3) (fun _ => by omega) (.slice (some ⟨g10, 0, none⟩) j c10))
            have hl10 := T10.hb (by omega)
            have k11 := Lib.hid (k9.out.trans (K10.sub (l2 := B.l tb) (by simp [RB.l])))
            replace K10 := Lib.hid K10
            clear k9 hb10 H9 T10 T9 d11 nb hfr
            go_upto_region 22 with fail
            generalize ((w10.setCell ⟨B.r, 2, none⟩ (.int .i64 (V1 + h kn * 720720))).setCell ⟨B.r, 3, none⟩ (.slice (some ⟨g10, 0, none⟩) j c10)) = w11 at K10 T11 k11 nb11 ⊢
            obtain ⟨V2, hV2⟩ : ∃ V2, V1 + h kn * 720720 = V2 := ⟨_, rfl⟩
            have hV2b : 0 ≤ V2 ∧ V2 ≤ 1125899906842624 := by
              have := hV1b.1
              have := hV1b.2
              unfold CM at this
              omega
            rw [hV2] at nb11
            replace nb11 := Lib.hid nb11
            have q0 := nb11.out.c 2 _ rfl
            have q1 := nb11.out.c 3 _ rfl
            have hreb := Lib.hid (rrebase_same V2 j (some ⟨g10, 0, none⟩) g10 0 c10 x.S x.F w11 T11.out (by omega) (fun q => by have := q.2; omega))
            go_wp2_with fail
            refine hreb.out.mono ?_
            rintro e w12 ⟨a12, g12, c12, rfl, T12, hg12, hb12⟩
            obtain rfl := T12.ha (by omega)
            obtain ⟨hg12, hz12⟩ := hg12 (by omega)
            have hs11 := K10.out.size
            have nb12 := nb11.out.bel hb12
            have z0 := nb12.f 2
            have z1 := nb12.f 3
            have z2 := nb12.c 2 _ rfl
            have z3 := nb12.c 3 _ rfl
            have d13 : RowKit.Hid (RF ((w12.setCell ⟨B.r, 2, none⟩ (.int .i64 V2)).setCell ⟨B.r, 3, none⟩ (.slice (some ⟨g12, 0, none⟩) j c12)) B g12 c12 j ALL V2 W x.Z x.D x.S x.F) := by
              have hk := K10.out.trans (KF.of (l := [B.r]) hb12)
              have d := d9.out
              have h1 := d.a1
              have h2 := d.a2
              have h3 := d.a3
              exact Lib.hid ⟨(nb12.set (i := 2) (by simp) (.int .i64 V2)).set (i := 3) (by simp) _, ((hk.blk d.wr (by simp; omega)).other (by omega) _).other (by omega) _, ((hk.blk d.s (by simp; omega)).other (by omega) _).other (by omega) _, ((hk.blk d.d (by simp; omega)).other (by omega) _).other (by omega) _, (T12.set_other (fun _ => by omega) _).set_other (fun _ => by omega) _,
                fun o => (World.frozen?_setCell _ _ _ _).trans ((World.frozen?_setCell _ _ _ _).trans (hz12 o)), h1, h2, h3, by omega, d.a5, d.a6, by omega, d.a8, by omega, by omega, d.n1, d.n8⟩
            have k13 := Lib.hid (((k11.out.trans (KF.of hb12)).set (p := ⟨B.r, 2, none⟩) (.inl (by simp [RB.l])) (.int .i64 V2)).set (p := ⟨B.r, 3, none⟩) (.inl (by simp [RB.l])) (.slice (some ⟨g12, 0, none⟩) j c12))
            have hwg := k11.out.size
            clear T11 k11 hreb nb12 hb12 T12 q0 q1 hg10 d9 K10 nb11 hz12
            go_upto_region 23 with fail
            generalize ((w12.setCell ⟨B.r, 2, none⟩ (.int .i64 V2)).setCell ⟨B.r, 3, none⟩ (.slice (some ⟨g12, 0, none⟩) j c12)) = w13 at d13 k13 ⊢
            clear z0 z1 z2 z3
            have z0 := d13.out.b.c 5 _ rfl
            have z1 := (d13.out.flow hkN).2.2.1
            have z2 := d13.out.d.f kn
            have d14 := Lib.hid (d13.out.setServed hkN true)
            have k14 := Lib.hid (k13.out.set (p := ⟨B.db, kn, none⟩) (.inl (by simp [RB.l])) (.bool true))
            clear d13 k13
            go_wp2_with fail
            refine bodyPost_ret (v := .tuple #[.int .i64 kn, .bool true]) (by simp [results, Try.results17, go_sem]) rfl ?_
            rw [e2.out]
            exact ⟨g12, c12, rfl, by show RF _ B g12 c12 j ALL (V1 + h kn * 720720) W x.Z (upb x.D kn true) x.S x.F; rw [hV2]; exact d14.out, .inr (by omega), k14.out⟩
end Go.Proofs.Ytbbcongfaoopcaa
