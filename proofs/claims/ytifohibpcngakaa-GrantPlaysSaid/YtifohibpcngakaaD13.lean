/- The reference's desk: Over. -/
import Derived.Test.YtifohibpcngakaaD12
import Derived.Deep.CutRange
import Derived.Deep.LoopGhost
namespace Go.Proofs.Ytifohibpcngakaa
open Go.ChangeShapes Go.WideShapes Go.ChangeAt Go.RowKit Go.Maps
set_option linter.unusedVariables false
set_option linter.unusedSimpArgs false
open BigFrame Bs Gr
attribute [local go_sem] Bs.max_fold Bs.min_fold

namespace Gr
def ROverP (m : Nat → Prop) (r : Nat) (TI RH EL NO : Int) (Q : List (Int × Int)) (l : List Int) (w : World) (e : Ending) (w' : World) : Prop :=
  ∃ v, e = .returned v ∧ RowP w v l w' ∧ (∃ lv tv, RD m w' r TI RH EL NO lv tv (Q.map Prod.fst) (Q.map Prod.snd)) ∧ Kp m w w'
def FindZ (L : List Int) (k : Int) (w : World) (e : Ending) (w' : World) : Prop :=
  ∃ kz : Int, e = .returned (.int .i64 kz) ∧ w' = w ∧ ((∃ i : Nat, kz = (i : Int) ∧ i < L.length ∧ L.getD i 0 = k) ∨ (kz = -1 ∧ ∀ j, j < L.length → L.getD j 0 ≠ k))
theorem FindP.z {L : List Int} {k : Int} {w w' : World} {e : Ending} (h : FindP L k w e w') : FindZ L k w e w' := by
  rcases h with ⟨h1, ⟨i, h2, h3, h4, _⟩ | ⟨h2, h3⟩⟩
  · exact ⟨i, h2, h1, .inl ⟨i, rfl, h3, h4⟩⟩
  · exact ⟨-1, h2, h1, .inr ⟨rfl, h3⟩⟩
end Gr

set_option maxRecDepth 100000 in
set_option maxHeartbeats 40000000 in
theorem rdover_ok {m : Nat → Prop} {w : World} {r : Nat} {TI RH EL NO OV : Int} {lv tv : Value} {Q : List (Int × Int)} (h : RD m w r TI RH EL NO lv tv (Q.map Prod.fst) (Q.map Prod.snd)) (hQ : Q.length ≤ 1000) (hnd : (Q.map Prod.fst).Nodup) (a : Option Addr) (N c : Nat) (f : Nat → Int) (k : Int) (hN : N ≤ 1000) (hf : Lss m w a N f)
    (he : 0 ≤ EL ∧ EL ≤ 9223372036854775807) (hn : 0 ≤ NO ∧ NO ≤ 9223372036854775807) (hk : k ≤ 9223372036854775807) (hT : TOk EL (max NO k) (lk Q))
    (hov : ∀ u, Calls Try.prog 27 #[.int .i64 TI, .int .i64 RH] u fun e w' => e = .returned (.int .i64 OV) ∧ u = w') :
    Calls Try.prog 17 #[.pointer (some ⟨r, 0, none⟩), stV (.slice a N c), .int .i64 k] w (ROverP m r TI RH EL (max NO k) Q (srt (pk (isOv OV EL (max NO k) (lk Q)) f N)) w) := by
  have hNi : (N : Int) ≤ 1000 := by omega
  obtain ⟨NW, hNW⟩ : ∃ x, RowKit.Hid (max NO k = x) := ⟨_, Lib.hid rfl⟩
  have hd := (Below.refl w.heap.size w).alloc (Nat.le_refl _) (.cells #[.int .i64 0, .int .i64 0, .int .i64 0, .slice none 0 0, .slice a N c, .slice none 0 0, .slice none 0 0] 44)
  have sb := blk_new w [.int .i64 0, .int .i64 0, .int .i64 0, .slice none 0 0, .slice a N c, .slice none 0 0, .slice none 0 0] 44
  have h1 := h.bel hd
  have hf1 := hf.kp (Kp.of (m := m) hd)
  have kk := Kp.of (m := m) hd
  have hrl := h.b.l
  have c3 := h1.b.c 3 _ rfl
  have f3 := h1.b.f 3
  have h2 := h1.now (max NO k)
  have k2 := kk.setCell (p := ⟨r, 3, none⟩) h1.mr (.int .i64 (max NO k))
  have hf2 := hf1.kp ((Kp.refl m _).setCell (p := ⟨r, 3, none⟩) h1.mr (.int .i64 (max NO k)))
  have sb2 := sb.other (show w.heap.size ≠ r by omega) (.int .i64 (max NO k)) (o := 3)
  have hsW : w.heap.size ≤ ((w.alloc (.cells #[.int .i64 0, .int .i64 0, .int .i64 0, .slice none 0 0, .slice a N c, .slice none 0 0, .slice none 0 0] 44)).setCell ⟨r, 3, none⟩ (.int .i64 (max NO k))).heap.size := by simp
  replace h2 := Lib.hid h2
  replace k2 := Lib.hid k2
  replace hf2 := Lib.hid hf2
  replace sb2 := Lib.hid sb2
  replace hsW := Lib.hid hsW
  replace hov := Lib.hid hov
  replace hnd := Lib.hid hnd
  replace hQ := Lib.hid hQ
  have hNW0 : 0 ≤ NW ∧ NW ≤ 9223372036854775807 := by have := hNW.out; omega
  obtain ⟨e1, e2⟩ := he
  obtain ⟨nw1, nw2⟩ := hNW0
  clear hd sb h1 hf1 kk hrl h hf
  unfold stV
  go_enter Try.func17, Try.ntmps17
  go_upto_region 2 with fail
  clear c3 f3
  generalize (w.alloc (.cells #[.int .i64 0, .int .i64 0, .int .i64 0, .slice none 0 0, .slice a N c, .slice none 0 0, .slice none 0 0] 44)).setCell ⟨r, 3, none⟩ (.int .i64 (max NO k)) = U at h2 k2 hf2 sb2 hsW ⊢
  rw [hNW.out] at h2 hT
  generalize w.heap.size = xb at sb2 ⊢
  replace hT := Lib.hid hT
  go_wp2_with fail
  go_loopg [7, 8, 9, 10, 11, 12, 13] N (fun gg s7 s8 _ _ _ _ _ wr => ∃ (i : Nat) (b1 : Option Addr) (m1 k1 : Nat), s7 = .slice b1 m1 k1 ∧ s8 = .int .i64 (i : Nat) ∧ i ≤ N ∧ N - i ≤ gg ∧ Aside (OwnI wr U.heap.size (.slice b1 m1 k1) (srt (pk (isOv OV EL NW (lk Q)) f i))) ∧ Aside (Below U.heap.size U wr))
  case atStart => exact ⟨0, none, 0, 0, rfl, rfl, Nat.zero_le _, by omega, (by show OwnI _ _ _ (srt []); rw [show srt [] = [] by simp [srt]]; exact ⟨rfl, .inl ⟨rfl, rfl⟩⟩), Below.refl _ _⟩
  case round =>
    obtain ⟨i, b1, m1, k1, rfl, rfl, hi, hgg, hOa, hBa⟩ := hrel
    have hO := hOa.out
    have hB := hBa.out
    clear hOa hBa
    have ii : (i : Int) ≤ (N : Int) := by omega
    have hDx := h2.out.bel hB
    have sx := sb2.out.bel hB
    have s4 := sx.c 4 _ rfl
    by_cases hlt : i < N
    · have ii1 : (i : Int) < (N : Int) := by omega
      obtain ⟨b, off, rfl, hm, hb, hc⟩ := (hf2.out.kp (Kp.of hB)) (by omega)
      obtain ⟨⟨x0, _⟩, hwf⟩ := hc i hlt
      obtain ⟨x, hx⟩ : ∃ x, RowKit.Hid (f i = x) := ⟨_, Lib.hid rfl⟩
      rw [hx.out] at x0 hwf
      have c2 := hDx.b.c 2 _ rfl
      have hfd := (rfind_c hDx x (by simp; have := hQ.out; omega)).mono fun _ _ h => h.z
      replace hfd := Lib.hid hfd
      obtain ⟨wo, rfl⟩ : ∃ wo : World, wo = wr := ⟨_, rfl⟩
      obtain ⟨AT, hAT⟩ : ∃ y, (lk Q x).getD EL = y := ⟨_, rfl⟩
      have hAT2 : 0 ≤ AT ∧ AT ≤ 9223372036854775807 := by
        rw [← hAT]
        cases hq : lk Q x with
        | none => exact ⟨e1, e2⟩
        | some y => exact hT.out x y hq
      obtain ⟨at1, at2⟩ := hAT2
      have hps := pk_succ (isOv OV EL NW (lk Q)) f i
      rw [hx.out] at hps
      have hiv : isOv OV EL NW (lk Q) x = decide (OV ≤ NW - AT) := by unfold isOv; rw [hAT]
      rw [hiv] at hps
      have hpl := pk_len (isOv OV EL NW (lk Q)) f i
      replace hps := Lib.hid hps
      replace hpl := Lib.hid hpl
      replace hDx := Lib.hid hDx
      replace hO := Lib.hid hO
      replace hB := Lib.hid hB
      replace sx := Lib.hid sx
      clear hc hwf hiv
      go_wp2_with fail
      refine hfd.out.mono ?_
      rintro e w' ⟨kz, rfl, rfl, hkz⟩
      clear hfd x0 s4 c2
      go_upto_if 44 with fail
      go_cut [10] from 23 to 107 (fun s10 wx => s10 = .int .i64 AT ∧ w' = wx)
      case first =>
        rcases hkz with ⟨i0, rfl, hi0, he0⟩ | ⟨rfl, hno⟩
        · have c5 := hDx.out.b.c 5 _ rfl
          have hat := lk_at hnd.out (by simpa using hi0) he0
          rw [hat, Option.getD_some] at hAT
          have hi1 : i0 < (Q.map Prod.snd).length := by simpa using hi0
          obtain ⟨T, hTT⟩ : ∃ T, Q.map Prod.snd = T := ⟨_, rfl⟩
          have ht := hDx.out.t
          rw [hTT] at hAT ht hi1
          obtain ⟨a2, n2, p2, rfl, hq2⟩ := ht.slice
          obtain ⟨g2, rfl, hp1, hp2⟩ := ht.ptr (by omega)
          have z1 := ht.at (g := g2) rfl hi1
          rw [hAT] at z1
          have z2 : (i0 : Int) < (n2 : Int) := by omega
          have z3 : (n2 : Int) ≤ (p2 : Int) := by omega
          have z4 : (0 : Int) ≤ (i0 : Int) := by omega
          replace hat := Lib.hid hat
          replace hTT := Lib.hid hTT
          replace hAT := Lib.hid hAT
          replace he0 := Lib.hid he0
          clear ht hq2 hp1
          go_wp2_with fail
          go_meet
          case rel => exact ⟨rfl, rfl⟩
        · have hat := lk_none' hno
          rw [hat, Option.getD_none] at hAT
          subst hAT
          replace hat := Lib.hid hat
          clear hno
          go_wp2_with fail
          go_meet
          case rel => exact ⟨rfl, rfl⟩
      obtain ⟨rfl, rfl⟩ := hcut
      replace hAT := Lib.hid hAT
      replace hkz := Lib.hid hkz
      have c0 := hDx.out.b.c 0 _ rfl
      have c1 := hDx.out.b.c 1 _ rfl
      have c3 := hDx.out.b.c 3 _ rfl
      have s1 := IntWalk.i64_in (NW - AT) (by omega)
      go_upto_region 11 with fail
      refine wp_region_noPanic ?_
      refine Stg.wp_region_L [] (Bs.SB w') (by kernel_rfl) (fun _ => (Below.refl _ _).drew) (fun hHeld => ?_)
      refine Stg.wpAnyL_start (n' := 16) (l' := #[false, false, false, false, false, false, false, false, false, false, false, false, false, false, false, false]) (by kernel_rfl) (by kernel_rfl) ?_
      refine Stg.wpAnyL_free (i := 0) (v := ?_) 0 rfl (by kernel_rfl) (by kernel_rfl) (by kernel_rfl) (by kernel_rfl) (by kernel_rfl) (fun _ _ _ h => h) (Or.inl ⟨by kernel_rfl, ?_⟩) (by assumption) ?_
      rotate_left
      · intro u _
        try simp only [List.getElem_toArray, List.getElem_cons_succ, List.getElem_cons_zero]
        go_simp
        try with_reducible rfl
      try simp only [Act.put, List.setIfInBounds_toArray, List.set_cons_zero, List.set_cons_succ]
      refine Stg.wpAnyL_free (i := 1) (v := ?_) 0 rfl (by kernel_rfl) (by kernel_rfl) (by kernel_rfl) (by kernel_rfl) (by kernel_rfl) (fun _ _ _ h => h) (Or.inl ⟨by kernel_rfl, ?_⟩) (by assumption) ?_
      rotate_left
      · intro u _
        try simp only [List.getElem_toArray, List.getElem_cons_succ, List.getElem_cons_zero]
        go_simp
        try with_reducible rfl
      try simp only [Act.put, List.setIfInBounds_toArray, List.set_cons_zero, List.set_cons_succ]
      refine Stg.wpAnyL_free (i := 2) (v := ?_) 0 rfl (by kernel_rfl) (by kernel_rfl) (by kernel_rfl) (by kernel_rfl) (by kernel_rfl) (fun _ _ _ h => h) (Or.inl ⟨by kernel_rfl, ?_⟩) (by assumption) ?_
      rotate_left
      · intro u _
        try simp only [List.getElem_toArray, List.getElem_cons_succ, List.getElem_cons_zero]
        go_simp
        try with_reducible rfl
      try simp only [Act.put, List.setIfInBounds_toArray, List.set_cons_zero, List.set_cons_succ]
      refine Stg.wpAnyL_start (n' := 13) (l' := #[true, true, true, false, false, false, false, false, false, false, false, false, false, false, false, false]) (by kernel_rfl) (by kernel_rfl) ?_
      refine Stg.wpAnyL_take (i := 3) (v := ?_) [5, 15] 0 rfl (by kernel_rfl) (by kernel_rfl) (by kernel_rfl) (by kernel_rfl) (by kernel_rfl) (fun _ _ _ h => h) (Or.inl ⟨by kernel_rfl, ?_⟩) (by assumption) ?_
      rotate_left
      · intro u hSu
        skip
        have sB := hSu rfl
        have y0 := cellB sB c0
        have y1 := cellB sB c1
        have y2 := cellB sB c3
        try simp only [List.getElem_toArray, List.getElem_cons_succ, List.getElem_cons_zero]
        go_simp
        try with_reducible rfl
      try simp only [Act.put, List.setIfInBounds_toArray, List.set_cons_zero, List.set_cons_succ]
      refine Stg.wpAnyL_free (i := 4) (v := ?_) 0 rfl (by kernel_rfl) (by kernel_rfl) (by kernel_rfl) (by kernel_rfl) (by kernel_rfl) (fun _ _ _ h => h) (Or.inl ⟨by kernel_rfl, ?_⟩) (by assumption) ?_
      rotate_left
      · intro u _
        try simp only [List.getElem_toArray, List.getElem_cons_succ, List.getElem_cons_zero]
        go_simp
        try with_reducible rfl
      try simp only [Act.put, List.setIfInBounds_toArray, List.set_cons_zero, List.set_cons_succ]
      refine Stg.wpAnyL_free (i := 5) (v := ?_) 0 rfl (by kernel_rfl) (by kernel_rfl) (by kernel_rfl) (by kernel_rfl) (by kernel_rfl) (fun _ _ _ h => h) (Or.inl ⟨by kernel_rfl, ?_⟩) (by assumption) ?_
      rotate_left
      · intro u _
        try simp only [List.getElem_toArray, List.getElem_cons_succ, List.getElem_cons_zero]
        go_simp
        try with_reducible rfl
      try simp only [Act.put, List.setIfInBounds_toArray, List.set_cons_zero, List.set_cons_succ]
      refine Stg.wpAnyL_start (n' := 10) (l' := #[true, true, true, true, true, true, false, false, false, false, false, false, false, false, false, false]) (by kernel_rfl) (by kernel_rfl) ?_
      refine Stg.wpAnyL_free (i := 6) (v := ?_) 0 rfl (by kernel_rfl) (by kernel_rfl) (by kernel_rfl) (by kernel_rfl) (by kernel_rfl) (fun _ _ _ h => h) (Or.inl ⟨by kernel_rfl, ?_⟩) (by assumption) ?_
      rotate_left
      · intro u _
        try simp only [List.getElem_toArray, List.getElem_cons_succ, List.getElem_cons_zero]
        go_simp
        try with_reducible rfl
      try simp only [Act.put, List.setIfInBounds_toArray, List.set_cons_zero, List.set_cons_succ]
      refine Stg.wpAnyL_free (i := 7) (v := ?_) 0 rfl (by kernel_rfl) (by kernel_rfl) (by kernel_rfl) (by kernel_rfl) (by kernel_rfl) (fun _ _ _ h => h) (Or.inl ⟨by kernel_rfl, ?_⟩) (by assumption) ?_
      rotate_left
      · intro u _
        try simp only [List.getElem_toArray, List.getElem_cons_succ, List.getElem_cons_zero]
        go_simp
        try with_reducible rfl
      try simp only [Act.put, List.setIfInBounds_toArray, List.set_cons_zero, List.set_cons_succ]
      refine Stg.wpAnyL_free (i := 8) (v := ?_) 0 rfl (by kernel_rfl) (by kernel_rfl) (by kernel_rfl) (by kernel_rfl) (by kernel_rfl) (fun _ _ _ h => h) (Or.inl ⟨by kernel_rfl, ?_⟩) (by assumption) ?_
      rotate_left
      · intro u _
        try simp only [List.getElem_toArray, List.getElem_cons_succ, List.getElem_cons_zero]
        go_simp
        try with_reducible rfl
      try simp only [Act.put, List.setIfInBounds_toArray, List.set_cons_zero, List.set_cons_succ]
      refine Stg.wpAnyL_start (n' := 7) (l' := #[true, true, true, true, true, true, true, true, true, false, false, false, false, false, false, false]) (by kernel_rfl) (by kernel_rfl) ?_
      refine Stg.wpAnyL_take (i := 9) (v := ?_) [14, 15] 0 rfl (by kernel_rfl) (by kernel_rfl) (by kernel_rfl) (by kernel_rfl) (by kernel_rfl) (fun _ _ _ h => h) (Or.inl ⟨by kernel_rfl, ?_⟩) (by assumption) ?_
      rotate_left
      · intro u hSu
        skip
        have sB := hSu rfl
        have y0 := cellB sB c0
        have y1 := cellB sB c1
        have y2 := cellB sB c3
        try simp only [List.getElem_toArray, List.getElem_cons_succ, List.getElem_cons_zero]
        go_simp
        try with_reducible rfl
      try simp only [Act.put, List.setIfInBounds_toArray, List.set_cons_zero, List.set_cons_succ]
      refine Stg.wpAnyL_free (i := 10) (v := ?_) 0 rfl (by kernel_rfl) (by kernel_rfl) (by kernel_rfl) (by kernel_rfl) (by kernel_rfl) (fun _ _ _ h => h) (Or.inl ⟨by kernel_rfl, ?_⟩) (by assumption) ?_
      rotate_left
      · intro u _
        try simp only [List.getElem_toArray, List.getElem_cons_succ, List.getElem_cons_zero]
        go_simp
        try with_reducible rfl
      try simp only [Act.put, List.setIfInBounds_toArray, List.set_cons_zero, List.set_cons_succ]
      refine Stg.wpAnyL_free (i := 11) (v := ?_) 0 rfl (by kernel_rfl) (by kernel_rfl) (by kernel_rfl) (by kernel_rfl) (by kernel_rfl) (fun _ _ _ h => h) (Or.inl ⟨by kernel_rfl, ?_⟩) (by assumption) ?_
      rotate_left
      · intro u _
        try simp only [List.getElem_toArray, List.getElem_cons_succ, List.getElem_cons_zero]
        go_simp
        try with_reducible rfl
      try simp only [Act.put, List.setIfInBounds_toArray, List.set_cons_zero, List.set_cons_succ]
      refine Stg.wpAnyL_start (n' := 4) (l' := #[true, true, true, true, true, true, true, true, true, true, true, true, false, false, false, false]) (by kernel_rfl) (by kernel_rfl) ?_
      refine Stg.wpAnyL_free (i := 12) (v := ?_) 0 rfl (by kernel_rfl) (by kernel_rfl) (by kernel_rfl) (by kernel_rfl) (by kernel_rfl) (fun _ _ _ h => h) (Or.inl ⟨by kernel_rfl, ?_⟩) (by assumption) ?_
      rotate_left
      · intro u _
        try simp only [List.getElem_toArray, List.getElem_cons_succ, List.getElem_cons_zero]
        go_simp
        try with_reducible rfl
      try simp only [Act.put, List.setIfInBounds_toArray, List.set_cons_zero, List.set_cons_succ]
      refine Stg.wpAnyL_take (i := 13) (v := ?_) [14, 15] 0 rfl (by kernel_rfl) (by kernel_rfl) (by kernel_rfl) (by kernel_rfl) (by kernel_rfl) (fun _ _ _ h => h) (Or.inl ⟨by kernel_rfl, ?_⟩) (by assumption) ?_
      rotate_left
      · intro u hSu
        skip
        have sB := hSu rfl
        have y0 := cellB sB c0
        have y1 := cellB sB c1
        have y2 := cellB sB c3
        try simp only [List.getElem_toArray, List.getElem_cons_succ, List.getElem_cons_zero]
        go_simp
        try with_reducible rfl
      try simp only [Act.put, List.setIfInBounds_toArray, List.set_cons_zero, List.set_cons_succ]
      refine Stg.wpAnyL_one (i := 14) 0 rfl (by kernel_rfl) (by kernel_rfl) (fun K hK => ?_)
      try simp only [List.getElem_toArray, List.getElem_cons_succ, List.getElem_cons_zero]
      go_simp
      refine (hov.out _).mono ?_
      rintro e u3 ⟨rfl, rfl⟩
      have hb1 := Below.refl w'.drew.heap.size w'.drew
      refine hK.out _ _ ?_ (fun hHeld1 => ?_)
      · exact fun _ => bNext (hHeld rfl) hb1 (Nat.le_refl _)
      clear hK K
      try simp only [Act.put, List.setIfInBounds_toArray, List.set_cons_zero, List.set_cons_succ]
      refine Stg.wpAnyL_start (n' := 1) (l' := #[true, true, true, true, true, true, true, true, true, true, true, true, true, true, true, false]) (by kernel_rfl) (by kernel_rfl) ?_
      refine Stg.wpAnyL_free (i := 15) (v := ?_) 0 rfl (by kernel_rfl) (by kernel_rfl) (by kernel_rfl) (by kernel_rfl) (by kernel_rfl) (fun _ _ _ h => h) (Or.inl ⟨by kernel_rfl, ?_⟩) (by assumption) ?_
      rotate_left
      · intro u _
        try simp only [List.getElem_toArray, List.getElem_cons_succ, List.getElem_cons_zero]
        go_simp
        try with_reducible rfl
      try simp only [Act.put, List.setIfInBounds_toArray, List.set_cons_zero, List.set_cons_succ]
      refine Stg.wpAnyL_done (by kernel_rfl) ?_ _
      try simp only [List.getElem_toArray, List.getElem_cons_succ, List.getElem_cons_zero]
      try simp only [Act.put, List.setIfInBounds_toArray, List.set_cons_zero, List.set_cons_succ]
      refine NoPanic.normal ?_
      have hO2 := Lib.hid (hO.out.bel ((Below.refl _ _).drew))
      have hB2 := Lib.hid (bNext hB.out ((Below.refl w'.heap.size w').drew) (Nat.le_refl _))
      have hlen : (srt (pk (isOv OV EL NW (lk Q)) f i)).length ≤ 1000 := by rw [srt_len]; have := hpl.out; omega
      clear c0 c1 c3 hO hB hDx sx hHeld
      try clear hHeld1 hb1
      generalize w'.drew = V at hO2 hB2 ⊢
      obtain ⟨l, hl⟩ : ∃ l, pk (isOv OV EL NW (lk Q)) f i = l := ⟨_, rfl⟩
      rw [hl] at hO2 hlen hps
      by_cases hyes : OV ≤ NW - AT
      · have hps2 : pk (isOv OV EL NW (lk Q)) f (i + 1) = l ++ [x] := by rw [hps.out, if_pos (by simpa using hyes)]
        have hno2 : decide (NW - AT < OV) = false := by simp; omega
        replace hl := Lib.hid hl
        replace hps2 := Lib.hid hps2
        have hV := Lib.hid (hO2.out.bel ((Below.refl _ _).alloc (Nat.le_refl _) (.cells #[.int .i64 x] 3)))
        have hsz := Lib.hid (show U.heap.size ≤ (V.alloc (.cells #[.int .i64 x] 3)).heap.size by have := hB2.out.size; simp; omega)
        have hlz := Lib.hid (show (srt l).length ≤ 1000000 by omega)
        replace hlen := Lib.hid hlen
        go_upto_region 13 with (at_builtin; refine wpList_app1 rfl _ _ rfl U.heap.size (.slice b1 m1 k1) (srt l) (by rfl) hV.out hsz.out (by rfl) x ((blk_new V [.int .i64 x] 3).c 0 _ rfl) hlz.out ?_; intro a5 n5 p5 w5 hown5 hgrow5 hor5; have hB5 := Lib.hid ((hB2.out.alloc (by have := hB2.out.size; omega) (.cells #[.int .i64 x] 3)).grown hgrow5 hsz.out (fun q hq => (hO2.out.lt q hq).1)); have hO5 := Lib.hid hown5; clear hown5 hgrow5 hor5 hV hsz)
        obtain ⟨g5, rfl, hp5, hp5z⟩ := hO5.out.ptr (by simp)
        have hn5 : n5 = l.length + 1 := by
          have := hO5.out.1
          obtain ⟨_, _, _, e, e3⟩ := hO5.out.slice
          cases e
          rw [e3, List.length_append, srt_len]; rfl
        have hl5 : l.length ≤ 1000 := by have := hlen.out; rwa [srt_len] at this
        have hn5z : (n5 : Int) = (l.length : Int) + 1 := by omega
        have hn5b : (n5 : Int) ≤ (p5 : Int) := by omega
        have hn5c : (l.length : Int) ≤ 1000 := by omega
        replace hn5 := Lib.hid hn5
        obtain ⟨ln, hln⟩ : ∃ ln, RowKit.Hid (l.length = ln) := ⟨_, Lib.hid rfl⟩
        rw [hln.out] at hn5z hn5c
        have n5a : (n5 : Int) - 1 = (ln : Int) := by omega
        have n5w := IntWalk.i64_in ((n5 : Int) - 1) (by omega)
        have n5l : (ln : Int) < (n5 : Int) := by omega
        replace hn5z := Lib.hid hn5z
        clear hO2 hB2 hp5 hlz
        go_wp2_with fail
        go_loopw [12, 13] (fun s12 _ wx => ∃ (A C : List Int) (jn : Nat), s12 = .int .i64 (jn : Nat) ∧ RowKit.Hid (jn = A.length) ∧ RowKit.Hid (A ++ C = srt l) ∧ RowKit.Hid (∀ c ∈ C, x < c) ∧ RowKit.Hid (OwnI wx U.heap.size (.slice (some ⟨g5, 0, none⟩) n5 p5) (A ++ x :: C)) ∧ RowKit.Hid (Below U.heap.size U wx)) (fun s12 _ _ => (intOf s12).toNat)
        case atStart => exact ⟨srt l, [], ln, by first | rfl | (rw [n5a]), Lib.hid (by rw [srt_len, hln.out]), Lib.hid (by simp), Lib.hid (by simp), Lib.hid hO5.out, Lib.hid hB5.out⟩
        case round =>
          obtain ⟨A, C, jn, rfl, hjn, hAC, hC, hOx, hBx⟩ := hrel
          obtain ⟨wz, rfl⟩ : ∃ wz : World, wz = wr := ⟨_, rfl⟩
          have hlAC : A.length + C.length = ln := by rw [← hln.out, ← srt_len l, ← hAC.out, List.length_append]
          clear hO5 hB5
          have hcc : A = [] ∨ ∃ A' y, A = A' ++ [y] := by
            rcases List.eq_nil_or_concat A with h | ⟨A', y, h⟩
            · exact .inl h
            · exact .inr ⟨A', y, by rw [h, List.concat_eq_append]⟩
          rcases hcc with rfl | ⟨A', y, rfl⟩
          · obtain rfl : jn = 0 := hjn.out
            have hfin := srt_ins hAC.out hC.out (by simp)
            have hOf := hOx.out
            rw [hfin] at hOf
            replace hOf := Lib.hid hOf
            replace hfin := Lib.hid hfin
            clear hlAC
            have k9 : decide ((0 : Int) < ((0 : Nat) : Int)) = false := by simp
            go_upto_region 14 with fail
            go_big_quiet (fail)
            have hOy := hOf.out.bel (bDrew (Below.refl wz.heap.size wz) nq)
            have hBy := bNext hBx.out (bDrew (Below.refl wz.heap.size wz) nq) (Nat.le_refl _)
            clear hOf
            generalize wz.drewN nq = wy at hOy hBy ⊢
            rw [← hps2.out] at hOy
            replace hOy := Lib.hid hOy
            replace hBy := Lib.hid hBy
            go_wp2_with fail
            go_roundg (N - (i + 1))
            case measure => omega
            case rel => exact ⟨i + 1, _, _, _, rfl, by go_num, by omega, by omega, hOy.out, hBy.out⟩
          · have hj2 : jn = A'.length + 1 := by have := hjn.out; simpa using this
            obtain ⟨a', ha'⟩ : ∃ a', A'.length = a' := ⟨_, rfl⟩
            rw [ha'] at hj2
            subst hj2
            have hAl : a' + 1 + C.length = ln := by rw [← ha']; simp at hlAC; omega
            have e5 : ((a' + 1 : Nat) : Int) = (a' : Int) + 1 := by omega
            rw [e5]
            have y1 := hOx.out.at (g := g5) rfl (i := a' + 1) (by simp [ha'])
            have y2 := hOx.out.at (g := g5) rfl (i := a') (by simp [ha'])
            rw [show (A' ++ [y] ++ x :: C).getD (a' + 1) 0 = x by rw [show a' + 1 = (A' ++ [y]).length by simp [ha']]; exact get_mid] at y1
            rw [show (A' ++ [y] ++ x :: C).getD a' 0 = y by rw [← ha']; exact get_last] at y2
            have g1 := hOx.out.fro (a' + 1)
            have g2 := hOx.out.fro a'
            have k1 : ((a' : Int) + 1).toNat = a' + 1 := by omega
            have k2' : (0 : Int) ≤ (a' : Int) + 1 := by omega
            have k3 : (a' : Int) + 1 < (n5 : Int) := by have := hn5z.out; omega
            have k4 : (a' : Int) < (n5 : Int) := by omega
            have k5 : (0 : Int) < (a' : Int) + 1 := by omega
            have k6 : (a' : Int) + 1 - 1 = (a' : Int) := by omega
            have k7 := IntWalk.i64_in ((a' : Int) + 1 - 1) (by omega)
            have k8 : (a' : Int) ≤ 1000 := by omega
            have k9 : decide ((0 : Int) < (a' : Int) + 1) = true := decide_eq_true k5
            clear e5 hlAC hAl
            by_cases hxy : x < y
            · have hxyb : decide (x < y) = true := by simpa using hxy
              have hAC6 : A' ++ (y :: C) = srt l := by rw [← hAC.out]; simp
              have hC6 : ∀ c ∈ y :: C, x < c := fun c hc => by
                rcases List.mem_cons.1 hc with rfl | hc
                · exact hxy
                · exact hC.out c hc
              replace hAC6 := Lib.hid hAC6
              replace hC6 := Lib.hid hC6
              have hs1 : (A' ++ [y] ++ x :: C).length = a' + 1 + 1 + C.length := by simp [ha']; omega
              replace hs1 := Lib.hid hs1
              replace ha' := Lib.hid ha'
              replace hxy := Lib.hid hxy
              go_upto_region 14 with fail
              go_big_quiet (fail)
              have hOy := hOx.out.bel (bDrew (Below.refl wz.heap.size wz) nq)
              have hBy := bNext hBx.out (bDrew (Below.refl wz.heap.size wz) nq) (Nat.le_refl _)
              clear y1 y2 g1 g2
              generalize wz.drewN nq = wy at hOy hBy ⊢
              have y1 := hOy.at (g := g5) rfl (i := a' + 1) (by rw [hs1.out]; omega)
              have y2 := hOy.at (g := g5) rfl (i := a') (by rw [hs1.out]; omega)
              rw [show (A' ++ [y] ++ x :: C).getD (a' + 1) 0 = x by rw [show a' + 1 = (A' ++ [y]).length by simp [ha'.out]]; exact get_mid] at y1
              rw [show (A' ++ [y] ++ x :: C).getD a' 0 = y by rw [← ha'.out]; exact get_last] at y2
              have g1 := hOy.fro (a' + 1)
              have g2 := hOy.fro a'
              have hO6 : OwnI ((wy.setCell ⟨g5, a' + 1, none⟩ (.int .i64 y)).setCell ⟨g5, a', none⟩ (.int .i64 x)) U.heap.size (.slice (some ⟨g5, 0, none⟩) n5 p5) (A' ++ x :: y :: C) := by
                have q1 := (hOy.set (i := a' + 1) (by rw [hs1.out]; omega) y).set (i := a') (by rw [List.length_set, hs1.out]; omega) x
                rw [← ha'.out, set_swap] at q1
                rw [← ha'.out]
                exact q1
              have hg5 := (hOy.lt g5 rfl).1
              have hB6 := (hBy.setCell (p := ⟨g5, a' + 1, none⟩) hg5 (.int .i64 y)).setCell (p := ⟨g5, a', none⟩) hg5 (.int .i64 x)
              replace hO6 := Lib.hid hO6
              replace hB6 := Lib.hid hB6
              clear hOy hBy hg5
              go_wp2_with fail
              go_roundw
              case rel => exact ⟨A', y :: C, a', by first | rfl | go_num | simp, Lib.hid ha'.out.symm, Lib.hid hAC6.out, Lib.hid hC6.out, Lib.hid hO6.out, Lib.hid hB6.out⟩
              case measure => simp [intOf]
            · have hxyb : decide (x < y) = false := by simpa using hxy
              have hA5 : ∀ z ∈ A' ++ [y], z ≤ x := fun z hz => by
                have hs := srt_sorted l
                rw [← hAC.out] at hs
                have hs2 := (List.pairwise_append.1 (List.pairwise_append.1 hs).1)
                rcases List.mem_append.1 hz with hz | hz
                · have := hs2.2.2 z hz y (by simp); omega
                · have : z = y := by simpa using hz
                  omega
              have hfin := srt_ins hAC.out hC.out hA5
              have hOf := hOx.out
              rw [hfin] at hOf
              replace hOf := Lib.hid hOf
              replace hfin := Lib.hid hfin
              replace ha' := Lib.hid ha'
              replace hxy := Lib.hid hxy
              clear hA5
              go_upto_region 14 with fail
              go_big_quiet (fail)
              have hOy := hOf.out.bel (bDrew (Below.refl wz.heap.size wz) nq)
              have hBy := bNext hBx.out (bDrew (Below.refl wz.heap.size wz) nq) (Nat.le_refl _)
              clear y1 y2 g1 g2 hOf
              generalize wz.drewN nq = wy at hOy hBy ⊢
              rw [← hps2.out] at hOy
              replace hOy := Lib.hid hOy
              replace hBy := Lib.hid hBy
              go_wp2_with fail
              go_roundg (N - (i + 1))
              case measure => omega
              case rel => exact ⟨i + 1, _, _, _, rfl, by go_num, by omega, by omega, hOy.out, hBy.out⟩
      · have hps2 : pk (isOv OV EL NW (lk Q)) f (i + 1) = l := by rw [hps.out, if_neg (by simpa using hyes), List.append_nil]
        have hno2 : decide (NW - AT < OV) = true := by simp; omega
        have hno3 : NW - AT < OV := by omega
        replace hl := Lib.hid hl
        replace hps2 := Lib.hid hps2
        replace hyes := Lib.hid hyes
        go_wp2_with fail
        go_roundg (N - (i + 1))
        case measure => omega
        case rel => exact ⟨i + 1, b1, m1, k1, rfl, by go_num, by omega, by omega, (by rw [hps2.out]; exact hO2.out), hB2.out⟩
    · obtain rfl : i = N := by omega
      have h3 := Lib.hid hDx
      have k3 := Lib.hid (k2.out.trans (Kp.of hB))
      have r3 : RowP U _ _ wr := OwnI.tell hO
      replace hO := Lib.hid hO
      clear hDx sx
      go_wp2_with fail
      go_ret
      have hnw := hNW.out
      subst hnw
      refine ⟨_, rfl, ?_, ⟨_, _, h3.out⟩, k3.out⟩
      obtain ⟨aa, cc, ee, hh⟩ := r3
      exact ⟨aa, cc, ee, fun hp => by
        obtain ⟨g, q1, q2, q3⟩ := hh hp
        exact ⟨g, q1, Nat.le_trans hsW.out q2, q3⟩⟩
end Go.Proofs.Ytifohibpcngakaa
