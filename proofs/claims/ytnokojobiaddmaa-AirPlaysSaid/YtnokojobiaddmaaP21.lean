/- The document: ways are cut and mended. -/
import Derived.Test.YtnokojobiaddmaaP20
namespace Go.Proofs.Ytnokojobiaddmaa
open Go.ChangeShapes Go.WideShapes Go.ChangeAt Go.RowKit Go.Maps
set_option linter.unusedVariables false
set_option linter.unusedSimpArgs false
open BigFrame Bs By Am Ar

namespace Ar
theorem RF.setCuts {m : Nat} {w : World} {g base base' : Nat} {lv cv v : Value} {l : List RM} {ps' : List (Int × Int)} (h : RA 52 cv w g base lv l) (ge : m ≤ g) (hown : w.ownsRow base' 80 2 v ps'.length (rowP ps')) (hb : base ≤ base') :
    RF m (w.setCell ⟨g, 1, none⟩ v) g base lv l v ps' ∧ Fx [g] nilV nilV w (w.setCell ⟨g, 1, none⟩ v) := by
  have hne : lv.ownBlock ≠ some g := fun e => by have := (h.own.lt g e).1; have := h.h1; omega
  refine ⟨⟨⟨?_, ?_, h.h1, by have := h.h6; simpa using this⟩, ?_, ge⟩, ⟨(Below.refl _ _).setCell (Nat.zero_le _) _, fun b hb h1 h3 => Below.heap_setCell w ⟨g, 1, none⟩ v b (fun e => h1 (by simp [e])), fun b hb h3 => h3⟩⟩
  · exact heap_set (o := 1) (v := v) h.hg
  · exact ownsRow_setCell_below h.own (a := ⟨g, 1, none⟩) h.h1 _
  · exact ownsRow_setCell_below (own_mono hown hb) (a := ⟨g, 1, none⟩) h.h1 _
end Ar

set_option maxRecDepth 100000 in
set_option maxHeartbeats 8000000 in
theorem rmend_c {m : Nat} {w : World} {g base : Nat} {lv cv : Value} {l : List RM} {ps : List (Int × Int)} (h : RF m w g base lv l cv ps) (f t : Int) (hf : 1 ≤ f ∧ f ≤ 255) (ht : 1 ≤ t ∧ t ≤ 255) (hn : ps.length ≤ 5000) :
    Calls Try.prog 33 #[.pointer (some ⟨g, 0, none⟩), .int .i64 f, .int .i64 t] w (CutP m g base lv l (ps.filter (keepP f t)) w) := by
  obtain ⟨i0, hi0, hz0, hz1, hz2⟩ := info_parts info_pair
  have af := fun W => raddress_yes f W hf.1 hf.2
  have at' := fun W => raddress_yes t W ht.1 ht.2
  obtain ⟨a, cap, rfl⟩ := own_shape h.k
  have hcw := h.ra.c1
  have hcf := h.ra.f 1
  have hg := h.ra.lt
  have hbs := h.ra.h6
  obtain ⟨N, hN⟩ : ∃ N, ps.length = N := ⟨_, rfl⟩
  rw [hN] at hcw hn
  have hnz : (N : Int) ≤ 5000 := by omega
  replace h := Lib.hid h
  replace hN := Lib.hid hN
  clear hf ht
  go_enter Try.func33, Try.ntmps33
  go_wp2_with fail
  refine (af _).mono ?_
  rintro e w' ⟨rfl, rfl⟩
  go_wp2_with fail
  refine (at' _).mono ?_
  rintro e w' ⟨rfl, rfl⟩
  clear af at'
  go_wp2_with fail
  go_loopw [7, 8] (fun v i wr => ∃ k : Nat, k ≤ N ∧ i = .int .i64 (k : Nat) ∧ wr.ownsRow w.heap.size 80 2 v ((ps.take k).filter (keepP f t)).length (rowP ((ps.take k).filter (keepP f t))) ∧ Below w.heap.size w wr) (fun _ i _ => N - (intOf i).toNat)
  case atStart => exact ⟨0, by omega, rfl, World.ownsRow_nil _ _ _ _, Below.refl _ _⟩
  case round =>
    obtain ⟨k, hk, rfl, hown, hB⟩ := hrel
    have hfl : ((ps.take k).filter (keepP f t)).length ≤ 5000 := by
      have h1 := List.length_filter_le (keepP f t) (ps.take k)
      have h2 := List.length_take_le k ps
      omega
    have hsz := hB.size
    have c1 := (hB.cell (p := ⟨g, 1, none⟩) hg).trans hcw
    have cf := (hB.frozen (p := ⟨g, 1, none⟩) hg).trans hcf
    by_cases hlt : k < N
    · have hlt' : (k : Int) < (N : Int) := by omega
      have hk0 : (0 : Int) ≤ (k : Int) := by omega
      obtain ⟨p, hp⟩ : ∃ p, ps[k]? = some p := ⟨_, List.getElem?_eq_getElem (show k < ps.length by have := hN.out; omega)⟩
      obtain ⟨q, rfl, y0, y1⟩ := own_pair (by have := h.out.k; rw [hN.out] at this; exact this) hp hN.out
      replace y0 := cellB hB y0
      replace y1 := cellB hB y1
      have hts := take_snocP hp
      obtain ⟨pf, pt⟩ := p
      simp only at y0 y1
      have hw0 : w.heap.size ≤ (wr.alloc (.cells #[.int .i64 pf, .int .i64 pt] 80)).heap.size := by simp; omega
      have hnew := Lib.hid (World.news_of_block (heap_alloc_new wr (.cells #[.int .i64 pf, .int .i64 pt] 80)))
      have hB4 := Lib.hid (hB.alloc hsz (.cells #[.int .i64 pf, .int .i64 pt] 80))
      have hown4 := Lib.hid (hown.alloc (.cells #[.int .i64 pf, .int .i64 pt] 80))
      have hbl := Lib.hid (fun q hq => (hown.lt q hq).1)
      by_cases e1 : pf = f ∧ pt = t
      · obtain ⟨rfl, rfl⟩ := e1
        have hfin : ((ps.take (k + 1)).filter (keepP pf pt)) = ((ps.take k).filter (keepP pf pt)) := by rw [hts, List.filter_append]; simp [keepP]
        rw [← hfin] at hown
        replace hown := Lib.hid hown
        replace hB := Lib.hid hB
        clear hfin hts hp hnew hB4 hown4 hfl hbl
        go_wp2_with fail
        go_roundw
        case rel => exact ⟨k + 1, by omega, by go_num, hown.out, hB.out⟩
        case measure => simp [intOf]; omega
      · have hkp : keepP f t (pf, pt) = true := by
          unfold keepP
          by_cases h1 : pf = f
          · have : pt ≠ t := fun h2 => e1 ⟨h1, h2⟩
            simp [this]
          · simp [h1]
        have hfin : ((ps.take (k + 1)).filter (keepP f t)) = ((ps.take k).filter (keepP f t)) ++ [(pf, pt)] := by rw [hts, List.filter_append]; simp [hkp]
        replace hfin := Lib.hid hfin
        replace hown := Lib.hid hown
        replace hB := Lib.hid hB
        obtain ⟨M, hM⟩ : ∃ M, ((ps.take k).filter (keepP f t)).length = M := ⟨_, rfl⟩
        rw [hM] at hfl hown4
        replace hM := Lib.hid hM
        clear hts hp hkp
        by_cases h1 : pf = f
        · have h2b : (pt != t) = true := by simp; exact fun h2 => e1 ⟨h1, h2⟩
          subst h1
          clear e1
          go_wp2_with (at_builtin; refine wpList_append_src rfl _ _ 50 (by rfl) w.heap.size 80 i0 _ 2 16 Try.underlying50 hi0 hz0 hz1 hz2 (by rfl) (by omega) _ _ _ (by rfl) hown4.out (some ⟨wr.heap.size, 0, none⟩) 1 1 (cellsP (pf, pt)) (by rfl) (by rfl) (fun _ => ⟨_, rfl, hnew.out⟩) (cellsP_one _) (by unfold maxLen; omega) (by omega) (by simp; omega) ?_; intro v5 w5 hown5 hgrow5 hat5)
          have hB5 := Lib.hid (hB4.out.grown hgrow5 hw0 hbl.out)
          have hR5 := Lib.hid (show w5.ownsRow w.heap.size 80 2 v5 ((ps.take (k + 1)).filter (keepP pf t)).length (rowP ((ps.take (k + 1)).filter (keepP pf t))) by rw [hfin.out, rowP_snoc, List.length_append, hM.out]; exact hown5)
          clear hown5 hgrow5 hat5 y0 y1 hnew
          go_wp2_with fail
          go_roundw
          case rel => exact ⟨k + 1, by omega, by go_num, hR5.out, hB5.out⟩
          case measure => simp [intOf]; omega
        · have h1b : (pf != f) = true := by simpa using h1
          clear e1 h1
          go_wp2_with (at_builtin; refine wpList_append_src rfl _ _ 50 (by rfl) w.heap.size 80 i0 _ 2 16 Try.underlying50 hi0 hz0 hz1 hz2 (by rfl) (by omega) _ _ _ (by rfl) hown4.out (some ⟨wr.heap.size, 0, none⟩) 1 1 (cellsP (pf, pt)) (by rfl) (by rfl) (fun _ => ⟨_, rfl, hnew.out⟩) (cellsP_one _) (by unfold maxLen; omega) (by omega) (by simp; omega) ?_; intro v5 w5 hown5 hgrow5 hat5)
          have hB5 := Lib.hid (hB4.out.grown hgrow5 hw0 hbl.out)
          have hR5 := Lib.hid (show w5.ownsRow w.heap.size 80 2 v5 ((ps.take (k + 1)).filter (keepP f t)).length (rowP ((ps.take (k + 1)).filter (keepP f t))) by rw [hfin.out, rowP_snoc, List.length_append, hM.out]; exact hown5)
          clear hown5 hgrow5 hat5 y0 y1 hnew
          go_wp2_with fail
          go_roundw
          case rel => exact ⟨k + 1, by omega, by go_num, hR5.out, hB5.out⟩
          case measure => simp [intOf]; omega
    · obtain rfl : k = N := by omega
      have htk : ps.take k = ps := List.take_of_length_le (by rw [hN.out]; exact Nat.le_refl _)
      rw [htk] at hown hfl
      obtain ⟨a', cap', rfl⟩ := own_shape hown
      have hR := RF.setCuts (h.out.bel hB).ra h.out.ge hown hbs
      have hfx := Lib.hid (hR.2.pre hB)
      have hR1 := Lib.hid hR.1
      obtain ⟨M, hM⟩ : ∃ M, (ps.filter (keepP f t)).length = M := ⟨_, rfl⟩
      rw [hM] at hfx hR1 hfl ⊢
      replace hM := Lib.hid hM
      have hnb := Lib.hid (fun b hb => (hown.lt b hb).1)
      rw [hM.out] at hnb
      clear hR htk hown
      replace hB := Lib.hid hB
      go_wp2_with fail
      go_ret
      exact ⟨_, rfl, hR1.out, hfx.out, hnb.out⟩

theorem rmend_no {m : Nat} {w : World} {g base : Nat} {lv cv : Value} {l : List RM} {ps : List (Int × Int)} (h : RF m w g base lv l cv ps) (f t : Int) (hf : ¬ ((1 ≤ f ∧ f ≤ 255) ∧ 1 ≤ t ∧ t ≤ 255)) :
    Calls Try.prog 33 #[.pointer (some ⟨g, 0, none⟩), .int .i64 f, .int .i64 t] w fun e w' => e = .returned (.int .i64 2) ∧ w = w' := by
  by_cases h1 : 1 ≤ f ∧ f ≤ 255
  · have h2 : ¬ (1 ≤ t ∧ t ≤ 255) := fun q => hf ⟨h1, q⟩
    have af := fun W => raddress_yes f W h1.1 h1.2
    have at' := fun W => raddress_no t W h2
    clear h hf h1 h2
    go_enter Try.func33, Try.ntmps33
    go_wp2_with fail
    refine (af _).mono ?_
    rintro e w' ⟨rfl, rfl⟩
    go_wp2_with fail
    refine (at' _).mono ?_
    rintro e w' ⟨rfl, rfl⟩
    go_wp2_with fail
    go_ret
    exact ⟨rfl, rfl⟩
  · have af := fun W => raddress_no f W h1
    clear h hf h1
    go_enter Try.func33, Try.ntmps33
    go_wp2_with fail
    refine (af _).mono ?_
    rintro e w' ⟨rfl, rfl⟩
    go_wp2_with fail
    go_ret
    exact ⟨rfl, rfl⟩

set_option maxRecDepth 100000 in
set_option maxHeartbeats 8000000 in
theorem rcut_c {m : Nat} {w : World} {g base : Nat} {lv cv : Value} {l : List RM} {ps : List (Int × Int)} (h : RF m w g base lv l cv ps) (f t : Int) (hf : 1 ≤ f ∧ f ≤ 255) (ht : 1 ≤ t ∧ t ≤ 255) (hn : ps.length ≤ 5000) :
    Calls Try.prog 32 #[.pointer (some ⟨g, 0, none⟩), .int .i64 f, .int .i64 t] w (CutP m g base lv l (ps.filter (keepP f t) ++ [(f, t)]) w) := by
  obtain ⟨i0, hi0, hz0, hz1, hz2⟩ := info_parts info_pair
  have hm := Lib.hid (rmend_c h f t hf ht hn)
  have hfl : (ps.filter (keepP f t)).length ≤ 5000 := by
    have h1 := List.length_filter_le (keepP f t) ps
    omega
  have hgb := h.ra.h1
  clear h hf ht hn
  go_enter Try.func32, Try.ntmps32
  go_wp2_with fail
  refine hm.out.mono ?_
  rintro e w1 ⟨cv1, rfl, hR, hK, hnb⟩
  obtain ⟨a, cap, rfl⟩ := own_shape hR.k
  obtain ⟨M, hM⟩ : ∃ M, (ps.filter (keepP f t)).length = M := ⟨_, rfl⟩
  have c1 := hR.ra.c1
  rw [hM] at hfl c1
  have hw0 := hR.ra.h6
  have hnew := Lib.hid (World.news_of_block (heap_alloc_new w1 (.cells #[.int .i64 f, .int .i64 t] 80)))
  have hown4 := Lib.hid (hR.k.alloc (.cells #[.int .i64 f, .int .i64 t] 80))
  have hrow := Lib.hid (fun b hb => (hR.k.lt b hb).1)
  rw [hM] at hown4 hrow hR hnb
  replace hR := Lib.hid hR
  replace hK := Lib.hid hK
  replace hnb := Lib.hid hnb
  replace hM := Lib.hid hM
  clear hm
  have hrg : (Value.slice a M cap).ownBlock ≠ some g := fun e => by have := hrow.out g e; omega
  replace hrg := Lib.hid hrg
  go_wp2_with (at_builtin; refine wpList_append_src rfl _ _ 50 (by rfl) base 80 i0 _ 2 16 Try.underlying50 hi0 hz0 hz1 hz2 (by rfl) (by omega) _ _ _ (by rfl) hown4.out (some ⟨w1.heap.size, 0, none⟩) 1 1 (cellsP (f, t)) (by rfl) (by rfl) (fun _ => ⟨_, rfl, hnew.out⟩) (cellsP_one _) (by unfold maxLen; omega) (by omega) (by simp; omega) ?_; intro v5 w5 hown5 hgrow5 hat5; obtain ⟨a5, cap5, rfl⟩ := own_shape hown5; have hfx1 := Fx.grown hgrow5 hat5; have hra := hR.out.ra.beside hfx1 (by simp) hrg.out (fun b hb => ⟨by simp, fun e => own_ne hR.out.ra.own hR.out.k pair_ne b hb e⟩); have z0 := hra.c1; have z1 := hra.f 1)
  have hS := RF.setCuts hra hR.out.ge (ps' := ps.filter (keepP f t) ++ [(f, t)]) (by rw [rowP_snoc, List.length_append, hM.out]; exact hown5) (Nat.le_refl _)
  have hfin : Fx [g] nilV nilV w (w5.setCell ⟨g, 1, none⟩ (.slice a5 (M + 1) cap5)) := by
    have h1 := hK.out
    have h3 := hS.2
    refine ⟨(h1.bel.trans hfx1.bel).trans h3.bel, fun b hb q1 q3 => ?_, fun b hb q => q⟩
    have hb1 := Nat.lt_of_lt_of_le hb h1.size
    exact (h3.blk b (Nat.lt_of_lt_of_le hb1 hfx1.size) q1 q3).trans ((hfx1.blk b hb1 (by simp) (fun e => by have := hnb.out b e; omega)).trans (h1.blk b hb q1 q3))
  have hnew2 : ∀ b, (Value.slice a5 (M + 1) cap5).ownBlock = some b → w.heap.size ≤ b := fun b hb => by
    have := hK.out.size
    rcases hat5 with q | q
    · rw [q] at hb; exact hnb.out b hb
    · rw [q] at hb
      have hb := Option.some.inj hb
      simp at hb
      omega
  have hS1 := Lib.hid hS.1
  replace hfin := Lib.hid hfin
  replace hnew2 := Lib.hid hnew2
  clear hS hra hfx1 hown5 hgrow5 hat5 c1
  go_ret
  exact ⟨_, rfl, hS1.out, hfin.out, hnew2.out⟩

theorem rcut_no {m : Nat} {w : World} {g base : Nat} {lv cv : Value} {l : List RM} {ps : List (Int × Int)} (h : RF m w g base lv l cv ps) (f t : Int) (hf : ¬ ((1 ≤ f ∧ f ≤ 255) ∧ 1 ≤ t ∧ t ≤ 255)) :
    Calls Try.prog 32 #[.pointer (some ⟨g, 0, none⟩), .int .i64 f, .int .i64 t] w fun e w' => e = .returned (.int .i64 2) ∧ w = w' := by
  have hm := rmend_no h f t hf
  clear h hf
  go_enter Try.func32, Try.ntmps32
  go_wp2_with fail
  refine hm.mono ?_
  rintro e w' ⟨rfl, rfl⟩
  go_wp2_with fail
  go_ret
  exact ⟨rfl, rfl⟩
end Go.Proofs.Ytnokojobiaddmaa
