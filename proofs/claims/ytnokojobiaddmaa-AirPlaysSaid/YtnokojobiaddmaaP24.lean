/- The document: Clear. -/
import Derived.Test.YtnokojobiaddmaaP23
namespace Go.Proofs.Ytnokojobiaddmaa
open Go.ChangeShapes Go.WideShapes Go.ChangeAt Go.RowKit Go.Maps
set_option linter.unusedVariables false
set_option linter.unusedSimpArgs false
open BigFrame Bs By Am Ar

namespace Ar
def RClearP (m g base : Nat) (lv : Value) (l : List RM) (cv : Value) (ps : List (Int × Int)) (k : Int) (w : World) (e : Ending) (w' : World) : Prop :=
  ∃ lv', e = .returned (.int .i64 k) ∧ RF m w' g base lv' l cv ps ∧ Fx [g] lv lv' w w'
end Ar
set_option maxRecDepth 100000 in
set_option maxHeartbeats 8000000 in
theorem rclear {m : Nat} {w : World} {g base : Nat} {lv cv : Value} {l : List RM} {ps : List (Int × Int)} (h : RF m w g base lv l cv ps) (a : Int) (hn : l.length ≤ 1024) :
    Calls Try.prog 34 #[.pointer (some ⟨g, 0, none⟩), .int .i64 a] w (RClearP m g base lv (l.filter (kp a)) cv ps ((l.length : Int) - ((l.filter (kp a)).length : Int)) w) := by
  obtain ⟨i0, hi0, hz0, hz1, hz2⟩ := info_parts info_msg
  obtain ⟨b, cap, rfl⟩ := own_shape h.ra.own
  have hcw := h.ra.c0
  have hcf := h.ra.f 0
  have hg := h.ra.lt
  have hbs := h.ra.h6
  have hlf := List.length_filter_le (kp a) l
  have hcl : ∀ i j, i < l.length → j < 14 → ∀ v, (cellsM (l.getD i rm0))[j]? = some v → ∃ q, b = some ⟨q, 0, none⟩ ∧ w.cell? ⟨q, i * 14 + j, none⟩ = some v := fun i j hi hj v hv => by
    obtain ⟨q, cap', e, _⟩ := h.ra.own.form (by omega)
    cases e
    exact ⟨q, rfl, h.ra.cell rfl i j hi hj v hv⟩
  obtain ⟨N, hN⟩ : ∃ N, l.length = N := ⟨_, rfl⟩
  obtain ⟨M, hM⟩ : ∃ M, (l.filter (kp a)).length = M := ⟨_, rfl⟩
  rw [hN] at hcw hn hcl hlf
  rw [hM] at hlf
  have hnz : (N : Int) ≤ 1024 := by omega
  have hMz : (M : Int) ≤ (N : Int) := by omega
  replace h := Lib.hid h
  replace hN := Lib.hid hN
  replace hM := Lib.hid hM
  replace hcl := Lib.hid hcl
  go_enter Try.func34, Try.ntmps34
  go_wp2_with fail
  go_loopw [5, 6] (fun v i wr => ∃ k : Nat, k ≤ N ∧ i = .int .i64 (k : Nat) ∧ wr.ownsRow w.heap.size 34 14 v ((l.take k).filter (kp a)).length (rowM ((l.take k).filter (kp a))) ∧ Below w.heap.size w wr) (fun _ i _ => N - (intOf i).toNat)
  case atStart => exact ⟨0, by omega, rfl, World.ownsRow_nil _ _ _ _, Below.refl _ _⟩
  case round =>
    obtain ⟨k, hk, rfl, hown, hB⟩ := hrel
    have hfl : ((l.take k).filter (kp a)).length ≤ 1024 := by
      have h1 := List.length_filter_le (kp a) (l.take k)
      have h2 := List.length_take_le k l
      omega
    have hsz := hB.size
    have c1 := (hB.cell (p := ⟨g, 0, none⟩) hg).trans hcw
    have cf := (hB.frozen (p := ⟨g, 0, none⟩) hg).trans hcf
    by_cases hlt : k < N
    · have hlt' : (k : Int) < (N : Int) := by omega
      have hk0 : (0 : Int) ≤ (k : Int) := by omega
      have hxk : k < l.length := by have := hN.out; omega
      obtain ⟨x, hxe⟩ : ∃ x, x = l.getD k rm0 := ⟨_, rfl⟩
      have hx : l[k]? = some x := by rw [hxe]; simp [List.getD, hxk]
      obtain ⟨q, rfl, _⟩ := hcl.out k 0 hlt (by omega) (.int .i8 x.f.k) (by rw [← hxe]; rfl)
      have hcl : ∀ i j, i < N → j < 14 → ∀ v, (cellsM (l.getD i rm0))[j]? = some v → w.cell? ⟨q, i * 14 + j, none⟩ = some v := fun i j hi hj v hv => by
        obtain ⟨q', e, h1⟩ := hcl.out i j hi hj v hv
        cases e
        exact h1
      have y0 := cellB hB (hcl k 0 hlt (by omega) (.int .i8 x.f.k) (by rw [← hxe]; rfl))
      have y1 := cellB hB (hcl k 1 hlt (by omega) (.int .i64 x.f.fr) (by rw [← hxe]; rfl))
      have y2 := cellB hB (hcl k 2 hlt (by omega) (.int .i64 x.f.to) (by rw [← hxe]; rfl))
      have y3 := cellB hB (hcl k 3 hlt (by omega) (.int .i64 x.f.te) (by rw [← hxe]; rfl))
      have y4 := cellB hB (hcl k 4 hlt (by omega) (.int .i64 x.f.ix) (by rw [← hxe]; rfl))
      have y5 := cellB hB (hcl k 5 hlt (by omega) (.int .i64 x.f.la) (by rw [← hxe]; rfl))
      have y6 := cellB hB (hcl k 6 hlt (by omega) (.int .i64 x.f.co) (by rw [← hxe]; rfl))
      have y7 := cellB hB (hcl k 7 hlt (by omega) (.bool x.f.ok) (by rw [← hxe]; rfl))
      have y8 := cellB hB (hcl k 8 hlt (by omega) (.slice x.ea x.en x.ec) (by rw [← hxe]; rfl))
      have y9 := cellB hB (hcl k 9 hlt (by omega) (.int .i64 x.f.si) (by rw [← hxe]; rfl))
      have y10 := cellB hB (hcl k 10 hlt (by omega) (.int .i64 x.f.st) (by rw [← hxe]; rfl))
      have y11 := cellB hB (hcl k 11 hlt (by omega) (.int .u8 x.f.su) (by rw [← hxe]; rfl))
      have y12 := cellB hB (hcl k 12 hlt (by omega) (.slice x.sa x.sn x.sc) (by rw [← hxe]; rfl))
      have y13 := cellB hB (hcl k 13 hlt (by omega) (.slice x.da x.dn x.dc) (by rw [← hxe]; rfl))
      rw [Nat.add_zero] at y0
      have hts := take_snocR hx
      have hw0 : w.heap.size ≤ (wr.alloc (.cells #[.int .i8 x.f.k, .int .i64 x.f.fr, .int .i64 x.f.to, .int .i64 x.f.te, .int .i64 x.f.ix, .int .i64 x.f.la, .int .i64 x.f.co, .bool x.f.ok, .slice x.ea x.en x.ec, .int .i64 x.f.si, .int .i64 x.f.st, .int .u8 x.f.su, .slice x.sa x.sn x.sc, .slice x.da x.dn x.dc] 34)).heap.size := by simp; omega
      have hnew := Lib.hid (World.news_of_block (heap_alloc_new wr (.cells #[.int .i8 x.f.k, .int .i64 x.f.fr, .int .i64 x.f.to, .int .i64 x.f.te, .int .i64 x.f.ix, .int .i64 x.f.la, .int .i64 x.f.co, .bool x.f.ok, .slice x.ea x.en x.ec, .int .i64 x.f.si, .int .i64 x.f.st, .int .u8 x.f.su, .slice x.sa x.sn x.sc, .slice x.da x.dn x.dc] 34)))
      have hB4 := Lib.hid (hB.alloc hsz (.cells #[.int .i8 x.f.k, .int .i64 x.f.fr, .int .i64 x.f.to, .int .i64 x.f.te, .int .i64 x.f.ix, .int .i64 x.f.la, .int .i64 x.f.co, .bool x.f.ok, .slice x.ea x.en x.ec, .int .i64 x.f.si, .int .i64 x.f.st, .int .u8 x.f.su, .slice x.sa x.sn x.sc, .slice x.da x.dn x.dc] 34))
      have hown4 := Lib.hid (hown.alloc (.cells #[.int .i8 x.f.k, .int .i64 x.f.fr, .int .i64 x.f.to, .int .i64 x.f.te, .int .i64 x.f.ix, .int .i64 x.f.la, .int .i64 x.f.co, .bool x.f.ok, .slice x.ea x.en x.ec, .int .i64 x.f.si, .int .i64 x.f.st, .int .u8 x.f.su, .slice x.sa x.sn x.sc, .slice x.da x.dn x.dc] 34))
      have hbl := Lib.hid (fun q hq => (hown.lt q hq).1)
      clear hcl hxe hx hxk
      by_cases e1 : x.f.to = a
      · have e1b : (x.f.to != a) = false := by simpa using e1
        have e2 : kp a x = false := by unfold kp; rw [show (x.f.to == a) = true by simpa using e1]; rfl
        have hfin : ((l.take (k + 1)).filter (kp a)) = ((l.take k).filter (kp a)) := by rw [hts, List.filter_append]; simp [e2]
        rw [← hfin] at hown
        replace hown := Lib.hid hown
        replace hB := Lib.hid hB
        clear hfin hts hnew hB4 hown4 hfl hbl e1 e2
        go_wp2_with fail
        go_roundw
        case rel => exact ⟨k + 1, by omega, by go_num, hown.out, hB.out⟩
        case measure => simp [intOf]; omega
      · have e1b : (x.f.to != a) = true := by simpa using e1
        have e2 : kp a x = true := by unfold kp; rw [show (x.f.to == a) = false by simpa using e1]; rfl
        have hfin : ((l.take (k + 1)).filter (kp a)) = ((l.take k).filter (kp a)) ++ [x] := by rw [hts, List.filter_append]; simp [e2]
        replace hfin := Lib.hid hfin
        replace hown := Lib.hid hown
        replace hB := Lib.hid hB
        obtain ⟨L, hL⟩ : ∃ L, ((l.take k).filter (kp a)).length = L := ⟨_, rfl⟩
        rw [hL] at hfl hown4
        replace hL := Lib.hid hL
        clear hts e1 e2
        go_wp2_with (at_builtin; refine wpList_append_src rfl _ _ 49 (by rfl) w.heap.size 34 i0 _ 14 160 Try.underlying49 hi0 hz0 hz1 hz2 (by rfl) (by omega) _ _ _ (by rfl) hown4.out (some ⟨wr.heap.size, 0, none⟩) 1 1 (cellsM x) (by rfl) (by rfl) (fun _ => ⟨_, rfl, hnew.out⟩) (cellsM_one _) (by unfold maxLen; omega) (by omega) (by simp; omega) ?_; intro v5 w5 hown5 hgrow5 hat5)
        have hB5 := Lib.hid (hB4.out.grown hgrow5 hw0 hbl.out)
        have hR5 := Lib.hid (show w5.ownsRow w.heap.size 34 14 v5 ((l.take (k + 1)).filter (kp a)).length (rowM ((l.take (k + 1)).filter (kp a))) by rw [hfin.out, rowM_snoc, List.length_append, hL.out]; exact hown5)
        clear hown5 hgrow5 hat5 y0 y1 y2 y3 y4 y5 y6 y7 y8 y9 y10 y11 y12 y13 hnew
        go_wp2_with fail
        go_roundw
        case rel => exact ⟨k + 1, by omega, by go_num, hR5.out, hB5.out⟩
        case measure => simp [intOf]; omega
    · obtain rfl : k = N := by omega
      have htk : l.take k = l := List.take_of_length_le (by rw [hN.out]; exact Nat.le_refl _)
      rw [htk] at hown hfl
      rw [hM.out] at hfl
      have hown2 := hown
      rw [hM.out] at hown
      obtain ⟨a', cap', rfl⟩ := own_shape hown
      have hR := Lib.hid ((h.out.bel hB).setRow0 hown2 hbs)
      have hfx : Fx [g] (.slice b k cap) (.slice a' M cap') w (wr.setCell ⟨g, 0, none⟩ (.slice a' M cap')) :=
        ⟨(hB.mono (Nat.zero_le _)).setCell (Nat.zero_le _) _, fun b hb h1 h3 => (Below.heap_setCell wr ⟨g, 0, none⟩ _ b (fun e => h1 (by simp [e]))).trans (hB.block b hb), fun b hb h3 e => by have := (hown.lt b e).1; omega⟩
      replace hfx := Lib.hid hfx
      clear hown2 hown htk
      replace hB := Lib.hid hB
      go_wp2_with fail
      go_ret
      exact ⟨_, by rw [hN.out, hM.out]; rfl, hR.out, by rw [hN.out]; exact hfx.out⟩

end Go.Proofs.Ytnokojobiaddmaa
