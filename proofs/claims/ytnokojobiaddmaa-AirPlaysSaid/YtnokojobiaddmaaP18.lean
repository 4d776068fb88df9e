/- The air: Clear. -/
import Derived.Test.YtnokojobiaddmaaP17
namespace Go.Proofs.Ytnokojobiaddmaa
open Go.ChangeShapes Go.WideShapes Go.ChangeAt Go.RowKit Go.Maps
set_option linter.unusedVariables false
set_option linter.unusedSimpArgs false
open BigFrame Bs By Am Ar

namespace Ar
/-- The tail is cleared, the row cut. -/
theorem own_cut {w : World} {base q N cap i : Nat} {mid : List RM} (h : w.ownsRow base 34 14 (.slice (some ⟨q, 0, none⟩) N cap) N (rowM mid)) (hl : mid.length = N) (hi : i ≤ N) (vs : List Value) (hvs : vs.length = (N - i) * 14) :
    (w.setCells q (i * 14) vs).ownsRow base 34 14 (.slice (some ⟨q, 0, none⟩) i cap) i (rowM (mid.take i)) ∧ Fx [] (.slice (some ⟨q, 0, none⟩) N cap) (.slice (some ⟨q, 0, none⟩) N cap) w (w.setCells q (i * 14) vs) := by
  obtain ⟨cur, h1, h2, h3, h4, h5, h6, h7⟩ := own_parts h
  have hh := heap_setCells vs w (i * 14) cur h2
  have hg := setCells_grown (g := q) vs w (i * 14)
  refine ⟨⟨by rw [rowM_len, List.length_take]; omega, .inr ⟨q, cap, _, rfl, h1, hh, by omega, h4, by rw [layA_size, h5], ?_⟩⟩, ⟨⟨hg.os, hg.tape, hg.output, hg.size, fun k hk => absurd hk (Nat.not_lt_zero _)⟩, fun b hb _ h3 => hg.block b hb (fun e => h3 (by simpa [Value.ownBlock] using e.symm)), fun b hb h3 => h3⟩⟩
  apply List.ext_getElem?
  intro t
  by_cases ht : t < i * 14
  · have h8 : rowM mid = rowM (mid.take i) ++ rowM (mid.drop i) := by rw [← rowM_app, List.take_append_drop]
    rw [List.getElem?_take_of_lt ht, Array.getElem?_toList, layA_get _ _ _ _ (by rw [hvs, h5]; omega), if_neg (by omega), take_get h6 t (by omega), h8, List.getElem?_append_left (by rw [rowM_len, List.length_take]; omega)]
  · rw [List.getElem?_eq_none (by rw [List.length_take]; omega), List.getElem?_eq_none (by rw [rowM_len, List.length_take]; omega)]
def WipeG (l : List RM) (a : Int) (base q cap N : Nat) (w : World) (e : Ending) (w' : World) : Prop :=
  ∃ n', e = .returned (.slice (some ⟨q, 0, none⟩) n' cap) ∧ n' = (l.filter (kp a)).length ∧ w'.ownsRow base 34 14 (.slice (some ⟨q, 0, none⟩) n' cap) n' (rowM (l.filter (kp a))) ∧ Fx [] (.slice (some ⟨q, 0, none⟩) N cap) (.slice (some ⟨q, 0, none⟩) N cap) w w'
theorem Fx.trans {gs : List Nat} {lv : Value} {u v w : World} (h : Fx gs lv lv u v) (k : Fx gs lv lv v w) : Fx gs lv lv u w :=
  ⟨h.bel.trans k.bel, fun b hb h1 h3 => (k.blk b (Nat.lt_of_lt_of_le hb h.size) h1 h3).trans (h.blk b hb h1 h3), fun b hb h3 => h3⟩
/-- The loop's state. -/
structure WR (l : List RM) (a : Int) (base q cap N : Nat) (w : World) (i j : Nat) (mid : List RM) (wr : World) : Prop where
  lt : i < j
  le : j ≤ N
  ml : mid.length = N
  tk : mid.take i = (l.take j).filter (kp a)
  dr : mid.drop j = l.drop j
  own : wr.ownsRow base 34 14 (.slice (some ⟨q, 0, none⟩) N cap) N (rowM mid)
  fx : Fx [] (.slice (some ⟨q, 0, none⟩) N cap) (.slice (some ⟨q, 0, none⟩) N cap) w wr
theorem WR.at {l : List RM} {a : Int} {base q cap N i j : Nat} {w wr : World} {mid : List RM} (h : WR l a base q cap N w i j mid wr) (hj : j < N) : l[j]? = some (mid.getD j rm0) := by
  have h1 : mid[j]? = some (mid.getD j rm0) := by have := h.ml; simp [List.getD, show j < mid.length by omega]
  have h2 : (mid.drop j)[0]? = (l.drop j)[0]? := by rw [h.dr]
  rw [List.getElem?_drop, List.getElem?_drop, Nat.add_zero] at h2
  rw [← h2, h1]
theorem WR.skip {l : List RM} {a : Int} {base q cap N i j : Nat} {w wr w3 : World} {mid : List RM} (h : WR l a base q cap N w i j mid wr) (hj : j < N) (hk : kp a (mid.getD j rm0) = false) (hb : Below wr.heap.size wr w3) : WR l a base q cap N w i (j + 1) mid w3 := by
  refine ⟨by have := h.lt; omega, by omega, h.ml, ?_, ?_, own_bel h.own hb, h.fx.trans (Fx.of hb)⟩
  · rw [take_snocR (h.at hj), List.filter_append, h.tk, List.filter_cons, hk]; simp
  · have := congrArg (List.drop 1) h.dr
    rwa [List.drop_drop, List.drop_drop] at this
theorem WR.keep {l : List RM} {a : Int} {base q cap N i j : Nat} {w wr w3 : World} {mid : List RM} {x : RM} (h : WR l a base q cap N w i j mid wr) (hj : j < N) (hx : mid.getD j rm0 = x) (hk : kp a x = true) (hb : Below wr.heap.size wr w3) :
    WR l a base q cap N w (i + 1) (j + 1) (mid.set i x) ((((((((((((((w3.setCell ⟨q, i * 14, none⟩ (.int .i8 x.f.k)).setCell ⟨q, i * 14 + 1, none⟩ (.int .i64 x.f.fr)).setCell ⟨q, i * 14 + 2, none⟩ (.int .i64 x.f.to)).setCell ⟨q, i * 14 + 3, none⟩ (.int .i64 x.f.te)).setCell ⟨q, i * 14 + 4, none⟩ (.int .i64 x.f.ix)).setCell ⟨q, i * 14 + 5, none⟩ (.int .i64 x.f.la)).setCell ⟨q, i * 14 + 6, none⟩ (.int .i64 x.f.co)).setCell ⟨q, i * 14 + 7, none⟩ (.bool x.f.ok)).setCell ⟨q, i * 14 + 8, none⟩ (.slice x.ea x.en x.ec)).setCell ⟨q, i * 14 + 9, none⟩ (.int .i64 x.f.si)).setCell ⟨q, i * 14 + 10, none⟩ (.int .i64 x.f.st)).setCell ⟨q, i * 14 + 11, none⟩ (.int .u8 x.f.su)).setCell ⟨q, i * 14 + 12, none⟩ (.slice x.sa x.sn x.sc)).setCell ⟨q, i * 14 + 13, none⟩ (.slice x.da x.dn x.dc)) := by
  obtain ⟨r1, r2⟩ := row_put (own_bel h.own hb) h.ml (by have := h.lt; omega : i < N) x
  have hlt := h.lt
  have hml := h.ml
  refine ⟨by omega, by omega, by simp [h.ml], ?_, ?_, r1, (h.fx.trans (Fx.of hb)).trans r2⟩
  · have e : (mid.set i x)[i]? = some x := by simp [show i < mid.length by omega]
    rw [take_snocR e, List.take_set, List.set_eq_of_length_le (by rw [List.length_take]; omega), h.tk, take_snocR (h.at hj), List.filter_append, hx]
    simp [hk]
  · rw [List.drop_set, if_pos (by omega)]
    have := congrArg (List.drop 1) h.dr
    rwa [List.drop_drop, List.drop_drop] at this
end Ar

set_option maxRecDepth 100000 in
set_option maxHeartbeats 16000000 in
theorem del_c {w : World} {base q cap cb : Nat} {l : List RM} (h : w.ownsRow base 34 14 (.slice (some ⟨q, 0, none⟩) l.length cap) l.length (rowM l)) (a : Int) (hc : w.cell? ⟨cb, 0, none⟩ = some (.int .i64 a)) (hcq : cb ≠ q) (hl : l.length ≤ 1024) :
    Calls Try.prog 25 #[.slice (some ⟨q, 0, none⟩) l.length cap, .func (.func 26) #[] #[.pointer (some ⟨cb, 0, none⟩)]] w (WipeG l a base q cap l.length w) := by
  have hidx := idx_c h a hc hl
  obtain ⟨N, hN⟩ : ∃ N, l.length = N := ⟨_, rfl⟩
  obtain ⟨cur, _, _, hc1, hc2, _⟩ := own_parts h
  unfold maxLen at hc2
  rw [hN] at hidx h hl hc1 ⊢
  have hlz : (N : Int) ≤ 1024 := by omega
  have hcz : (N : Int) ≤ (cap : Int) := by omega
  have hcmi : (cap : Int) ≤ 9223372036854775807 := by omega
  have hcbl := World.block_lt_of_cell? _ _ hc
  replace hN := Lib.hid hN
  replace h := Lib.hid h
  replace hc := Lib.hid hc
  replace hidx := Lib.hid hidx
  clear hc2
  go_enter Try.func25, Try.ntmps25
  go_wp2_with fail
  refine hidx.out.mono ?_
  rintro e w1 ⟨hcase, hB1⟩
  clear hidx
  rcases hcase with ⟨k, hk, rfl, hF⟩ | ⟨rfl, hF⟩
  rotate_left
  · replace hF := Lib.hid hF
    replace hB1 := Lib.hid hB1
    go_wp2_with fail
    go_ret
    exact ⟨N, rfl, by rw [hF.out, hN.out], by rw [hF.out]; exact own_bel h.out hB1.out, Fx.of hB1.out⟩
  have hkN : k < N := by have := hN.out; omega
  have hkz : ((k : Int) == -1) = false := by simp
  have hR1 : WR l a base q cap N w k (k + 1) l w1 := ⟨by omega, by omega, hN.out, hF.symm, rfl, own_bel h.out hB1, Fx.of hB1⟩
  replace hR1 := Lib.hid hR1
  clear hF hk hB1
  go_wp2_with fail
  go_loopw [5, 6] (fun s5 s6 wr => ∃ (i j : Nat) (mid : List RM), s5 = .int .i64 (i : Nat) ∧ s6 = .int .i64 (j : Nat) ∧ WR l a base q cap N w i j mid wr) (fun _ s6 _ => N - (intOf s6).toNat)
  case atStart => exact ⟨k, k + 1, l, rfl, by go_num, hR1.out⟩
  case round =>
    clear hR1 hkz hkN
    obtain ⟨i, j, mid, rfl, rfl, hR⟩ := hrel
    have hij := hR.lt
    have hjN := hR.le
    have hiz : (0 : Int) ≤ (i : Int) := by omega
    have hiN : (i : Int) < (N : Int) := by omega
    have hjz : (0 : Int) ≤ (j : Int) := by omega
    have hic : (i : Int) ≤ (cap : Int) := by omega
    have hcne : ¬ cap = i := by omega
    by_cases hlt : j < N
    · have hltz : (j : Int) < (N : Int) := by omega
      have hcl : ∀ i j, i < N → j < 14 → ∀ v, (cellsM (mid.getD i rm0))[j]? = some v → wr.cell? ⟨q, i * 14 + j, none⟩ = some v := fun i j hi hj v hv => by rw [hR.own.cellAt (i * 14 + j) (by omega), rowM_at mid i j (by have := hR.ml; omega) hj, hv]
      obtain ⟨x, hxe⟩ : ∃ x, x = mid.getD j rm0 := ⟨_, rfl⟩
      have y0 := hcl j 0 hlt (by omega) (.int .i8 x.f.k) (by rw [← hxe]; rfl)
      have y1 := hcl j 1 hlt (by omega) (.int .i64 x.f.fr) (by rw [← hxe]; rfl)
      have y2 := hcl j 2 hlt (by omega) (.int .i64 x.f.to) (by rw [← hxe]; rfl)
      have y3 := hcl j 3 hlt (by omega) (.int .i64 x.f.te) (by rw [← hxe]; rfl)
      have y4 := hcl j 4 hlt (by omega) (.int .i64 x.f.ix) (by rw [← hxe]; rfl)
      have y5 := hcl j 5 hlt (by omega) (.int .i64 x.f.la) (by rw [← hxe]; rfl)
      have y6 := hcl j 6 hlt (by omega) (.int .i64 x.f.co) (by rw [← hxe]; rfl)
      have y7 := hcl j 7 hlt (by omega) (.bool x.f.ok) (by rw [← hxe]; rfl)
      have y8 := hcl j 8 hlt (by omega) (.slice x.ea x.en x.ec) (by rw [← hxe]; rfl)
      have y9 := hcl j 9 hlt (by omega) (.int .i64 x.f.si) (by rw [← hxe]; rfl)
      have y10 := hcl j 10 hlt (by omega) (.int .i64 x.f.st) (by rw [← hxe]; rfl)
      have y11 := hcl j 11 hlt (by omega) (.int .u8 x.f.su) (by rw [← hxe]; rfl)
      have y12 := hcl j 12 hlt (by omega) (.slice x.sa x.sn x.sc) (by rw [← hxe]; rfl)
      have y13 := hcl j 13 hlt (by omega) (.slice x.da x.dn x.dc) (by rw [← hxe]; rfl)
      rw [Nat.add_zero] at y0
      have hcw : wr.cell? ⟨cb, 0, none⟩ = some (.int .i64 a) := (World.cell?_of_block (hR.fx.blk cb hcbl (by simp) (fun e => hcq (by simpa [Value.ownBlock] using e.symm)))).trans hc.out
      have hal := (Below.refl wr.heap.size wr).alloc (Nat.le_refl _) (.cells #[.int .i8 x.f.k, .int .i64 x.f.fr, .int .i64 x.f.to, .int .i64 x.f.te, .int .i64 x.f.ix, .int .i64 x.f.la, .int .i64 x.f.co, .bool x.f.ok, .slice x.ea x.en x.ec, .int .i64 x.f.si, .int .i64 x.f.st, .int .u8 x.f.su, .slice x.sa x.sn x.sc, .slice x.da x.dn x.dc] 34)
      have hm := HT.new wr #[.int .i8 x.f.k, .int .i64 x.f.fr, .int .i64 x.f.to, .int .i64 x.f.te, .int .i64 x.f.ix, .int .i64 x.f.la, .int .i64 x.f.co, .bool x.f.ok, .slice x.ea x.en x.ec, .int .i64 x.f.si, .int .i64 x.f.st, .int .u8 x.f.su, .slice x.sa x.sn x.sc, .slice x.da x.dn x.dc] 34
      have hcb := clr_c x cb a (wr.alloc (.cells #[.int .i8 x.f.k, .int .i64 x.f.fr, .int .i64 x.f.to, .int .i64 x.f.te, .int .i64 x.f.ix, .int .i64 x.f.la, .int .i64 x.f.co, .bool x.f.ok, .slice x.ea x.en x.ec, .int .i64 x.f.si, .int .i64 x.f.st, .int .u8 x.f.su, .slice x.sa x.sn x.sc, .slice x.da x.dn x.dc] 34)) (cellB hal hcw)
      clear hcl hcw
      replace hxe := Lib.hid hxe
      replace hR := Lib.hid hR
      replace hal := Lib.hid hal
      replace hm := Lib.hid hm
      replace hcb := Lib.hid hcb
      go_upto_region 8 with fail
      have hm := hm.out
      have hal := hal.out
      have hcb := hcb.out
      generalize (wr.alloc (.cells #[.int .i8 x.f.k, .int .i64 x.f.fr, .int .i64 x.f.to, .int .i64 x.f.te, .int .i64 x.f.ix, .int .i64 x.f.la, .int .i64 x.f.co, .bool x.f.ok, .slice x.ea x.en x.ec, .int .i64 x.f.si, .int .i64 x.f.st, .int .u8 x.f.su, .slice x.sa x.sn x.sc, .slice x.da x.dn x.dc] 34)) = W1 at hm hal hcb ⊢
      clear y0 y1 y2 y3 y4 y5 y6 y7 y8 y9 y10 y11 y12 y13
      generalize wr.heap.size = xb at hm ⊢
      replace hal := Lib.hid hal
      have z0 := hm.c 0 _ rfl
      have z1 := hm.c 1 _ rfl
      have z2 := hm.c 2 _ rfl
      have z3 := hm.c 3 _ rfl
      have z4 := hm.c 4 _ rfl
      have z5 := hm.c 5 _ rfl
      have z6 := hm.c 6 _ rfl
      have z7 := hm.c 7 _ rfl
      have z8 := hm.c 8 _ rfl
      have z9 := hm.c 9 _ rfl
      have z10 := hm.c 10 _ rfl
      have z11 := hm.c 11 _ rfl
      have z12 := hm.c 12 _ rfl
      have z13 := hm.c 13 _ rfl
      replace hm := Lib.hid hm
      by_cases hto : x.f.to = a
      · have e1 : (x.f.to == a) = true := by simpa using hto
        have e2 : kp a (mid.getD j rm0) = false := by rw [← hxe.out]; unfold kp; rw [e1]; rfl
        rw [e1] at hcb
        replace e2 := Lib.hid e2
        clear hto e1
        go_wp2_with fail
        refine hcb.mono ?_
        rintro e w3 ⟨rfl, hb2⟩
        have hR2 := Lib.hid (hR.out.skip hlt e2.out (hal.out.trans (hb2.mono hal.out.size)))
        clear hb2 hcb z0 z1 z2 z3 z4 z5 z6 z7 z8 z9 z10 z11 z12 z13
        go_wp2_with fail
        go_roundw
        case rel => exact ⟨i, j + 1, mid, rfl, by go_num, hR2.out⟩
        case measure => simp [intOf]; omega
      · have e1 : (x.f.to == a) = false := by simpa using hto
        have e2 : kp a x = true := by unfold kp; rw [e1]; rfl
        rw [e1] at hcb
        replace e2 := Lib.hid e2
        clear hto e1
        go_wp2_with fail
        refine hcb.mono ?_
        rintro e w3 ⟨rfl, hb2⟩
        have hb3 := hal.out.trans (hb2.mono hal.out.size)
        have own3 := own_bel hR.out.own hb3
        have hm3 := hm.out.bel hb2
        clear hcb z0 z1 z2 z3 z4 z5 z6 z7 z8 z9 z10 z11 z12 z13
        have z0 := hm3.c 0 _ rfl
        have z1 := hm3.c 1 _ rfl
        have z2 := hm3.c 2 _ rfl
        have z3 := hm3.c 3 _ rfl
        have z4 := hm3.c 4 _ rfl
        have z5 := hm3.c 5 _ rfl
        have z6 := hm3.c 6 _ rfl
        have z7 := hm3.c 7 _ rfl
        have z8 := hm3.c 8 _ rfl
        have z9 := hm3.c 9 _ rfl
        have z10 := hm3.c 10 _ rfl
        have z11 := hm3.c 11 _ rfl
        have z12 := hm3.c 12 _ rfl
        have z13 := hm3.c 13 _ rfl
        obtain ⟨o0, p0⟩ := own_some own3 (i * 14) (by omega)
        obtain ⟨o1, p1⟩ := own_some own3 (i * 14 + 1) (by omega)
        obtain ⟨o2, p2⟩ := own_some own3 (i * 14 + 2) (by omega)
        obtain ⟨o3, p3⟩ := own_some own3 (i * 14 + 3) (by omega)
        obtain ⟨o4, p4⟩ := own_some own3 (i * 14 + 4) (by omega)
        obtain ⟨o5, p5⟩ := own_some own3 (i * 14 + 5) (by omega)
        obtain ⟨o6, p6⟩ := own_some own3 (i * 14 + 6) (by omega)
        obtain ⟨o7, p7⟩ := own_some own3 (i * 14 + 7) (by omega)
        obtain ⟨o8, p8⟩ := own_some own3 (i * 14 + 8) (by omega)
        obtain ⟨o9, p9⟩ := own_some own3 (i * 14 + 9) (by omega)
        obtain ⟨o10, p10⟩ := own_some own3 (i * 14 + 10) (by omega)
        obtain ⟨o11, p11⟩ := own_some own3 (i * 14 + 11) (by omega)
        obtain ⟨o12, p12⟩ := own_some own3 (i * 14 + 12) (by omega)
        obtain ⟨o13, p13⟩ := own_some own3 (i * 14 + 13) (by omega)
        have pf := own_free own3
        have hR2 := Lib.hid (hR.out.keep hlt hxe.out.symm e2.out hb3)
        clear hb2 hb3 own3 hm3
        go_wp2_with fail
        go_roundw
        case rel => exact ⟨i + 1, j + 1, mid.set i x, by go_num, by go_num, hR2.out⟩
        case measure => simp [intOf]; omega
    · obtain rfl : j = N := by omega
      have hltz : ¬ (j : Int) < (j : Int) := by omega
      have hpos : 0 < j - i := by omega
      obtain ⟨cur, h1, h2, h3, h4, h5, h6, h7⟩ := own_parts hR.own
      obtain ⟨vs, hvs, hclr⟩ := run_clear_any wr 49 34 3 (.agg #[.int .i8 0, .int .i64 0, .int .i64 0, .int .i64 0, .int .i64 0, .int .i64 0, .int .i64 0, .bool false, .slice none 0 0, .int .i64 0, .int .i64 0, .int .u8 0, .slice none 0 0, .slice none 0 0]) [.int .i8 0, .int .i64 0, .int .i64 0, .int .i64 0, .int .i64 0, .int .i64 0, .int .i64 0, .bool false, .slice none 0 0, .int .i64 0, .int .i64 0, .int .u8 0, .slice none 0 0, .slice none 0 0] Try.underlying49 (fun w => zero_msg w) (by rfl) (by intro u hu; simp at hu; rcases hu with rfl | rfl | rfl | rfl | rfl | rfl | rfl | rfl | rfl | rfl | rfl | rfl | rfl | rfl <;> rfl) q (i * 14) (j - i) (cap - i) hpos (fun t ht => by
        have ht2 : t < (j - i) * 14 := ht
        rw [heap_cell h2 (Array.getElem?_eq_getElem (show i * 14 + t < cur.size by omega))]; rfl) (fun t ht => heap_frozen h2 _)
      obtain ⟨r1, r2⟩ := own_cut hR.own hR.ml (by omega) vs hvs
      have hfx := hR.fx.trans r2
      have hclr2 : ∀ ty, (Builtin.clear_ #[49] ty #[.slice (some ⟨q, i * 14, none⟩) (j - i) (cap - i)]).run Try.prog wr = .ok (.tuple #[]) (wr.setCells q (i * 14) vs) := fun ty => hclr
      have hfil : mid.take i = l.filter (kp a) := by rw [hR.tk, List.take_of_length_le (by have := hN.out; omega)]
      rw [hfil] at r1
      have hlen : i = (l.filter (kp a)).length := by rw [← hfil, List.length_take]; have := hR.ml; omega
      replace r1 := Lib.hid r1
      replace hfx := Lib.hid hfx
      replace hlen := Lib.hid hlen
      clear hR h1 h2 h3 h4 h5 h6 h7 hvs hclr r2 hfil
      go_wp2_with fail
      go_ret
      exact ⟨i, rfl, hlen.out, r1.out, hfx.out⟩

end Go.Proofs.Ytnokojobiaddmaa
