/- The air: Clear. -/
import Derived.Test.YtnokojobiaddmaaP16
namespace Go.Proofs.Ytnokojobiaddmaa
open Go.ChangeShapes Go.WideShapes Go.ChangeAt Go.RowKit Go.Maps
set_option linter.unusedVariables false
set_option linter.unusedSimpArgs false
open BigFrame Bs By Am Ar

namespace Ar
theorem rowM_set (l : List RM) (i : Nat) (x : RM) (hi : i < l.length) : rowM (l.set i x) = rowM (l.take i) ++ (cellsM x ++ rowM (l.drop (i + 1))) := by
  have h := row_split (l.set i x) i (by simpa using hi)
  have e1 : (l.set i x).take i = l.take i := by rw [List.take_set]; exact List.set_eq_of_length_le (by rw [List.length_take]; omega)
  have e2 : (l.set i x).drop (i + 1) = l.drop (i + 1) := by rw [List.drop_set]; rw [if_pos (by omega)]
  have e3 : (l.set i x).getD i rm0 = x := by simp [List.getD, hi]
  rw [h, e1, e2, e3]
theorem rowM_set_get (l : List RM) (i : Nat) (x : RM) (hi : i < l.length) (t : Nat) (ht : t < l.length * 14) : (rowM (l.set i x))[t]? = if i * 14 ≤ t ∧ t < i * 14 + 14 then (cellsM x)[t - i * 14]? else (rowM l)[t]? := by
  have hlt : (rowM (l.take i)).length = i * 14 := by rw [rowM_len, List.length_take, Nat.min_eq_left (by omega)]
  rw [rowM_set l i x hi, row_split l i hi]
  by_cases h1 : t < i * 14
  · rw [if_neg (by omega), List.getElem?_append_left (by omega), List.getElem?_append_left (by omega)]
  · rw [List.getElem?_append_right (by omega), hlt]
    by_cases h2 : t < i * 14 + 14
    · rw [if_pos (by omega), List.getElem?_append_left (by rw [cellsM_len]; omega)]
    · rw [if_neg (by omega), List.getElem?_append_right (by rw [cellsM_len]; omega), List.getElem?_append_right (by omega), hlt, List.getElem?_append_right (by rw [cellsM_len]; omega), cellsM_len, cellsM_len]
/-- What a row of one's own is. -/
theorem own_parts {w : World} {base q n cap : Nat} {xs : List Value} (h : w.ownsRow base 34 14 (.slice (some ⟨q, 0, none⟩) n cap) n xs) : ∃ cur, base ≤ q ∧ w.heap[q]? = some (.cells cur 34 (0, 0)) ∧ n ≤ cap ∧ cap ≤ maxLen ∧ cur.size = cap * 14 ∧ cur.toList.take (n * 14) = xs ∧ xs.length = n * 14 := by
  rcases h.2 with ⟨e, _⟩ | ⟨q', cap', cur, e, h1, h2, h3, h4, h5, h6⟩
  · cases e
  · cases e; exact ⟨cur, h1, h2, h3, h4, h5, h6, h.1⟩
/-- One message of the row is overwritten. -/
theorem row_put {w : World} {base q n cap i : Nat} {l : List RM} (h : w.ownsRow base 34 14 (.slice (some ⟨q, 0, none⟩) n cap) n (rowM l)) (hl : l.length = n) (hi : i < n) (x : RM) :
    ((((((((((((((w.setCell ⟨q, i * 14, none⟩ (.int .i8 x.f.k)).setCell ⟨q, i * 14 + 1, none⟩ (.int .i64 x.f.fr)).setCell ⟨q, i * 14 + 2, none⟩ (.int .i64 x.f.to)).setCell ⟨q, i * 14 + 3, none⟩ (.int .i64 x.f.te)).setCell ⟨q, i * 14 + 4, none⟩ (.int .i64 x.f.ix)).setCell ⟨q, i * 14 + 5, none⟩ (.int .i64 x.f.la)).setCell ⟨q, i * 14 + 6, none⟩ (.int .i64 x.f.co)).setCell ⟨q, i * 14 + 7, none⟩ (.bool x.f.ok)).setCell ⟨q, i * 14 + 8, none⟩ (.slice x.ea x.en x.ec)).setCell ⟨q, i * 14 + 9, none⟩ (.int .i64 x.f.si)).setCell ⟨q, i * 14 + 10, none⟩ (.int .i64 x.f.st)).setCell ⟨q, i * 14 + 11, none⟩ (.int .u8 x.f.su)).setCell ⟨q, i * 14 + 12, none⟩ (.slice x.sa x.sn x.sc)).setCell ⟨q, i * 14 + 13, none⟩ (.slice x.da x.dn x.dc)).ownsRow base 34 14 (.slice (some ⟨q, 0, none⟩) n cap) n (rowM (l.set i x)) ∧ Fx [] (.slice (some ⟨q, 0, none⟩) n cap) (.slice (some ⟨q, 0, none⟩) n cap) w ((((((((((((((w.setCell ⟨q, i * 14, none⟩ (.int .i8 x.f.k)).setCell ⟨q, i * 14 + 1, none⟩ (.int .i64 x.f.fr)).setCell ⟨q, i * 14 + 2, none⟩ (.int .i64 x.f.to)).setCell ⟨q, i * 14 + 3, none⟩ (.int .i64 x.f.te)).setCell ⟨q, i * 14 + 4, none⟩ (.int .i64 x.f.ix)).setCell ⟨q, i * 14 + 5, none⟩ (.int .i64 x.f.la)).setCell ⟨q, i * 14 + 6, none⟩ (.int .i64 x.f.co)).setCell ⟨q, i * 14 + 7, none⟩ (.bool x.f.ok)).setCell ⟨q, i * 14 + 8, none⟩ (.slice x.ea x.en x.ec)).setCell ⟨q, i * 14 + 9, none⟩ (.int .i64 x.f.si)).setCell ⟨q, i * 14 + 10, none⟩ (.int .i64 x.f.st)).setCell ⟨q, i * 14 + 11, none⟩ (.int .u8 x.f.su)).setCell ⟨q, i * 14 + 12, none⟩ (.slice x.sa x.sn x.sc)).setCell ⟨q, i * 14 + 13, none⟩ (.slice x.da x.dn x.dc)) := by
  obtain ⟨cur, h1, h2, h3, h4, h5, h6, h7⟩ := own_parts h
  have hh := heap_setCells (cellsM x) w (i * 14) cur h2
  have hg := setCells_grown (g := q) (cellsM x) w (i * 14)
  refine ⟨⟨by rw [rowM_len]; simp [hl], .inr ⟨q, cap, _, rfl, h1, hh, h3, h4, by rw [layA_size, h5], ?_⟩⟩, ⟨⟨hg.os, hg.tape, hg.output, hg.size, fun k hk => absurd hk (Nat.not_lt_zero _)⟩, fun b hb _ h3 => hg.block b hb (fun e => h3 (by simpa [Value.ownBlock] using e.symm)), fun b hb h3 => h3⟩⟩
  apply List.ext_getElem?
  intro t
  by_cases ht : t < n * 14
  · rw [List.getElem?_take_of_lt ht, Array.getElem?_toList, layA_get _ _ _ _ (by rw [cellsM_len, h5]; omega), cellsM_len, rowM_set_get l i x (by omega) t (by omega), take_get h6 t ht]
  · rw [List.getElem?_eq_none (by rw [List.length_take]; omega), List.getElem?_eq_none (by rw [rowM_len]; simp [hl]; omega)]
/-- The cells of a row of one's own. -/
theorem own_some {w : World} {base q n cap : Nat} {xs : List Value} (h : w.ownsRow base 34 14 (.slice (some ⟨q, 0, none⟩) n cap) n xs) (o : Nat) (ho : o < cap * 14) : ∃ v, w.cell? ⟨q, o, none⟩ = some v := by
  obtain ⟨cur, h1, h2, h3, h4, h5, h6, h7⟩ := own_parts h
  exact ⟨_, heap_cell h2 (Array.getElem?_eq_getElem (show o < cur.size by omega))⟩
theorem own_free {w : World} {base q n cap : Nat} {xs : List Value} (h : w.ownsRow base 34 14 (.slice (some ⟨q, 0, none⟩) n cap) n xs) (o : Nat) : w.frozen? ⟨q, o, none⟩ = false := by
  obtain ⟨cur, h1, h2, h3, h4, h5, h6, h7⟩ := own_parts h
  exact heap_frozen h2 o
/-- What is kept. -/
def kp (a : Int) (r : RM) : Bool := !(r.f.to == a)
end Ar

set_option maxRecDepth 100000 in
set_option maxHeartbeats 4000000 in
theorem clr_c (x : RM) (cb : Nat) (a : Int) (w : World) (hc : w.cell? ⟨cb, 0, none⟩ = some (.int .i64 a)) :
    Calls Try.prog 26 #[.agg #[.int .i8 x.f.k, .int .i64 x.f.fr, .int .i64 x.f.to, .int .i64 x.f.te, .int .i64 x.f.ix, .int .i64 x.f.la, .int .i64 x.f.co, .bool x.f.ok, .slice x.ea x.en x.ec, .int .i64 x.f.si, .int .i64 x.f.st, .int .u8 x.f.su, .slice x.sa x.sn x.sc, .slice x.da x.dn x.dc], .pointer (some ⟨cb, 0, none⟩)] w fun e w' => e = .returned (.bool (x.f.to == a)) ∧ Below w.heap.size w w' := by
  have hal := (Below.refl w.heap.size w).alloc (Nat.le_refl _) (.cells #[.int .i8 x.f.k, .int .i64 x.f.fr, .int .i64 x.f.to, .int .i64 x.f.te, .int .i64 x.f.ix, .int .i64 x.f.la, .int .i64 x.f.co, .bool x.f.ok, .slice x.ea x.en x.ec, .int .i64 x.f.si, .int .i64 x.f.st, .int .u8 x.f.su, .slice x.sa x.sn x.sc, .slice x.da x.dn x.dc] 34)
  have hc2 := cellB hal hc
  have hm := HT.new w #[.int .i8 x.f.k, .int .i64 x.f.fr, .int .i64 x.f.to, .int .i64 x.f.te, .int .i64 x.f.ix, .int .i64 x.f.la, .int .i64 x.f.co, .bool x.f.ok, .slice x.ea x.en x.ec, .int .i64 x.f.si, .int .i64 x.f.st, .int .u8 x.f.su, .slice x.sa x.sn x.sc, .slice x.da x.dn x.dc] 34
  clear hc
  replace hal := Lib.hid hal
  replace hm := Lib.hid hm
  go_enter Try.func26, Try.ntmps26
  go_upto_region 1 with fail
  replace hal := hal.out
  replace hm := hm.out
  generalize (w.alloc (.cells #[.int .i8 x.f.k, .int .i64 x.f.fr, .int .i64 x.f.to, .int .i64 x.f.te, .int .i64 x.f.ix, .int .i64 x.f.la, .int .i64 x.f.co, .bool x.f.ok, .slice x.ea x.en x.ec, .int .i64 x.f.si, .int .i64 x.f.st, .int .u8 x.f.su, .slice x.sa x.sn x.sc, .slice x.da x.dn x.dc] 34)) = W1 at hal hm hc2 ⊢
  have hB := Lib.hid hal
  generalize w.heap.size = xb at hm ⊢
  have y2 := hm.c 2 _ rfl
  clear hm hal
  go_wp2_with fail
  go_ret
  exact ⟨rfl, hB.out⟩

namespace Ar
def IdxP (l : List RM) (a : Int) (w : World) (e : Ending) (w' : World) : Prop :=
  ((∃ k : Nat, k < l.length ∧ e = .returned (.int .i64 (k : Nat)) ∧ (l.take (k + 1)).filter (kp a) = l.take k) ∨ (e = .returned (.int .i64 (-1)) ∧ l.filter (kp a) = l)) ∧ Below w.heap.size w w'
theorem take_snocR {l : List RM} {k : Nat} {y : RM} (h : l[k]? = some y) : l.take (k + 1) = l.take k ++ [y] := by
  rw [List.take_add_one, h]; rfl
end Ar

set_option maxRecDepth 100000 in
set_option maxHeartbeats 8000000 in
theorem idx_c {w : World} {base q cap cb : Nat} {l : List RM} (h : w.ownsRow base 34 14 (.slice (some ⟨q, 0, none⟩) l.length cap) l.length (rowM l)) (a : Int) (hc : w.cell? ⟨cb, 0, none⟩ = some (.int .i64 a)) (hl : l.length ≤ 1024) :
    Calls Try.prog 40 #[.slice (some ⟨q, 0, none⟩) l.length cap, .func (.func 26) #[] #[.pointer (some ⟨cb, 0, none⟩)]] w (IdxP l a w) := by
  have hcl : ∀ i j, i < l.length → j < 14 → ∀ v, (cellsM (l.getD i rm0))[j]? = some v → w.cell? ⟨q, i * 14 + j, none⟩ = some v := fun i j hi hj v hv => by rw [h.cellAt (i * 14 + j) (by omega), rowM_at l i j hi hj, hv]
  have hlz : (l.length : Int) ≤ 1024 := by omega
  obtain ⟨N, hN⟩ : ∃ N, l.length = N := ⟨_, rfl⟩
  rw [hN] at hcl hlz ⊢
  replace hN := Lib.hid hN
  replace hcl := Lib.hid hcl
  replace hc := Lib.hid hc
  clear h hl
  go_enter Try.func40, Try.ntmps40
  go_wp2_with fail
  go_loopw [8] (fun i wr => ∃ k : Nat, k ≤ N ∧ i = .int .i64 (k : Nat) ∧ (l.take k).filter (kp a) = l.take k ∧ Below w.heap.size w wr) (fun i _ => N - (intOf i).toNat)
  case atStart => exact ⟨0, by omega, rfl, rfl, Below.refl _ _⟩
  case round =>
    obtain ⟨k, hk, rfl, hF, hB⟩ := hrel
    by_cases hlt : k < N
    · have hlt' : (k : Int) < (N : Int) := by omega
      have hk0 : (0 : Int) ≤ (k : Int) := by omega
      have hxk : k < l.length := by have := hN.out; omega
      obtain ⟨x, hxe⟩ : ∃ x, x = l.getD k rm0 := ⟨_, rfl⟩
      have hx : l[k]? = some x := by rw [hxe]; simp [List.getD, hxk]
      have hcl := hcl.out
      have y0 := cellB hB (hcl k 0 hlt (by omega) (.int .i8 x.f.k) (by rw [← hxe]; rfl))
      have y1 := cellB hB (hcl k 1 hlt (by omega) (.int .i64 x.f.fr) (by rw [← hxe]; rfl))
      have y2 := cellB hB (hcl k 2 hlt (by omega) (.int .i64 x.f.to) (by rw [← hxe]; rfl))
      have y3 := cellB hB (hcl k 3 hlt (by omega) (.int .i64 x.f.te) (by rw [← hxe]; rfl))
      have y4 := cellB hB (hcl k 4 hlt (by omega) (.int .i64 x.f.ix) (by rw [← hxe]; rfl))
      have y5 := cellB hB (hcl k 5 hlt (by omega) (.int .i64 x.f.la) (by rw [← hxe]; rfl))
      have y6 := cellB hB (hcl k 6 hlt (by omega) (.int .i64 x.f.co) (by rw [← hxe]; rfl))
      have y7 := cellB hB (hcl k 7 hlt (by omega) (.bool x.f.ok) (by rw [← hxe]; rfl))
      have y8 := cellB hB (hcl k 8 hlt (by omega) (.slice x.ea x.en x.ec) (by rw [← hxe]; rfl))
      have y9 := cellB hB (hcl k 9 hlt (by omega) (.int .i64 x.f.si) (by rw [← hxe]; rfl))
      have y10 := cellB hB (hcl k 10 hlt (by omega) (.int .i64 x.f.st) (by rw [← hxe]; rfl))
      have y11 := cellB hB (hcl k 11 hlt (by omega) (.int .u8 x.f.su) (by rw [← hxe]; rfl))
      have y12 := cellB hB (hcl k 12 hlt (by omega) (.slice x.sa x.sn x.sc) (by rw [← hxe]; rfl))
      have y13 := cellB hB (hcl k 13 hlt (by omega) (.slice x.da x.dn x.dc) (by rw [← hxe]; rfl))
      rw [Nat.add_zero] at y0
      have hcb := clr_c x cb a wr (cellB hB hc.out)
      clear hcl hxe hxk
      replace hx := Lib.hid hx
      replace hF := Lib.hid hF
      replace hB := Lib.hid hB
      replace hcb := Lib.hid hcb
      by_cases hto : x.f.to = a
      · have e1 : (x.f.to == a) = true := by simpa using hto
        have e2 : kp a x = false := by unfold kp; rw [e1]; rfl
        have hfin := Lib.hid (show (l.take (k + 1)).filter (kp a) = l.take k by rw [take_snocR hx.out, List.filter_append, hF.out]; simp [e2])
        rw [e1] at hcb
        clear hto e1 e2
        go_wp2_with fail
        refine hcb.out.mono ?_
        rintro e w' ⟨rfl, hb2⟩
        have hB2 := Lib.hid (bNext hB.out hb2 (Nat.le_refl _))
        clear hb2 y0 y1 y2 y3 y4 y5 y6 y7 y8 y9 y10 y11 y12 y13
        go_wp2_with fail
        go_ret
        exact ⟨.inl ⟨k, by have := hN.out; omega, rfl, hfin.out⟩, hB2.out⟩
      · have e1 : (x.f.to == a) = false := by simpa using hto
        have e2 : kp a x = true := by unfold kp; rw [e1]; rfl
        have hfin := Lib.hid (show (l.take (k + 1)).filter (kp a) = l.take (k + 1) by rw [take_snocR hx.out, List.filter_append, hF.out]; simp [e2])
        rw [e1] at hcb
        clear hto e1 e2
        go_wp2_with fail
        refine hcb.out.mono ?_
        rintro e w' ⟨rfl, hb2⟩
        have hB2 := Lib.hid (bNext hB.out hb2 (Nat.le_refl _))
        clear hb2 y0 y1 y2 y3 y4 y5 y6 y7 y8 y9 y10 y11 y12 y13
        go_wp2_with fail
        go_roundw
        case rel => exact ⟨k + 1, by omega, by go_num, hfin.out, hB2.out⟩
        case measure => simp [intOf]; omega
    · obtain rfl : k = N := by omega
      have hfin := Lib.hid (show l.filter (kp a) = l by
        have e : l.take k = l := List.take_of_length_le (by rw [hN.out]; exact Nat.le_refl _)
        rw [e] at hF
        exact hF)
      clear hF
      go_wp2_with fail
      go_ret
      exact ⟨.inr ⟨rfl, hfin.out⟩, hB⟩

end Go.Proofs.Ytnokojobiaddmaa
