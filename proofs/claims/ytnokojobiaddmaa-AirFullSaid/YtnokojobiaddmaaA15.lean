/- The air: Clear of all messages. -/
import Derived.Test.YtnokojobiaddmaaA14
namespace Go.Proofs.Ytnokojobiaddmaa
open Go.ChangeShapes Go.WideShapes Go.ChangeAt Go.RowKit Go.Maps
set_option linter.unusedVariables false
set_option linter.unusedSimpArgs false
open BigFrame Bs Ar

namespace Ar
def WipeP (q cap : Nat) (w : World) (e : Ending) (w' : World) : Prop :=
  ∃ (wr : World) (vs : List Value), e = .returned (.slice (some ⟨q, 0, none⟩) 0 cap) ∧ Below w.heap.size w wr ∧ w' = wr.setCells q 0 vs
def ClearP (m g base bm n : Nat) (C : Int → Int → Bool) (lv : Value) (k : Nat) (w : World) (e : Ending) (w' : World) : Prop :=
  ∃ lv2, e = .returned (.int .i64 (k : Nat)) ∧ AirAt m w' g base lv2 [] bm n C ∧ Kpt m g bm lv lv2 w w'
section
variable {m : Nat} {w : World} {g base : Nat} {l : List FM} {bm n : Nat} {C : Int → Int → Bool}
theorem AirAt.wipe {q n2 cap : Nat} (h : AirAt m w g base (.slice (some ⟨q, 0, none⟩) n2 cap) l bm n C) (vs : List Value) :
    ((w.setCells q 0 vs).cell? ⟨g, 0, none⟩ = some (.slice (some ⟨q, 0, none⟩) n2 cap) ∧ (w.setCells q 0 vs).frozen? ⟨g, 0, none⟩ = false) ∧ AirAt m ((w.setCells q 0 vs).setCell ⟨g, 0, none⟩ (.slice (some ⟨q, 0, none⟩) 0 cap)) g base (.slice (some ⟨q, 0, none⟩) 0 cap) [] bm n C ∧
      Kpt m g bm (.slice (some ⟨q, 0, none⟩) n2 cap) (.slice (some ⟨q, 0, none⟩) 0 cap) w ((w.setCells q 0 vs).setCell ⟨g, 0, none⟩ (.slice (some ⟨q, 0, none⟩) 0 cap)) := by
  have hg := setCells_grown (g := q) vs w 0
  have hq := (h.own.lt q rfl).1
  have hgq : some g ≠ some q := fun e => by have := h.h1; simp at e; omega
  have hbq : some bm ≠ some q := fun e => by have := h.h2; simp at e; omega
  have hgg : (w.setCells q 0 vs).heap[g]? = some (.cells #[.slice (some ⟨q, 0, none⟩) n2 cap, .map (some bm)] 59 (0, 0)) := (hg.block g h.lt hgq).trans h.hg
  have hs := hg.size
  refine ⟨⟨heap_cell hgg rfl, heap_frozen hgg 0⟩, ⟨heap_set (o := 0) hgg, ?_, ?_, h.h1, h.h2, h.h3, h.h4, h.h5, by have := h.h6; simp; omega⟩, ?_⟩
  · refine ownsRow_setCell_below (base := base) ?_ (a := ⟨g, 0, none⟩) h.h1 _
    refine ⟨rfl, ?_⟩
    rcases h.own.2 with ⟨e, _⟩ | ⟨q', cap', cur, e, h1, h2, h3, h4, h5, h6⟩
    · cases e
    · cases e
      exact .inr ⟨q, cap, layA cur 0 vs, rfl, h1, heap_setCells vs w 0 cur h2, Nat.zero_le _, h4, by rw [layA_size]; exact h5, by simp [rowM]⟩
  · obtain ⟨D, d1, d2⟩ := h.mp
    exact ⟨D, (d1.kept hg hbq).setCell (a := ⟨g, 0, none⟩) (Ne.symm h.h3) _, d2⟩
  · refine ⟨?_, fun b hb h1 h2 h3 => ?_, fun b hb h3 e => h3 e⟩
    rotate_left
    · exact (Below.heap_setCell _ ⟨g, 0, none⟩ _ b h1).trans (hg.block b hb (fun e => h3 (by simpa [Value.ownBlock] using e.symm)))
    exact ((Below.refl m w).grown hg h.below (fun k hk => by cases hk; have := h.h4; have := h.h1; omega)).setCell (p := ⟨g, 0, none⟩) h.h4 _
end
end Ar

set_option maxRecDepth 100000 in
set_option maxHeartbeats 4000000 in
theorem idx_all {m : Nat} {w : World} {g base : Nat} {l : List FM} {bm n q cap cb : Nat} {C : Int → Int → Bool} (h : AirAt m w g base (.slice (some ⟨q, 0, none⟩) l.length cap) l bm n C) (a : Int) (hc : w.cell? ⟨cb, 0, none⟩ = some (.int .i64 a)) (hpos : 0 < l.length) (hall : ∀ x ∈ l, x.to = a) :
    Calls Try.prog 40 #[.slice (some ⟨q, 0, none⟩) l.length cap, .func (.func 26) #[] #[.pointer (some ⟨cb, 0, none⟩)]] w fun e w' => e = .returned (.int .i64 0) ∧ Below w.heap.size w w' := by
  obtain ⟨x, hx⟩ : ∃ x, l.getD 0 fm0 = x := ⟨_, rfl⟩
  have hxm : x ∈ l := by rw [← hx]; simp only [List.getD, List.getElem?_eq_getElem hpos, Option.getD_some]; exact List.getElem_mem hpos
  have hcl := clr_c x cb a w hc (hall x hxm)
  have y0 := h.cell rfl 0 0 (by omega) (by omega) (.int .i8 x.k) (by rw [hx]; rfl)
  have y1 := h.cell rfl 0 1 (by omega) (by omega) (.int .i64 x.fr) (by rw [hx]; rfl)
  have y2 := h.cell rfl 0 2 (by omega) (by omega) (.int .i64 x.to) (by rw [hx]; rfl)
  have y3 := h.cell rfl 0 3 (by omega) (by omega) (.int .i64 x.te) (by rw [hx]; rfl)
  have y4 := h.cell rfl 0 4 (by omega) (by omega) (.int .i64 x.ix) (by rw [hx]; rfl)
  have y5 := h.cell rfl 0 5 (by omega) (by omega) (.int .i64 x.la) (by rw [hx]; rfl)
  have y6 := h.cell rfl 0 6 (by omega) (by omega) (.int .i64 x.co) (by rw [hx]; rfl)
  have y7 := h.cell rfl 0 7 (by omega) (by omega) (.bool x.ok) (by rw [hx]; rfl)
  have y8 := h.cell rfl 0 8 (by omega) (by omega) (.slice none 0 0) (by rw [hx]; rfl)
  have y9 := h.cell rfl 0 9 (by omega) (by omega) (.int .i64 x.si) (by rw [hx]; rfl)
  have y10 := h.cell rfl 0 10 (by omega) (by omega) (.int .i64 x.st) (by rw [hx]; rfl)
  have y11 := h.cell rfl 0 11 (by omega) (by omega) (.int .u8 x.su) (by rw [hx]; rfl)
  have y12 := h.cell rfl 0 12 (by omega) (by omega) (.slice none 0 0) (by rw [hx]; rfl)
  have y13 := h.cell rfl 0 13 (by omega) (by omega) (.slice none 0 0) (by rw [hx]; rfl)
  simp only [Nat.zero_mul, Nat.zero_add] at y0 y1 y2 y3 y4 y5 y6 y7 y8 y9 y10 y11 y12 y13
  have hpz : (0 : Int) < (l.length : Int) := by omega
  obtain ⟨nl, hnl⟩ : ∃ nl, l.length = nl := ⟨_, rfl⟩
  rw [hnl] at hpz ⊢
  clear hall hxm hx hc h hpos hnl
  replace hcl := Lib.hid hcl
  go_enter Try.func40, Try.ntmps40
  go_wp2_with fail
  go_loop [8] (fun s8 => s8 = .int .i64 0) (fun _ => 0)
  case atStart => rfl
  case round =>
    obtain rfl := hrel
    go_wp2_with fail
    refine hcl.out.mono ?_
    rintro e w' ⟨rfl, hB⟩
    go_wp2_with fail
    go_ret
    exact ⟨rfl, hB⟩

set_option maxRecDepth 100000 in
set_option maxHeartbeats 4000000 in
theorem del_all {m : Nat} {w : World} {g base : Nat} {l : List FM} {bm n q cap cb : Nat} {C : Int → Int → Bool} (h : AirAt m w g base (.slice (some ⟨q, 0, none⟩) l.length cap) l bm n C) (a : Int) (hc : w.cell? ⟨cb, 0, none⟩ = some (.int .i64 a)) (hpos : 0 < l.length) (hl : l.length ≤ 1024) (hall : ∀ x ∈ l, x.to = a) :
    Calls Try.prog 25 #[.slice (some ⟨q, 0, none⟩) l.length cap, .func (.func 26) #[] #[.pointer (some ⟨cb, 0, none⟩)]] w (WipeP q cap w) := by
  have hidx := idx_all h a hc hpos hall
  have hcap : l.length ≤ cap ∧ cap ≤ maxLen := by
    rcases h.own.2 with ⟨e, _⟩ | ⟨q', cap', cur, e, h1, h2, h3, h4, h5, h6⟩
    · cases e
    · cases e; exact ⟨h3, h4⟩
  obtain ⟨hc1, hc2⟩ := hcap
  unfold maxLen at hc2
  have hpz : (0 : Int) < (l.length : Int) := by omega
  have hlz : (l.length : Int) ≤ 1024 := by omega
  have hcz : (l.length : Int) ≤ (cap : Int) := by omega
  have hcne : ¬ cap = 0 := by omega
  replace h := Lib.hid h
  replace hall := Lib.hid hall
  replace hc := Lib.hid hc
  go_enter Try.func25, Try.ntmps25
  go_wp2_with fail
  refine hidx.mono ?_
  rintro e w1 ⟨rfl, hB1⟩
  clear hidx
  go_wp2_with fail
  go_loopw [5, 6] (fun s5 s6 wr => ∃ j : Nat, 1 ≤ j ∧ j ≤ l.length ∧ s5 = .int .i64 0 ∧ s6 = .int .i64 (j : Nat) ∧ Below w.heap.size w wr) (fun _ s6 _ => l.length - (intOf s6).toNat)
  case atStart => exact ⟨1, Nat.le_refl _, hpos, rfl, rfl, hB1⟩
  case round =>
    obtain ⟨j, hj1, hj2, rfl, rfl, hB⟩ := hrel
    have hR := h.out.bel hB
    by_cases hlt : j < l.length
    · have hltz : (j : Int) < (l.length : Int) := by omega
      obtain ⟨x, hxj⟩ : ∃ x, l.getD j fm0 = x := ⟨_, rfl⟩
      have hxm : x ∈ l := by rw [← hxj]; simp only [List.getD, List.getElem?_eq_getElem hlt, Option.getD_some]; exact List.getElem_mem hlt
      have hto := hall.out x hxm
      have y0 := hR.cell rfl j 0 hlt (by omega) (.int .i8 x.k) (by rw [hxj]; rfl)
      have y1 := hR.cell rfl j 1 hlt (by omega) (.int .i64 x.fr) (by rw [hxj]; rfl)
      have y2 := hR.cell rfl j 2 hlt (by omega) (.int .i64 x.to) (by rw [hxj]; rfl)
      have y3 := hR.cell rfl j 3 hlt (by omega) (.int .i64 x.te) (by rw [hxj]; rfl)
      have y4 := hR.cell rfl j 4 hlt (by omega) (.int .i64 x.ix) (by rw [hxj]; rfl)
      have y5 := hR.cell rfl j 5 hlt (by omega) (.int .i64 x.la) (by rw [hxj]; rfl)
      have y6 := hR.cell rfl j 6 hlt (by omega) (.int .i64 x.co) (by rw [hxj]; rfl)
      have y7 := hR.cell rfl j 7 hlt (by omega) (.bool x.ok) (by rw [hxj]; rfl)
      have y8 := hR.cell rfl j 8 hlt (by omega) (.slice none 0 0) (by rw [hxj]; rfl)
      have y9 := hR.cell rfl j 9 hlt (by omega) (.int .i64 x.si) (by rw [hxj]; rfl)
      have y10 := hR.cell rfl j 10 hlt (by omega) (.int .i64 x.st) (by rw [hxj]; rfl)
      have y11 := hR.cell rfl j 11 hlt (by omega) (.int .u8 x.su) (by rw [hxj]; rfl)
      have y12 := hR.cell rfl j 12 hlt (by omega) (.slice none 0 0) (by rw [hxj]; rfl)
      have y13 := hR.cell rfl j 13 hlt (by omega) (.slice none 0 0) (by rw [hxj]; rfl)
      rw [Nat.add_zero] at y0
      have hal := (Below.refl wr.heap.size wr).alloc (Nat.le_refl _) (.cells #[.int .i8 x.k, .int .i64 x.fr, .int .i64 x.to, .int .i64 x.te, .int .i64 x.ix, .int .i64 x.la, .int .i64 x.co, .bool x.ok, .slice none 0 0, .int .i64 x.si, .int .i64 x.st, .int .u8 x.su, .slice none 0 0, .slice none 0 0] 34)
      have hm : HB (wr.alloc (.cells #[.int .i8 x.k, .int .i64 x.fr, .int .i64 x.to, .int .i64 x.te, .int .i64 x.ix, .int .i64 x.la, .int .i64 x.co, .bool x.ok, .slice none 0 0, .int .i64 x.si, .int .i64 x.st, .int .u8 x.su, .slice none 0 0, .slice none 0 0] 34)) wr.heap.size #[.int .i8 x.k, .int .i64 x.fr, .int .i64 x.to, .int .i64 x.te, .int .i64 x.ix, .int .i64 x.la, .int .i64 x.co, .bool x.ok, .slice none 0 0, .int .i64 x.si, .int .i64 x.st, .int .u8 x.su, .slice none 0 0, .slice none 0 0] := HB.new wr _
      have hc3 := cellB (bNext hB hal (Nat.le_refl _)) hc.out
      have hB3 := bNext hB hal (Nat.le_refl _)
      clear hR hxm hxj hal
      replace hm := Lib.hid hm
      replace hB3 := Lib.hid hB3
      replace hc3 := Lib.hid hc3
      replace hto := Lib.hid hto
      go_upto_region 8 with fail
      replace hm := hm.out
      replace hB3 := hB3.out
      replace hc3 := hc3.out
      clear y0 y1 y2 y3 y4 y5 y6 y7 y8 y9 y10 y11 y12 y13
      generalize (wr.alloc (.cells #[.int .i8 x.k, .int .i64 x.fr, .int .i64 x.to, .int .i64 x.te, .int .i64 x.ix, .int .i64 x.la, .int .i64 x.co, .bool x.ok, .slice none 0 0, .int .i64 x.si, .int .i64 x.st, .int .u8 x.su, .slice none 0 0, .slice none 0 0] 34)) = W3 at hm hB3 hc3 ⊢
      generalize wr.heap.size = xb at hm ⊢
      have hcl := clr_c x cb a W3 hc3 hto.out
      have y0 := hm.c 0 (.int .i8 x.k) rfl
      have y1 := hm.c 1 (.int .i64 x.fr) rfl
      have y2 := hm.c 2 (.int .i64 x.to) rfl
      have y3 := hm.c 3 (.int .i64 x.te) rfl
      have y4 := hm.c 4 (.int .i64 x.ix) rfl
      have y5 := hm.c 5 (.int .i64 x.la) rfl
      have y6 := hm.c 6 (.int .i64 x.co) rfl
      have y7 := hm.c 7 (.bool x.ok) rfl
      have y8 := hm.c 8 (.slice none 0 0) rfl
      have y9 := hm.c 9 (.int .i64 x.si) rfl
      have y10 := hm.c 10 (.int .i64 x.st) rfl
      have y11 := hm.c 11 (.int .u8 x.su) rfl
      have y12 := hm.c 12 (.slice none 0 0) rfl
      have y13 := hm.c 13 (.slice none 0 0) rfl
      clear hm hc3
      replace hcl := Lib.hid hcl
      go_wp2_with fail
      refine hcl.out.mono ?_
      rintro e w' ⟨rfl, hB4⟩
      have hB5 := bNext hB3 hB4 (Nat.le_refl _)
      clear hcl hB3 hB4 y0 y1 y2 y3 y4 y5 y6 y7 y8 y9 y10 y11 y12 y13
      go_wp2_with fail
      go_roundw
      case rel => exact ⟨j + 1, by omega, by omega, rfl, by go_num, hB5⟩
      case measure => simp [intOf]; omega
    · have hltz : ¬ (j : Int) < (l.length : Int) := by omega
      obtain ⟨cur, hgq, hcs⟩ : ∃ cur, wr.heap[q]? = some (.cells cur 34 (0, 0)) ∧ cur.size = cap * 14 := by
        rcases hR.own.2 with ⟨e, _⟩ | ⟨q', cap', cur, e, h1, h2, h3, h4, h5, h6⟩
        · cases e
        · cases e; exact ⟨cur, h2, h5⟩
      obtain ⟨vs, hvs, hclr⟩ := run_clear_any wr 49 34 3 (.agg #[.int .i8 0, .int .i64 0, .int .i64 0, .int .i64 0, .int .i64 0, .int .i64 0, .int .i64 0, .bool false, .slice none 0 0, .int .i64 0, .int .i64 0, .int .u8 0, .slice none 0 0, .slice none 0 0]) [.int .i8 0, .int .i64 0, .int .i64 0, .int .i64 0, .int .i64 0, .int .i64 0, .int .i64 0, .bool false, .slice none 0 0, .int .i64 0, .int .i64 0, .int .u8 0, .slice none 0 0, .slice none 0 0] Try.underlying49 zero_msg rfl (cellsM_one fm0) q 0 l.length cap hpos (fun j hj => by
        have hj2 : j < l.length * 14 := hj
        have hlt : 0 + j < cur.size := by rw [hcs]; omega
        rw [heap_cell hgq (Array.getElem?_eq_getElem hlt)]; rfl) (fun j hj => heap_frozen hgq _)
      have hclr2 : ∀ ty, (Builtin.clear_ #[49] ty #[.slice (some ⟨q, 0, none⟩) l.length cap]).run Try.prog wr = .ok (.tuple #[]) (wr.setCells q 0 vs) := fun ty => hclr
      clear hR hgq hcs hclr hvs
      go_wp2_with fail
      go_ret
      exact ⟨wr, vs, rfl, hB, rfl⟩

set_option maxRecDepth 100000 in
set_option maxHeartbeats 4000000 in
theorem air_clear {m : Nat} {w : World} {g base : Nat} {lv : Value} {l : List FM} {bm n : Nat} {C : Int → Int → Bool} (h : AirAt m w g base lv l bm n C) (a : Int) (hpos : 0 < l.length) (hl : l.length ≤ 1024) (hall : ∀ x ∈ l, x.to = a) :
    Calls Try.prog 17 #[.pointer (some ⟨g, 0, none⟩), .int .i64 a] w (ClearP m g base bm n C lv l.length w) := by
  have hal := (Below.refl w.heap.size w).alloc (Nat.le_refl _) (.cells #[.int .i64 a] 3)
  have hc : (w.alloc (.cells #[.int .i64 a] 3)).cell? ⟨w.heap.size, 0, none⟩ = some (.int .i64 a) := heap_cell (heap_alloc_new w (.cells #[.int .i64 a] 3)) rfl
  have h2 := h.bel hal
  have hmw := h.below
  obtain ⟨q, cap, rfl, _⟩ := h.own.form hpos
  have hpz : (0 : Int) < (l.length : Int) := by omega
  have hlz : (l.length : Int) ≤ 1024 := by omega
  clear h
  replace hal := Lib.hid hal
  replace h2 := Lib.hid h2
  replace hc := Lib.hid hc
  replace hall := Lib.hid hall
  go_enter Try.func17, Try.ntmps17
  go_upto_region 1 with fail
  replace hal := hal.out
  replace h2 := h2.out
  replace hc := hc.out
  generalize (w.alloc (.cells #[.int .i64 a] 3)) = W1 at hal h2 hc ⊢
  generalize w.heap.size = cb at hc ⊢
  have hlen := air_len h2
  have hdel := del_all h2 a hc hpos hl hall.out
  have c0 := h2.c0
  have hB := Lib.hid hal
  replace h2 := Lib.hid h2
  clear hal hc
  go_wp2_with fail
  refine hlen.mono ?_
  rintro e w' ⟨rfl, rfl⟩
  clear hlen
  go_wp2_with fail
  refine hdel.mono ?_
  rintro e w3 ⟨wr, vs, rfl, hB3, rfl⟩
  obtain ⟨⟨z0, z1⟩, r1, r2⟩ := (h2.out.bel hB3).wipe vs
  have hlen := air_len r1
  rw [show ((([] : List FM).length : Nat) : Int) = 0 from rfl] at hlen
  have r3 := r2.pre (bNext hB.out hB3 (Nat.le_refl _)) hmw
  clear hdel hB3 r2 c0
  replace r1 := Lib.hid r1
  replace r3 := Lib.hid r3
  go_wp2_with fail
  refine hlen.mono ?_
  rintro e w' ⟨rfl, rfl⟩
  go_wp2_with fail
  go_ret
  exact ⟨_, rfl, r1.out, r3.out⟩
end Go.Proofs.Ytnokojobiaddmaa
