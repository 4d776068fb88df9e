/- The air: Lose, Double of a full one, Clear of all. -/
import Derived.Test.YtnokojobiaddmaaA13
namespace Go.Proofs.Ytnokojobiaddmaa
open Go.ChangeShapes Go.WideShapes Go.ChangeAt Go.RowKit Go.Maps
set_option linter.unusedVariables false
set_option linter.unusedSimpArgs false
open BigFrame Bs Ar

namespace Ar
theorem Kpt.post {m g bm : Nat} {lv lv' : Value} {w w' w2 : World} (k : Kpt m g bm lv lv' w w') (h : Below w'.heap.size w' w2) (hm : m ≤ w'.heap.size) : Kpt m g bm lv lv' w w2 :=
  ⟨k.bel.trans (h.mono hm), fun b hb h1 h2 h3 => (h.block b (Nat.lt_of_lt_of_le hb k.bel.size)).trans (k.blk b hb h1 h2 h3), k.row⟩
end Ar

set_option maxRecDepth 100000 in
set_option maxHeartbeats 4000000 in
theorem air_lose (k : Nat) {m : Nat} {w : World} {g base : Nat} {lv : Value} {l : List FM} {bm n : Nat} {C : Int → Int → Bool} (h : AirAt m w g base lv l bm n C) (x : FM) (hk : k < l.length) (hx : l.getD k fm0 = x) (hn : l.length ≤ 1024) (hf : (Lit.int .i64 x.fr).wf = true) (ht : (Lit.int .i64 x.to).wf = true) :
    Calls Try.prog 16 #[.pointer (some ⟨g, 0, none⟩), .int .i64 (k : Nat)] w (SendP lv m g base (l.eraseIdx k) bm n C w) := by
  have hd := air_deliver k h x hk hx hn hf ht
  have hmw := h.below
  clear h hx hk hf ht
  go_enter Try.func16, Try.ntmps16
  go_wp2_with fail
  refine hd.mono ?_
  rintro e w2 ⟨lv2, rfl, hA, hK⟩
  have hal := (Below.refl w2.heap.size w2).alloc (Nat.le_refl _) (.cells #[.int .i8 x.k, .int .i64 x.fr, .int .i64 x.to, .int .i64 x.te, .int .i64 x.ix, .int .i64 x.la, .int .i64 x.co, .bool x.ok, .slice none 0 0, .int .i64 x.si, .int .i64 x.st, .int .u8 x.su, .slice none 0 0, .slice none 0 0] 34)
  have hA2 := hA.bel hal
  have hK2 := hK.post hal hA.below
  clear hd hA hK hal
  replace hA2 := Lib.hid hA2
  replace hK2 := Lib.hid hK2
  go_wp2_with fail
  go_ret
  exact ⟨_, rfl, hA2.out, hK2.out⟩

set_option maxRecDepth 100000 in
set_option maxHeartbeats 4000000 in
theorem air_double_full (k : Nat) {m : Nat} {w : World} {g base : Nat} {lv : Value} {l : List FM} {bm n : Nat} {C : Int → Int → Bool} (h : AirAt m w g base lv l bm n C) (x : FM) (hk : k < l.length) (hx : l.getD k fm0 = x) (hn : l.length = 1024) :
    Calls Try.prog 15 #[.pointer (some ⟨g, 0, none⟩), .int .i64 (k : Nat)] w fun e w' => e = .returned (.int .i64 100) ∧ Below w.heap.size w w' := by
  have hlook := air_look k h x hk hx (by omega)
  obtain ⟨q, cap, hq⟩ : ∃ q cap, lv = .slice (some ⟨q, 0, none⟩) 1024 cap := by
    obtain ⟨q, cap, hq, _⟩ := h.own.form (by omega)
    exact ⟨q, cap, by rw [hq, hn]⟩
  subst hq
  replace h := Lib.hid h
  replace hn := Lib.hid hn
  clear hx
  go_enter Try.func15, Try.ntmps15
  go_wp2_with fail
  refine hlook.mono ?_
  rintro e w2 ⟨rfl, hb2⟩
  have hal := (Below.refl w2.heap.size w2).alloc (Nat.le_refl _) (.cells #[.int .i8 x.k, .int .i64 x.fr, .int .i64 x.to, .int .i64 x.te, .int .i64 x.ix, .int .i64 x.la, .int .i64 x.co, .bool x.ok, .slice none 0 0, .int .i64 x.si, .int .i64 x.st, .int .u8 x.su, .slice none 0 0, .slice none 0 0] 34)
  have hB := bNext hb2 hal (Nat.le_refl _)
  have c0 := (h.out.bel hB).c0
  clear hlook hb2 hal
  go_upto_region 2 with fail
  generalize (w2.alloc (.cells #[.int .i8 x.k, .int .i64 x.fr, .int .i64 x.to, .int .i64 x.te, .int .i64 x.ix, .int .i64 x.la, .int .i64 x.co, .bool x.ok, .slice none 0 0, .int .i64 x.si, .int .i64 x.st, .int .u8 x.su, .slice none 0 0, .slice none 0 0] 34)) = W3 at hB c0 ⊢
  go_wp2_with fail
  go_ret
  exact ⟨rfl, hB⟩

set_option maxRecDepth 100000 in
set_option maxHeartbeats 4000000 in
theorem clr_c (x : FM) (cb : Nat) (a : Int) (w : World) (hc : w.cell? ⟨cb, 0, none⟩ = some (.int .i64 a)) (he : x.to = a) :
    Calls Try.prog 26 #[.agg #[.int .i8 x.k, .int .i64 x.fr, .int .i64 x.to, .int .i64 x.te, .int .i64 x.ix, .int .i64 x.la, .int .i64 x.co, .bool x.ok, .slice none 0 0, .int .i64 x.si, .int .i64 x.st, .int .u8 x.su, .slice none 0 0, .slice none 0 0], .pointer (some ⟨cb, 0, none⟩)] w fun e w' => e = .returned (.bool true) ∧ Below w.heap.size w w' := by
  have hal := (Below.refl w.heap.size w).alloc (Nat.le_refl _) (.cells #[.int .i8 x.k, .int .i64 x.fr, .int .i64 x.to, .int .i64 x.te, .int .i64 x.ix, .int .i64 x.la, .int .i64 x.co, .bool x.ok, .slice none 0 0, .int .i64 x.si, .int .i64 x.st, .int .u8 x.su, .slice none 0 0, .slice none 0 0] 34)
  have hc2 := cellB hal hc
  have hm : HB (w.alloc (.cells #[.int .i8 x.k, .int .i64 x.fr, .int .i64 x.to, .int .i64 x.te, .int .i64 x.ix, .int .i64 x.la, .int .i64 x.co, .bool x.ok, .slice none 0 0, .int .i64 x.si, .int .i64 x.st, .int .u8 x.su, .slice none 0 0, .slice none 0 0] 34)) w.heap.size #[.int .i8 x.k, .int .i64 x.fr, .int .i64 x.to, .int .i64 x.te, .int .i64 x.ix, .int .i64 x.la, .int .i64 x.co, .bool x.ok, .slice none 0 0, .int .i64 x.si, .int .i64 x.st, .int .u8 x.su, .slice none 0 0, .slice none 0 0] := HB.new w _
  have e1 : (x.to == a) = true := by simp [he]
  clear hc he
  replace hal := Lib.hid hal
  replace hm := Lib.hid hm
  go_enter Try.func26, Try.ntmps26
  go_upto_region 1 with fail
  replace hal := hal.out
  replace hm := hm.out
  generalize (w.alloc (.cells #[.int .i8 x.k, .int .i64 x.fr, .int .i64 x.to, .int .i64 x.te, .int .i64 x.ix, .int .i64 x.la, .int .i64 x.co, .bool x.ok, .slice none 0 0, .int .i64 x.si, .int .i64 x.st, .int .u8 x.su, .slice none 0 0, .slice none 0 0] 34)) = W1 at hal hm hc2 ⊢
  have hB := Lib.hid hal
  generalize w.heap.size = xb at hm ⊢
  have y2 := hm.c 2 _ rfl
  clear hm
  go_wp2_with fail
  go_ret
  exact ⟨rfl, hB.out⟩
end Go.Proofs.Ytnokojobiaddmaa
