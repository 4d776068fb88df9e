/- The air: ways are cut and mended; a message once more. -/
import Derived.Test.YtnokojobiaddmaaP15
namespace Go.Proofs.Ytnokojobiaddmaa
open Go.ChangeShapes Go.WideShapes Go.ChangeAt Go.RowKit Go.Maps
set_option linter.unusedVariables false
set_option linter.unusedSimpArgs false
open BigFrame Bs Am Ar

namespace Ar
def setC (C : Int → Int → Bool) (f t : Int) (b : Bool) (f' t' : Int) : Bool := if f' = f ∧ t' = t then b else C f' t'
theorem cuts_put {w w' : World} {bm n : Nat} {C : Int → Int → Bool} {D : DataW Unit} (f t : Int) (b : Bool) (hf : (Lit.int .i64 f).wf = true) (ht : (Lit.int .i64 t).wf = true)
    (h0 : w.ownsMap Try.prog 64 (plainElem Try.prog 4) bm n D) (h1 : ∀ f t, (Lit.int .i64 f).wf = true → (Lit.int .i64 t).wf = true → D.atKey (.string (keyBytes [.int .i64 f, .int .i64 t])) (.lit (.bool false)) = .lit (.bool (C f t)))
    (h2 : w'.ownsMap Try.prog 64 (plainElem Try.prog 4) bm (n + 1) (D.put (.string (keyBytes [.int .i64 f, .int .i64 t])) (.lit (.bool b)))) : Cuts w' bm (n + 1) (setC C f t b) := by
  refine ⟨_, h2, fun f' t' hf' ht' => ?_⟩
  unfold setC
  by_cases e : f' = f ∧ t' = t
  · obtain ⟨rfl, rfl⟩ := e
    rw [if_pos ⟨rfl, rfl⟩]
    exact atKey_put_same h0.isMap (way_keyed.key (way_key f' t' hf' ht')) _ _
  · rw [if_neg e]
    refine (atKey_put_other (fun q => e ?_) _ _).trans (h1 f' t' hf' ht')
    have k1 := way_key f' t' hf' ht'
    rw [q] at k1
    have := way_keyed.inj k1 (way_key f t hf ht)
    simp at this
    exact this
def SetP (m g base : Nat) (lv : Value) (l : List RM) (bm n : Nat) (C : Int → Int → Bool) (w : World) (e : Ending) (w' : World) : Prop :=
  e = .returned (.int .i64 0) ∧ AirAt m w' g base lv l bm n C ∧ Kpt m g bm lv lv w w'
theorem addr_wf {n : Int} (h1 : 1 ≤ n) (h2 : n ≤ 255) : (Lit.int .i64 n).wf = true := by
  simp [Lit.wf, IntKind.min, IntKind.max, IntKind.signed, IntKind.bits]; omega
end Ar

set_option maxRecDepth 100000 in
set_option maxHeartbeats 4000000 in
theorem air_set (f t : Int) (b : Bool) {m : Nat} {w : World} {g base : Nat} {lv : Value} {l : List RM} {bm n : Nat} {C : Int → Int → Bool} (h : AirAt m w g base lv l bm n C) (hf : 1 ≤ f ∧ f ≤ 255) (ht : 1 ≤ t ∧ t ≤ 255) (hn : n ≤ 5000) :
    Calls Try.prog 24 #[.pointer (some ⟨g, 0, none⟩), .int .i64 f, .int .i64 t, .bool b] w (SetP m g base lv l bm (n + 1) (setC C f t b) w) := by
  have af := fun W => address_yes f W hf.1 hf.2
  have at' := fun W => address_yes t W ht.1 ht.2
  have wf := addr_wf hf.1 hf.2
  have wt := addr_wf ht.1 ht.2
  obtain ⟨D, d1, d2⟩ := h.mp
  have c1 := h.c1
  have hk := way_key f t wf wt
  replace h := Lib.hid h
  replace d1 := Lib.hid d1
  replace d2 := Lib.hid d2
  have hpe : plainElem (H := Unit) Try.prog 4 (.bool b) = some (.lit (.bool b), []) := by simp [plainElem, Try.underlying4]
  replace hpe := Lib.hid hpe
  replace hk := Lib.hid hk
  replace wf := Lib.hid wf
  replace wt := Lib.hid wt
  obtain ⟨f1, f2⟩ := hf
  obtain ⟨t1, t2⟩ := ht
  go_enter Try.func24, Try.ntmps24
  go_wp2_with fail
  refine (af _).mono ?_
  rintro e w' ⟨rfl, rfl⟩
  go_wp2_with fail
  refine (at' _).mono ?_
  rintro e w' ⟨rfl, rfl⟩
  go_wp2_with (at_mapUpdate; refine wpList_mapUpdate_own _ rfl _ _ _ 57 rfl 64 4 way_keyed Try.underlying57 _ bm n D rfl d1.out (by unfold maxLen; omega) _ _ _ rfl rfl hk.out (.lit (.bool b)) [] hpe.out ?_; intro w1 hown1 hgrow1)
  go_ret
  have hh := h.out
  have hgb : some g ≠ some bm := fun e => hh.h3 (by simpa using e)
  refine ⟨rfl, ⟨(hgrow1.block g hh.lt hgb).trans hh.hg, hh.own.kept hgrow1 ?_, cuts_put f t b wf.out wt.out d1.out d2.out hown1, hh.h1, hh.h2, hh.h3, hh.h4, hh.h5, Nat.le_trans hh.h6 hgrow1.size⟩, ⟨(Below.refl m w).grown hgrow1 hh.below (fun k hk => by cases hk; exact hh.h5), fun b hb h1 h2 h3 => hgrow1.block b hb (fun e => h2 (by simpa using e)), fun b hb h3 => h3⟩⟩
  rcases hh.own.2 with ⟨e, _⟩ | ⟨q, cap, cur, e, e2, _⟩
  · subst e; exact .inl rfl
  · subst e
    refine .inr fun q2 => ?_
    have := hh.h2
    simp [Value.ownBlock] at q2
    omega

set_option maxRecDepth 100000 in
set_option maxHeartbeats 4000000 in
theorem air_set_no (f t : Int) (b : Bool) (g : Nat) (w : World) (h : ¬ ((1 ≤ f ∧ f ≤ 255) ∧ 1 ≤ t ∧ t ≤ 255)) :
    Calls Try.prog 24 #[.pointer (some ⟨g, 0, none⟩), .int .i64 f, .int .i64 t, .bool b] w fun e w' => e = .returned (.int .i64 2) ∧ w = w' := by
  by_cases hf : 1 ≤ f ∧ f ≤ 255
  · have ht : ¬ (1 ≤ t ∧ t ≤ 255) := fun q => h ⟨hf, q⟩
    have af := fun W => address_yes f W hf.1 hf.2
    have at' := fun W => address_no t W ht
    clear h hf ht
    go_enter Try.func24, Try.ntmps24
    go_wp2_with fail
    refine (af _).mono ?_
    rintro e w' ⟨rfl, rfl⟩
    go_wp2_with fail
    refine (at' _).mono ?_
    rintro e w' ⟨rfl, rfl⟩
    go_wp2_with fail
    go_ret
    exact ⟨rfl, rfl⟩
  · have af := fun W => address_no f W hf
    clear h hf
    go_enter Try.func24, Try.ntmps24
    go_wp2_with fail
    refine (af _).mono ?_
    rintro e w' ⟨rfl, rfl⟩
    go_wp2_with fail
    go_ret
    exact ⟨rfl, rfl⟩

set_option maxRecDepth 100000 in
set_option maxHeartbeats 4000000 in
theorem air_Cut (f t : Int) {m : Nat} {w : World} {g base : Nat} {lv : Value} {l : List RM} {bm n : Nat} {C : Int → Int → Bool} (h : AirAt m w g base lv l bm n C) (hf : 1 ≤ f ∧ f ≤ 255) (ht : 1 ≤ t ∧ t ≤ 255) (hn : n ≤ 5000) :
    Calls Try.prog 13 #[.pointer (some ⟨g, 0, none⟩), .int .i64 f, .int .i64 t] w (SetP m g base lv l bm (n + 1) (setC C f t true) w) := by
  have hs := air_set f t true h hf ht hn
  clear h hf ht
  go_enter Try.func13, Try.ntmps13
  go_wp2_with fail
  refine hs.mono ?_
  rintro e w' ⟨rfl, hA, hB⟩
  go_wp2_with fail
  go_ret
  exact ⟨rfl, hA, hB⟩

set_option maxRecDepth 100000 in
set_option maxHeartbeats 4000000 in
theorem air_Mend (f t : Int) {m : Nat} {w : World} {g base : Nat} {lv : Value} {l : List RM} {bm n : Nat} {C : Int → Int → Bool} (h : AirAt m w g base lv l bm n C) (hf : 1 ≤ f ∧ f ≤ 255) (ht : 1 ≤ t ∧ t ≤ 255) (hn : n ≤ 5000) :
    Calls Try.prog 14 #[.pointer (some ⟨g, 0, none⟩), .int .i64 f, .int .i64 t] w (SetP m g base lv l bm (n + 1) (setC C f t false) w) := by
  have hs := air_set f t false h hf ht hn
  clear h hf ht
  go_enter Try.func14, Try.ntmps14
  go_wp2_with fail
  refine hs.mono ?_
  rintro e w' ⟨rfl, hA, hB⟩
  go_wp2_with fail
  go_ret
  exact ⟨rfl, hA, hB⟩

set_option maxRecDepth 100000 in
set_option maxHeartbeats 4000000 in
theorem air_Cut_no (f t : Int) (g : Nat) (w : World) (h : ¬ ((1 ≤ f ∧ f ≤ 255) ∧ 1 ≤ t ∧ t ≤ 255)) :
    Calls Try.prog 13 #[.pointer (some ⟨g, 0, none⟩), .int .i64 f, .int .i64 t] w fun e w' => e = .returned (.int .i64 2) ∧ w = w' := by
  have hs := air_set_no f t true g w h
  clear h
  go_enter Try.func13, Try.ntmps13
  go_wp2_with fail
  refine hs.mono ?_
  rintro e w' ⟨rfl, rfl⟩
  go_wp2_with fail
  go_ret
  exact ⟨rfl, rfl⟩

set_option maxRecDepth 100000 in
set_option maxHeartbeats 4000000 in
theorem air_Mend_no (f t : Int) (g : Nat) (w : World) (h : ¬ ((1 ≤ f ∧ f ≤ 255) ∧ 1 ≤ t ∧ t ≤ 255)) :
    Calls Try.prog 14 #[.pointer (some ⟨g, 0, none⟩), .int .i64 f, .int .i64 t] w fun e w' => e = .returned (.int .i64 2) ∧ w = w' := by
  have hs := air_set_no f t false g w h
  clear h
  go_enter Try.func14, Try.ntmps14
  go_wp2_with fail
  refine hs.mono ?_
  rintro e w' ⟨rfl, rfl⟩
  go_wp2_with fail
  go_ret
  exact ⟨rfl, rfl⟩

end Go.Proofs.Ytnokojobiaddmaa
