/- The walk of the statement StampTells of layer 20 (stamp). -/
import Derived.Test.YtnbgilgnkedojaaStamp
import Derived.Test.YtnbgilgnkedojaaOpenInts
namespace Go.Proofs.Ytnbgilgnkedojaa
open Go.ChangeShapes Go.WideShapes Go.ChangeAt Go.RowKit
set_option linter.unusedVariables false
set_option linter.unusedSimpArgs false
attribute [local go_sem] max_fold min_fold
open Ck

abbrev XT_Lint := Nat → Int
abbrev Is_Lint (w : World) (v : Value) (f : XT_Lint) : Prop := IsInts .i64 w v f
set_option maxRecDepth 100000 in
theorem open_Lint {H : Type} {enc : TypeId × Value → H} {w : World} {r : Reach} {b0 : Nat} {v : Value} {d : DataW H} {p : List MemPlace} (hv : Value.okWide Try.prog w r b0 34 v) (h : DataW.Trod enc Try.prog w 0 (fun _ => true) true 34 v d p) : ∃ f, Is_Lint w v f :=
  open_row Try.underlying34 Try.underlying3 (by kernel_rfl) hv h

theorem last_q (b : Nat) (r bg l : Int) (w : World) (h : Sp.At w b r bg l) :
    Calls Try.prog 41 #[.pointer (some ⟨b, 0, none⟩)] w fun e w' => e = .returned (.int .i64 l) ∧ w' = w :=
  (last_c b r bg l w h).mono fun _ _ hh => ⟨hh.1, hh.2.symm⟩

set_option maxRecDepth 100000 in
set_option maxHeartbeats 4000000 in
theorem tells_good (w0 : World) (r now : Int) (b : Nat) (off len cap : Nat) (f : Nat → Int) (hb : b < w0.heap.size) (hl : len ≤ 200) (hlc : len ≤ cap) (r0 : 0 ≤ r) (r1 : r ≤ 200) (n0 : 0 ≤ now) (n1 : now ≤ 1125899906842624)
    (hf : ∀ i, i < len → w0.cell? ⟨b, off + i, none⟩ = some (.int .i64 (f i)) ∧ (Lit.int .i64 (f i)).wf = true) :
    Calls Try.prog 9 #[.int .i64 r, .int .i64 now, .slice (some ⟨b, off, none⟩) len cap] w0 fun e w' => e = .returned (.bool true) ∧ Below w0.heap.size w0 w' := by
  have HF := Lib.hid hf
  clear hf
  have hl' : ((len : Int) ≤ 200) := by omega
  go_enter Try.func9, Try.ntmps9
  go_wp2_with fail
  refine (snew_ok r now _ r0 r1 n0 n1).mono ?_
  rintro e wa ⟨rfl, hA, hBa⟩
  go_wp2_with fail
  refine (rsnew_ok r now _ r0 r1 n0 n1).mono ?_
  rintro e wb ⟨rfl, hR0, hBb⟩
  have hA0 := hA.below hBb
  have hBB := belowNext hBa hBb (Nat.le_refl _)
  have hab := hA.lt
  have hsa := hBa.size
  clear hA
  go_wp2
  go_loopw [11] (fun i wr => ∃ (k : Nat) (l : Int), k ≤ len ∧ i = .int .i64 k ∧ Sp.At wr w0.heap.size r now l ∧ Sp.At wr wa.heap.size r now l ∧ Below w0.heap.size w0 wr) (fun i _ => len - (intOf i).toNat)
  case atStart => exact ⟨0, 0, by omega, rfl, hA0, hR0, hBB⟩
  case round =>
    obtain ⟨k, l, hk, rfl, hAt, hRt, hB⟩ := hrel
    by_cases hlt : k < len
    · obtain ⟨c0, g0⟩ := HF.out k hlt
      have hxb := bounds_i64 g0
      replace c0 := (hB.cell (p := ⟨b, _, none⟩) hb).trans c0
      clear g0
      have hsz := hB.size
      by_cases ok : now ≤ f k ∧ f k ≤ 1125899906842624
      · obtain ⟨ok0, ok1⟩ := ok
        have hst := Lib.hid (at_ok w0.heap.size r now l (f k) wr hAt n0 ok0 ok1)
        clear hxb
        go_wp2_with fail
        refine hst.out.mono ?_
        rintro e w1 ⟨rfl, hA1, ho⟩
        have y0 := ho.cell c0 (by simp; omega)
        have hR1 := hRt.only ho (by omega)
        have hrt := Lib.hid (rat_ok wa.heap.size r now l (f k) w1 hR1 n0 ok0 ok1)
        go_wp2_with fail
        refine hrt.out.mono ?_
        rintro e w2 ⟨rfl, hR2, ho2⟩
        have hA2 := hA1.only ho2 (by omega)
        have hB2 := (hB.trans (ho.below (Nat.le_refl _) (by omega))).trans (ho2.below (by omega) (by have := ho.size; omega))
        clear hst hrt ho ho2 hR1 hA1 hAt hRt
        have z2 := hR2.c2
        go_wp2
        go_quiet ((go_at_call 41; exact Calls.quiet_of_same (last_q _ _ _ _ _ (hA2.below (drewN_below _ _)))))
        go_wp2
        go_roundw
        case rel => exact ⟨k + 1, _, by omega, by go_num, hA2.below (drewN_below _ _), hR2.below (drewN_below _ _), below_drewN hB2 _⟩
        case measure => simp [intOf]; omega
      · have hno : f k < now ∨ 1125899906842624 < f k := by omega
        have hst := Lib.hid (at_no w0.heap.size r now l (f k) wr hAt hno)
        have hrt := Lib.hid (rat_no wa.heap.size r now l (f k) wr hRt hno)
        clear hxb ok hno
        go_wp2_with fail
        refine hst.out.mono ?_
        rintro e w1 ⟨rfl, rfl⟩
        go_wp2_with fail
        refine hrt.out.mono ?_
        rintro e w2 ⟨rfl, rfl⟩
        have z2 := hRt.c2
        go_wp2
        go_quiet ((go_at_call 41; exact Calls.quiet_of_same (last_q _ _ _ _ _ (hAt.below (drewN_below _ _)))))
        go_wp2
        go_roundw
        case rel => exact ⟨k + 1, l, by omega, by go_num, hAt.below (drewN_below _ _), hRt.below (drewN_below _ _), below_drewN hB _⟩
        case measure => simp [intOf]; omega
    · obtain rfl : k = len := by omega
      go_wp2_with (first | (go_at_call 39; refine (at_nil _ _).mono ?_; rintro e w' ⟨rfl, rfl⟩) | (go_at_call 41; refine (last_nil _).mono ?_; rintro e w' ⟨rfl, rfl⟩) | (go_at_call 36; refine (wakes20_c _).mono ?_; rintro e w3 ⟨rfl, hb3⟩))
      go_ret
      exact ⟨rfl, belowNext hB hb3 (Nat.le_refl _)⟩

theorem tells_long (w : World) (r now : Int) (a : Option Addr) (len cap : Nat) (hl : 200 < len) (hl' : len ≤ 9223372036854775807) :
    Calls Try.prog 9 #[.int .i64 r, .int .i64 now, .slice a len cap] w fun e w' => e = .returned (.bool true) ∧ Below w.heap.size w w' := by
  have h1 : (200 : Int) < (len : Int) := by omega
  have h2 : (len : Int) ≤ 9223372036854775807 := by omega
  go_enter Try.func9, Try.ntmps9
  go_wp2_with (go_at_call 36; refine (wakes20_c _).mono ?_; rintro e w1 ⟨rfl, hb1⟩)
  go_ret
  exact ⟨rfl, hb1⟩

set_option maxRecDepth 100000 in
theorem tells_no (w : World) (r now : Int) (a : Option Addr) (len cap : Nat) (hl : len ≤ 200) (h : ¬ (0 ≤ r ∧ r ≤ 200 ∧ 0 ≤ now ∧ now ≤ 1125899906842624)) :
    Calls Try.prog 9 #[.int .i64 r, .int .i64 now, .slice a len cap] w fun e w' => e = .returned (.bool true) ∧ Below w.heap.size w w' := by
  have h1 : (len : Int) ≤ 200 := by omega
  have hn := Lib.hid (snew_no r now w h)
  have hm := Lib.hid (rsnew_no r now w h)
  clear h
  by_cases hz : (0 : Int) < (len : Int)
  all_goals
    go_enter Try.func9, Try.ntmps9
    go_wp2_with fail
    refine hn.out.mono ?_
    rintro e wn ⟨rfl, rfl⟩
    go_wp2_with fail
    refine hm.out.mono ?_
    rintro e wn ⟨rfl, rfl⟩
    go_wp2
    go_loop [11] (fun i => i = .int .i64 0) (fun i => 0)
    case atStart => rfl
    case round =>
      subst hrel
      go_wp2_with (first | (go_at_call 39; refine (at_nil _ _).mono ?_; rintro e w' ⟨rfl, rfl⟩) | (go_at_call 41; refine (last_nil _).mono ?_; rintro e w' ⟨rfl, rfl⟩) | (go_at_call 36; refine (wakes20_c _).mono ?_; rintro e w3 ⟨rfl, hb3⟩))
      go_ret
      exact ⟨rfl, hb3⟩

set_option maxRecDepth 100000 in
theorem tells_nil (w : World) (r now : Int) (a : Option Addr) (cap : Nat) (r0 : 0 ≤ r) (r1 : r ≤ 200) (n0 : 0 ≤ now) (n1 : now ≤ 1125899906842624) :
    Calls Try.prog 9 #[.int .i64 r, .int .i64 now, .slice a 0 cap] w fun e w' => e = .returned (.bool true) ∧ Below w.heap.size w w' := by
  go_enter Try.func9, Try.ntmps9
  go_wp2_with fail
  refine (snew_ok r now _ r0 r1 n0 n1).mono ?_
  rintro e wa ⟨rfl, hA, hBa⟩
  go_wp2_with fail
  refine (rsnew_ok r now _ r0 r1 n0 n1).mono ?_
  rintro e wb ⟨rfl, hR0, hBb⟩
  go_wp2
  go_loop [11] (fun i => i = .int .i64 0) (fun i => 0)
  case atStart => rfl
  case round =>
    subst hrel
    go_wp2_with (first | (go_at_call 39; refine (at_nil _ _).mono ?_; rintro e w' ⟨rfl, rfl⟩) | (go_at_call 41; refine (last_nil _).mono ?_; rintro e w' ⟨rfl, rfl⟩) | (go_at_call 36; refine (wakes20_c _).mono ?_; rintro e w3 ⟨rfl, hb3⟩))
    go_ret
    exact ⟨rfl, belowNext (belowNext hBa hBb (Nat.le_refl _)) hb3 (Nat.le_refl _)⟩

theorem stampTells_walk (w : World) (a0 a1 : Int) (v2 : Value) (a2 : XT_Lint) (w0 : (Lit.int .i64 a0).wf = true) (w1 : (Lit.int .i64 a1).wf = true) (w2 : Is_Lint w v2 a2) :
    Calls Try.prog 9 #[.int .i64 a0, .int .i64 a1, v2] w fun e w' => e = .returned (.bool true) ∧ Below w.heap.size w w' := by
  obtain ⟨a, len, cap, rfl, hl, hm, hrow⟩ := w2
  by_cases hn : 200 < len
  · exact tells_long w a0 a1 a len cap hn (by omega)
  · by_cases h : 0 ≤ a0 ∧ a0 ≤ 200 ∧ 0 ≤ a1 ∧ a1 ≤ 1125899906842624
    · obtain ⟨h1, h2, h3, h4⟩ := h
      by_cases hp : 0 < len
      · obtain ⟨b, off, rfl, hb, hf⟩ := hrow hp
        exact tells_good w a0 a1 b off len cap a2 hb (by omega) hl h1 h2 h3 h4 hf
      · obtain rfl : len = 0 := by omega
        exact tells_nil w a0 a1 a cap h1 h2 h3 h4
    · exact tells_no w a0 a1 a len cap (by omega) h
end Go.Proofs.Ytnbgilgnkedojaa
