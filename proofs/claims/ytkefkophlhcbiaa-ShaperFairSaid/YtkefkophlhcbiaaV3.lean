/- Virtual time: the closures of Pick, and the least of a row. -/
import Derived.Test.YtkefkophlhcbiaaV2
import Derived.Test.YtkefkophlhcbiaaQ2
namespace Go.Proofs.Ytkefkophlhcbiaa
open Go.ChangeShapes Go.WideShapes Go.ChangeAt Go.RowKit
set_option linter.unusedVariables false
set_option linter.unusedSimpArgs false
open BigFrame Vr Pk Fq

namespace Vr
/-- A row of bools lies in a world. -/
structure BoolsAt (w : World) (a : Option Addr) (b off N : Nat) (R : Nat → Bool) : Prop where
  ha : 0 < N → a = some ⟨b, off, none⟩
  hb : 0 < N → b < w.heap.size
  c0 : ∀ i, i < N → w.cell? ⟨b, off + i, none⟩ = some (.bool (R i))
theorem BoolsAt.below {w w' : World} {a : Option Addr} {b off N : Nat} {R : Nat → Bool} {m : Nat} (h : BoolsAt w a b off N R) (k : Below m w w') (hm : 0 < N → b < m) : BoolsAt w' a b off N R :=
  ⟨h.ha, fun hn => Nat.lt_of_lt_of_le (h.hb hn) k.size, fun i hi => (k.cell (p := ⟨b, off + i, none⟩) (hm (by omega))).trans (h.c0 i hi)⟩
theorem BoolsAt.bel {w w' : World} {a : Option Addr} {b off N : Nat} {R : Nat → Bool} (h : BoolsAt w a b off N R) (k : Below w.heap.size w w') : BoolsAt w' a b off N R := h.below k h.hb
theorem cellB {u u' : World} {b o : Nat} {v : Value} (hb : Below u.heap.size u u') (h : u.cell? ⟨b, o, none⟩ = some v) : u'.cell? ⟨b, o, none⟩ = some v :=
  (hb.cell (p := ⟨b, o, none⟩) (World.block_lt_of_cell? _ _ h)).trans h
/-- The first of the least ones that may be, among the first n; -1: none. -/
def leastK (O : Nat → Int) (m : Nat → Bool) : Nat → Int
  | 0 => -1
  | n + 1 => if m n = true ∧ (leastK O m n < 0 ∨ O n < O (leastK O m n).toNat) then (n : Int) else leastK O m n
theorem leastK_lt (O : Nat → Int) (m : Nat → Bool) (n : Nat) : -1 ≤ leastK O m n ∧ leastK O m n < (n : Int) := by
  induction n with
  | zero => simp [leastK]
  | succ n ih => unfold leastK; split <;> omega
end Vr

set_option maxRecDepth 100000 in
set_option maxHeartbeats 4000000 in
theorem vofs_c (s f : Int) (w : World) :
    Calls Try.prog 62 #[.agg #[.int .i64 s, .int .i64 f]] w fun e w' => e = .returned (.int .i64 s) ∧ Below w.heap.size w w' := by
  go_enter Try.func62, Try.ntmps62
  go_wp2_with fail
  exact bodyPost_ret (v := .int .i64 s) (by simp [results, Try.results62, go_sem]) rfl ⟨rfl, (Below.refl _ _).alloc (Nat.le_refl _) _⟩

set_option maxRecDepth 100000 in
set_option maxHeartbeats 4000000 in
theorem voff_c (s f : Int) (w : World) :
    Calls Try.prog 65 #[.agg #[.int .i64 s, .int .i64 f]] w fun e w' => e = .returned (.int .i64 f) ∧ Below w.heap.size w w' := by
  go_enter Try.func65, Try.ntmps65
  go_wp2_with fail
  exact bodyPost_ret (v := .int .i64 f) (by simp [results, Try.results65, go_sem]) rfl ⟨rfl, (Below.refl _ _).alloc (Nat.le_refl _) _⟩

set_option maxRecDepth 100000 in
set_option maxHeartbeats 4000000 in
theorem vofn_c (s f : Int) (w : World) :
    Calls Try.prog 69 #[.agg #[.int .i64 s, .int .i64 f]] w fun e w' => e = .returned (.int .i64 f) ∧ Below w.heap.size w w' := by
  go_enter Try.func69, Try.ntmps69
  go_wp2_with fail
  exact bodyPost_ret (v := .int .i64 f) (by simp [results, Try.results69, go_sem]) rfl ⟨rfl, (Below.refl _ _).alloc (Nat.le_refl _) _⟩

set_option maxRecDepth 100000 in
set_option maxHeartbeats 4000000 in
theorem vmay3_c (a : Option Addr) (rb ro n c i rx : Nat) (R : Nat → Bool) (w : World) (hi : i < n) (hn : n ≤ 1000) (T : BoolsAt w a rb ro n R) (hx : w.cell? ⟨rx, 0, none⟩ = some (.slice a n c)) :
    Calls Try.prog 63 #[.int .i64 (i : Nat), .pointer (some ⟨rx, 0, none⟩)] w fun e w' => e = .returned (.bool (R i)) ∧ Below w.heap.size w w' := by
  obtain rfl := T.ha (by omega)
  have h0 := T.c0 i hi
  have k0 : (i : Int) < (n : Int) := by omega
  clear T
  go_enter Try.func63, Try.ntmps63
  go_wp2_with fail
  exact bodyPost_ret (v := .bool (R i)) (by simp [results, Try.results63, go_sem]) rfl ⟨rfl, Below.refl _ _⟩

set_option maxRecDepth 100000 in
set_option maxHeartbeats 4000000 in
theorem vmay5_c (V : Int) (a a2 : Option Addr) (rb ro n c i rx vx b off c2 : Nat) (R : Nat → Bool) (S F : Nat → Int) (w : World) (hi : i < n) (hn : n ≤ 1000) (T : BoolsAt w a rb ro n R) (hx : w.cell? ⟨rx, 0, none⟩ = some (.slice a n c))
    (T2 : TagsAt w a2 b off n S F) (v0 : w.cell? ⟨vx, 0, none⟩ = some (.int .i64 V)) (v1 : w.cell? ⟨vx, 1, none⟩ = some (.slice a2 n c2)) :
    Calls Try.prog 66 #[.int .i64 (i : Nat), .pointer (some ⟨rx, 0, none⟩), .pointer (some ⟨vx, 0, none⟩)] w fun e w' => e = .returned (.bool (R i && decide (S i ≤ V))) ∧ Below w.heap.size w w' := by
  obtain rfl := T.ha (by omega)
  obtain rfl := T2.ha (by omega)
  have h0 := T.c0 i hi
  have h1 := T2.c0 i hi
  have k0 : (i : Int) < (n : Int) := by omega
  clear T T2
  cases hR : R i with
  | false =>
    rw [hR] at h0
    go_enter Try.func66, Try.ntmps66
    go_wp2_with fail
    go_big_quiet (fail)
    go_wp2_with fail
    exact bodyPost_ret (v := .bool false) (by simp [results, Try.results66, go_sem]) rfl ⟨rfl, bDrew (Below.refl _ _) nq⟩
  | true =>
    rw [hR] at h0
    go_enter Try.func66, Try.ntmps66
    go_wp2_with fail
    go_big_quiet (fail)
    go_wp2_with fail
    exact bodyPost_ret (v := .bool (decide (S i ≤ V))) (by simp [results, Try.results66, go_sem]) rfl ⟨by simp, bDrew (Below.refl _ _) nq⟩

set_option maxRecDepth 100000 in
set_option maxHeartbeats 4000000 in
/-- The least of a row. -/
theorem vleast_c (g0 g1 : Nat) (eg0 : ∀ args w, (callFunc g0 args).run Try.prog w = .ok (.enter g0 args) w) (eg1 : ∀ args w, (callFunc g1 args).run Try.prog w = .ok (.enter g1 args) w) (lb : Array Value) (O : Nat → Int) (m : Nat → Bool) (a : Option Addr) (b off N c vx : Nat) (S F : Nat → Int) (w : World) (T : TagsAt w a b off N S F) (hN : N ≤ 1000) (hv : w.cell? ⟨vx, 1, none⟩ = some (.slice a N c))
    (hof : ∀ (W : World) (i : Nat), i < N → Below w.heap.size w W → Calls Try.prog g0 #[.agg #[.int .i64 (S i), .int .i64 (F i)]] W fun e w' => e = .returned (.int .i64 (O i)) ∧ Below W.heap.size W w')
    (hmay : ∀ (W : World) (i : Nat), i < N → Below w.heap.size w W → Calls Try.prog g1 (#[.int .i64 (i : Nat)] ++ lb) W fun e w' => e = .returned (.bool (m i)) ∧ Below W.heap.size W w') :
    Calls Try.prog 61 #[.func (.func g0) #[] #[], .func (.func g1) #[] lb, .pointer (some ⟨vx, 0, none⟩)] w fun e w' => e = .returned (.int .i64 (leastK O m N)) ∧ Below w.heap.size w w' := by
  obtain ⟨b, off, T, hab⟩ : ∃ b off, TagsAt w a b off N S F ∧ (0 < N → a = some ⟨b, off, none⟩) := ⟨b, off, T, T.ha⟩
  have hvx : vx < w.heap.size := World.block_lt_of_cell? _ _ hv
  go_enter Try.func61, Try.ntmps61
  go_wp2_with fail
  go_loopg [6, 7, 8, 12] N (fun gg s6 _ _ s12 wr => ∃ kk : Nat, kk ≤ N ∧ N - kk ≤ gg ∧ s6 = .int .i64 (leastK O m kk) ∧ s12 = .int .i64 kk ∧ Aside (Below w.heap.size w wr))
  case atStart => exact ⟨0, Nat.zero_le _, by omega, rfl, rfl, Below.refl _ w⟩
  case round =>
    obtain ⟨kk, hkk, hg, rfl, rfl, BW⟩ := hrel
    by_cases hlt : kk < N
    · have hltz : (kk : Int) < (N : Int) := by omega
      obtain rfl := hab (by omega)
      have hbw := T.hb (by omega)
      have l0 := (T.bel BW.out).c0 kk hlt
      have l1 := (T.bel BW.out).c1 kk hlt
      go_wp2_with fail
      have hB1 := BW.out.alloc BW.out.size (.cells #[.int .i64 (S kk), .int .i64 (F kk)] 124)
      have x0 : (wr.alloc (.cells #[.int .i64 (S kk), .int .i64 (F kk)] 124)).cell? ⟨wr.heap.size, 0, none⟩ = some (.int .i64 (S kk)) := by go_simp
      have x1 : (wr.alloc (.cells #[.int .i64 (S kk), .int .i64 (F kk)] 124)).cell? ⟨wr.heap.size, 1, none⟩ = some (.int .i64 (F kk)) := by go_simp
      have x2 := (hB1.cell (p := ⟨vx, 1, none⟩) hvx).trans hv
      have T1 := T.bel hB1
      generalize wr.alloc (.cells #[.int .i64 (S kk), .int .i64 (F kk)] 124) = W1 at hB1 x0 x1 x2 T1 ⊢
      generalize wr.heap.size = tx at x0 x1 ⊢
      have hlk := leastK_lt O m kk
      clear l0 l1
      have hstep : leastK O m (kk + 1) = if m kk = true ∧ (leastK O m kk < 0 ∨ O kk < O (leastK O m kk).toNat) then (kk : Int) else leastK O m kk := rfl
      cases hm : m kk with
      | false =>
        have c1 := fun W hW => hmay W kk hlt hW
        rw [hm] at c1
        rw [hm, if_neg (by simp)] at hstep
        obtain ⟨q, hq⟩ : ∃ q, leastK O m kk = q := ⟨_, rfl⟩
        rw [hq] at hstep ⊢
        refine wp_region_noPanic ?_
        refine wp_region_held_drew (S := fun u => Below w.heap.size w u ∧ True) (by kernel_rfl) (⟨hB1.drew, trivial⟩) (fun hHeld => ?_)
        refine wpAnyH_start2 (n' := 20) (l' := #[false, false, false, false, false, false, false, false, false, false, false, false, false, false, false, false, false, false, false, false]) (by kernel_rfl) (by kernel_rfl) ?_
        refine wpAnyH_take (i := 0) (v := ?_) rfl (by kernel_rfl) (by kernel_rfl) (by kernel_rfl) (fun _ _ _ h => h) (Or.inl ⟨by kernel_rfl, ?_⟩) (by assumption) ?_
        rotate_left
        · intro u hSu
          obtain ⟨s0, _⟩ := hSu
          try simp only [List.getElem_toArray, List.getElem_cons_succ, List.getElem_cons_zero]
          go_simp
          try with_reducible rfl
        try simp only [Act.put, List.setIfInBounds_toArray, List.set_cons_zero, List.set_cons_succ]
        refine wpAnyH_take (i := 1) (v := ?_) rfl (by kernel_rfl) (by kernel_rfl) (by kernel_rfl) (fun _ _ _ h => h) (Or.inl ⟨by kernel_rfl, ?_⟩) (by assumption) ?_
        rotate_left
        · intro u hSu
          obtain ⟨s0, _⟩ := hSu
          try simp only [List.getElem_toArray, List.getElem_cons_succ, List.getElem_cons_zero]
          go_simp
          try with_reducible rfl
        try simp only [Act.put, List.setIfInBounds_toArray, List.set_cons_zero, List.set_cons_succ]
        refine wpAnyH_ready (rs := [2]) (by kernel_rfl) (by simp) ?_
        refine AllReadyH.cons rfl (fun K hK => ?_) AllReadyH.nil
        try simp only [List.getElem_toArray, List.getElem_cons_succ, List.getElem_cons_zero]
        go_simp
        refine (c1 _ hHeld.1).mono ?_
        rintro e w1 ⟨rfl, hb1⟩
        refine hK.out _ _ ?_ (fun hHeld1 => ?_)
        · exact ⟨bNext hHeld.1 hb1 (Nat.le_refl _), trivial⟩
        clear hK K
        try simp only [Act.put, List.setIfInBounds_toArray, List.set_cons_zero, List.set_cons_succ]
        refine wpAnyH_start2 (n' := 17) (l' := #[true, true, true, false, false, false, false, false, false, false, false, false, false, false, false, false, false, false, false, false]) (by kernel_rfl) (by kernel_rfl) ?_
        refine wpAnyH_take (i := 3) (v := ?_) rfl (by kernel_rfl) (by kernel_rfl) (by kernel_rfl) (fun _ _ _ h => h) (Or.inl ⟨by kernel_rfl, ?_⟩) (by assumption) ?_
        rotate_left
        · intro u hSu
          obtain ⟨s0, _⟩ := hSu
          try simp only [List.getElem_toArray, List.getElem_cons_succ, List.getElem_cons_zero]
          go_simp
          try with_reducible rfl
        try simp only [Act.put, List.setIfInBounds_toArray, List.set_cons_zero, List.set_cons_succ]
        refine wpAnyH_take (i := 4) (v := undef) rfl (by kernel_rfl) (by kernel_rfl) (by kernel_rfl) (fun _ _ _ h => h) (Or.inr ⟨by kernel_rfl, rfl⟩) (by assumption) ?_
        try simp only [Act.put, List.setIfInBounds_toArray, List.set_cons_zero, List.set_cons_succ]
        refine wpAnyH_take (i := 5) (v := undef) rfl (by kernel_rfl) (by kernel_rfl) (by kernel_rfl) (fun _ _ _ h => h) (Or.inr ⟨by kernel_rfl, rfl⟩) (by assumption) ?_
        try simp only [Act.put, List.setIfInBounds_toArray, List.set_cons_zero, List.set_cons_succ]
        refine wpAnyH_start2 (n' := 14) (l' := #[true, true, true, true, true, true, false, false, false, false, false, false, false, false, false, false, false, false, false, false]) (by kernel_rfl) (by kernel_rfl) ?_
        refine wpAnyH_take (i := 6) (v := undef) rfl (by kernel_rfl) (by kernel_rfl) (by kernel_rfl) (fun _ _ _ h => h) (Or.inr ⟨by kernel_rfl, rfl⟩) (by assumption) ?_
        try simp only [Act.put, List.setIfInBounds_toArray, List.set_cons_zero, List.set_cons_succ]
        refine wpAnyH_take (i := 7) (v := undef) rfl (by kernel_rfl) (by kernel_rfl) (by kernel_rfl) (fun _ _ _ h => h) (Or.inr ⟨by kernel_rfl, rfl⟩) (by assumption) ?_
        try simp only [Act.put, List.setIfInBounds_toArray, List.set_cons_zero, List.set_cons_succ]
        refine wpAnyH_take (i := 8) (v := undef) rfl (by kernel_rfl) (by kernel_rfl) (by kernel_rfl) (fun _ _ _ h => h) (Or.inr ⟨by kernel_rfl, rfl⟩) (by assumption) ?_
        try simp only [Act.put, List.setIfInBounds_toArray, List.set_cons_zero, List.set_cons_succ]
        refine wpAnyH_start2 (n' := 11) (l' := #[true, true, true, true, true, true, true, true, true, false, false, false, false, false, false, false, false, false, false, false]) (by kernel_rfl) (by kernel_rfl) ?_
        refine wpAnyH_take (i := 9) (v := undef) rfl (by kernel_rfl) (by kernel_rfl) (by kernel_rfl) (fun _ _ _ h => h) (Or.inr ⟨by kernel_rfl, rfl⟩) (by assumption) ?_
        try simp only [Act.put, List.setIfInBounds_toArray, List.set_cons_zero, List.set_cons_succ]
        refine wpAnyH_take (i := 10) (v := undef) rfl (by kernel_rfl) (by kernel_rfl) (by kernel_rfl) (fun _ _ _ h => h) (Or.inr ⟨by kernel_rfl, rfl⟩) (by assumption) ?_
        try simp only [Act.put, List.setIfInBounds_toArray, List.set_cons_zero, List.set_cons_succ]
        refine wpAnyH_take (i := 11) (v := undef) rfl (by kernel_rfl) (by kernel_rfl) (by kernel_rfl) (fun _ _ _ h => h) (Or.inr ⟨by kernel_rfl, rfl⟩) (by assumption) ?_
        try simp only [Act.put, List.setIfInBounds_toArray, List.set_cons_zero, List.set_cons_succ]
        refine wpAnyH_start2 (n' := 8) (l' := #[true, true, true, true, true, true, true, true, true, true, true, true, false, false, false, false, false, false, false, false]) (by kernel_rfl) (by kernel_rfl) ?_
        refine wpAnyH_take (i := 12) (v := undef) rfl (by kernel_rfl) (by kernel_rfl) (by kernel_rfl) (fun _ _ _ h => h) (Or.inr ⟨by kernel_rfl, rfl⟩) (by assumption) ?_
        try simp only [Act.put, List.setIfInBounds_toArray, List.set_cons_zero, List.set_cons_succ]
        refine wpAnyH_take (i := 13) (v := undef) rfl (by kernel_rfl) (by kernel_rfl) (by kernel_rfl) (fun _ _ _ h => h) (Or.inr ⟨by kernel_rfl, rfl⟩) (by assumption) ?_
        try simp only [Act.put, List.setIfInBounds_toArray, List.set_cons_zero, List.set_cons_succ]
        refine wpAnyH_take (i := 14) (v := undef) rfl (by kernel_rfl) (by kernel_rfl) (by kernel_rfl) (fun _ _ _ h => h) (Or.inr ⟨by kernel_rfl, rfl⟩) (by assumption) ?_
        try simp only [Act.put, List.setIfInBounds_toArray, List.set_cons_zero, List.set_cons_succ]
        refine wpAnyH_start2 (n' := 5) (l' := #[true, true, true, true, true, true, true, true, true, true, true, true, true, true, true, false, false, false, false, false]) (by kernel_rfl) (by kernel_rfl) ?_
        refine wpAnyH_take (i := 15) (v := undef) rfl (by kernel_rfl) (by kernel_rfl) (by kernel_rfl) (fun _ _ _ h => h) (Or.inr ⟨by kernel_rfl, rfl⟩) (by assumption) ?_
        try simp only [Act.put, List.setIfInBounds_toArray, List.set_cons_zero, List.set_cons_succ]
        refine wpAnyH_take (i := 16) (v := undef) rfl (by kernel_rfl) (by kernel_rfl) (by kernel_rfl) (fun _ _ _ h => h) (Or.inr ⟨by kernel_rfl, rfl⟩) (by assumption) ?_
        try simp only [Act.put, List.setIfInBounds_toArray, List.set_cons_zero, List.set_cons_succ]
        refine wpAnyH_take (i := 17) (v := undef) rfl (by kernel_rfl) (by kernel_rfl) (by kernel_rfl) (fun _ _ _ h => h) (Or.inr ⟨by kernel_rfl, rfl⟩) (by assumption) ?_
        try simp only [Act.put, List.setIfInBounds_toArray, List.set_cons_zero, List.set_cons_succ]
        refine wpAnyH_start2 (n' := 2) (l' := #[true, true, true, true, true, true, true, true, true, true, true, true, true, true, true, true, true, true, false, false]) (by kernel_rfl) (by kernel_rfl) ?_
        refine wpAnyH_take (i := 18) (v := undef) rfl (by kernel_rfl) (by kernel_rfl) (by kernel_rfl) (fun _ _ _ h => h) (Or.inr ⟨by kernel_rfl, rfl⟩) (by assumption) ?_
        try simp only [Act.put, List.setIfInBounds_toArray, List.set_cons_zero, List.set_cons_succ]
        refine wpAnyH_take (i := 19) (v := ?_) rfl (by kernel_rfl) (by kernel_rfl) (by kernel_rfl) (fun _ _ _ h => h) (Or.inl ⟨by kernel_rfl, ?_⟩) (by assumption) ?_
        rotate_left
        · intro u hSu
          obtain ⟨s0, _⟩ := hSu
          try simp only [List.getElem_toArray, List.getElem_cons_succ, List.getElem_cons_zero]
          go_simp
          try with_reducible rfl
        try simp only [Act.put, List.setIfInBounds_toArray, List.set_cons_zero, List.set_cons_succ]
        refine wpAnyH_done (by kernel_rfl) ?_ _
        try simp only [List.getElem_toArray, List.getElem_cons_succ, List.getElem_cons_zero]
        try simp only [Act.put, List.setIfInBounds_toArray, List.set_cons_zero, List.set_cons_succ]
        refine NoPanic.normal ?_
        go_wp2_with fail
        go_roundg (N - (kk + 1))
        case measure => omega
        case rel => exact ⟨kk + 1, by omega, by omega, by rw [hstep], by go_num, hHeld1.1⟩
      | true =>
        have c1 := fun W hW => hmay W kk hlt hW
        rw [hm] at c1
        by_cases hneg : leastK O m kk < 0
        · rw [if_pos ⟨hm, .inl hneg⟩] at hstep
          obtain ⟨q, hq⟩ : ∃ q, leastK O m kk = q := ⟨_, rfl⟩
          rw [hq] at hneg ⊢
          refine wp_region_noPanic ?_
          refine wp_region_held_drew (S := fun u => Below w.heap.size w u ∧ True) (by kernel_rfl) (⟨hB1.drew, trivial⟩) (fun hHeld => ?_)
          refine wpAnyH_start2 (n' := 20) (l' := #[false, false, false, false, false, false, false, false, false, false, false, false, false, false, false, false, false, false, false, false]) (by kernel_rfl) (by kernel_rfl) ?_
          refine wpAnyH_take (i := 0) (v := ?_) rfl (by kernel_rfl) (by kernel_rfl) (by kernel_rfl) (fun _ _ _ h => h) (Or.inl ⟨by kernel_rfl, ?_⟩) (by assumption) ?_
          rotate_left
          · intro u hSu
            obtain ⟨s0, _⟩ := hSu
            try simp only [List.getElem_toArray, List.getElem_cons_succ, List.getElem_cons_zero]
            go_simp
            try with_reducible rfl
          try simp only [Act.put, List.setIfInBounds_toArray, List.set_cons_zero, List.set_cons_succ]
          refine wpAnyH_take (i := 1) (v := ?_) rfl (by kernel_rfl) (by kernel_rfl) (by kernel_rfl) (fun _ _ _ h => h) (Or.inl ⟨by kernel_rfl, ?_⟩) (by assumption) ?_
          rotate_left
          · intro u hSu
            obtain ⟨s0, _⟩ := hSu
            try simp only [List.getElem_toArray, List.getElem_cons_succ, List.getElem_cons_zero]
            go_simp
            try with_reducible rfl
          try simp only [Act.put, List.setIfInBounds_toArray, List.set_cons_zero, List.set_cons_succ]
          refine wpAnyH_ready (rs := [2]) (by kernel_rfl) (by simp) ?_
          refine AllReadyH.cons rfl (fun K hK => ?_) AllReadyH.nil
          try simp only [List.getElem_toArray, List.getElem_cons_succ, List.getElem_cons_zero]
          go_simp
          refine (c1 _ hHeld.1).mono ?_
          rintro e w1 ⟨rfl, hb1⟩
          refine hK.out _ _ ?_ (fun hHeld1 => ?_)
          · exact ⟨bNext hHeld.1 hb1 (Nat.le_refl _), trivial⟩
          clear hK K
          try simp only [Act.put, List.setIfInBounds_toArray, List.set_cons_zero, List.set_cons_succ]
          refine wpAnyH_start2 (n' := 17) (l' := #[true, true, true, false, false, false, false, false, false, false, false, false, false, false, false, false, false, false, false, false]) (by kernel_rfl) (by kernel_rfl) ?_
          refine wpAnyH_take (i := 3) (v := ?_) rfl (by kernel_rfl) (by kernel_rfl) (by kernel_rfl) (fun _ _ _ h => h) (Or.inl ⟨by kernel_rfl, ?_⟩) (by assumption) ?_
          rotate_left
          · intro u hSu
            obtain ⟨s0, _⟩ := hSu
            try simp only [List.getElem_toArray, List.getElem_cons_succ, List.getElem_cons_zero]
            go_simp
            try with_reducible rfl
          try simp only [Act.put, List.setIfInBounds_toArray, List.set_cons_zero, List.set_cons_succ]
          refine wpAnyH_take (i := 4) (v := ?_) rfl (by kernel_rfl) (by kernel_rfl) (by kernel_rfl) (fun _ _ _ h => h) (Or.inl ⟨by kernel_rfl, ?_⟩) (by assumption) ?_
          rotate_left
          · intro u hSu
            obtain ⟨s0, _⟩ := hSu
            try simp only [List.getElem_toArray, List.getElem_cons_succ, List.getElem_cons_zero]
            go_simp
            try with_reducible rfl
          try simp only [Act.put, List.setIfInBounds_toArray, List.set_cons_zero, List.set_cons_succ]
          refine wpAnyH_take (i := 5) (v := ?_) rfl (by kernel_rfl) (by kernel_rfl) (by kernel_rfl) (fun _ _ _ h => h) (Or.inl ⟨by kernel_rfl, ?_⟩) (by assumption) ?_
          rotate_left
          · intro u hSu
            obtain ⟨s0, _⟩ := hSu
            try simp only [List.getElem_toArray, List.getElem_cons_succ, List.getElem_cons_zero]
            go_simp
            try with_reducible rfl
          try simp only [Act.put, List.setIfInBounds_toArray, List.set_cons_zero, List.set_cons_succ]
          refine wpAnyH_start2 (n' := 14) (l' := #[true, true, true, true, true, true, false, false, false, false, false, false, false, false, false, false, false, false, false, false]) (by kernel_rfl) (by kernel_rfl) ?_
          refine wpAnyH_take (i := 6) (v := ?_) rfl (by kernel_rfl) (by kernel_rfl) (by kernel_rfl) (fun _ _ _ h => h) (Or.inl ⟨by kernel_rfl, ?_⟩) (by assumption) ?_
          rotate_left
          · intro u hSu
            obtain ⟨s0, _⟩ := hSu
            try simp only [List.getElem_toArray, List.getElem_cons_succ, List.getElem_cons_zero]
            go_simp
            try with_reducible rfl
          try simp only [Act.put, List.setIfInBounds_toArray, List.set_cons_zero, List.set_cons_succ]
          refine wpAnyH_take (i := 7) (v := undef) rfl (by kernel_rfl) (by kernel_rfl) (by kernel_rfl) (fun _ _ _ h => h) (Or.inr ⟨by kernel_rfl, rfl⟩) (by assumption) ?_
          try simp only [Act.put, List.setIfInBounds_toArray, List.set_cons_zero, List.set_cons_succ]
          refine wpAnyH_take (i := 8) (v := undef) rfl (by kernel_rfl) (by kernel_rfl) (by kernel_rfl) (fun _ _ _ h => h) (Or.inr ⟨by kernel_rfl, rfl⟩) (by assumption) ?_
          try simp only [Act.put, List.setIfInBounds_toArray, List.set_cons_zero, List.set_cons_succ]
          refine wpAnyH_start2 (n' := 11) (l' := #[true, true, true, true, true, true, true, true, true, false, false, false, false, false, false, false, false, false, false, false]) (by kernel_rfl) (by kernel_rfl) ?_
          refine wpAnyH_take (i := 9) (v := undef) rfl (by kernel_rfl) (by kernel_rfl) (by kernel_rfl) (fun _ _ _ h => h) (Or.inr ⟨by kernel_rfl, rfl⟩) (by assumption) ?_
          try simp only [Act.put, List.setIfInBounds_toArray, List.set_cons_zero, List.set_cons_succ]
          refine wpAnyH_take (i := 10) (v := undef) rfl (by kernel_rfl) (by kernel_rfl) (by kernel_rfl) (fun _ _ _ h => h) (Or.inr ⟨by kernel_rfl, rfl⟩) (by assumption) ?_
          try simp only [Act.put, List.setIfInBounds_toArray, List.set_cons_zero, List.set_cons_succ]
          refine wpAnyH_take (i := 11) (v := undef) rfl (by kernel_rfl) (by kernel_rfl) (by kernel_rfl) (fun _ _ _ h => h) (Or.inr ⟨by kernel_rfl, rfl⟩) (by assumption) ?_
          try simp only [Act.put, List.setIfInBounds_toArray, List.set_cons_zero, List.set_cons_succ]
          refine wpAnyH_start2 (n' := 8) (l' := #[true, true, true, true, true, true, true, true, true, true, true, true, false, false, false, false, false, false, false, false]) (by kernel_rfl) (by kernel_rfl) ?_
          refine wpAnyH_take (i := 12) (v := undef) rfl (by kernel_rfl) (by kernel_rfl) (by kernel_rfl) (fun _ _ _ h => h) (Or.inr ⟨by kernel_rfl, rfl⟩) (by assumption) ?_
          try simp only [Act.put, List.setIfInBounds_toArray, List.set_cons_zero, List.set_cons_succ]
          refine wpAnyH_take (i := 13) (v := undef) rfl (by kernel_rfl) (by kernel_rfl) (by kernel_rfl) (fun _ _ _ h => h) (Or.inr ⟨by kernel_rfl, rfl⟩) (by assumption) ?_
          try simp only [Act.put, List.setIfInBounds_toArray, List.set_cons_zero, List.set_cons_succ]
          refine wpAnyH_take (i := 14) (v := undef) rfl (by kernel_rfl) (by kernel_rfl) (by kernel_rfl) (fun _ _ _ h => h) (Or.inr ⟨by kernel_rfl, rfl⟩) (by assumption) ?_
          try simp only [Act.put, List.setIfInBounds_toArray, List.set_cons_zero, List.set_cons_succ]
          refine wpAnyH_start2 (n' := 5) (l' := #[true, true, true, true, true, true, true, true, true, true, true, true, true, true, true, false, false, false, false, false]) (by kernel_rfl) (by kernel_rfl) ?_
          refine wpAnyH_take (i := 15) (v := undef) rfl (by kernel_rfl) (by kernel_rfl) (by kernel_rfl) (fun _ _ _ h => h) (Or.inr ⟨by kernel_rfl, rfl⟩) (by assumption) ?_
          try simp only [Act.put, List.setIfInBounds_toArray, List.set_cons_zero, List.set_cons_succ]
          refine wpAnyH_take (i := 16) (v := undef) rfl (by kernel_rfl) (by kernel_rfl) (by kernel_rfl) (fun _ _ _ h => h) (Or.inr ⟨by kernel_rfl, rfl⟩) (by assumption) ?_
          try simp only [Act.put, List.setIfInBounds_toArray, List.set_cons_zero, List.set_cons_succ]
          refine wpAnyH_take (i := 17) (v := undef) rfl (by kernel_rfl) (by kernel_rfl) (by kernel_rfl) (fun _ _ _ h => h) (Or.inr ⟨by kernel_rfl, rfl⟩) (by assumption) ?_
          try simp only [Act.put, List.setIfInBounds_toArray, List.set_cons_zero, List.set_cons_succ]
          refine wpAnyH_start2 (n' := 2) (l' := #[true, true, true, true, true, true, true, true, true, true, true, true, true, true, true, true, true, true, false, false]) (by kernel_rfl) (by kernel_rfl) ?_
          refine wpAnyH_take (i := 18) (v := ?_) rfl (by kernel_rfl) (by kernel_rfl) (by kernel_rfl) (fun _ _ _ h => h) (Or.inl ⟨by kernel_rfl, ?_⟩) (by assumption) ?_
          rotate_left
          · intro u hSu
            obtain ⟨s0, _⟩ := hSu
            try simp only [List.getElem_toArray, List.getElem_cons_succ, List.getElem_cons_zero]
            go_simp
            try with_reducible rfl
          try simp only [Act.put, List.setIfInBounds_toArray, List.set_cons_zero, List.set_cons_succ]
          refine wpAnyH_take (i := 19) (v := ?_) rfl (by kernel_rfl) (by kernel_rfl) (by kernel_rfl) (fun _ _ _ h => h) (Or.inl ⟨by kernel_rfl, ?_⟩) (by assumption) ?_
          rotate_left
          · intro u hSu
            obtain ⟨s0, _⟩ := hSu
            try simp only [List.getElem_toArray, List.getElem_cons_succ, List.getElem_cons_zero]
            go_simp
            try with_reducible rfl
          try simp only [Act.put, List.setIfInBounds_toArray, List.set_cons_zero, List.set_cons_succ]
          refine wpAnyH_done (by kernel_rfl) ?_ _
          try simp only [List.getElem_toArray, List.getElem_cons_succ, List.getElem_cons_zero]
          try simp only [Act.put, List.setIfInBounds_toArray, List.set_cons_zero, List.set_cons_succ]
          refine NoPanic.normal ?_
          go_wp2_with fail
          go_roundg (N - (kk + 1))
          case measure => omega
          case rel => exact ⟨kk + 1, by omega, by omega, by rw [hstep], by go_num, hHeld1.1⟩
        · obtain ⟨k, hk, hkl⟩ : ∃ k : Nat, leastK O m kk = (k : Int) ∧ k < kk := ⟨(leastK O m kk).toNat, by omega, by omega⟩
          rw [hk] at hneg hstep ⊢
          have hkN : (k : Int) < (N : Int) := by omega
          have y0 := T1.c0 k (by omega)
          have y1 := T1.c1 k (by omega)
          have c2 := fun W hW => hof W kk hlt hW
          have c3 := fun W hW => hof W k (by omega) hW
          rw [Int.toNat_natCast] at hstep
          clear T T1 hof hmay hk hab
          refine wp_region_noPanic ?_
          refine wp_region_held_drew (S := fun u => Below w.heap.size w u ∧ u.cell? ⟨tx, 0, none⟩ = some (.int .i64 (S kk)) ∧ u.cell? ⟨tx, 1, none⟩ = some (.int .i64 (F kk)) ∧ u.cell? ⟨vx, 1, none⟩ = some (.slice (some ⟨b, off, none⟩) N c) ∧ u.cell? ⟨b, off + k * 2, none⟩ = some (.int .i64 (S k)) ∧ u.cell? ⟨b, off + k * 2 + 1, none⟩ = some (.int .i64 (F k))) (by kernel_rfl) (⟨hB1.drew, by simpa using x0, by simpa using x1, by simpa using x2, by simpa using y0, by simpa using y1⟩) (fun hHeld => ?_)
          refine wpAnyH_start2 (n' := 20) (l' := #[false, false, false, false, false, false, false, false, false, false, false, false, false, false, false, false, false, false, false, false]) (by kernel_rfl) (by kernel_rfl) ?_
          refine wpAnyH_take (i := 0) (v := ?_) rfl (by kernel_rfl) (by kernel_rfl) (by kernel_rfl) (fun _ _ _ h => h) (Or.inl ⟨by kernel_rfl, ?_⟩) (by assumption) ?_
          rotate_left
          · intro u hSu
            obtain ⟨sB, s0, s1, s2, s3, s4⟩ := hSu
            try simp only [List.getElem_toArray, List.getElem_cons_succ, List.getElem_cons_zero]
            go_simp
            try with_reducible rfl
          try simp only [Act.put, List.setIfInBounds_toArray, List.set_cons_zero, List.set_cons_succ]
          refine wpAnyH_take (i := 1) (v := ?_) rfl (by kernel_rfl) (by kernel_rfl) (by kernel_rfl) (fun _ _ _ h => h) (Or.inl ⟨by kernel_rfl, ?_⟩) (by assumption) ?_
          rotate_left
          · intro u hSu
            obtain ⟨sB, s0, s1, s2, s3, s4⟩ := hSu
            try simp only [List.getElem_toArray, List.getElem_cons_succ, List.getElem_cons_zero]
            go_simp
            try with_reducible rfl
          try simp only [Act.put, List.setIfInBounds_toArray, List.set_cons_zero, List.set_cons_succ]
          refine wpAnyH_ready (rs := [2]) (by kernel_rfl) (by simp) ?_
          refine AllReadyH.cons rfl (fun K hK => ?_) AllReadyH.nil
          try simp only [List.getElem_toArray, List.getElem_cons_succ, List.getElem_cons_zero]
          go_simp
          refine (c1 _ hHeld.1).mono ?_
          rintro e w1 ⟨rfl, hb1⟩
          refine hK.out _ _ ?_ (fun hHeld1 => ?_)
          · exact ⟨bNext hHeld.1 hb1 (Nat.le_refl _), cellB hb1 hHeld.2.1, cellB hb1 hHeld.2.2.1, cellB hb1 hHeld.2.2.2.1, cellB hb1 hHeld.2.2.2.2.1, cellB hb1 hHeld.2.2.2.2.2⟩
          clear hK K
          try simp only [Act.put, List.setIfInBounds_toArray, List.set_cons_zero, List.set_cons_succ]
          refine wpAnyH_start2 (n' := 17) (l' := #[true, true, true, false, false, false, false, false, false, false, false, false, false, false, false, false, false, false, false, false]) (by kernel_rfl) (by kernel_rfl) ?_
          refine wpAnyH_take (i := 3) (v := ?_) rfl (by kernel_rfl) (by kernel_rfl) (by kernel_rfl) (fun _ _ _ h => h) (Or.inl ⟨by kernel_rfl, ?_⟩) (by assumption) ?_
          rotate_left
          · intro u hSu
            obtain ⟨sB, s0, s1, s2, s3, s4⟩ := hSu
            try simp only [List.getElem_toArray, List.getElem_cons_succ, List.getElem_cons_zero]
            go_simp
            try with_reducible rfl
          try simp only [Act.put, List.setIfInBounds_toArray, List.set_cons_zero, List.set_cons_succ]
          refine wpAnyH_take (i := 4) (v := ?_) rfl (by kernel_rfl) (by kernel_rfl) (by kernel_rfl) (fun _ _ _ h => h) (Or.inl ⟨by kernel_rfl, ?_⟩) (by assumption) ?_
          rotate_left
          · intro u hSu
            obtain ⟨sB, s0, s1, s2, s3, s4⟩ := hSu
            try simp only [List.getElem_toArray, List.getElem_cons_succ, List.getElem_cons_zero]
            go_simp
            try with_reducible rfl
          try simp only [Act.put, List.setIfInBounds_toArray, List.set_cons_zero, List.set_cons_succ]
          refine wpAnyH_take (i := 5) (v := ?_) rfl (by kernel_rfl) (by kernel_rfl) (by kernel_rfl) (fun _ _ _ h => h) (Or.inl ⟨by kernel_rfl, ?_⟩) (by assumption) ?_
          rotate_left
          · intro u hSu
            obtain ⟨sB, s0, s1, s2, s3, s4⟩ := hSu
            try simp only [List.getElem_toArray, List.getElem_cons_succ, List.getElem_cons_zero]
            go_simp
            try with_reducible rfl
          try simp only [Act.put, List.setIfInBounds_toArray, List.set_cons_zero, List.set_cons_succ]
          refine wpAnyH_start2 (n' := 14) (l' := #[true, true, true, true, true, true, false, false, false, false, false, false, false, false, false, false, false, false, false, false]) (by kernel_rfl) (by kernel_rfl) ?_
          refine wpAnyH_take (i := 6) (v := ?_) rfl (by kernel_rfl) (by kernel_rfl) (by kernel_rfl) (fun _ _ _ h => h) (Or.inl ⟨by kernel_rfl, ?_⟩) (by assumption) ?_
          rotate_left
          · intro u hSu
            obtain ⟨sB, s0, s1, s2, s3, s4⟩ := hSu
            try simp only [List.getElem_toArray, List.getElem_cons_succ, List.getElem_cons_zero]
            go_simp
            try with_reducible rfl
          try simp only [Act.put, List.setIfInBounds_toArray, List.set_cons_zero, List.set_cons_succ]
          refine wpAnyH_take (i := 7) (v := ?_) rfl (by kernel_rfl) (by kernel_rfl) (by kernel_rfl) (fun _ _ _ h => h) (Or.inl ⟨by kernel_rfl, ?_⟩) (by assumption) ?_
          rotate_left
          · intro u hSu
            obtain ⟨sB, s0, s1, s2, s3, s4⟩ := hSu
            try simp only [List.getElem_toArray, List.getElem_cons_succ, List.getElem_cons_zero]
            go_simp
            try with_reducible rfl
          try simp only [Act.put, List.setIfInBounds_toArray, List.set_cons_zero, List.set_cons_succ]
          refine wpAnyH_take (i := 8) (v := ?_) rfl (by kernel_rfl) (by kernel_rfl) (by kernel_rfl) (fun _ _ _ h => h) (Or.inl ⟨by kernel_rfl, ?_⟩) (by assumption) ?_
          rotate_left
          · intro u hSu
            obtain ⟨sB, s0, s1, s2, s3, s4⟩ := hSu
            try simp only [List.getElem_toArray, List.getElem_cons_succ, List.getElem_cons_zero]
            go_simp
            try with_reducible rfl
          try simp only [Act.put, List.setIfInBounds_toArray, List.set_cons_zero, List.set_cons_succ]
          refine wpAnyH_start2 (n' := 11) (l' := #[true, true, true, true, true, true, true, true, true, false, false, false, false, false, false, false, false, false, false, false]) (by kernel_rfl) (by kernel_rfl) ?_
          refine wpAnyH_take (i := 10) (v := ?_) rfl (by kernel_rfl) (by kernel_rfl) (by kernel_rfl) (fun _ _ _ h => h) (Or.inl ⟨by kernel_rfl, ?_⟩) (by assumption) ?_
          rotate_left
          · intro u hSu
            obtain ⟨sB, s0, s1, s2, s3, s4⟩ := hSu
            try simp only [List.getElem_toArray, List.getElem_cons_succ, List.getElem_cons_zero]
            go_simp
            try with_reducible rfl
          try simp only [Act.put, List.setIfInBounds_toArray, List.set_cons_zero, List.set_cons_succ]
          refine wpAnyH_take (i := 11) (v := ?_) rfl (by kernel_rfl) (by kernel_rfl) (by kernel_rfl) (fun _ _ _ h => h) (Or.inl ⟨by kernel_rfl, ?_⟩) (by assumption) ?_
          rotate_left
          · intro u hSu
            obtain ⟨sB, s0, s1, s2, s3, s4⟩ := hSu
            try simp only [List.getElem_toArray, List.getElem_cons_succ, List.getElem_cons_zero]
            go_simp
            try with_reducible rfl
          try simp only [Act.put, List.setIfInBounds_toArray, List.set_cons_zero, List.set_cons_succ]
          refine wpAnyH_take (i := 12) (v := ?_) rfl (by kernel_rfl) (by kernel_rfl) (by kernel_rfl) (fun _ _ _ h => h) (Or.inl ⟨by kernel_rfl, ?_⟩) (by assumption) ?_
          rotate_left
          · intro u hSu
            obtain ⟨sB, s0, s1, s2, s3, s4⟩ := hSu
            try simp only [List.getElem_toArray, List.getElem_cons_succ, List.getElem_cons_zero]
            go_simp
            try with_reducible rfl
          try simp only [Act.put, List.setIfInBounds_toArray, List.set_cons_zero, List.set_cons_succ]
          refine wpAnyH_start2 (n' := 8) (l' := #[true, true, true, true, true, true, true, true, true, false, true, true, true, false, false, false, false, false, false, false]) (by kernel_rfl) (by kernel_rfl) ?_
          refine wpAnyH_take (i := 13) (v := ?_) rfl (by kernel_rfl) (by kernel_rfl) (by kernel_rfl) (fun _ _ _ h => h) (Or.inl ⟨by kernel_rfl, ?_⟩) (by assumption) ?_
          rotate_left
          · intro u hSu
            obtain ⟨sB, s0, s1, s2, s3, s4⟩ := hSu
            try simp only [List.getElem_toArray, List.getElem_cons_succ, List.getElem_cons_zero]
            go_simp
            try with_reducible rfl
          try simp only [Act.put, List.setIfInBounds_toArray, List.set_cons_zero, List.set_cons_succ]
          refine wpAnyH_take (i := 14) (v := ?_) rfl (by kernel_rfl) (by kernel_rfl) (by kernel_rfl) (fun _ _ _ h => h) (Or.inl ⟨by kernel_rfl, ?_⟩) (by assumption) ?_
          rotate_left
          · intro u hSu
            obtain ⟨sB, s0, s1, s2, s3, s4⟩ := hSu
            try simp only [List.getElem_toArray, List.getElem_cons_succ, List.getElem_cons_zero]
            go_simp
            try with_reducible rfl
          try simp only [Act.put, List.setIfInBounds_toArray, List.set_cons_zero, List.set_cons_succ]
          refine wpAnyH_take (i := 15) (v := ?_) rfl (by kernel_rfl) (by kernel_rfl) (by kernel_rfl) (fun _ _ _ h => h) (Or.inl ⟨by kernel_rfl, ?_⟩) (by assumption) ?_
          rotate_left
          · intro u hSu
            obtain ⟨sB, s0, s1, s2, s3, s4⟩ := hSu
            try simp only [List.getElem_toArray, List.getElem_cons_succ, List.getElem_cons_zero]
            go_simp
            try with_reducible rfl
          try simp only [Act.put, List.setIfInBounds_toArray, List.set_cons_zero, List.set_cons_succ]
          refine wpAnyH_start2 (n' := 5) (l' := #[true, true, true, true, true, true, true, true, true, false, true, true, true, true, true, true, false, false, false, false]) (by kernel_rfl) (by kernel_rfl) ?_
          refine wpAnyH_ready (rs := [9]) (by kernel_rfl) (by simp) ?_
          refine AllReadyH.cons rfl (fun K hK => ?_) AllReadyH.nil
          try simp only [List.getElem_toArray, List.getElem_cons_succ, List.getElem_cons_zero]
          go_simp
          refine (c2 _ hHeld1.1).mono ?_
          rintro e w2 ⟨rfl, hb2⟩
          refine hK.out _ _ ?_ (fun hHeld2 => ?_)
          · exact ⟨bNext hHeld1.1 hb2 (Nat.le_refl _), cellB hb2 hHeld1.2.1, cellB hb2 hHeld1.2.2.1, cellB hb2 hHeld1.2.2.2.1, cellB hb2 hHeld1.2.2.2.2.1, cellB hb2 hHeld1.2.2.2.2.2⟩
          clear hK K
          try simp only [Act.put, List.setIfInBounds_toArray, List.set_cons_zero, List.set_cons_succ]
          refine wpAnyH_ready (rs := [16]) (by kernel_rfl) (by simp) ?_
          refine AllReadyH.cons rfl (fun K hK => ?_) AllReadyH.nil
          try simp only [List.getElem_toArray, List.getElem_cons_succ, List.getElem_cons_zero]
          go_simp
          refine (c3 _ hHeld2.1).mono ?_
          rintro e w3 ⟨rfl, hb3⟩
          refine hK.out _ _ ?_ (fun hHeld3 => ?_)
          · exact ⟨bNext hHeld2.1 hb3 (Nat.le_refl _), cellB hb3 hHeld2.2.1, cellB hb3 hHeld2.2.2.1, cellB hb3 hHeld2.2.2.2.1, cellB hb3 hHeld2.2.2.2.2.1, cellB hb3 hHeld2.2.2.2.2.2⟩
          clear hK K
          try simp only [Act.put, List.setIfInBounds_toArray, List.set_cons_zero, List.set_cons_succ]
          refine wpAnyH_take (i := 17) (v := ?_) rfl (by kernel_rfl) (by kernel_rfl) (by kernel_rfl) (fun _ _ _ h => h) (Or.inl ⟨by kernel_rfl, ?_⟩) (by assumption) ?_
          rotate_left
          · intro u hSu
            obtain ⟨sB, s0, s1, s2, s3, s4⟩ := hSu
            try simp only [List.getElem_toArray, List.getElem_cons_succ, List.getElem_cons_zero]
            go_simp
            try with_reducible rfl
          try simp only [Act.put, List.setIfInBounds_toArray, List.set_cons_zero, List.set_cons_succ]
          refine wpAnyH_start2 (n' := 2) (l' := #[true, true, true, true, true, true, true, true, true, true, true, true, true, true, true, true, true, true, false, false]) (by kernel_rfl) (by kernel_rfl) ?_
          refine wpAnyH_take (i := 18) (v := ?_) rfl (by kernel_rfl) (by kernel_rfl) (by kernel_rfl) (fun _ _ _ h => h) (Or.inl ⟨by kernel_rfl, ?_⟩) (by assumption) ?_
          rotate_left
          · intro u hSu
            obtain ⟨sB, s0, s1, s2, s3, s4⟩ := hSu
            try simp only [List.getElem_toArray, List.getElem_cons_succ, List.getElem_cons_zero]
            go_simp
            try with_reducible rfl
          try simp only [Act.put, List.setIfInBounds_toArray, List.set_cons_zero, List.set_cons_succ]
          refine wpAnyH_take (i := 19) (v := ?_) rfl (by kernel_rfl) (by kernel_rfl) (by kernel_rfl) (fun _ _ _ h => h) (Or.inl ⟨by kernel_rfl, ?_⟩) (by assumption) ?_
          rotate_left
          · intro u hSu
            obtain ⟨sB, s0, s1, s2, s3, s4⟩ := hSu
            try simp only [List.getElem_toArray, List.getElem_cons_succ, List.getElem_cons_zero]
            go_simp
            try with_reducible rfl
          try simp only [Act.put, List.setIfInBounds_toArray, List.set_cons_zero, List.set_cons_succ]
          refine wpAnyH_done (by kernel_rfl) ?_ _
          try simp only [List.getElem_toArray, List.getElem_cons_succ, List.getElem_cons_zero]
          try simp only [Act.put, List.setIfInBounds_toArray, List.set_cons_zero, List.set_cons_succ]
          refine NoPanic.normal ?_
          by_cases hO : O kk < O k
          · rw [if_pos ⟨hm, .inr hO⟩] at hstep
            go_wp2_with fail
            go_roundg (N - (kk + 1))
            case measure => omega
            case rel => exact ⟨kk + 1, by omega, by omega, by rw [hstep], by go_num, hHeld3.1⟩
          · rw [if_neg (by rintro ⟨_, h⟩; omega)] at hstep
            go_wp2_with fail
            go_roundg (N - (kk + 1))
            case measure => omega
            case rel => exact ⟨kk + 1, by omega, by omega, by rw [hstep], by go_num, hHeld3.1⟩
    · have hltz : ¬ (kk : Int) < (N : Int) := by omega
      have : kk = N := by omega
      subst this
      go_wp2
      go_ret
      exact ⟨rfl, BW.out⟩
end Go.Proofs.Ytkefkophlhcbiaa
