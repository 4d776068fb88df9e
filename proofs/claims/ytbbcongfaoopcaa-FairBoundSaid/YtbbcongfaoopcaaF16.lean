/- The scheduler: Pick refused; State; Copy. -/
import Derived.Test.YtbbcongfaoopcaaF15
namespace Go.Proofs.Ytbbcongfaoopcaa
open Go.ChangeShapes Go.WideShapes Go.ChangeAt Go.RowKit Go.Maps
set_option linter.unusedVariables false
set_option linter.unusedSimpArgs false
open BigFrame Pk Fq Vr Fa

set_option maxRecDepth 100000 in
set_option maxHeartbeats 4000000 in
theorem fpick_nil (w : World) (a : Option Addr) (n c : Nat) :
    Calls Try.prog 16 #[.pointer none, .slice a n c] w fun e w' => e = .returned (.tuple #[.int .i64 0, .bool false]) ∧ Below w.heap.size w w' := by
  go_enter Try.func16, Try.ntmps16
  go_wp2_with fail
  exact bodyPost_ret (v := .tuple #[.int .i64 0, .bool false]) (by simp [results, Try.results16, go_sem]) rfl ⟨rfl, Below.refl _ _⟩

set_option maxRecDepth 100000 in
set_option maxHeartbeats 4000000 in
theorem fpick_len {w : World} {f lb cl tb ct N : Nat} {ALL V : Int} {W Z : Nat → Int} {D : Nat → Bool} {S F : Nat → Int} (hd : FD w f lb cl tb ct N ALL V W Z D S F) (a : Option Addr) (n c : Nat) (hn : n ≠ N) :
    Calls Try.prog 16 #[.pointer (some ⟨f, 0, none⟩), .slice a n c] w fun e w' => e = .returned (.tuple #[.int .i64 0, .bool false]) ∧ Below w.heap.size w w' := by
  have b0 := hd.b.c 0 _ rfl
  have hn2 : ¬ (n : Int) = (N : Int) := by omega
  clear hd hn
  go_enter Try.func16, Try.ntmps16
  go_wp2_with fail
  exact bodyPost_ret (v := .tuple #[.int .i64 0, .bool false]) (by simp [results, Try.results16, go_sem]) rfl ⟨rfl, Below.refl _ _⟩

set_option maxRecDepth 100000 in
set_option maxHeartbeats 4000000 in
theorem fpick_bad {w : World} {f lb cl tb ct N : Nat} {ALL V : Int} {W Z : Nat → Int} {D : Nat → Bool} {S F : Nat → Int} (hd : FD w f lb cl tb ct N ALL V W Z D S F) (a : Option Addr) (b off c : Nat) (h g : Nat → Int) (T : TagsAt w a b off N h g) (hh : ¬ ∀ i, i < N → headBad (h i) = false) :
    Calls Try.prog 16 #[.pointer (some ⟨f, 0, none⟩), .slice a N c] w fun e w' => e = .returned (.tuple #[.int .i64 0, .bool false]) ∧ Below w.heap.size w w' := by
  have b0 := hd.b.c 0 _ rfl
  have hc := hcontains_c a b off N c h g w T (by have := hd.n8; omega)
  have hdec : (!decide (∀ i, i < N → headBad (h i) = false)) = true := by simpa using hh
  rw [hdec] at hc
  replace hc := Lib.hid hc
  clear hd hh T hdec
  go_enter Try.func16, Try.ntmps16
  go_wp2_with (go_at_call 27; refine hc.out.mono ?_; rintro e w1 ⟨rfl, hb1⟩; replace hb1 := Lib.hid hb1; clear hc b0)
  exact bodyPost_ret (v := .tuple #[.int .i64 0, .bool false]) (by simp [results, Try.results16, go_sem]) rfl ⟨rfl, hb1.out⟩

set_option maxRecDepth 100000 in
set_option maxHeartbeats 4000000 in
theorem fstate_nil (w : World) :
    Calls Try.prog 19 #[.pointer none] w fun e w' => e = .returned (.agg #[.int .i64 0, .slice none 0 0]) ∧ Below w.heap.size w w' := by
  have hB0 := (Below.refl w.heap.size w).alloc (Nat.le_refl _) (.cells #[.int .i64 0, .slice none 0 0] 50)
  go_enter Try.func19, Try.ntmps19
  go_wp2_with fail
  exact bodyPost_ret (v := .agg #[.int .i64 0, .slice none 0 0]) (by simp [results, Try.results19, go_sem]) rfl ⟨rfl, by first | exact hB0 | exact (hB0.setCell (p := ⟨w.heap.size, 0, none⟩) (Nat.le_refl _) _).setCell (p := ⟨w.heap.size, 1, none⟩) (Nat.le_refl _) _⟩

set_option maxRecDepth 100000 in
set_option maxHeartbeats 4000000 in
theorem fstate_c {w : World} {f lb cl tb ct N : Nat} {ALL V : Int} {W Z : Nat → Int} {D : Nat → Bool} {S F : Nat → Int} (hd : FD w f lb cl tb ct N ALL V W Z D S F) :
    Calls Try.prog 19 #[.pointer (some ⟨f, 0, none⟩)] w (CopP V N S F w) := by
  have hB0 := (Below.refl w.heap.size w).alloc (Nat.le_refl _) (.cells #[.int .i64 0, .slice none 0 0] 50)
  have nb := blk_new w (.int .i64 0) (.slice none 0 0) 50
  have d1 := hd.bel hB0
  have n1 := hd.n1
  have hc := Lib.hid (fcopied_c V N (some ⟨tb, 0, none⟩) tb 0 ct S F _ d1.t (by have := hd.n8; omega))
  have b2 := d1.b.c 2 _ rfl
  have b3 := d1.b.c 3 _ rfl
  have hfl := hd.b.l
  clear hd d1
  have hsz : (w.alloc (.cells #[.int .i64 0, .slice none 0 0] 50)).heap.size = w.heap.size + 1 := by simp
  go_enter Try.func19, Try.ntmps19
  go_upto_region 3 with fail
  generalize w.alloc (.cells #[.int .i64 0, .slice none 0 0] 50) = w1 at hB0 nb hc b2 b3 hsz ⊢
  replace nb := Lib.hid nb
  replace hB0 := Lib.hid hB0
  go_wp2_with fail
  refine hc.out.mono ?_
  rintro e w2 ⟨a2, g2, c2, rfl, T2, hg2, hb2⟩
  obtain rfl := T2.ha (by omega)
  obtain ⟨hg2, hz2⟩ := hg2 (by omega)
  have nb2 := nb.out.bel hb2
  have z0 := nb2.f 0
  have z1 := nb2.f 1
  have z2 := nb2.c 0 _ rfl
  have z3 := nb2.c 1 _ rfl
  have nb3 := (nb2.set (i := 0) (by simp) (.int .i64 V)).set (i := 1) (by simp) (.slice (some ⟨g2, 0, none⟩) N c2)
  have T3 := Lib.hid ((T2.set_other (q := w.heap.size) (o := 0) (fun _ => by omega) (.int .i64 V)).set_other (q := w.heap.size) (o := 1) (fun _ => by omega) (.slice (some ⟨g2, 0, none⟩) N c2))
  have hB3 := Lib.hid (((hB0.out.trans (hb2.mono (by omega))).setCell (p := ⟨w.heap.size, 0, none⟩) (Nat.le_refl _) (.int .i64 V)).setCell (p := ⟨w.heap.size, 1, none⟩) (Nat.le_refl _) (.slice (some ⟨g2, 0, none⟩) N c2))
  have r0 := nb3.c 0 _ rfl
  have r1 := nb3.c 1 _ rfl
  clear hc b2 b3 nb hB0 hb2 T2 nb2 nb3
  go_wp2_with fail
  refine bodyPost_ret (v := .agg #[.int .i64 V, .slice (some ⟨g2, 0, none⟩) N c2]) (by simp [results, Try.results19, go_sem, r0, r1]) rfl ⟨_, g2, _, rfl, T3.out, fun _ => ⟨by omega, fun o => (World.frozen?_setCell _ _ _ _).trans ((World.frozen?_setCell _ _ _ _).trans (hz2 o))⟩, hB3.out⟩
end Go.Proofs.Ytbbcongfaoopcaa
