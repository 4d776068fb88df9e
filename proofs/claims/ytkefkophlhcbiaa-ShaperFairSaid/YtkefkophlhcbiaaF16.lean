/- The scheduler: Pick refused; State; Copy. -/
import Derived.Test.YtkefkophlhcbiaaF15
namespace Go.Proofs.Ytkefkophlhcbiaa
open Go.ChangeShapes Go.WideShapes Go.ChangeAt Go.RowKit Go.Maps
set_option linter.unusedVariables false
set_option linter.unusedSimpArgs false
open BigFrame Pk Fq Vr Fa

set_option maxRecDepth 100000 in
set_option maxHeartbeats 4000000 in
theorem fpick_nil (w : World) (a : Option Addr) (n c : Nat) :
    Calls Try.prog 34 #[.pointer none, .slice a n c] w fun e w' => e = .returned (.tuple #[.int .i64 0, .bool false]) ∧ Below w.heap.size w w' := by
  go_enter Try.func34, Try.ntmps34
  go_wp2_with fail
  exact bodyPost_ret (v := .tuple #[.int .i64 0, .bool false]) (by simp [results, Try.results34, go_sem]) rfl ⟨rfl, Below.refl _ _⟩

set_option maxRecDepth 100000 in
set_option maxHeartbeats 4000000 in
theorem fpick_len {w : World} {f lb cl tb ct N : Nat} {ALL V : Int} {W Z : Nat → Int} {D : Nat → Bool} {S F : Nat → Int} (hd : FD w f lb cl tb ct N ALL V W Z D S F) (a : Option Addr) (n c : Nat) (hn : n ≠ N) :
    Calls Try.prog 34 #[.pointer (some ⟨f, 0, none⟩), .slice a n c] w fun e w' => e = .returned (.tuple #[.int .i64 0, .bool false]) ∧ Below w.heap.size w w' := by
  have b0 := hd.b.c 0 _ rfl
  have hn2 : ¬ (n : Int) = (N : Int) := by omega
  clear hd hn
  go_enter Try.func34, Try.ntmps34
  go_wp2_with fail
  exact bodyPost_ret (v := .tuple #[.int .i64 0, .bool false]) (by simp [results, Try.results34, go_sem]) rfl ⟨rfl, Below.refl _ _⟩

set_option maxRecDepth 100000 in
set_option maxHeartbeats 4000000 in
theorem fpick_bad {w : World} {f lb cl tb ct N : Nat} {ALL V : Int} {W Z : Nat → Int} {D : Nat → Bool} {S F : Nat → Int} (hd : FD w f lb cl tb ct N ALL V W Z D S F) (a : Option Addr) (b off c : Nat) (h g : Nat → Int) (T : TagsAt w a b off N h g) (hh : ¬ ∀ i, i < N → headBad (h i) = false) :
    Calls Try.prog 34 #[.pointer (some ⟨f, 0, none⟩), .slice a N c] w fun e w' => e = .returned (.tuple #[.int .i64 0, .bool false]) ∧ Below w.heap.size w w' := by
  have b0 := hd.b.c 0 _ rfl
  have hc := hcontains_c a b off N c h g w T (by have := hd.n8; omega)
  have hdec : (!decide (∀ i, i < N → headBad (h i) = false)) = true := by simpa using hh
  rw [hdec] at hc
  replace hc := Lib.hid hc
  clear hd hh T hdec
  go_enter Try.func34, Try.ntmps34
  go_wp2_with (go_at_call 46; refine hc.out.mono ?_; rintro e w1 ⟨rfl, hb1⟩; replace hb1 := Lib.hid hb1; clear hc b0)
  exact bodyPost_ret (v := .tuple #[.int .i64 0, .bool false]) (by simp [results, Try.results34, go_sem]) rfl ⟨rfl, hb1.out⟩