/- Leases: Held and GiveUp of none; a command is the same as itself. -/
import Derived.Test.YtldknmcnmhdgfaaG14
namespace Go.Proofs.Ytldknmcnmhdgfaa
open Go.ChangeShapes Go.WideShapes Go.ChangeAt Go.RowKit
set_option linter.unusedVariables false
set_option linter.unusedSimpArgs false
open BigFrame Bs Ag

set_option maxRecDepth 100000 in
set_option maxHeartbeats 4000000 in
theorem giveup_nil (w : World) : Calls Try.prog 17 #[.pointer none] w fun e w' => e = .returned (.int .i64 1) ∧ w' = w := by
  go_enter Try.func17, Try.ntmps17
  go_wp2_with fail
  go_ret
  exact ⟨rfl, rfl⟩

set_option maxRecDepth 100000 in
set_option maxHeartbeats 4000000 in
theorem held_nil (w : World) (n : Int) : Calls Try.prog 18 #[.pointer none, .int .i64 n] w fun e w' => e = .returned (.slice none 0 0) ∧ w' = w := by
  have ha := Lib.hid (at_nil w n)
  go_enter Try.func18, Try.ntmps18
  go_wp2_with fail
  refine ha.out.mono ?_
  rintro e w' ⟨rfl, rfl⟩
  go_wp2_with fail
  go_ret
  exact ⟨rfl, rfl⟩

set_option maxRecDepth 100000 in
set_option maxHeartbeats 4000000 in
theorem command_c (A : St) (w : World) : Calls Try.prog 13 #[cmdV A, cmdV A] w fun e w' => e = .returned (.bool true) ∧ Below w.heap.size w w' := by
  have b1 := (Below.refl w.heap.size w).alloc (Nat.le_refl _) (.cells (cmdL A).toArray 31)
  have b2 := b1.alloc (by simp) (.cells (cmdL A).toArray 31)
  have p0 := (blk_new w (cmdL A) 31).bel ((Below.refl _ _).alloc (Nat.le_refl _) (.cells (cmdL A).toArray 31))
  have p1 := blk_new (w.alloc (.cells (cmdL A).toArray 31)) (cmdL A) 31
  rw [World.size_alloc] at p1
  replace b2 := Lib.hid b2
  clear b1
  have x0 := p0.c 0 _ rfl
  have x1 := p0.c 1 _ rfl
  have x2 := p0.c 2 _ rfl
  have x3 := p0.c 3 _ rfl
  have x4 := p0.c 4 _ rfl
  have x5 := p0.c 5 _ rfl
  have x6 := p0.c 6 _ rfl
  have x7 := p0.c 7 _ rfl
  have x8 := p0.c 8 _ rfl
  have x9 := p0.c 9 _ rfl
  have x10 := p0.c 10 _ rfl
  have x11 := p0.c 11 _ rfl
  have x12 := p0.c 12 _ rfl
  have y0 := p1.c 0 _ rfl
  have y1 := p1.c 1 _ rfl
  have y2 := p1.c 2 _ rfl
  have y3 := p1.c 3 _ rfl
  have y4 := p1.c 4 _ rfl
  have y5 := p1.c 5 _ rfl
  have y6 := p1.c 6 _ rfl
  have y7 := p1.c 7 _ rfl
  have y8 := p1.c 8 _ rfl
  have y9 := p1.c 9 _ rfl
  have y10 := p1.c 10 _ rfl
  have y11 := p1.c 11 _ rfl
  have y12 := p1.c 12 _ rfl
  clear p0 p1
  unfold cmdL at *
  unfold cmdV
  go_enter Try.func13, Try.ntmps13
  go_wp2_with fail
  go_ret
  exact ⟨rfl, b2.out⟩
end Go.Proofs.Ytldknmcnmhdgfaa
