/- What layer 24 says of a queue of two. -/
import Derived.Test.YtndlldlanjhanaaQ7
import Derived.Lib.SlBytesConst
import Derived.Laws.IdiomStrings
namespace Go.Proofs.Ytndlldlanjhanaa
open Go.ChangeShapes Go.WideShapes Go.ChangeAt Go.RowKit
set_option linter.unusedVariables false
set_option linter.unusedSimpArgs false
open Pk BigFrame Fq

set_option maxRecDepth 100000 in
set_option maxHeartbeats 4000000 in
theorem wakes24_c (w : World) : Calls Try.prog 4 #[] w fun e w' => e = .returned (.bool true) ∧ Below w.heap.size w w' := by
  have kc := fun (w : World) (C : Array Value) (n c : Nat) => Lib.run_convert_bytes_const (P := Try.prog) w 23 5 C n c Try.underlying23 Try.underlying5
  go_enter Try.func4, Try.ntmps4
  go_wp2_with fail
  refine (qnew_ok 2 w (by omega) (by omega)).mono ?_
  rintro e w1 ⟨qb, rb, pk, rfl, hQ1, hR1, hqb, hrb, hB1⟩
  have hq1 : qb < w1.heap.size := World.block_lt_of_cell? _ _ hQ1.c0
  have hp1 := Lib.hid (qpush_ok qb rb 2 0 0 0 0 1 0 0 none 0 0 pk w1 hQ1 hR1 (by omega) (by omega) (by omega) (copy_nil 1 0 0 w1))
  clear hR1
  replace hQ1 := Lib.hid hQ1
  go_wp2_with fail
  refine hp1.out.mono ?_
  rintro e w2 ⟨rfl, a1, c1, hz1, hQ2, hR2, hK2⟩
  obtain ⟨rfl, rfl⟩ := hz1 rfl
  have hB2 := hK2.bel _ _ hB1 hqb hrb
  have hbs : Below w2.heap.size w2 (w2.alloc (.cells #[.int .u8 120] 5 (1, 2))) := (Below.refl _ _).alloc (Nat.le_refl _) _
  have hcp : CopyP 2 0 0 (some ⟨w2.heap.size, 0, none⟩) 1 1 (w2.alloc (.cells #[.int .u8 120] 5 (1, 2))) := fun u hu => by
    have hc0 : (w2.alloc (.cells #[.int .u8 120] 5 (1, 2))).cell? ⟨w2.heap.size, 0, none⟩ = some (.int .u8 120) := (World.cell?_alloc_mark w2 _ _ _ 0).trans rfl
    refine (copied_some 2 0 0 w2.heap.size 0 1 1 (fun _ => 120) u (by omega) (by omega) (by have := hu.size; simp at this; omega) (fun i hi => ?_)).mono ?_
    · obtain rfl : i = 0 := by omega
      exact ⟨(hu.cell (p := ⟨w2.heap.size, 0, none⟩) (by simp)).trans hc0, by simp⟩
    · rintro e u' ⟨⟨a1, c1, rfl⟩, hb⟩
      exact ⟨a1, c1, rfl, fun h => absurd h (by omega), hb⟩
  have hp2 := Lib.hid (qpush_ok qb rb 2 0 1 8 0 2 0 0 (some ⟨w2.heap.size, 0, none⟩) 1 1 _ _ (hQ2.below hbs) (hR2.below hQ2.rl hbs) (by omega) (by omega) (by omega) hcp)
  have hK2s := hK2
  have hq2 : qb < w2.heap.size := World.block_lt_of_cell? _ _ hQ2.c0
  clear hQ2 hR2 hp1 hcp
  go_wp2_with fail
  refine hp2.out.mono ?_
  rintro e w3 ⟨rfl, a3, c3, _, hQ3, hR3, hK3⟩
  have hB3 := hK3.bel _ _ (bNext hB2 hbs (Nat.le_refl _)) hqb hrb
  have hp3 := Lib.hid (qpush_full qb rb 2 0 17 0 3 0 0 none 0 0 _ w3 hQ3 hR3 (by omega) (by omega) (copy_nil 3 0 0 w3))
  clear hQ3 hR3 hp2
  go_wp2_with fail
  refine hp3.out.mono ?_
  rintro e w4 ⟨rfl, hQ4, hR4, hK4⟩
  have hB4 := hK4.bel _ _ hB3 hqb hrb
  have hp4 := Lib.hid (qpop_ok qb rb 2 0 2 17 1 1 0 0 none 0 0 _ w4 hQ4 hR4 (by omega) (by omega) (by omega) (by simp) (by simp) (by simp) (by simp) (copy_nil 1 0 0 w4))
  clear hQ4 hR4 hp3
  go_wp2_with fail
  refine hp4.out.mono ?_
  rintro e w5 ⟨a5, c5, rfl, hz5, hQ5, hR5, hK5⟩
  obtain ⟨rfl, rfl⟩ := hz5 rfl
  have hB5 := hK5.bel _ _ hB4 hqb hrb
  have hbx : Below w5.heap.size w5 (w5.alloc (.cells #[.int .i64 1, .int .i64 0, .int .i64 0, .slice none 0 0] 25)) := (Below.refl _ _).alloc (Nat.le_refl _) _
  have hQ6 := hQ5.below hbx
  have l1 := Lib.hid (qlen_c _ _ _ _ _ _ _ _ hQ6)
  have l2 := Lib.hid (qbytes_c _ _ _ _ _ _ _ _ hQ6)
  have l3 := Lib.hid (qdrops_c _ _ _ _ _ _ _ _ hQ6)
  have hB6 := bNext hB5 hbx (Nat.le_refl _)
  clear hQ5 hR5 hQ6 hp4
  go_wp2_with (first | (go_at_call 8; refine l1.out.mono ?_; rintro e w7 ⟨rfl, rfl⟩) | (go_at_call 9; refine l2.out.mono ?_; rintro e w7 ⟨rfl, rfl⟩) | (go_at_call 11; refine l3.out.mono ?_; rintro e w7 ⟨rfl, rfl⟩))
  go_ret
  exact ⟨rfl, hB6⟩
end Go.Proofs.Ytndlldlanjhanaa
