/- The scheduler: a copy of its times. -/
import Derived.Test.YtbbcongfaoopcaaF1
namespace Go.Proofs.Ytbbcongfaoopcaa
open Go.ChangeShapes Go.WideShapes Go.ChangeAt Go.RowKit Go.Maps
set_option linter.unusedVariables false
set_option linter.unusedSimpArgs false
open BigFrame Pk Fq Vr Fa

set_option maxRecDepth 100000 in
set_option maxHeartbeats 4000000 in
theorem fcopied_c (V : Int) (N : Nat) (a : Option Addr) (b off c : Nat) (S F : Nat → Int) (w : World) (T : TagsAt w a b off N S F) (hN : N ≤ 1000) :
    Calls Try.prog 26 #[.agg #[.int .i64 V, .slice a N c]] w (CopP V N S F w) := by
  have hB0 : Below w.heap.size w ((w.alloc (.cells #[.int .i64 V, .slice a N c] 50)).alloc (.cells #[.int .i64 0, .slice none 0 0] 50)) := ((Below.refl _ _).alloc (Nat.le_refl _) _).alloc (by simp) _
  have bx0 := blk_two w (.int .i64 V) (.slice a N c) (.int .i64 0) (.slice none 0 0) 50 50
  have rs0 := blk_new (w.alloc (.cells #[.int .i64 V, .slice a N c] 50)) (.int .i64 0) (.slice none 0 0) 50
  rw [World.size_alloc] at rs0
  have hszW : w.heap.size + 1 < ((w.alloc (.cells #[.int .i64 V, .slice a N c] 50)).alloc (.cells #[.int .i64 0, .slice none 0 0] 50)).heap.size := by simp
  replace T := Lib.hid T
  go_enter Try.func26, Try.ntmps26
  go_wp2_with fail
  generalize ((w.alloc (.cells #[.int .i64 V, .slice a N c] 50)).alloc (.cells #[.int .i64 0, .slice none 0 0] 50)) = W1 at bx0 rs0 hB0 hszW ⊢
  refine (vclone_c a b off N c S F W1 (T.out.bel hB0) hN).mono ?_
  rintro e w1 ⟨a1, g1, c1, rfl, T1, hg1, hb1⟩
  have bx1 := bx0.bel hb1
  have rs1 := rs0.bel hb1
  have hB1 := bNext hB0 hb1 (Nat.le_refl _)
  have p1 := bx1.c 1 _ rfl
  have p2 := bx1.f 1
  have bx2 := bx1.set (i := 1) (by simp) (.slice a1 N c1)
  have rs2 := rs1.other (q := w.heap.size) (o := 1) (by omega) (.slice a1 N c1)
  have hB2 := hB1.setCell (p := ⟨w.heap.size, 1, none⟩) (Nat.le_refl _) (.slice a1 N c1)
  have T2 := T1.set_other (q := w.heap.size) (o := 1) (fun h0 => by have := (hg1 h0).1; omega) (.slice a1 N c1)
  have hf2 : 0 < N → ∀ o, (w1.setCell ⟨w.heap.size, 1, none⟩ (.slice a1 N c1)).frozen? ⟨g1, o, none⟩ = false := fun h0 o => (World.frozen?_setCell _ _ _ _).trans ((hg1 h0).2 o)
  have hgw : 0 < N → w.heap.size + 1 < g1 := fun h0 => by have := (hg1 h0).1; omega
  go_upto_region 2 with fail
  generalize w1.setCell ⟨w.heap.size, 1, none⟩ (.slice a1 N c1) = w2 at bx2 rs2 hB2 T2 hf2 ⊢
  clear p1 p2 bx0 rs0 hB0 bx1 rs1 hB1 T1 hg1 hb1 hszW T
  have p0 := bx2.c 0 _ rfl
  have p1 := bx2.c 1 _ rfl
  replace T2 := Lib.hid T2
  replace hf2 := Lib.hid hf2
  have r0 := rs2.c 0 _ rfl
  have r1 := rs2.c 1 _ rfl
  have r2 := rs2.f 0
  have r3 := rs2.f 1
  go_wp2_with fail
  refine bodyPost_ret (v := .agg #[.int .i64 V, .slice a1 N c1]) (by simp [results, Try.results26, go_sem, r0, r1]) rfl ⟨_, g1, _, rfl, (T2.out.set_other (fun h0 => by have := hgw h0; omega) _).set_other (fun h0 => by have := hgw h0; omega) _, fun h0 => ⟨by have := hgw h0; omega, fun o => (World.frozen?_setCell _ _ _ _).trans ((World.frozen?_setCell _ _ _ _).trans (hf2.out h0 o))⟩, ?_⟩
  exact (hB2.setCell (p := ⟨w.heap.size + 1, 0, none⟩) (by show _ ≤ w.heap.size + 1; omega) _).setCell (p := ⟨w.heap.size + 1, 1, none⟩) (by show _ ≤ w.heap.size + 1; omega) _
end Go.Proofs.Ytbbcongfaoopcaa
