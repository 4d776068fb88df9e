/- Virtual time: Serve, and the reference's. -/
import Derived.Test.YtbbcongfaoopcaaV13
namespace Go.Proofs.Ytbbcongfaoopcaa
open Go.ChangeShapes Go.WideShapes Go.ChangeAt Go.RowKit
set_option linter.unusedVariables false
set_option linter.unusedSimpArgs false
open BigFrame Vr Pk Fq

namespace Vr
def serveOk (V : Int) (N : Nat) (S F : Nat → Int) (size : Int) : Prop := VOk V N S F ∧ 1 ≤ size ∧ size ≤ 1500 ∧ V ≤ 1152921504606846976 - size * 720720
open Classical in
noncomputable def serveR (V : Int) (N : Nat) (S F : Nat → Int) (size : Int) : VR := if serveOk V N S F size then ⟨V + size * 720720, N, S, F, 0⟩ else ⟨0, 0, S, F, 2⟩
theorem serveR_N (V : Int) (N : Nat) (S F : Nat → Int) (size : Int) : (serveR V N S F size).N ≤ N := by
  unfold serveR
  split
  · exact Nat.le_refl _
  · exact Nat.zero_le _
end Vr

set_option maxRecDepth 100000 in
set_option maxHeartbeats 4000000 in
theorem vserve_c (V size : Int) (N : Nat) (a : Option Addr) (b off c : Nat) (S F : Nat → Int) (w : World) (T : TagsAt w a b off N S F) (hN : N ≤ 1000) :
    Calls Try.prog 31 #[.agg #[.int .i64 V, .slice a N c], .int .i64 size] w (VirX (serveR V N S F size) w) := by
  have hB0 : Below w.heap.size w ((w.alloc (.cells #[.int .i64 V, .slice a N c] 50)).alloc (.cells #[.int .i64 0, .slice none 0 0] 50)) := ((Below.refl _ _).alloc (Nat.le_refl _) _).alloc (by simp) _
  have bx0 := blk_two w (.int .i64 V) (.slice a N c) (.int .i64 0) (.slice none 0 0) 50 50
  have rs0 := blk_new (w.alloc (.cells #[.int .i64 V, .slice a N c] 50)) (.int .i64 0) (.slice none 0 0) 50
  rw [World.size_alloc] at rs0
  have hszW : w.heap.size + 1 < ((w.alloc (.cells #[.int .i64 V, .slice a N c] 50)).alloc (.cells #[.int .i64 0, .slice none 0 0] 50)).heap.size := by simp
  by_cases hok : serveOk V N S F size
  · unfold serveR
    rw [if_pos hok]
    obtain ⟨hv, h1, h2, h3⟩ := hok
    have hck := vcheck_ok V a b off N c S F _ (T.bel hB0) hv
    have hV0 := hv.1
    have hV1 := hv.2.1
    have e1 : ¬ size < 1 := by omega
    have e2 : ¬ 1500 < size := by omega
    have e3 : ¬ 1152921504606846976 - size * 720720 < V := by omega
    clear hv
    replace T := Lib.hid T
    go_enter Try.func31, Try.ntmps31
    go_wp2_with fail
    generalize ((w.alloc (.cells #[.int .i64 V, .slice a N c] 50)).alloc (.cells #[.int .i64 0, .slice none 0 0] 50)) = W1 at bx0 rs0 hB0 hszW hck ⊢
    refine hck.mono ?_
    rintro e w1 ⟨rfl, hb1⟩
    have bx1 := bx0.bel hb1
    have rs1 := rs0.bel hb1
    have hB1 := bNext hB0 hb1 (Nat.le_refl _)
    have hsz1 := hb1.size
    clear bx0 rs0 hB0 hck hb1
    have p0 := bx1.c 0 _ rfl
    have p1 := bx1.c 1 _ rfl
    have p2 := bx1.f 0
    have bx2 := bx1.set (i := 0) (by simp) (.int .i64 (V + size * 720720))
    have rs2 := rs1.other (q := w.heap.size) (o := 0) (by omega) (.int .i64 (V + size * 720720))
    have hB2 := hB1.setCell (p := ⟨w.heap.size, 0, none⟩) (Nat.le_refl _) (.int .i64 (V + size * 720720))
    go_upto_region 4 with fail
    generalize w1.setCell ⟨w.heap.size, 0, none⟩ (.int .i64 (V + size * 720720)) = w2 at bx2 rs2 hB2 ⊢
    clear bx1 rs1 hB1 p0 p1 p2
    have p1 := bx2.c 1 _ rfl
    go_wp2_with fail
    refine (vclone_c a b off N c S F w2 (T.out.bel hB2) hN).mono ?_
    rintro e w3 ⟨a3, g3, c3, rfl, T3, hg3, hb3⟩
    have bx3 := bx2.bel hb3
    have rs3 := rs2.bel hb3
    have hB3 := bNext hB2 hb3 (Nat.le_refl _)
    have hl2 := rs2.l
    clear p1 bx2 rs2 hB2 hb3
    have p1 := bx3.c 1 _ rfl
    have p2 := bx3.f 1
    have bx4 := bx3.set (i := 1) (by simp) (.slice a3 N c3)
    have rs4 := rs3.other (q := w.heap.size) (o := 1) (by omega) (.slice a3 N c3)
    have hB4 := hB3.setCell (p := ⟨w.heap.size, 1, none⟩) (Nat.le_refl _) (.slice a3 N c3)
    have T4 := T3.set_other (q := w.heap.size) (o := 1) (fun h0 => by have := (hg3 h0).1; omega) (.slice a3 N c3)
    go_upto_region 5 with fail
    generalize w3.setCell ⟨w.heap.size, 1, none⟩ (.slice a3 N c3) = w4 at bx4 rs4 hB4 T4 ⊢
    clear p1 p2 bx3 rs3 hB3 T3
    have p0 := bx4.c 0 _ rfl
    have p1 := bx4.c 1 _ rfl
    have r0 := rs4.c 0 _ rfl
    have r1 := rs4.c 1 _ rfl
    have r2 := rs4.f 0
    have r3 := rs4.f 1
    go_wp2_with fail
    refine bodyPost_ret (v := .tuple #[.agg #[.int .i64 (V + size * 720720), .slice a3 N c3], .int .i64 0]) (by simp [results, Try.results31, go_sem, r0, r1]) rfl ⟨_, g3, _, rfl, ?_, fun h0 => by have := (hg3 h0).1; show _ ≤ g3; omega, ?_⟩
    · exact (T4.set_other (fun h0 => by have := (hg3 h0).1; omega) _).set_other (fun h0 => by have := (hg3 h0).1; omega) _
    · exact (hB4.setCell (p := ⟨w.heap.size + 1, 0, none⟩) (by show _ ≤ w.heap.size + 1; omega) _).setCell (p := ⟨w.heap.size + 1, 1, none⟩) (by show _ ≤ w.heap.size + 1; omega) _
  · have hno : VirX ⟨0, 0, S, F, 2⟩ = VirX (serveR V N S F size) := by unfold serveR; rw [if_neg hok]
    rw [← hno]
    clear hno hszW
    by_cases hv : VOk V N S F
    · have hck := vcheck_ok V a b off N c S F _ (T.bel hB0) hv
      have hV0 := hv.1
      have hV1 := hv.2.1
      by_cases h1 : size < 1
      · clear hv hok T
        go_enter Try.func31, Try.ntmps31
        go_wp2_with fail
        generalize ((w.alloc (.cells #[.int .i64 V, .slice a N c] 50)).alloc (.cells #[.int .i64 0, .slice none 0 0] 50)) = W1 at bx0 rs0 hB0 hck ⊢
        refine hck.mono ?_
        rintro e w1 ⟨rfl, hb1⟩
        have bx1 := bx0.bel hb1
        have rs1 := rs0.bel hb1
        have hB1 := bNext hB0 hb1 (Nat.le_refl _)
        have p0 := bx1.c 0 _ rfl
        have r0 := rs1.c 0 _ rfl
        have r1 := rs1.c 1 _ rfl
        have r2 := rs1.f 0
        have r3 := rs1.f 1
        go_wp2_with fail
        refine bodyPost_ret (v := .tuple #[.agg #[.int .i64 0, .slice none 0 0], .int .i64 2]) (by simp [results, Try.results31, go_sem, r0, r1]) rfl (virX_no S F 2 ⟨rfl, ?_⟩)
        exact (hB1.setCell (p := ⟨w.heap.size + 1, 0, none⟩) (by show _ ≤ w.heap.size + 1; omega) _).setCell (p := ⟨w.heap.size + 1, 1, none⟩) (by show _ ≤ w.heap.size + 1; omega) _
      by_cases h2 : 1500 < size
      · clear hv hok T
        go_enter Try.func31, Try.ntmps31
        go_wp2_with fail
        generalize ((w.alloc (.cells #[.int .i64 V, .slice a N c] 50)).alloc (.cells #[.int .i64 0, .slice none 0 0] 50)) = W1 at bx0 rs0 hB0 hck ⊢
        refine hck.mono ?_
        rintro e w1 ⟨rfl, hb1⟩
        have bx1 := bx0.bel hb1
        have rs1 := rs0.bel hb1
        have hB1 := bNext hB0 hb1 (Nat.le_refl _)
        have p0 := bx1.c 0 _ rfl
        have r0 := rs1.c 0 _ rfl
        have r1 := rs1.c 1 _ rfl
        have r2 := rs1.f 0
        have r3 := rs1.f 1
        go_wp2_with fail
        refine bodyPost_ret (v := .tuple #[.agg #[.int .i64 0, .slice none 0 0], .int .i64 2]) (by simp [results, Try.results31, go_sem, r0, r1]) rfl (virX_no S F 2 ⟨rfl, ?_⟩)
        exact (hB1.setCell (p := ⟨w.heap.size + 1, 0, none⟩) (by show _ ≤ w.heap.size + 1; omega) _).setCell (p := ⟨w.heap.size + 1, 1, none⟩) (by show _ ≤ w.heap.size + 1; omega) _
      have h3 : 1152921504606846976 - size * 720720 < V := by
        refine Classical.byContradiction fun q => hok ⟨hv, by omega, by omega, by omega⟩
      clear hv hok T
      go_enter Try.func31, Try.ntmps31
      go_wp2_with fail
      generalize ((w.alloc (.cells #[.int .i64 V, .slice a N c] 50)).alloc (.cells #[.int .i64 0, .slice none 0 0] 50)) = W1 at bx0 rs0 hB0 hck ⊢
      refine hck.mono ?_
      rintro e w1 ⟨rfl, hb1⟩
      have bx1 := bx0.bel hb1
      have rs1 := rs0.bel hb1
      have hB1 := bNext hB0 hb1 (Nat.le_refl _)
      have p0 := bx1.c 0 _ rfl
      have r0 := rs1.c 0 _ rfl
      have r1 := rs1.c 1 _ rfl
      have r2 := rs1.f 0
      have r3 := rs1.f 1
      go_wp2_with fail
      refine bodyPost_ret (v := .tuple #[.agg #[.int .i64 0, .slice none 0 0], .int .i64 2]) (by simp [results, Try.results31, go_sem, r0, r1]) rfl (virX_no S F 2 ⟨rfl, ?_⟩)
      exact (hB1.setCell (p := ⟨w.heap.size + 1, 0, none⟩) (by show _ ≤ w.heap.size + 1; omega) _).setCell (p := ⟨w.heap.size + 1, 1, none⟩) (by show _ ≤ w.heap.size + 1; omega) _
    · have hck := vcheck_no V a b off N c S F _ (T.bel hB0) hN hv
      clear hv hok T
      go_enter Try.func31, Try.ntmps31
      go_wp2_with fail
      generalize ((w.alloc (.cells #[.int .i64 V, .slice a N c] 50)).alloc (.cells #[.int .i64 0, .slice none 0 0] 50)) = W1 at bx0 rs0 hB0 hck ⊢
      refine hck.mono ?_
      rintro e w1 ⟨rfl, hb1⟩
      have bx1 := bx0.bel hb1
      have rs1 := rs0.bel hb1
      have hB1 := bNext hB0 hb1 (Nat.le_refl _)
      have p0 := bx1.c 0 _ rfl
      have r0 := rs1.c 0 _ rfl
      have r1 := rs1.c 1 _ rfl
      have r2 := rs1.f 0
      have r3 := rs1.f 1
      go_wp2_with fail
      refine bodyPost_ret (v := .tuple #[.agg #[.int .i64 0, .slice none 0 0], .int .i64 2]) (by simp [results, Try.results31, go_sem, r0, r1]) rfl (virX_no S F 2 ⟨rfl, ?_⟩)
      exact (hB1.setCell (p := ⟨w.heap.size + 1, 0, none⟩) (by show _ ≤ w.heap.size + 1; omega) _).setCell (p := ⟨w.heap.size + 1, 1, none⟩) (by show _ ≤ w.heap.size + 1; omega) _

set_option maxRecDepth 100000 in
set_option maxHeartbeats 4000000 in
theorem rserve_c (V size : Int) (N : Nat) (a : Option Addr) (b off c : Nat) (S F : Nat → Int) (w : World) (T : TagsAt w a b off N S F) (hN : N ≤ 1000) :
    Calls Try.prog 35 #[.agg #[.int .i64 V, .slice a N c], .int .i64 size] w (VirX (serveR V N S F size) w) := by
  have hB0 : Below w.heap.size w ((w.alloc (.cells #[.int .i64 V, .slice a N c] 50)).alloc (.cells #[.int .i64 0, .slice none 0 0] 50)) := ((Below.refl _ _).alloc (Nat.le_refl _) _).alloc (by simp) _
  have bx0 := blk_two w (.int .i64 V) (.slice a N c) (.int .i64 0) (.slice none 0 0) 50 50
  have rs0 := blk_new (w.alloc (.cells #[.int .i64 V, .slice a N c] 50)) (.int .i64 0) (.slice none 0 0) 50
  rw [World.size_alloc] at rs0
  have hszW : w.heap.size + 1 < ((w.alloc (.cells #[.int .i64 V, .slice a N c] 50)).alloc (.cells #[.int .i64 0, .slice none 0 0] 50)).heap.size := by simp
  by_cases hok : serveOk V N S F size
  · unfold serveR
    rw [if_pos hok]
    obtain ⟨hv, h1, h2, h3⟩ := hok
    have hck := rcheck25_c true V a b off N c S F _ (T.bel hB0) hN ⟨fun _ => hv, fun _ => rfl⟩
    have hV0 := hv.1
    have hV1 := hv.2.1
    have e1 : ¬ size < 1 := by omega
    have e2 : ¬ 1500 < size := by omega
    have e3 : ¬ 1152921504606846976 - size * 720720 < V := by omega
    clear hv
    replace T := Lib.hid T
    go_enter Try.func35, Try.ntmps35
    go_wp2_with fail
    generalize ((w.alloc (.cells #[.int .i64 V, .slice a N c] 50)).alloc (.cells #[.int .i64 0, .slice none 0 0] 50)) = W1 at bx0 rs0 hB0 hszW hck ⊢
    refine hck.mono ?_
    rintro e w1 ⟨rfl, hb1⟩
    have bx1 := bx0.bel hb1
    have rs1 := rs0.bel hb1
    have hB1 := bNext hB0 hb1 (Nat.le_refl _)
    have hsz1 := hb1.size
    clear bx0 rs0 hB0 hck hb1
    have p0 := bx1.c 0 _ rfl
    have p1 := bx1.c 1 _ rfl
    go_wp2_with fail
    refine (rcopied_c V a b off N c S F w1 (T.out.bel hB1) hN).mono ?_
    rintro e w3 ⟨a3, g3, c3, rfl, T3, hg3, hb3⟩
    have rs3 := rs1.bel hb3
    have hB3 := bNext hB1 hb3 (Nat.le_refl _)
    have hl2 := rs1.l
    have hsz3 := hb3.size
    clear p0 p1 bx1 rs1 hB1 hb3
    have hbb := (Below.refl w3.heap.size w3).alloc (Nat.le_refl _) (.cells #[.int .i64 V, .slice a3 N c3] 50)
    have bo3 := blk_new w3 (.int .i64 V) (.slice a3 N c3) 50
    have rs3' := rs3.bel hbb
    have T3' := T3.bel hbb
    have hB3' := bNext hB3 hbb (Nat.le_refl _)
    have hT3 : 0 < N → g3 ≠ w3.heap.size := fun h0 => by have := T3.hb h0; omega
    have hrl := rs3.l
    have hwl := hB3.size
    clear rs3 T3 hB3 hbb
    go_upto_region 4 with fail
    generalize w3.alloc (.cells #[.int .i64 V, .slice a3 N c3] 50) = w3' at bo3 rs3' T3' hB3' ⊢
    generalize w3.heap.size = ob at bo3 hT3 hrl hwl ⊢
    have p0 := bo3.c 0 _ rfl
    have p2 := bo3.f 0
    have bx4 := bo3.set (i := 0) (by simp) (.int .i64 (V + size * 720720))
    have rs4 := rs3'.other (q := ob) (o := 0) (by omega) (.int .i64 (V + size * 720720))
    have hB4 := hB3'.setCell (p := ⟨ob, 0, none⟩) hwl (.int .i64 (V + size * 720720))
    have T4 := T3'.set_other (q := ob) (o := 0) hT3 (.int .i64 (V + size * 720720))
    go_upto_region 5 with fail
    generalize w3'.setCell ⟨ob, 0, none⟩ (.int .i64 (V + size * 720720)) = w4 at bx4 rs4 hB4 T4 ⊢
    clear p0 p2 bo3 rs3' hB3' T3'
    have p0 := bx4.c 0 _ rfl
    have p1 := bx4.c 1 _ rfl
    have r0 := rs4.c 0 _ rfl
    have r1 := rs4.c 1 _ rfl
    have r2 := rs4.f 0
    have r3 := rs4.f 1
    go_wp2_with fail
    refine bodyPost_ret (v := .tuple #[.agg #[.int .i64 (V + size * 720720), .slice a3 N c3], .int .i64 0]) (by simp [results, Try.results35, go_sem, r0, r1]) rfl ⟨_, g3, _, rfl, ?_, fun h0 => by have := (hg3 h0).1; show _ ≤ g3; omega, ?_⟩
    · exact (T4.set_other (fun h0 => by have := (hg3 h0).1; omega) _).set_other (fun h0 => by have := (hg3 h0).1; omega) _
    · exact (hB4.setCell (p := ⟨w.heap.size + 1, 0, none⟩) (by show _ ≤ w.heap.size + 1; omega) _).setCell (p := ⟨w.heap.size + 1, 1, none⟩) (by show _ ≤ w.heap.size + 1; omega) _
  · have hno : VirX ⟨0, 0, S, F, 2⟩ = VirX (serveR V N S F size) := by unfold serveR; rw [if_neg hok]
    rw [← hno]
    clear hno hszW
    by_cases hv : VOk V N S F
    · have hck := rcheck25_c true V a b off N c S F _ (T.bel hB0) hN ⟨fun _ => hv, fun _ => rfl⟩
      have hV0 := hv.1
      have hV1 := hv.2.1
      by_cases h1 : size < 1
      · clear hv hok T
        go_enter Try.func35, Try.ntmps35
        go_wp2_with fail
        generalize ((w.alloc (.cells #[.int .i64 V, .slice a N c] 50)).alloc (.cells #[.int .i64 0, .slice none 0 0] 50)) = W1 at bx0 rs0 hB0 hck ⊢
        refine hck.mono ?_
        rintro e w1 ⟨rfl, hb1⟩
        have bx1 := bx0.bel hb1
        have rs1 := rs0.bel hb1
        have hB1 := bNext hB0 hb1 (Nat.le_refl _)
        have p0 := bx1.c 0 _ rfl
        have r0 := rs1.c 0 _ rfl
        have r1 := rs1.c 1 _ rfl
        have r2 := rs1.f 0
        have r3 := rs1.f 1
        go_wp2_with fail
        refine bodyPost_ret (v := .tuple #[.agg #[.int .i64 0, .slice none 0 0], .int .i64 2]) (by simp [results, Try.results35, go_sem, r0, r1]) rfl (virX_no S F 2 ⟨rfl, ?_⟩)
        exact (hB1.setCell (p := ⟨w.heap.size + 1, 0, none⟩) (by show _ ≤ w.heap.size + 1; omega) _).setCell (p := ⟨w.heap.size + 1, 1, none⟩) (by show _ ≤ w.heap.size + 1; omega) _
      by_cases h2 : 1500 < size
      · clear hv hok T
        go_enter Try.func35, Try.ntmps35
        go_wp2_with fail
        generalize ((w.alloc (.cells #[.int .i64 V, .slice a N c] 50)).alloc (.cells #[.int .i64 0, .slice none 0 0] 50)) = W1 at bx0 rs0 hB0 hck ⊢
        refine hck.mono ?_
        rintro e w1 ⟨rfl, hb1⟩
        have bx1 := bx0.bel hb1
        have rs1 := rs0.bel hb1
        have hB1 := bNext hB0 hb1 (Nat.le_refl _)
        have p0 := bx1.c 0 _ rfl
        have r0 := rs1.c 0 _ rfl
        have r1 := rs1.c 1 _ rfl
        have r2 := rs1.f 0
        have r3 := rs1.f 1
        go_wp2_with fail
        refine bodyPost_ret (v := .tuple #[.agg #[.int .i64 0, .slice none 0 0], .int .i64 2]) (by simp [results, Try.results35, go_sem, r0, r1]) rfl (virX_no S F 2 ⟨rfl, ?_⟩)
        exact (hB1.setCell (p := ⟨w.heap.size + 1, 0, none⟩) (by show _ ≤ w.heap.size + 1; omega) _).setCell (p := ⟨w.heap.size + 1, 1, none⟩) (by show _ ≤ w.heap.size + 1; omega) _
      have h3 : 1152921504606846976 - size * 720720 < V := by
        refine Classical.byContradiction fun q => hok ⟨hv, by omega, by omega, by omega⟩
      clear hv hok T
      go_enter Try.func35, Try.ntmps35
      go_wp2_with fail
      generalize ((w.alloc (.cells #[.int .i64 V, .slice a N c] 50)).alloc (.cells #[.int .i64 0, .slice none 0 0] 50)) = W1 at bx0 rs0 hB0 hck ⊢
      refine hck.mono ?_
      rintro e w1 ⟨rfl, hb1⟩
      have bx1 := bx0.bel hb1
      have rs1 := rs0.bel hb1
      have hB1 := bNext hB0 hb1 (Nat.le_refl _)
      have p0 := bx1.c 0 _ rfl
      have r0 := rs1.c 0 _ rfl
      have r1 := rs1.c 1 _ rfl
      have r2 := rs1.f 0
      have r3 := rs1.f 1
      go_wp2_with fail
      refine bodyPost_ret (v := .tuple #[.agg #[.int .i64 0, .slice none 0 0], .int .i64 2]) (by simp [results, Try.results35, go_sem, r0, r1]) rfl (virX_no S F 2 ⟨rfl, ?_⟩)
      exact (hB1.setCell (p := ⟨w.heap.size + 1, 0, none⟩) (by show _ ≤ w.heap.size + 1; omega) _).setCell (p := ⟨w.heap.size + 1, 1, none⟩) (by show _ ≤ w.heap.size + 1; omega) _
    · have hck := rcheck25_c false V a b off N c S F _ (T.bel hB0) hN ⟨(fun q => by cases q), fun q => absurd q hv⟩
      clear hv hok T
      go_enter Try.func35, Try.ntmps35
      go_wp2_with fail
      generalize ((w.alloc (.cells #[.int .i64 V, .slice a N c] 50)).alloc (.cells #[.int .i64 0, .slice none 0 0] 50)) = W1 at bx0 rs0 hB0 hck ⊢
      refine hck.mono ?_
      rintro e w1 ⟨rfl, hb1⟩
      have bx1 := bx0.bel hb1
      have rs1 := rs0.bel hb1
      have hB1 := bNext hB0 hb1 (Nat.le_refl _)
      have p0 := bx1.c 0 _ rfl
      have r0 := rs1.c 0 _ rfl
      have r1 := rs1.c 1 _ rfl
      have r2 := rs1.f 0
      have r3 := rs1.f 1
      go_wp2_with fail
      refine bodyPost_ret (v := .tuple #[.agg #[.int .i64 0, .slice none 0 0], .int .i64 2]) (by simp [results, Try.results35, go_sem, r0, r1]) rfl (virX_no S F 2 ⟨rfl, ?_⟩)
      exact (hB1.setCell (p := ⟨w.heap.size + 1, 0, none⟩) (by show _ ≤ w.heap.size + 1; omega) _).setCell (p := ⟨w.heap.size + 1, 1, none⟩) (by show _ ≤ w.heap.size + 1; omega) _
end Go.Proofs.Ytbbcongfaoopcaa
