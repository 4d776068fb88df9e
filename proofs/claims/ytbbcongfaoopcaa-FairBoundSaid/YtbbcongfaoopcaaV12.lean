/- The reference's Wake and Next. -/
import Derived.Test.YtbbcongfaoopcaaV11
namespace Go.Proofs.Ytbbcongfaoopcaa
open Go.ChangeShapes Go.WideShapes Go.ChangeAt Go.RowKit
set_option linter.unusedVariables false
set_option linter.unusedSimpArgs false
open BigFrame Vr Pk Fq
attribute [local go_sem] max_fold25

set_option maxRecDepth 100000 in
set_option maxHeartbeats 4000000 in
theorem rtag_c (V st size weight all : Int) (k N : Nat) (a : Option Addr) (b off c : Nat) (S F : Nat → Int) (w : World) (T : TagsAt w a b off N S F) (hv : VOk V N S F) (hk : k < N) (hs1 : 0 ≤ st) (hs2 : st ≤ 1152921504606846976) :
    Calls Try.prog 59 #[.agg #[.int .i64 V, .slice a N c], .int .i64 (k : Nat), .int .i64 st, .int .i64 size, .int .i64 weight, .int .i64 all] w (VirX (tagR V N S F k (costI size weight all) st) w) := by
  obtain ⟨cc, hcc⟩ : ∃ cc, costI size weight all = cc := ⟨_, rfl⟩
  have hbd := costI_bd size weight all
  have hco := fun W => rcost25_c size weight all W
  rw [hcc] at hbd hco
  rw [hcc]
  have hN8 := hv.2.2.1
  have hB0 : Below w.heap.size w ((w.alloc (.cells #[.int .i64 V, .slice a N c] 50)).alloc (.cells #[.int .i64 0, .slice none 0 0] 50)) := ((Below.refl _ _).alloc (Nat.le_refl _) _).alloc (by simp) _
  have bx0 := blk_two w (.int .i64 V) (.slice a N c) (.int .i64 0) (.slice none 0 0) 50 50
  have rs0 := blk_new (w.alloc (.cells #[.int .i64 V, .slice a N c] 50)) (.int .i64 0) (.slice none 0 0) 50
  rw [World.size_alloc] at rs0
  have hsz0 : ((w.alloc (.cells #[.int .i64 V, .slice a N c] 50)).alloc (.cells #[.int .i64 0, .slice none 0 0] 50)).heap.size = w.heap.size + 2 := by simp
  replace T := Lib.hid T
  by_cases hok : tagOk V N S F k cc st
  · unfold tagR
    rw [if_pos hok]
    obtain ⟨_, _, _, h4, h5⟩ := hok
    have e4 : (cc == 0) = false := by simpa using h4
    have e5 : ¬ 1152921504606846976 - cc < st := by omega
    have kz : (k : Int) < (N : Int) := by omega
    rw [Int.toNat_natCast]
    clear hv hcc
    obtain rfl := T.out.ha (by omega)
    go_enter Try.func59, Try.ntmps59
    go_wp2_with fail
    generalize (w.alloc (.cells #[.int .i64 V, .slice (some ⟨b, off, none⟩) N c] 50)).alloc (.cells #[.int .i64 0, .slice none 0 0] 50) = W1 at bx0 rs0 hB0 hsz0 ⊢
    refine (hco W1).mono ?_
    rintro e w1 ⟨rfl, rfl⟩
    have p0 := bx0.c 0 _ rfl
    have p1 := bx0.c 1 _ rfl
    go_wp2_with fail
    refine (rcopied_c V _ b off N c S F w1 (T.out.bel hB0) (by omega)).mono ?_
    rintro e w2 ⟨a2, g2, c2, rfl, T2, hg2, hb2⟩
    obtain rfl := T2.ha (by omega)
    obtain ⟨hg2, hf2⟩ := hg2 (by omega)
    have rs2 := rs0.bel hb2
    have hB2 := bNext hB0 hb2 (Nat.le_refl _)
    have hs2' := hb2.size
    clear p0 p1 bx0 rs0 hco hB0 hb2 T
    have hbb := (Below.refl w2.heap.size w2).alloc (Nat.le_refl _) (.cells #[.int .i64 V, .slice (some ⟨g2, 0, none⟩) N c2] 50)
    have rs3 := rs2.bel hbb
    have ob3 := blk_new w2 (.int .i64 V) (.slice (some ⟨g2, 0, none⟩) N c2) 50
    have T3 := T2.bel hbb
    have hB3 := bNext hB2 hbb (Nat.le_refl _)
    have hg2l := T2.hb (by omega)
    have hf3 : ∀ o, (w2.alloc (.cells #[.int .i64 V, .slice (some ⟨g2, 0, none⟩) N c2] 50)).frozen? ⟨g2, o, none⟩ = false := fun o => (hbb.frozen (p := ⟨g2, o, none⟩) hg2l).trans (hf2 o)
    go_upto_region 5 with fail
    have hl2 := rs2.l
    clear rs2 T2 hB2 hbb hf2
    generalize w2.alloc (.cells #[.int .i64 V, .slice (some ⟨g2, 0, none⟩) N c2] 50) = W3 at rs3 ob3 T3 hB3 hf3 ⊢
    have hobne : w2.heap.size ≠ g2 := by omega
    have hobne2 : w2.heap.size ≠ w.heap.size + 1 := by omega
    generalize w2.heap.size = ob at ob3 hobne hobne2 ⊢
    have p1 := ob3.c 1 _ rfl
    have x0 := T3.c0 k hk
    have x1 := T3.c1 k hk
    rw [Nat.zero_add] at x0 x1
    have z0 := hf3 (k * 2)
    have z1 := hf3 (k * 2 + 1)
    have T4 := (T3.set_start k hk st).set_finish k hk (st + cc)
    rw [Nat.zero_add] at T4
    have ob4 := (ob3.other (q := g2) (o := k * 2) (by omega) (.int .i64 st)).other (q := g2) (o := k * 2 + 1) (by omega) (.int .i64 (st + cc))
    have rs4 := (rs3.other (q := g2) (o := k * 2) (by omega) (.int .i64 st)).other (q := g2) (o := k * 2 + 1) (by omega) (.int .i64 (st + cc))
    have hB4 := (hB3.setCell (p := ⟨g2, k * 2, none⟩) (by show _ ≤ g2; omega) (.int .i64 st)).setCell (p := ⟨g2, k * 2 + 1, none⟩) (by show _ ≤ g2; omega) (.int .i64 (st + cc))
    go_upto_region 6 with fail
    generalize (W3.setCell ⟨g2, k * 2, none⟩ (.int .i64 st)).setCell ⟨g2, k * 2 + 1, none⟩ (.int .i64 (st + cc)) = W4 at T4 ob4 rs4 hB4 ⊢
    clear x0 x1 z0 z1 p1 ob3 rs3 T3 hB3 hf3
    have p0 := ob4.c 0 _ rfl
    have p1 := ob4.c 1 _ rfl
    have r0 := rs4.c 0 _ rfl
    have r1 := rs4.c 1 _ rfl
    have r2 := rs4.f 0
    have r3 := rs4.f 1
    go_wp2_with fail
    refine bodyPost_ret (v := .tuple #[.agg #[.int .i64 V, .slice (some ⟨g2, 0, none⟩) N c2], .int .i64 0]) (by simp [results, Try.results59, go_sem, r0, r1]) rfl ⟨_, g2, _, rfl, ?_, fun _ => by omega, ?_⟩
    · exact (T4.set_other (fun _ => by omega) _).set_other (fun _ => by omega) _
    · exact (hB4.setCell (p := ⟨w.heap.size + 1, 0, none⟩) (by show _ ≤ w.heap.size + 1; omega) _).setCell (p := ⟨w.heap.size + 1, 1, none⟩) (by show _ ≤ w.heap.size + 1; omega) _
  · have hno : VirX ⟨0, 0, S, F, 2⟩ = VirX (tagR V N S F k cc st) := by unfold tagR; rw [if_neg hok]
    rw [← hno]
    have h45 : cc = 0 ∨ (cc ≠ 0 ∧ 1152921504606846976 - cc < st) := by
      by_cases h : cc = 0
      · exact .inl h
      · exact .inr ⟨h, Classical.byContradiction fun q => hok ⟨hv, by omega, by omega, h, by omega⟩⟩
    clear hok hno hv hcc
    have r0 := rs0.c 0 _ rfl
    have r1 := rs0.c 1 _ rfl
    have r2 := rs0.f 0
    have r3 := rs0.f 1
    by_cases h0 : cc = 0
    · subst h0
      clear h45 hbd
      go_enter Try.func59, Try.ntmps59
      go_wp2_with fail
      generalize (w.alloc (.cells #[.int .i64 V, .slice a N c] 50)).alloc (.cells #[.int .i64 0, .slice none 0 0] 50) = W1 at bx0 rs0 hB0 hsz0 r0 r1 r2 r3 ⊢
      refine (hco W1).mono ?_
      rintro e w1 ⟨rfl, rfl⟩
      go_wp2_with fail
      refine bodyPost_ret (v := .tuple #[.agg #[.int .i64 0, .slice none 0 0], .int .i64 2]) (by simp [results, Try.results59, go_sem, r0, r1]) rfl (virX_no S F 2 ⟨rfl, ?_⟩)
      exact (hB0.setCell (p := ⟨w.heap.size + 1, 0, none⟩) (by show _ ≤ w.heap.size + 1; omega) _).setCell (p := ⟨w.heap.size + 1, 1, none⟩) (by show _ ≤ w.heap.size + 1; omega) _
    · have e4 : (cc == 0) = false := by simpa using h0
      have e5 : 1152921504606846976 - cc < st := by omega
      clear h45
      go_enter Try.func59, Try.ntmps59
      go_wp2_with fail
      generalize (w.alloc (.cells #[.int .i64 V, .slice a N c] 50)).alloc (.cells #[.int .i64 0, .slice none 0 0] 50) = W1 at bx0 rs0 hB0 hsz0 r0 r1 r2 r3 ⊢
      refine (hco W1).mono ?_
      rintro e w1 ⟨rfl, rfl⟩
      go_wp2_with fail
      refine bodyPost_ret (v := .tuple #[.agg #[.int .i64 0, .slice none 0 0], .int .i64 2]) (by simp [results, Try.results59, go_sem, r0, r1]) rfl (virX_no S F 2 ⟨rfl, ?_⟩)
      exact (hB0.setCell (p := ⟨w.heap.size + 1, 0, none⟩) (by show _ ≤ w.heap.size + 1; omega) _).setCell (p := ⟨w.heap.size + 1, 1, none⟩) (by show _ ≤ w.heap.size + 1; omega) _
end Go.Proofs.Ytbbcongfaoopcaa
