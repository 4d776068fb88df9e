/- Virtual time: two flows of one weight. The reference's copy of a virtual time. The reference's Check, Cost and Same of virtual times. The reference's Wake and Next. The reference's Wake and Next. Virtual time: Serve, and the reference's. Virtual time: Rebase. The reference's Rebase and New. What VirtualEligible says: plain facts, and the walk. The reference's Pick. The scheduler: its state, New. The scheduler: a copy of its times. The scheduler: rows of one's own of flows. The scheduler: New. The scheduler: New, its walk. The scheduler: New refused. The scheduler: heads as they come in. -/
import Derived.Test.YtkefkophlhcbiaaV8
import Derived.Test.YtkefkophlhcbiaaStage2
import Derived.Lib.Hide
namespace Go.Proofs.Ytkefkophlhcbiaa
open Go.ChangeShapes Go.WideShapes Go.ChangeAt Go.RowKit
set_option linter.unusedVariables false
set_option linter.unusedSimpArgs false
open BigFrame Vr Pk Fq

namespace Vr
theorem blk_new (u : World) (x y : Value) (t : TypeId) : Blk (u.alloc (.cells #[x, y] t)) u.heap.size [x, y] := ⟨fun i z hz => by
    rcases i with _ | _ | i
    · simp at hz; subst hz; go_simp
    · simp at hz; subst hz; go_simp
    · simp at hz, fun o => by go_simp, by simp⟩
theorem cost_two : costI 100 1 2 = 144144000 := by unfold costI; rw [if_neg (by omega)]; rfl
def z2 : Nat → Int := fun _ => 0
def s2 : Nat → Int := fun _ => 0
def f1 : Nat → Int := fun i => if i = 0 then 144144000 else 0
def f2 : Nat → Int := fun i => if i ≤ 1 then 144144000 else 0
theorem tag_one : tagR 0 2 z2 z2 0 144144000 (max (z2 (0 : Int).toNat) 0) = ⟨0, 2, z2, f1, 0⟩ := by
  unfold tagR
  rw [if_pos ⟨⟨by omega, by omega, by omega, fun i hi => by unfold z2; omega⟩, by omega, by omega, by omega, by unfold z2; simp⟩]
  congr 1
  · funext i; unfold z2; simp
theorem tag_two : tagR 0 2 z2 f1 1 144144000 (max (f1 (1 : Int).toNat) 0) = ⟨0, 2, z2, f2, 0⟩ := by
  unfold tagR
  rw [if_pos ⟨⟨by omega, by omega, by omega, fun i hi => by unfold z2 f1; split <;> omega⟩, by omega, by omega, by omega, by unfold f1; simp⟩]
  congr 1
  · funext i; unfold z2 f1; simp
  · funext i; unfold f1 f2
    simp
    by_cases h : i = 1
    · subst h; simp
    · by_cases h0 : i = 0
      · subst h0; simp
      · rw [if_neg h, if_neg h0, if_neg (by omega)]
theorem pick_two : pickR 0 2 z2 f2 2 (fun _ => true) = ⟨0, 2, z2, f2, 0, true⟩ := by
  have h1 : leastK z2 (fun _ => true) 2 = 0 := by simp [leastK, z2]
  unfold pickR
  rw [if_pos ⟨⟨by omega, by omega, by omega, fun i hi => by unfold z2 f2; rw [if_pos (by omega)]; omega⟩, rfl, by rw [h1]; omega⟩, h1]
  congr 1
theorem ok_two : VOk 0 2 z2 f2 := ⟨by omega, by omega, by omega, fun i hi => by unfold z2 f2; rw [if_pos (by omega)]; omega⟩
end Vr
end Go.Proofs.Ytkefkophlhcbiaa
namespace Go.Proofs.Ytkefkophlhcbiaa
open Go.ChangeShapes Go.WideShapes Go.ChangeAt Go.RowKit
set_option linter.unusedVariables false
set_option linter.unusedSimpArgs false
open BigFrame Vr Pk Fq

namespace Vr
/-- A virtual time alone, in new memory. -/
def CopP (V : Int) (N : Nat) (S F : Nat → Int) (w : World) (e : Ending) (w' : World) : Prop :=
  ∃ (a' : Option Addr) (g c' : Nat), e = .returned (.agg #[.int .i64 V, .slice a' N c']) ∧ TagsAt w' a' g 0 N S F ∧ (0 < N → w.heap.size ≤ g ∧ ∀ o, w'.frozen? ⟨g, o, none⟩ = false) ∧ Below w.heap.size w w'
theorem Blk.grown {wr w1 : World} {o : Obj} {v : Value} {base size n b : Nat} {e : TypeId} {xs l : List Value} (h : Blk wr b l) (hown : wr.ownsRow base e size v n xs) (hg : (wr.alloc o).grownBy w1 v.ownBlock) (hb : b < base) (hs : wr.heap.size ≤ w1.heap.size) : Blk w1 b l := by
  have K := grow_keep2 hown hg b hb h.l
  exact ⟨fun i x hx => (K.1 i).trans (h.c i x hx), fun o => (K.2 o).trans (h.f o), Nat.lt_of_lt_of_le h.l hs⟩
theorem blk_two (u : World) (x y p q : Value) (t t' : TypeId) : Blk ((u.alloc (.cells #[x, y] t)).alloc (.cells #[p, q] t')) u.heap.size [x, y] :=
  (blk_new u x y t).bel ((Below.refl _ _).alloc (Nat.le_refl _) _)
end Vr
end Go.Proofs.Ytkefkophlhcbiaa
namespace Go.Proofs.Ytkefkophlhcbiaa
open Go.ChangeShapes Go.WideShapes Go.ChangeAt Go.RowKit
set_option linter.unusedVariables false
set_option linter.unusedSimpArgs false
open BigFrame Vr Pk Fq
end Go.Proofs.Ytkefkophlhcbiaa
namespace Go.Proofs.Ytkefkophlhcbiaa
open Go.ChangeShapes Go.WideShapes Go.ChangeAt Go.RowKit
set_option linter.unusedVariables false
set_option linter.unusedSimpArgs false
open BigFrame Vr Pk Fq
attribute [local go_sem] max_fold25
end Go.Proofs.Ytkefkophlhcbiaa
namespace Go.Proofs.Ytkefkophlhcbiaa
open Go.ChangeShapes Go.WideShapes Go.ChangeAt Go.RowKit
set_option linter.unusedVariables false
set_option linter.unusedSimpArgs false
open BigFrame Vr Pk Fq
attribute [local go_sem] max_fold25
end Go.Proofs.Ytkefkophlhcbiaa
namespace Go.Proofs.Ytkefkophlhcbiaa
open Go.ChangeShapes Go.WideShapes Go.ChangeAt Go.RowKit
set_option linter.unusedVariables false
set_option linter.unusedSimpArgs false
open BigFrame Vr Pk Fq

namespace Vr
def serveOk (V : Int) (N : Nat) (S F : Nat → Int) (size : Int) : Prop := VOk V N S F ∧ 1 ≤ size ∧ size ≤ 1500 ∧ V ≤ 1152921504606846976 - size * 720720
open Classical in
noncomputable def serveR (V : Int) (N : Nat) (S F : Nat → Int) (size : Int) : VR := if serveOk V N S F size then ⟨V + size * 720720, N, S, F, 0⟩ else ⟨0, 0, S, F, 2⟩
theorem serveR_N (V : Int) (N : Nat) (S F : Nat → Int) (size : Int) : (serveR V N S F size).N ≤ N := by
  unfold serveR
  split
  · exact Nat.le_refl _
  · exact Nat.zero_le _
end Vr

set_option maxRecDepth 100000 in
set_option maxHeartbeats 4000000 in
theorem vserve_c (V size : Int) (N : Nat) (a : Option Addr) (b off c : Nat) (S F : Nat → Int) (w : World) (T : TagsAt w a b off N S F) (hN : N ≤ 1000) :
    Calls Try.prog 50 #[.agg #[.int .i64 V, .slice a N c], .int .i64 size] w (VirX (serveR V N S F size) w) := by
  have hB0 : Below w.heap.size w ((w.alloc (.cells #[.int .i64 V, .slice a N c] 96)).alloc (.cells #[.int .i64 0, .slice none 0 0] 96)) := ((Below.refl _ _).alloc (Nat.le_refl _) _).alloc (by simp) _
  have bx0 := blk_two w (.int .i64 V) (.slice a N c) (.int .i64 0) (.slice none 0 0) 96 96
  have rs0 := blk_new (w.alloc (.cells #[.int .i64 V, .slice a N c] 96)) (.int .i64 0) (.slice none 0 0) 96
  rw [World.size_alloc] at rs0
  have hszW : w.heap.size + 1 < ((w.alloc (.cells #[.int .i64 V, .slice a N c] 96)).alloc (.cells #[.int .i64 0, .slice none 0 0] 96)).heap.size := by simp
  by_cases hok : serveOk V N S F size
  · unfold serveR
    rw [if_pos hok]
    obtain ⟨hv, h1, h2, h3⟩ := hok
    have hck := vcheck_ok V a b off N c S F _ (T.bel hB0) hv
    have hV0 := hv.1
    have hV1 := hv.2.1
    have e1 : ¬ size < 1 := by omega
    have e2 : ¬ 1500 < size := by omega
    have e3 : ¬ 1152921504606846976 - size * 720720 < V := by omega
    clear hv
    replace T := Lib.hid T
    go_enter Try.func50, Try.ntmps50
    go_wp2_with fail
    generalize ((w.alloc (.cells #[.int .i64 V, .slice a N c] 96)).alloc (.cells #[.int .i64 0, .slice none 0 0] 96)) = W1 at bx0 rs0 hB0 hszW hck ⊢
    refine hck.mono ?_
    rintro e w1 ⟨rfl, hb1⟩
    have bx1 := bx0.bel hb1
    have rs1 := rs0.bel hb1
    have hB1 := bNext hB0 hb1 (Nat.le_refl _)
    have hsz1 := hb1.size
    clear bx0 rs0 hB0 hck hb1
    have p0 := bx1.c 0 _ rfl
    have p1 := bx1.c 1 _ rfl
    have p2 := bx1.f 0
    have bx2 := bx1.set (i := 0) (by simp) (.int .i64 (V + size * 720720))
    have rs2 := rs1.other (q := w.heap.size) (o := 0) (by omega) (.int .i64 (V + size * 720720))
    have hB2 := hB1.setCell (p := ⟨w.heap.size, 0, none⟩) (Nat.le_refl _) (.int .i64 (V + size * 720720))
    go_upto_region 4 with fail
    generalize w1.setCell ⟨w.heap.size, 0, none⟩ (.int .i64 (V + size * 720720)) = w2 at bx2 rs2 hB2 ⊢
    clear bx1 rs1 hB1 p0 p1 p2
    have p1 := bx2.c 1 _ rfl
    go_wp2_with fail
    refine (vclone_c a b off N c S F w2 (T.out.bel hB2) hN).mono ?_
    rintro e w3 ⟨a3, g3, c3, rfl, T3, hg3, hb3⟩
    have bx3 := bx2.bel hb3
    have rs3 := rs2.bel hb3
    have hB3 := bNext hB2 hb3 (Nat.le_refl _)
    have hl2 := rs2.l
    clear p1 bx2 rs2 hB2 hb3
    have p1 := bx3.c 1 _ rfl
    have p2 := bx3.f 1
    have bx4 := bx3.set (i := 1) (by simp) (.slice a3 N c3)
    have rs4 := rs3.other (q := w.heap.size) (o := 1) (by omega) (.slice a3 N c3)
    have hB4 := hB3.setCell (p := ⟨w.heap.size, 1, none⟩) (Nat.le_refl _) (.slice a3 N c3)
    have T4 := T3.set_other (q := w.heap.size) (o := 1) (fun h0 => by have := (hg3 h0).1; omega) (.slice a3 N c3)
    go_upto_region 5 with fail
    generalize w3.setCell ⟨w.heap.size, 1, none⟩ (.slice a3 N c3) = w4 at bx4 rs4 hB4 T4 ⊢
    clear p1 p2 bx3 rs3 hB3 T3
    have p0 := bx4.c 0 _ rfl
    have p1 := bx4.c 1 _ rfl
    have r0 := rs4.c 0 _ rfl
    have r1 := rs4.c 1 _ rfl
    have r2 := rs4.f 0
    have r3 := rs4.f 1
    go_wp2_with fail
    refine bodyPost_ret (v := .tuple #[.agg #[.int .i64 (V + size * 720720), .slice a3 N c3], .int .i64 0]) (by simp [results, Try.results50, go_sem, r0, r1]) rfl ⟨_, g3, _, rfl, ?_, fun h0 => by have := (hg3 h0).1; show _ ≤ g3; omega, ?_⟩
    · exact (T4.set_other (fun h0 => by have := (hg3 h0).1; omega) _).set_other (fun h0 => by have := (hg3 h0).1; omega) _
    · exact (hB4.setCell (p := ⟨w.heap.size + 1, 0, none⟩) (by show _ ≤ w.heap.size + 1; omega) _).setCell (p := ⟨w.heap.size + 1, 1, none⟩) (by show _ ≤ w.heap.size + 1; omega) _
  · have hno : VirX ⟨0, 0, S, F, 2⟩ = VirX (serveR V N S F size) := by unfold serveR; rw [if_neg hok]
    rw [← hno]
    clear hno hszW
    by_cases hv : VOk V N S F
    · have hck := vcheck_ok V a b off N c S F _ (T.bel hB0) hv
      have hV0 := hv.1
      have hV1 := hv.2.1
      by_cases h1 : size < 1
      · clear hv hok T
        go_enter Try.func50, Try.ntmps50
        go_wp2_with fail
        generalize ((w.alloc (.cells #[.int .i64 V, .slice a N c] 96)).alloc (.cells #[.int .i64 0, .slice none 0 0] 96)) = W1 at bx0 rs0 hB0 hck ⊢
        refine hck.mono ?_
        rintro e w1 ⟨rfl, hb1⟩
        have bx1 := bx0.bel hb1
        have rs1 := rs0.bel hb1
        have hB1 := bNext hB0 hb1 (Nat.le_refl _)
        have p0 := bx1.c 0 _ rfl
        have r0 := rs1.c 0 _ rfl
        have r1 := rs1.c 1 _ rfl
        have r2 := rs1.f 0
        have r3 := rs1.f 1
        go_wp2_with fail
        refine bodyPost_ret (v := .tuple #[.agg #[.int .i64 0, .slice none 0 0], .int .i64 2]) (by simp [results, Try.results50, go_sem, r0, r1]) rfl (virX_no S F 2 ⟨rfl, ?_⟩)
        exact (hB1.setCell (p := ⟨w.heap.size + 1, 0, none⟩) (by show _ ≤ w.heap.size + 1; omega) _).setCell (p := ⟨w.heap.size + 1, 1, none⟩) (by show _ ≤ w.heap.size + 1; omega) _
      by_cases h2 : 1500 < size
      · clear hv hok T
        go_enter Try.func50, Try.ntmps50
        go_wp2_with fail
        generalize ((w.alloc (.cells #[.int .i64 V, .slice a N c] 96)).alloc (.cells #[.int .i64 0, .slice none 0 0] 96)) = W1 at bx0 rs0 hB0 hck ⊢
        refine hck.mono ?_
        rintro e w1 ⟨rfl, hb1⟩
        have bx1 := bx0.bel hb1
        have rs1 := rs0.bel hb1
        have hB1 := bNext hB0 hb1 (Nat.le_refl _)
        have p0 := bx1.c 0 _ rfl
        have r0 := rs1.c 0 _ rfl
        have r1 := rs1.c 1 _ rfl
        have r2 := rs1.f 0
        have r3 := rs1.f 1
        go_wp2_with fail
        refine bodyPost_ret (v := .tuple #[.agg #[.int .i64 0, .slice none 0 0], .int .i64 2]) (by simp [results, Try.results50, go_sem, r0, r1]) rfl (virX_no S F 2 ⟨rfl, ?_⟩)
        exact (hB1.setCell (p := ⟨w.heap.size + 1, 0, none⟩) (by show _ ≤ w.heap.size + 1; omega) _).setCell (p := ⟨w.heap.size + 1, 1, none⟩) (by show _ ≤ w.heap.size + 1; omega) _
      have h3 : 1152921504606846976 - size * 720720 < V := by
        refine Classical.byContradiction fun q => hok ⟨hv, by omega, by omega, by omega⟩
      clear hv hok T
      go_enter Try.func50, Try.ntmps50
      go_wp2_with fail
      generalize ((w.alloc (.cells #[.int .i64 V, .slice a N c] 96)).alloc (.cells #[.int .i64 0, .slice none 0 0] 96)) = W1 at bx0 rs0 hB0 hck ⊢
      refine hck.mono ?_
      rintro e w1 ⟨rfl, hb1⟩
      have bx1 := bx0.bel hb1
      have rs1 := rs0.bel hb1
      have hB1 := bNext hB0 hb1 (Nat.le_refl _)
      have p0 := bx1.c 0 _ rfl
      have r0 := rs1.c 0 _ rfl
      have r1 := rs1.c 1 _ rfl
      have r2 := rs1.f 0
      have r3 := rs1.f 1
      go_wp2_with fail
      refine bodyPost_ret (v := .tuple #[.agg #[.int .i64 0, .slice none 0 0], .int .i64 2]) (by simp [results, Try.results50, go_sem, r0, r1]) rfl (virX_no S F 2 ⟨rfl, ?_⟩)
      exact (hB1.setCell (p := ⟨w.heap.size + 1, 0, none⟩) (by show _ ≤ w.heap.size + 1; omega) _).setCell (p := ⟨w.heap.size + 1, 1, none⟩) (by show _ ≤ w.heap.size + 1; omega) _
    · have hck := vcheck_no V a b off N c S F _ (T.bel hB0) hN hv
      clear hv hok T
      go_enter Try.func50, Try.ntmps50
      go_wp2_with fail
      generalize ((w.alloc (.cells #[.int .i64 V, .slice a N c] 96)).alloc (.cells #[.int .i64 0, .slice none 0 0] 96)) = W1 at bx0 rs0 hB0 hck ⊢
      refine hck.mono ?_
      rintro e w1 ⟨rfl, hb1⟩
      have bx1 := bx0.bel hb1
      have rs1 := rs0.bel hb1
      have hB1 := bNext hB0 hb1 (Nat.le_refl _)
      have p0 := bx1.c 0 _ rfl
      have r0 := rs1.c 0 _ rfl
      have r1 := rs1.c 1 _ rfl
      have r2 := rs1.f 0
      have r3 := rs1.f 1
      go_wp2_with fail
      refine bodyPost_ret (v := .tuple #[.agg #[.int .i64 0, .slice none 0 0], .int .i64 2]) (by simp [results, Try.results50, go_sem, r0, r1]) rfl (virX_no S F 2 ⟨rfl, ?_⟩)
      exact (hB1.setCell (p := ⟨w.heap.size + 1, 0, none⟩) (by show _ ≤ w.heap.size + 1; omega) _).setCell (p := ⟨w.heap.size + 1, 1, none⟩) (by show _ ≤ w.heap.size + 1; omega) _
end Go.Proofs.Ytkefkophlhcbiaa
namespace Go.Proofs.Ytkefkophlhcbiaa
open Go.ChangeShapes Go.WideShapes Go.ChangeAt Go.RowKit
set_option linter.unusedVariables false
set_option linter.unusedSimpArgs false
open BigFrame Vr Pk Fq
attribute [local go_sem] max_fold25

namespace Vr
/-- Rebased by so much. -/
def reb (d : Int) (O : Nat → Int) : Nat → Int := fun i => max (O i - d) 0
def rebTo (d : Int) (O : Nat → Int) (k : Nat) : Nat → Int := fun i => if i < k then max (O i - d) 0 else O i
theorem rebTo_zero (d : Int) (O : Nat → Int) : rebTo d O 0 = O := by funext i; simp [rebTo]
theorem rebTo_succ (d : Int) (O : Nat → Int) (k : Nat) : (fun i => if i = k then max (O k - d) 0 else rebTo d O k i) = rebTo d O (k + 1) := by
  funext i
  unfold rebTo
  by_cases h : i = k
  · subst h; simp
  · by_cases h2 : i < k
    · rw [if_neg h, if_pos h2, if_pos (by omega)]
    · rw [if_neg h, if_neg h2, if_neg (by omega)]
theorem rebTo_at (d : Int) (O : Nat → Int) (k : Nat) : rebTo d O k k = O k := by simp [rebTo]
theorem rebTo_same {w : World} {a : Option Addr} {b off N : Nat} {d : Int} {S F : Nat → Int} (h : TagsAt w a b off N (rebTo d S N) (rebTo d F N)) : TagsAt w a b off N (reb d S) (reb d F) :=
  ⟨h.ha, h.hb, fun i hi => by have := h.c0 i hi; unfold rebTo at this; rw [if_pos hi] at this; exact this, fun i hi => by have := h.c1 i hi; unfold rebTo at this; rw [if_pos hi] at this; exact this⟩
def rebOk (V : Int) (N : Nat) (S F : Nat → Int) : Prop := VOk V N S F ∧ 1125899906842624 < V
end Vr

set_option maxRecDepth 100000 in
set_option maxHeartbeats 4000000 in
theorem vrebase_same (V : Int) (N : Nat) (a : Option Addr) (b off c : Nat) (S F : Nat → Int) (w : World) (T : TagsAt w a b off N S F) (hN : N ≤ 1000) (h : ¬ rebOk V N S F) :
    Calls Try.prog 51 #[.agg #[.int .i64 V, .slice a N c]] w (CopP V N S F w) := by
  have hB0 : Below w.heap.size w ((w.alloc (.cells #[.int .i64 V, .slice a N c] 96)).alloc (.cells #[.int .i64 0, .slice none 0 0] 96)) := ((Below.refl _ _).alloc (Nat.le_refl _) _).alloc (by simp) _
  have bx0 := blk_two w (.int .i64 V) (.slice a N c) (.int .i64 0) (.slice none 0 0) 96 96
  have rs0 := blk_new (w.alloc (.cells #[.int .i64 V, .slice a N c] 96)) (.int .i64 0) (.slice none 0 0) 96
  rw [World.size_alloc] at rs0
  have hszW : w.heap.size + 1 < ((w.alloc (.cells #[.int .i64 V, .slice a N c] 96)).alloc (.cells #[.int .i64 0, .slice none 0 0] 96)).heap.size := by simp
  replace T := Lib.hid T
  by_cases hv : VOk V N S F
  · have hV0 := hv.1
    have hV1 : V ≤ 1125899906842624 := Classical.byContradiction fun q => h ⟨hv, by omega⟩
    clear h
    by_cases hV2 : V = 1125899906842624
    · have hs : V >>> 50 = 1 := by rw [hV2]; rfl
      have hs2 : V / 1125899906842624 = 1 := by rw [hV2]; rfl
      have hs3 : (V == 1125899906842624) = true := by simp [hV2]
      replace hV2 := Lib.hid hV2
      go_enter Try.func51, Try.ntmps51
      go_wp2_with fail
      generalize ((w.alloc (.cells #[.int .i64 V, .slice a N c] 96)).alloc (.cells #[.int .i64 0, .slice none 0 0] 96)) = W1 at bx0 rs0 hB0 hszW ⊢
      refine (vclone_c a b off N c S F W1 (T.out.bel hB0) hN).mono ?_
      rintro e w1 ⟨a1, g1, c1, rfl, T1, hg1, hb1⟩
      have bx1 := bx0.bel hb1
      have rs1 := rs0.bel hb1
      have hB1 := bNext hB0 hb1 (Nat.le_refl _)
      have p1 := bx1.c 1 _ rfl
      have p2 := bx1.f 1
      have bx2 := bx1.set (i := 1) (by simp) (.slice a1 N c1)
      have rs2 := rs1.other (q := w.heap.size) (o := 1) (by omega) (.slice a1 N c1)
      have hB2 := hB1.setCell (p := ⟨w.heap.size, 1, none⟩) (Nat.le_refl _) (.slice a1 N c1)
      have T2 := T1.set_other (q := w.heap.size) (o := 1) (fun h0 => by have := (hg1 h0).1; omega) (.slice a1 N c1)
      have hf2 : 0 < N → ∀ o, (w1.setCell ⟨w.heap.size, 1, none⟩ (.slice a1 N c1)).frozen? ⟨g1, o, none⟩ = false := fun h0 o => (World.frozen?_setCell _ _ _ _).trans ((hg1 h0).2 o)
      have hgw : 0 < N → w.heap.size + 1 < g1 := fun h0 => by have := (hg1 h0).1; omega
      go_upto_region 2 with fail
      generalize w1.setCell ⟨w.heap.size, 1, none⟩ (.slice a1 N c1) = w2 at bx2 rs2 hB2 T2 hf2 ⊢
      clear p1 p2 bx0 rs0 hB0 bx1 rs1 hB1 T1 hg1 hb1 hszW T
      have p0 := bx2.c 0 _ rfl
      have p1 := bx2.c 1 _ rfl
      replace T2 := Lib.hid T2
      replace hf2 := Lib.hid hf2
      go_wp2_with fail
      refine (vcheck_ok V _ g1 0 N c1 S F w2 T2.out hv).mono ?_
      rintro e w3 ⟨rfl, hb3⟩
      have bx3 := bx2.bel hb3
      have rs3 := rs2.bel hb3
      have hB3 := bNext hB2 hb3 (Nat.le_refl _)
      have T3 := T2.out.bel hb3
      have hf3 : 0 < N → ∀ o, w3.frozen? ⟨g1, o, none⟩ = false := fun h0 o => (hb3.frozen (p := ⟨g1, o, none⟩) (T2.out.hb h0)).trans (hf2.out h0 o)
      clear p0 p1 bx2 rs2 hB2 T2 hf2 hb3
      have p0 := bx3.c 0 _ rfl
      have p1 := bx3.c 1 _ rfl
      replace T3 := Lib.hid T3
      replace hf3 := Lib.hid hf3
      have r0 := rs3.c 0 _ rfl
      have r1 := rs3.c 1 _ rfl
      have r2 := rs3.f 0
      have r3 := rs3.f 1
      go_wp2_with fail
      refine bodyPost_ret (v := .agg #[.int .i64 V, .slice a1 N c1]) (by simp [results, Try.results51, go_sem, r0, r1]) rfl ⟨_, g1, _, rfl, (T3.out.set_other (fun h0 => by have := hgw h0; omega) _).set_other (fun h0 => by have := hgw h0; omega) _, fun h0 => ⟨by have := hgw h0; omega, fun o => (World.frozen?_setCell _ _ _ _).trans ((World.frozen?_setCell _ _ _ _).trans (hf3.out h0 o))⟩, ?_⟩
      exact (hB3.setCell (p := ⟨w.heap.size + 1, 0, none⟩) (by show _ ≤ w.heap.size + 1; omega) _).setCell (p := ⟨w.heap.size + 1, 1, none⟩) (by show _ ≤ w.heap.size + 1; omega) _
    · have hV3 : V < 1125899906842624 := by omega
      have hs : V >>> 50 = 0 := by rw [Int.shiftRight_eq_div_pow]; exact Int.ediv_eq_zero_of_lt hV0 (by simpa using hV3)
      have hs2 : V / 1125899906842624 = 0 := Int.ediv_eq_zero_of_lt hV0 hV3
      go_enter Try.func51, Try.ntmps51
      go_wp2_with fail
      generalize ((w.alloc (.cells #[.int .i64 V, .slice a N c] 96)).alloc (.cells #[.int .i64 0, .slice none 0 0] 96)) = W1 at bx0 rs0 hB0 hszW ⊢
      refine (vclone_c a b off N c S F W1 (T.out.bel hB0) hN).mono ?_
      rintro e w1 ⟨a1, g1, c1, rfl, T1, hg1, hb1⟩
      have bx1 := bx0.bel hb1
      have rs1 := rs0.bel hb1
      have hB1 := bNext hB0 hb1 (Nat.le_refl _)
      have p1 := bx1.c 1 _ rfl
      have p2 := bx1.f 1
      have bx2 := bx1.set (i := 1) (by simp) (.slice a1 N c1)
      have rs2 := rs1.other (q := w.heap.size) (o := 1) (by omega) (.slice a1 N c1)
      have hB2 := hB1.setCell (p := ⟨w.heap.size, 1, none⟩) (Nat.le_refl _) (.slice a1 N c1)
      have T2 := T1.set_other (q := w.heap.size) (o := 1) (fun h0 => by have := (hg1 h0).1; omega) (.slice a1 N c1)
      have hf2 : 0 < N → ∀ o, (w1.setCell ⟨w.heap.size, 1, none⟩ (.slice a1 N c1)).frozen? ⟨g1, o, none⟩ = false := fun h0 o => (World.frozen?_setCell _ _ _ _).trans ((hg1 h0).2 o)
      have hgw : 0 < N → w.heap.size + 1 < g1 := fun h0 => by have := (hg1 h0).1; omega
      go_upto_region 2 with fail
      generalize w1.setCell ⟨w.heap.size, 1, none⟩ (.slice a1 N c1) = w2 at bx2 rs2 hB2 T2 hf2 ⊢
      clear p1 p2 bx0 rs0 hB0 bx1 rs1 hB1 T1 hg1 hb1 hszW T
      have p0 := bx2.c 0 _ rfl
      have p1 := bx2.c 1 _ rfl
      replace T2 := Lib.hid T2
      replace hf2 := Lib.hid hf2
      go_wp2_with fail
      refine (vcheck_ok V _ g1 0 N c1 S F w2 T2.out hv).mono ?_
      rintro e w3 ⟨rfl, hb3⟩
      have bx3 := bx2.bel hb3
      have rs3 := rs2.bel hb3
      have hB3 := bNext hB2 hb3 (Nat.le_refl _)
      have T3 := T2.out.bel hb3
      have hf3 : 0 < N → ∀ o, w3.frozen? ⟨g1, o, none⟩ = false := fun h0 o => (hb3.frozen (p := ⟨g1, o, none⟩) (T2.out.hb h0)).trans (hf2.out h0 o)
      clear p0 p1 bx2 rs2 hB2 T2 hf2 hb3
      have p0 := bx3.c 0 _ rfl
      have p1 := bx3.c 1 _ rfl
      replace T3 := Lib.hid T3
      replace hf3 := Lib.hid hf3
      have r0 := rs3.c 0 _ rfl
      have r1 := rs3.c 1 _ rfl
      have r2 := rs3.f 0
      have r3 := rs3.f 1
      go_wp2_with fail
      refine bodyPost_ret (v := .agg #[.int .i64 V, .slice a1 N c1]) (by simp [results, Try.results51, go_sem, r0, r1]) rfl ⟨_, g1, _, rfl, (T3.out.set_other (fun h0 => by have := hgw h0; omega) _).set_other (fun h0 => by have := hgw h0; omega) _, fun h0 => ⟨by have := hgw h0; omega, fun o => (World.frozen?_setCell _ _ _ _).trans ((World.frozen?_setCell _ _ _ _).trans (hf3.out h0 o))⟩, ?_⟩
      exact (hB3.setCell (p := ⟨w.heap.size + 1, 0, none⟩) (by show _ ≤ w.heap.size + 1; omega) _).setCell (p := ⟨w.heap.size + 1, 1, none⟩) (by show _ ≤ w.heap.size + 1; omega) _
  · clear h
    go_enter Try.func51, Try.ntmps51
    go_wp2_with fail
    generalize ((w.alloc (.cells #[.int .i64 V, .slice a N c] 96)).alloc (.cells #[.int .i64 0, .slice none 0 0] 96)) = W1 at bx0 rs0 hB0 hszW ⊢
    refine (vclone_c a b off N c S F W1 (T.out.bel hB0) hN).mono ?_
    rintro e w1 ⟨a1, g1, c1, rfl, T1, hg1, hb1⟩
    have bx1 := bx0.bel hb1
    have rs1 := rs0.bel hb1
    have hB1 := bNext hB0 hb1 (Nat.le_refl _)
    have p1 := bx1.c 1 _ rfl
    have p2 := bx1.f 1
    have bx2 := bx1.set (i := 1) (by simp) (.slice a1 N c1)
    have rs2 := rs1.other (q := w.heap.size) (o := 1) (by omega) (.slice a1 N c1)
    have hB2 := hB1.setCell (p := ⟨w.heap.size, 1, none⟩) (Nat.le_refl _) (.slice a1 N c1)
    have T2 := T1.set_other (q := w.heap.size) (o := 1) (fun h0 => by have := (hg1 h0).1; omega) (.slice a1 N c1)
    have hf2 : 0 < N → ∀ o, (w1.setCell ⟨w.heap.size, 1, none⟩ (.slice a1 N c1)).frozen? ⟨g1, o, none⟩ = false := fun h0 o => (World.frozen?_setCell _ _ _ _).trans ((hg1 h0).2 o)
    have hgw : 0 < N → w.heap.size + 1 < g1 := fun h0 => by have := (hg1 h0).1; omega
    go_upto_region 2 with fail
    generalize w1.setCell ⟨w.heap.size, 1, none⟩ (.slice a1 N c1) = w2 at bx2 rs2 hB2 T2 hf2 ⊢
    clear p1 p2 bx0 rs0 hB0 bx1 rs1 hB1 T1 hg1 hb1 hszW T
    have p0 := bx2.c 0 _ rfl
    have p1 := bx2.c 1 _ rfl
    replace T2 := Lib.hid T2
    replace hf2 := Lib.hid hf2
    go_wp2_with fail
    refine (vcheck_no V _ g1 0 N c1 S F w2 T2.out hN hv).mono ?_
    rintro e w3 ⟨rfl, hb3⟩
    have bx3 := bx2.bel hb3
    have rs3 := rs2.bel hb3
    have hB3 := bNext hB2 hb3 (Nat.le_refl _)
    have T3 := T2.out.bel hb3
    have hf3 : 0 < N → ∀ o, w3.frozen? ⟨g1, o, none⟩ = false := fun h0 o => (hb3.frozen (p := ⟨g1, o, none⟩) (T2.out.hb h0)).trans (hf2.out h0 o)
    clear p0 p1 bx2 rs2 hB2 T2 hf2 hb3
    have p0 := bx3.c 0 _ rfl
    have p1 := bx3.c 1 _ rfl
    replace T3 := Lib.hid T3
    replace hf3 := Lib.hid hf3
    have r0 := rs3.c 0 _ rfl
    have r1 := rs3.c 1 _ rfl
    have r2 := rs3.f 0
    have r3 := rs3.f 1
    go_wp2_with fail
    refine bodyPost_ret (v := .agg #[.int .i64 V, .slice a1 N c1]) (by simp [results, Try.results51, go_sem, r0, r1]) rfl ⟨_, g1, _, rfl, (T3.out.set_other (fun h0 => by have := hgw h0; omega) _).set_other (fun h0 => by have := hgw h0; omega) _, fun h0 => ⟨by have := hgw h0; omega, fun o => (World.frozen?_setCell _ _ _ _).trans ((World.frozen?_setCell _ _ _ _).trans (hf3.out h0 o))⟩, ?_⟩
    exact (hB3.setCell (p := ⟨w.heap.size + 1, 0, none⟩) (by show _ ≤ w.heap.size + 1; omega) _).setCell (p := ⟨w.heap.size + 1, 1, none⟩) (by show _ ≤ w.heap.size + 1; omega) _

set_option maxRecDepth 100000 in
set_option maxHeartbeats 4000000 in
theorem vrebase_yes (V : Int) (N : Nat) (a : Option Addr) (b off c : Nat) (S F : Nat → Int) (w : World) (T : TagsAt w a b off N S F) (hN : N ≤ 1000) (h : rebOk V N S F) :
    Calls Try.prog 51 #[.agg #[.int .i64 V, .slice a N c]] w (CopP 1099511627776 N (reb (V - 1099511627776) S) (reb (V - 1099511627776) F) w) := by
  have hB0 : Below w.heap.size w ((w.alloc (.cells #[.int .i64 V, .slice a N c] 96)).alloc (.cells #[.int .i64 0, .slice none 0 0] 96)) := ((Below.refl _ _).alloc (Nat.le_refl _) _).alloc (by simp) _
  have bx0 := blk_two w (.int .i64 V) (.slice a N c) (.int .i64 0) (.slice none 0 0) 96 96
  have rs0 := blk_new (w.alloc (.cells #[.int .i64 V, .slice a N c] 96)) (.int .i64 0) (.slice none 0 0) 96
  rw [World.size_alloc] at rs0
  have hszW : w.heap.size + 1 < ((w.alloc (.cells #[.int .i64 V, .slice a N c] 96)).alloc (.cells #[.int .i64 0, .slice none 0 0] 96)).heap.size := by simp
  replace T := Lib.hid T
  obtain ⟨hv, hV1⟩ := h
  have hV2 := hv.2.1
  have hN8 := hv.2.2.1
  have hSF := hv.2.2.2
  have hs : (V >>> 50 == 0) = false := by
    rw [Int.shiftRight_eq_div_pow]
    have : ¬ V / (2 ^ 50 : Nat) = 0 := by omega
    simpa using this
  have hs2 : (V / 1125899906842624 == 0) = false := by
    have : ¬ V / 1125899906842624 = 0 := by omega
    simpa using this
  have hs3 : (V == 1125899906842624) = false := by simp; omega
  replace hSF := Lib.hid hSF
  go_enter Try.func51, Try.ntmps51
  go_wp2_with fail
  generalize ((w.alloc (.cells #[.int .i64 V, .slice a N c] 96)).alloc (.cells #[.int .i64 0, .slice none 0 0] 96)) = W1 at bx0 rs0 hB0 hszW ⊢
  refine (vclone_c a b off N c S F W1 (T.out.bel hB0) hN).mono ?_
  rintro e w1 ⟨a1, g1, c1, rfl, T1, hg1, hb1⟩
  have bx1 := bx0.bel hb1
  have rs1 := rs0.bel hb1
  have hB1 := bNext hB0 hb1 (Nat.le_refl _)
  have p1 := bx1.c 1 _ rfl
  have p2 := bx1.f 1
  have bx2 := bx1.set (i := 1) (by simp) (.slice a1 N c1)
  have rs2 := rs1.other (q := w.heap.size) (o := 1) (by omega) (.slice a1 N c1)
  have hB2 := hB1.setCell (p := ⟨w.heap.size, 1, none⟩) (Nat.le_refl _) (.slice a1 N c1)
  have T2 := T1.set_other (q := w.heap.size) (o := 1) (fun h0 => by have := (hg1 h0).1; omega) (.slice a1 N c1)
  have hf2 : 0 < N → ∀ o, (w1.setCell ⟨w.heap.size, 1, none⟩ (.slice a1 N c1)).frozen? ⟨g1, o, none⟩ = false := fun h0 o => (World.frozen?_setCell _ _ _ _).trans ((hg1 h0).2 o)
  have hgw : 0 < N → w.heap.size + 1 < g1 := fun h0 => by have := (hg1 h0).1; omega
  go_upto_region 2 with fail
  generalize w1.setCell ⟨w.heap.size, 1, none⟩ (.slice a1 N c1) = w2 at bx2 rs2 hB2 T2 hf2 ⊢
  clear p1 p2 bx0 rs0 hB0 bx1 rs1 hB1 T1 hg1 hb1 hszW T
  have p0 := bx2.c 0 _ rfl
  have p1 := bx2.c 1 _ rfl
  replace T2 := Lib.hid T2
  replace hf2 := Lib.hid hf2
  go_wp2_with fail
  refine (vcheck_ok V _ g1 0 N c1 S F w2 T2.out hv).mono ?_
  rintro e w3 ⟨rfl, hb3⟩
  have bx3 := bx2.bel hb3
  have rs3 := rs2.bel hb3
  have hB3 := bNext hB2 hb3 (Nat.le_refl _)
  have T3 := T2.out.bel hb3
  have hf3 : 0 < N → ∀ o, w3.frozen? ⟨g1, o, none⟩ = false := fun h0 o => (hb3.frozen (p := ⟨g1, o, none⟩) (T2.out.hb h0)).trans (hf2.out h0 o)
  clear p0 p1 bx2 rs2 hB2 T2 hf2 hb3
  have p0 := bx3.c 0 _ rfl
  have p1 := bx3.c 1 _ rfl
  replace T3 := Lib.hid T3
  replace hf3 := Lib.hid hf3
  obtain ⟨d, hd⟩ : ∃ d, V - 1099511627776 = d := ⟨_, rfl⟩
  have hd0 : 0 ≤ d := by omega
  have hd1 : d ≤ 1152921504606846976 := by omega
  replace hd := Lib.hid hd
  have p2 := bx3.f 0
  have bx4 := bx3.set (i := 0) (by simp) (.int .i64 1099511627776)
  have rs4 := rs3.other (q := w.heap.size) (o := 0) (by omega) (.int .i64 1099511627776)
  have hB4 := hB3.setCell (p := ⟨w.heap.size, 0, none⟩) (Nat.le_refl _) (.int .i64 1099511627776)
  have T4 := T3.out.set_other (q := w.heap.size) (o := 0) (fun h0 => by have := hgw h0; omega) (.int .i64 1099511627776)
  have hf4 : 0 < N → ∀ o, (w3.setCell ⟨w.heap.size, 0, none⟩ (.int .i64 1099511627776)).frozen? ⟨g1, o, none⟩ = false := fun h0 o => (World.frozen?_setCell _ _ _ _).trans (hf3.out h0 o)
  clear hv
  go_upto_region 6 with fail
  rw [hd.out]
  generalize w3.setCell ⟨w.heap.size, 0, none⟩ (.int .i64 1099511627776) = w4 at bx4 rs4 hB4 T4 hf4 ⊢
  clear p0 p1 p2 bx3 rs3 hB3 T3 hf3 hs hs2 hs3
  replace T4 := Lib.hid T4
  replace hf4 := Lib.hid hf4
  replace bx4 := Lib.hid bx4
  replace rs4 := Lib.hid rs4
  have p1 := bx4.out.c 1 _ rfl
  go_wp2_with fail
  clear p1
  go_loopw [4, 5, 32] (fun _ _ s32 wr => ∃ kk : Nat, kk ≤ N ∧ s32 = .int .i64 (kk : Nat) ∧ TagsAt wr a1 g1 0 N (rebTo d S kk) (rebTo d F kk) ∧ (0 < N → ∀ o, wr.frozen? ⟨g1, o, none⟩ = false) ∧ Blk wr w.heap.size [.int .i64 1099511627776, .slice a1 N c1] ∧ Blk wr (w.heap.size + 1) [.int .i64 0, .slice none 0 0] ∧ Below w.heap.size w wr) (fun _ _ s32 _ => N - (intOf s32).toNat)
  case atStart => exact ⟨0, Nat.zero_le _, rfl, by rw [rebTo_zero, rebTo_zero]; exact T4.out, hf4.out, bx4.out, rs4.out, hB4⟩
  case round =>
    obtain ⟨kk, hkk, rfl, Tr, hfr, bx, rs, hB⟩ := hrel
    clear hB4
    have p1 := bx.c 1 _ rfl
    by_cases hlt : kk < N
    · have hltz : (kk : Int) < (N : Int) := by omega
      obtain rfl := Tr.ha (by omega)
      have hgw' := hgw (by omega)
      have x0 := Tr.c0 kk hlt
      have x1 := Tr.c1 kk hlt
      rw [Nat.zero_add, rebTo_at] at x0 x1
      obtain ⟨s1, s2, s3⟩ := hSF.out kk hlt
      have hT9 := (((Tr.bel (Below.refl wr.heap.size wr).drew).set_start kk hlt (max (S kk - d) 0)).set_finish kk hlt (max (F kk - d) 0))
      rw [Nat.zero_add, rebTo_succ, rebTo_succ] at hT9
      replace hT9 := Lib.hid hT9
      replace Tr := Lib.hid Tr
      have f0 := hfr (by omega) (kk * 2)
      have f1 := hfr (by omega) (kk * 2 + 1)
      replace hfr := Lib.hid hfr
      replace bx := Lib.hid bx
      replace rs := Lib.hid rs
      go_upto_region 10 with fail
      refine wp_region_noPanic ?_
      refine Stg.wp_region_L [18, 21] (Vr.SB wr) (by kernel_rfl) (fun _ => (Below.refl _ _).drew) (fun hHeld => ?_)
      refine Stg.wpAnyL_start (n' := 22) (l' := #[false, false, false, false, false, false, false, false, false, false, false, false, false, false, false, false, false, false, false, false, false, false]) (by kernel_rfl) (by kernel_rfl) ?_
      refine Stg.wpAnyL_free (i := 0) (v := ?_) 0 rfl (by kernel_rfl) (by kernel_rfl) (by kernel_rfl) (by kernel_rfl) (by kernel_rfl) (fun _ _ _ h => h) (Or.inl ⟨by kernel_rfl, ?_⟩) (by assumption) ?_
      rotate_left
      · intro u _
        try simp only [List.getElem_toArray, List.getElem_cons_succ, List.getElem_cons_zero]
        go_simp
        try with_reducible rfl
      try simp only [Act.put, List.setIfInBounds_toArray, List.set_cons_zero, List.set_cons_succ]
      refine Stg.wpAnyL_free (i := 1) (v := ?_) 0 rfl (by kernel_rfl) (by kernel_rfl) (by kernel_rfl) (by kernel_rfl) (by kernel_rfl) (fun _ _ _ h => h) (Or.inl ⟨by kernel_rfl, ?_⟩) (by assumption) ?_
      rotate_left
      · intro u _
        try simp only [List.getElem_toArray, List.getElem_cons_succ, List.getElem_cons_zero]
        go_simp
        try with_reducible rfl
      try simp only [Act.put, List.setIfInBounds_toArray, List.set_cons_zero, List.set_cons_succ]
      refine Stg.wpAnyL_free (i := 2) (v := ?_) 0 rfl (by kernel_rfl) (by kernel_rfl) (by kernel_rfl) (by kernel_rfl) (by kernel_rfl) (fun _ _ _ h => h) (Or.inl ⟨by kernel_rfl, ?_⟩) (by assumption) ?_
      rotate_left
      · intro u _
        try simp only [List.getElem_toArray, List.getElem_cons_succ, List.getElem_cons_zero]
        go_simp
        try with_reducible rfl
      try simp only [Act.put, List.setIfInBounds_toArray, List.set_cons_zero, List.set_cons_succ]
      refine Stg.wpAnyL_start (n' := 19) (l' := #[true, true, true, false, false, false, false, false, false, false, false, false, false, false, false, false, false, false, false, false, false, false]) (by kernel_rfl) (by kernel_rfl) ?_
      refine Stg.wpAnyL_free (i := 3) (v := ?_) 0 rfl (by kernel_rfl) (by kernel_rfl) (by kernel_rfl) (by kernel_rfl) (by kernel_rfl) (fun _ _ _ h => h) (Or.inl ⟨by kernel_rfl, ?_⟩) (by assumption) ?_
      rotate_left
      · intro u _
        try simp only [List.getElem_toArray, List.getElem_cons_succ, List.getElem_cons_zero]
        go_simp
        try with_reducible rfl
      try simp only [Act.put, List.setIfInBounds_toArray, List.set_cons_zero, List.set_cons_succ]
      refine Stg.wpAnyL_free (i := 4) (v := ?_) 0 rfl (by kernel_rfl) (by kernel_rfl) (by kernel_rfl) (by kernel_rfl) (by kernel_rfl) (fun _ _ _ h => h) (Or.inl ⟨by kernel_rfl, ?_⟩) (by assumption) ?_
      rotate_left
      · intro u _
        try simp only [List.getElem_toArray, List.getElem_cons_succ, List.getElem_cons_zero]
        go_simp
        try with_reducible rfl
      try simp only [Act.put, List.setIfInBounds_toArray, List.set_cons_zero, List.set_cons_succ]
      refine Stg.wpAnyL_take (i := 5) (v := ?_) [7, 8, 16, 17, 18, 19, 20, 21] 0 rfl (by kernel_rfl) (by kernel_rfl) (by kernel_rfl) (by kernel_rfl) (by kernel_rfl) (fun _ _ _ h => h) (Or.inl ⟨by kernel_rfl, ?_⟩) (by assumption) ?_
      rotate_left
      · intro u hSu
        skip
        have sB := hSu rfl
        have y0 := cellB sB x0
        have y1 := cellB sB x1
        try simp only [List.getElem_toArray, List.getElem_cons_succ, List.getElem_cons_zero]
        go_simp
        try with_reducible rfl
      try simp only [Act.put, List.setIfInBounds_toArray, List.set_cons_zero, List.set_cons_succ]
      refine Stg.wpAnyL_start (n' := 16) (l' := #[true, true, true, true, true, true, false, false, false, false, false, false, false, false, false, false, false, false, false, false, false, false]) (by kernel_rfl) (by kernel_rfl) ?_
      refine Stg.wpAnyL_free (i := 6) (v := ?_) 0 rfl (by kernel_rfl) (by kernel_rfl) (by kernel_rfl) (by kernel_rfl) (by kernel_rfl) (fun _ _ _ h => h) (Or.inl ⟨by kernel_rfl, ?_⟩) (by assumption) ?_
      rotate_left
      · intro u _
        try simp only [List.getElem_toArray, List.getElem_cons_succ, List.getElem_cons_zero]
        go_simp
        try with_reducible rfl
      try simp only [Act.put, List.setIfInBounds_toArray, List.set_cons_zero, List.set_cons_succ]
      refine Stg.wpAnyL_free (i := 7) (v := ?_) 0 rfl (by kernel_rfl) (by kernel_rfl) (by kernel_rfl) (by kernel_rfl) (by kernel_rfl) (fun _ _ _ h => h) (Or.inl ⟨by kernel_rfl, ?_⟩) (by assumption) ?_
      rotate_left
      · intro u _
        try simp only [List.getElem_toArray, List.getElem_cons_succ, List.getElem_cons_zero]
        go_simp
        try with_reducible rfl
      try simp only [Act.put, List.setIfInBounds_toArray, List.set_cons_zero, List.set_cons_succ]
      refine Stg.wpAnyL_free (i := 8) (v := ?_) 0 rfl (by kernel_rfl) (by kernel_rfl) (by kernel_rfl) (by kernel_rfl) (by kernel_rfl) (fun _ _ _ h => h) (Or.inl ⟨by kernel_rfl, ?_⟩) (by assumption) ?_
      rotate_left
      · intro u _
        try simp only [List.getElem_toArray, List.getElem_cons_succ, List.getElem_cons_zero]
        go_simp
        try with_reducible rfl
      try simp only [Act.put, List.setIfInBounds_toArray, List.set_cons_zero, List.set_cons_succ]
      refine Stg.wpAnyL_start (n' := 13) (l' := #[true, true, true, true, true, true, true, true, true, false, false, false, false, false, false, false, false, false, false, false, false, false]) (by kernel_rfl) (by kernel_rfl) ?_
      refine Stg.wpAnyL_free (i := 9) (v := ?_) 0 rfl (by kernel_rfl) (by kernel_rfl) (by kernel_rfl) (by kernel_rfl) (by kernel_rfl) (fun _ _ _ h => h) (Or.inl ⟨by kernel_rfl, ?_⟩) (by assumption) ?_
      rotate_left
      · intro u _
        try simp only [List.getElem_toArray, List.getElem_cons_succ, List.getElem_cons_zero]
        go_simp
        try with_reducible rfl
      try simp only [Act.put, List.setIfInBounds_toArray, List.set_cons_zero, List.set_cons_succ]
      refine Stg.wpAnyL_free (i := 10) (v := ?_) 0 rfl (by kernel_rfl) (by kernel_rfl) (by kernel_rfl) (by kernel_rfl) (by kernel_rfl) (fun _ _ _ h => h) (Or.inl ⟨by kernel_rfl, ?_⟩) (by assumption) ?_
      rotate_left
      · intro u _
        try simp only [List.getElem_toArray, List.getElem_cons_succ, List.getElem_cons_zero]
        go_simp
        try with_reducible rfl
      try simp only [Act.put, List.setIfInBounds_toArray, List.set_cons_zero, List.set_cons_succ]
      refine Stg.wpAnyL_free (i := 11) (v := ?_) 0 rfl (by kernel_rfl) (by kernel_rfl) (by kernel_rfl) (by kernel_rfl) (by kernel_rfl) (fun _ _ _ h => h) (Or.inl ⟨by kernel_rfl, ?_⟩) (by assumption) ?_
      rotate_left
      · intro u _
        try simp only [List.getElem_toArray, List.getElem_cons_succ, List.getElem_cons_zero]
        go_simp
        try with_reducible rfl
      try simp only [Act.put, List.setIfInBounds_toArray, List.set_cons_zero, List.set_cons_succ]
      refine Stg.wpAnyL_start (n' := 10) (l' := #[true, true, true, true, true, true, true, true, true, true, true, true, false, false, false, false, false, false, false, false, false, false]) (by kernel_rfl) (by kernel_rfl) ?_
      refine Stg.wpAnyL_take (i := 12) (v := ?_) [14, 15, 16, 17, 18, 19, 20, 21] 0 rfl (by kernel_rfl) (by kernel_rfl) (by kernel_rfl) (by kernel_rfl) (by kernel_rfl) (fun _ _ _ h => h) (Or.inl ⟨by kernel_rfl, ?_⟩) (by assumption) ?_
      rotate_left
      · intro u hSu
        skip
        have sB := hSu rfl
        have y0 := cellB sB x0
        have y1 := cellB sB x1
        try simp only [List.getElem_toArray, List.getElem_cons_succ, List.getElem_cons_zero]
        go_simp
        try with_reducible rfl
      try simp only [Act.put, List.setIfInBounds_toArray, List.set_cons_zero, List.set_cons_succ]
      refine Stg.wpAnyL_free (i := 13) (v := ?_) 0 rfl (by kernel_rfl) (by kernel_rfl) (by kernel_rfl) (by kernel_rfl) (by kernel_rfl) (fun _ _ _ h => h) (Or.inl ⟨by kernel_rfl, ?_⟩) (by assumption) ?_
      rotate_left
      · intro u _
        try simp only [List.getElem_toArray, List.getElem_cons_succ, List.getElem_cons_zero]
        go_simp
        try with_reducible rfl
      try simp only [Act.put, List.setIfInBounds_toArray, List.set_cons_zero, List.set_cons_succ]
      refine Stg.wpAnyL_free (i := 14) (v := ?_) 0 rfl (by kernel_rfl) (by kernel_rfl) (by kernel_rfl) (by kernel_rfl) (by kernel_rfl) (fun _ _ _ h => h) (Or.inl ⟨by kernel_rfl, ?_⟩) (by assumption) ?_
      rotate_left
      · intro u _
        try simp only [List.getElem_toArray, List.getElem_cons_succ, List.getElem_cons_zero]
        go_simp
        try with_reducible rfl
      try simp only [Act.put, List.setIfInBounds_toArray, List.set_cons_zero, List.set_cons_succ]
      refine Stg.wpAnyL_start (n' := 7) (l' := #[true, true, true, true, true, true, true, true, true, true, true, true, true, true, true, false, false, false, false, false, false, false]) (by kernel_rfl) (by kernel_rfl) ?_
      refine Stg.wpAnyL_free (i := 15) (v := ?_) 0 rfl (by kernel_rfl) (by kernel_rfl) (by kernel_rfl) (by kernel_rfl) (by kernel_rfl) (fun _ _ _ h => h) (Or.inl ⟨by kernel_rfl, ?_⟩) (by assumption) ?_
      rotate_left
      · intro u _
        try simp only [List.getElem_toArray, List.getElem_cons_succ, List.getElem_cons_zero]
        go_simp
        try with_reducible rfl
      try simp only [Act.put, List.setIfInBounds_toArray, List.set_cons_zero, List.set_cons_succ]
      refine Stg.wpAnyL_free (i := 16) (v := ?_) 0 rfl (by kernel_rfl) (by kernel_rfl) (by kernel_rfl) (by kernel_rfl) (by kernel_rfl) (fun _ _ _ h => h) (Or.inl ⟨by kernel_rfl, ?_⟩) (by assumption) ?_
      rotate_left
      · intro u _
        try simp only [List.getElem_toArray, List.getElem_cons_succ, List.getElem_cons_zero]
        go_simp
        try with_reducible rfl
      try simp only [Act.put, List.setIfInBounds_toArray, List.set_cons_zero, List.set_cons_succ]
      refine Stg.wpAnyL_free (i := 17) (v := ?_) 0 rfl (by kernel_rfl) (by kernel_rfl) (by kernel_rfl) (by kernel_rfl) (by kernel_rfl) (fun _ _ _ h => h) (Or.inl ⟨by kernel_rfl, ?_⟩) (by assumption) ?_
      rotate_left
      · intro u _
        try simp only [List.getElem_toArray, List.getElem_cons_succ, List.getElem_cons_zero]
        go_simp
        try with_reducible rfl
      try simp only [Act.put, List.setIfInBounds_toArray, List.set_cons_zero, List.set_cons_succ]
      refine Stg.wpAnyL_start (n' := 4) (l' := #[true, true, true, true, true, true, true, true, true, true, true, true, true, true, true, true, true, true, false, false, false, false]) (by kernel_rfl) (by kernel_rfl) ?_
      refine Stg.wpAnyL_one (i := 18) 1 rfl (by kernel_rfl) (by kernel_rfl) (fun K hK => ?_)
      have y0 := cellB (hHeld rfl) x0
      have y1 := cellB (hHeld rfl) x1
      have z0 := ((hHeld rfl).frozen (p := ⟨g1, kk * 2, none⟩) (Tr.out.hb (by omega))).trans f0
      have z1 := ((hHeld rfl).frozen (p := ⟨g1, kk * 2 + 1, none⟩) (Tr.out.hb (by omega))).trans f1
      try simp only [List.getElem_toArray, List.getElem_cons_succ, List.getElem_cons_zero]
      go_simp
      refine hK.out _ _ ?_ (fun hHeld1 => ?_)
      · exact fun h => absurd h (by decide)
      clear hK K
      try simp only [Act.put, List.setIfInBounds_toArray, List.set_cons_zero, List.set_cons_succ]
      refine Stg.wpAnyL_free (i := 19) (v := ?_) 1 rfl (by kernel_rfl) (by kernel_rfl) (by kernel_rfl) (by kernel_rfl) (by kernel_rfl) (fun _ _ _ h => h) (Or.inl ⟨by kernel_rfl, ?_⟩) (by assumption) ?_
      rotate_left
      · intro u _
        try simp only [List.getElem_toArray, List.getElem_cons_succ, List.getElem_cons_zero]
        go_simp
        try with_reducible rfl
      try simp only [Act.put, List.setIfInBounds_toArray, List.set_cons_zero, List.set_cons_succ]
      refine Stg.wpAnyL_free (i := 20) (v := ?_) 1 rfl (by kernel_rfl) (by kernel_rfl) (by kernel_rfl) (by kernel_rfl) (by kernel_rfl) (fun _ _ _ h => h) (Or.inl ⟨by kernel_rfl, ?_⟩) (by assumption) ?_
      rotate_left
      · intro u _
        try simp only [List.getElem_toArray, List.getElem_cons_succ, List.getElem_cons_zero]
        go_simp
        try with_reducible rfl
      try simp only [Act.put, List.setIfInBounds_toArray, List.set_cons_zero, List.set_cons_succ]
      refine Stg.wpAnyL_start (n' := 1) (l' := #[true, true, true, true, true, true, true, true, true, true, true, true, true, true, true, true, true, true, true, true, true, false]) (by kernel_rfl) (by kernel_rfl) ?_
      refine Stg.wpAnyL_one (i := 21) 2 rfl (by kernel_rfl) (by kernel_rfl) (fun K hK => ?_)
      try simp only [List.getElem_toArray, List.getElem_cons_succ, List.getElem_cons_zero]
      go_simp
      refine hK.out _ _ ?_ (fun hHeld2 => ?_)
      · exact fun h => absurd h (by decide)
      clear hK K
      try simp only [Act.put, List.setIfInBounds_toArray, List.set_cons_zero, List.set_cons_succ]
      refine Stg.wpAnyL_done (by kernel_rfl) ?_ _
      try simp only [List.getElem_toArray, List.getElem_cons_succ, List.getElem_cons_zero]
      try simp only [Act.put, List.setIfInBounds_toArray, List.set_cons_zero, List.set_cons_succ]
      refine NoPanic.normal ?_
      have hd9 := (Below.refl wr.heap.size wr).drew
      have bx9 := ((bx.out.bel hd9).other (q := g1) (o := kk * 2) (by omega) (.int .i64 (max (S kk - d) 0))).other (q := g1) (o := kk * 2 + 1) (by omega) (.int .i64 (max (F kk - d) 0))
      have rs9 := ((rs.out.bel hd9).other (q := g1) (o := kk * 2) (by omega) (.int .i64 (max (S kk - d) 0))).other (q := g1) (o := kk * 2 + 1) (by omega) (.int .i64 (max (F kk - d) 0))
      have hB9 := ((bNext hB hd9 (Nat.le_refl _)).setCell (p := ⟨g1, kk * 2, none⟩) (by show _ ≤ g1; omega) (.int .i64 (max (S kk - d) 0))).setCell (p := ⟨g1, kk * 2 + 1, none⟩) (by show _ ≤ g1; omega) (.int .i64 (max (F kk - d) 0))
      have hf9 : 0 < N → ∀ o, ((wr.drew.setCell ⟨g1, kk * 2, none⟩ (.int .i64 (max (S kk - d) 0))).setCell ⟨g1, kk * 2 + 1, none⟩ (.int .i64 (max (F kk - d) 0))).frozen? ⟨g1, o, none⟩ = false := fun h0 o => (World.frozen?_setCell _ _ _ _).trans ((World.frozen?_setCell _ _ _ _).trans ((hd9.frozen (p := ⟨g1, o, none⟩) (Tr.out.hb h0)).trans (hfr.out h0 o)))
      go_wp2_with fail
      go_roundw
      case rel => exact ⟨kk + 1, by omega, by go_num, hT9.out, hf9, bx9, rs9, hB9⟩
      case measure => simp [intOf]; omega
    · have hltz : ¬ (kk : Int) < (N : Int) := by omega
      obtain rfl : kk = N := by omega
      have T9 := rebTo_same Tr
      rw [← hd.out] at T9
      clear Tr
      have p0 := bx.c 0 _ rfl
      have r0 := rs.c 0 _ rfl
      have r1 := rs.c 1 _ rfl
      have r2 := rs.f 0
      have r3 := rs.f 1
      replace T9 := Lib.hid T9
      replace hfr := Lib.hid hfr
      replace bx := Lib.hid bx
      replace rs := Lib.hid rs
      go_wp2_with fail
      refine bodyPost_ret (v := .agg #[.int .i64 1099511627776, .slice a1 kk c1]) (by simp [results, Try.results51, go_sem, r0, r1]) rfl ⟨_, g1, _, rfl, (T9.out.set_other (q := w.heap.size + 1) (o := 0) (fun h0 => by have := hgw h0; omega) (.int .i64 1099511627776)).set_other (q := w.heap.size + 1) (o := 1) (fun h0 => by have := hgw h0; omega) (.slice a1 kk c1), fun h0 => ⟨by have := hgw h0; omega, fun o => (World.frozen?_setCell _ _ _ _).trans ((World.frozen?_setCell _ _ _ _).trans (hfr.out h0 o))⟩, ?_⟩
      exact (hB.setCell (p := ⟨w.heap.size + 1, 0, none⟩) (by show _ ≤ w.heap.size + 1; omega) _).setCell (p := ⟨w.heap.size + 1, 1, none⟩) (by show _ ≤ w.heap.size + 1; omega) _
end Go.Proofs.Ytkefkophlhcbiaa
namespace Go.Proofs.Ytkefkophlhcbiaa
open Go.ChangeShapes Go.WideShapes Go.ChangeAt Go.RowKit
set_option linter.unusedVariables false
set_option linter.unusedSimpArgs false
open BigFrame Vr Pk Fq
attribute [local go_sem] max_fold25
end Go.Proofs.Ytkefkophlhcbiaa
namespace Go.Proofs.Ytkefkophlhcbiaa
open Go.ChangeShapes Go.WideShapes Go.ChangeAt Go.RowKit
set_option linter.unusedVariables false
set_option linter.unusedSimpArgs false
open BigFrame Vr Pk Fq

namespace Vr
theorem leastK_no {O : Nat → Int} {m : Nat → Bool} {n : Nat} (h : leastK O m n < 0) : ∀ i, i < n → m i = false := by
  induction n with
  | zero => intro i hi; omega
  | succ n ih =>
    intro i hi
    unfold leastK at h
    split at h
    · omega
    · rename_i hc
      have h2 := ih h
      by_cases e : i = n
      · subst e
        cases hm : m i with
        | false => rfl
        | true => exact absurd ⟨hm, .inl h⟩ hc
      · exact h2 i (by omega)
theorem leastK_yes {O : Nat → Int} {m : Nat → Bool} {n : Nat} (h : 0 ≤ leastK O m n) : m (leastK O m n).toNat = true ∧ ∀ i, i < n → m i = true → O (leastK O m n).toNat ≤ O i := by
  induction n with
  | zero => simp [leastK] at h
  | succ n ih =>
    have hd : leastK O m (n + 1) = if m n = true ∧ (leastK O m n < 0 ∨ O n < O (leastK O m n).toNat) then (n : Int) else leastK O m n := rfl
    by_cases hc : m n = true ∧ (leastK O m n < 0 ∨ O n < O (leastK O m n).toNat)
    · rw [if_pos hc] at hd
      rw [hd, Int.toNat_natCast]
      refine ⟨hc.1, fun i hi hmi => ?_⟩
      by_cases e : i = n
      · subst e; omega
      · rcases hc.2 with hneg | hlt
        · have := leastK_no hneg i (by omega); rw [hmi] at this; cases this
        · by_cases h0 : 0 ≤ leastK O m n
          · have := (ih h0).2 i (by omega) hmi; omega
          · have := leastK_no (show leastK O m n < 0 by omega) i (by omega); rw [hmi] at this; cases this
    · rw [if_neg hc] at hd
      rw [hd] at h ⊢
      obtain ⟨h1, h2⟩ := ih h
      refine ⟨h1, fun i hi hmi => ?_⟩
      by_cases e : i = n
      · subst e
        have : ¬ (O i < O (leastK O m i).toNat) := fun q => hc ⟨hmi, .inr q⟩
        omega
      · exact h2 i (by omega) hmi
theorem dvd_scale (w : Int) (h1 : 1 ≤ w) (h2 : w ≤ 16) : (720720 / w) * w = 720720 := by
  have : w = 1 ∨ w = 2 ∨ w = 3 ∨ w = 4 ∨ w = 5 ∨ w = 6 ∨ w = 7 ∨ w = 8 ∨ w = 9 ∨ w = 10 ∨ w = 11 ∨ w = 12 ∨ w = 13 ∨ w = 14 ∨ w = 15 ∨ w = 16 := by omega
  rcases this with rfl | rfl | rfl | rfl | rfl | rfl | rfl | rfl | rfl | rfl | rfl | rfl | rfl | rfl | rfl | rfl <;> rfl
theorem costTest (size weight all : Int) : ((costI size weight all != 0) && (wrap64 (costI size weight all * weight) != wrap64 (wrap64 (size * all) * 720720))) = false := by
  by_cases h : size < 1 ∨ 1500 < size ∨ weight < 1 ∨ 16 < weight ∨ all < weight ∨ 128 < all
  · rw [costI_no h]; rfl
  · have h1 := costI_ok (size := size) (weight := weight) (all := all) (by omega) (by omega) (by omega) (by omega) (by omega) (by omega)
    have m0 : 0 ≤ size * all := Int.mul_nonneg (by omega) (by omega)
    have m1 : size * all ≤ 192000 := Int.le_trans (Int.mul_le_mul (show size ≤ 1500 by omega) (show all ≤ 128 by omega) (by omega) (by omega)) (by omega)
    have e1 : wrap64 (size * all) = size * all := by unfold wrap64; omega
    have e2 : costI size weight all * weight = size * all * 720720 := by
      rw [h1, Int.mul_assoc, dvd_scale weight (by omega) (by omega)]
    rw [e1, e2]
    simp
end Vr
end Go.Proofs.Ytkefkophlhcbiaa
namespace Go.Proofs.Ytkefkophlhcbiaa
open Go.ChangeShapes Go.WideShapes Go.ChangeAt Go.RowKit
set_option linter.unusedVariables false
set_option linter.unusedSimpArgs false
open BigFrame Vr Pk Fq
attribute [local go_sem] max_fold25

namespace Vr
/-- The least value itself, -1 if there is none. -/
def leastV (O : Nat → Int) (m : Nat → Bool) (n : Nat) : Int := if leastK O m n < 0 then -1 else O (leastK O m n).toNat
theorem leastV_succ {O : Nat → Int} {m : Nat → Bool} {n : Nat} (h0 : ∀ i, i < n → 0 ≤ O i) : leastV O m (n + 1) = if m n = true ∧ (leastV O m n < 0 ∨ O n < leastV O m n) then O n else leastV O m n := by
  have hd : leastK O m (n + 1) = if m n = true ∧ (leastK O m n < 0 ∨ O n < O (leastK O m n).toNat) then (n : Int) else leastK O m n := rfl
  have hl := leastK_lt O m n
  have h9 : ¬ (n : Int) < 0 := by omega
  by_cases hneg : leastK O m n < 0
  · by_cases hm : m n = true
    · rw [if_pos ⟨hm, .inl hneg⟩] at hd
      unfold leastV
      rw [hd, if_neg h9, if_pos hneg, Int.toNat_natCast, if_pos ⟨hm, .inl (by omega)⟩]
    · rw [if_neg (fun q => hm q.1)] at hd
      unfold leastV
      rw [hd, if_pos hneg, if_neg (fun q => hm q.1)]
  · have hk := h0 (leastK O m n).toNat (by omega)
    by_cases hm : m n = true
    · by_cases hlt : O n < O (leastK O m n).toNat
      · rw [if_pos ⟨hm, .inr hlt⟩] at hd
        unfold leastV
        rw [hd, if_neg h9, if_neg hneg, Int.toNat_natCast, if_pos ⟨hm, .inr hlt⟩]
      · rw [if_neg (fun q => by rcases q.2 with q | q; exact hneg q; exact hlt q)] at hd
        unfold leastV
        rw [hd, if_neg hneg, if_neg (fun q => by rcases q.2 with q | q; omega; exact hlt q)]
    · rw [if_neg (fun q => hm q.1)] at hd
      unfold leastV
      rw [hd, if_neg hneg, if_neg (fun q => hm q.1)]
theorem leastK_succ (O : Nat → Int) (m : Nat → Bool) (n : Nat) : leastK O m (n + 1) = if m n = true ∧ (leastK O m n < 0 ∨ O n < O (leastK O m n).toNat) then (n : Int) else leastK O m n := rfl
end Vr
end Go.Proofs.Ytkefkophlhcbiaa
namespace Go.Proofs.Ytkefkophlhcbiaa
open Go.ChangeShapes Go.WideShapes Go.ChangeAt Go.RowKit Go.Maps
set_option linter.unusedVariables false
set_option linter.unusedSimpArgs false
open BigFrame Pk Fq Vr

namespace Fa
/-- A row of flows: weight, size, whether its head is to come. -/
def flC (W Z : Nat → Int) (D : Nat → Bool) (i : Nat) : List Value := [.int .i64 (W i), .int .i64 (Z i), .bool (D i)]
def rowF (W Z : Nat → Int) (D : Nat → Bool) (n : Nat) : List Value := (List.range n).flatMap (flC W Z D)
theorem rowF_succ (W Z : Nat → Int) (D : Nat → Bool) (n : Nat) : rowF W Z D (n + 1) = rowF W Z D n ++ flC W Z D n := by simp [rowF, List.range_succ]
theorem rowF_len (W Z : Nat → Int) (D : Nat → Bool) (n : Nat) : (rowF W Z D n).length = n * 3 := by
  induction n with
  | zero => rfl
  | succ n ih => rw [rowF_succ, List.length_append, ih]; simp [flC]; omega
theorem rowF_at (W Z : Nat → Int) (D : Nat → Bool) (n i j : Nat) (h : i < n) (hj : j < 3) : (rowF W Z D n)[i * 3 + j]? = (flC W Z D i)[j]? := by
  induction n with
  | zero => omega
  | succ n ih =>
    rw [rowF_succ]
    by_cases e : i = n
    · subst e
      rw [List.getElem?_append_right (by rw [rowF_len]; omega), rowF_len, show i * 3 + j - i * 3 = j by omega]
    · rw [List.getElem?_append_left (by rw [rowF_len]; omega)]
      exact ih (by omega)
/-- A scheduler in memory: block f, its row of flows in block lb, its tags in block tb. -/
structure FD (w : World) (f lb cl tb ct N : Nat) (ALL V : Int) (W Z : Nat → Int) (D : Nat → Bool) (S F : Nat → Int) : Prop where
  b : Blk w f [.slice (some ⟨lb, 0, none⟩) N cl, .int .i64 ALL, .int .i64 V, .slice (some ⟨tb, 0, none⟩) N ct]
  l : Blk w lb (rowF W Z D N)
  t : TagsAt w (some ⟨tb, 0, none⟩) tb 0 N S F
  a1 : f ≠ lb
  a2 : f ≠ tb
  a3 : lb ≠ tb
  n1 : 1 ≤ N
  n8 : N ≤ 8
theorem FD.bel {w w' : World} {f lb cl tb ct N : Nat} {ALL V : Int} {W Z : Nat → Int} {D : Nat → Bool} {S F : Nat → Int} (h : FD w f lb cl tb ct N ALL V W Z D S F) (k : Below w.heap.size w w') : FD w' f lb cl tb ct N ALL V W Z D S F :=
  ⟨h.b.bel k, h.l.bel k, h.t.bel k, h.a1, h.a2, h.a3, h.n1, h.n8⟩
/-- How far the times may have gone behind so many picks. -/
def Far (M : Int) (V : Int) (N : Nat) (S F : Nat → Int) : Prop := 0 ≤ V ∧ V ≤ M ∧ ∀ i, i < N → 0 ≤ S i ∧ S i ≤ F i ∧ F i ≤ M
theorem Far.vok {M V : Int} {N : Nat} {S F : Nat → Int} (h : Far M V N S F) (hM : M ≤ 1152921504606846976) (hN : N ≤ 8) : VOk V N S F :=
  ⟨h.1, by have := h.2.1; omega, hN, fun i hi => by have := h.2.2 i hi; omega⟩
theorem Far.mono {M M2 V : Int} {N : Nat} {S F : Nat → Int} (h : Far M V N S F) (hM : M ≤ M2) : Far M2 V N S F :=
  ⟨h.1, by have := h.2.1; omega, fun i hi => by have := h.2.2 i hi; omega⟩
end Fa
end Go.Proofs.Ytkefkophlhcbiaa
namespace Go.Proofs.Ytkefkophlhcbiaa
open Go.ChangeShapes Go.WideShapes Go.ChangeAt Go.RowKit Go.Maps
set_option linter.unusedVariables false
set_option linter.unusedSimpArgs false
open BigFrame Pk Fq Vr Fa

set_option maxRecDepth 100000 in
set_option maxHeartbeats 4000000 in
theorem fcopied_c (V : Int) (N : Nat) (a : Option Addr) (b off c : Nat) (S F : Nat → Int) (w : World) (T : TagsAt w a b off N S F) (hN : N ≤ 1000) :
    Calls Try.prog 56 #[.agg #[.int .i64 V, .slice a N c]] w (CopP V N S F w) := by
  have hB0 : Below w.heap.size w ((w.alloc (.cells #[.int .i64 V, .slice a N c] 96)).alloc (.cells #[.int .i64 0, .slice none 0 0] 96)) := ((Below.refl _ _).alloc (Nat.le_refl _) _).alloc (by simp) _
  have bx0 := blk_two w (.int .i64 V) (.slice a N c) (.int .i64 0) (.slice none 0 0) 96 96
  have rs0 := blk_new (w.alloc (.cells #[.int .i64 V, .slice a N c] 96)) (.int .i64 0) (.slice none 0 0) 96
  rw [World.size_alloc] at rs0
  have hszW : w.heap.size + 1 < ((w.alloc (.cells #[.int .i64 V, .slice a N c] 96)).alloc (.cells #[.int .i64 0, .slice none 0 0] 96)).heap.size := by simp
  replace T := Lib.hid T
  go_enter Try.func56, Try.ntmps56
  go_wp2_with fail
  generalize ((w.alloc (.cells #[.int .i64 V, .slice a N c] 96)).alloc (.cells #[.int .i64 0, .slice none 0 0] 96)) = W1 at bx0 rs0 hB0 hszW ⊢
  refine (vclone_c a b off N c S F W1 (T.out.bel hB0) hN).mono ?_
  rintro e w1 ⟨a1, g1, c1, rfl, T1, hg1, hb1⟩
  have bx1 := bx0.bel hb1
  have rs1 := rs0.bel hb1
  have hB1 := bNext hB0 hb1 (Nat.le_refl _)
  have p1 := bx1.c 1 _ rfl
  have p2 := bx1.f 1
  have bx2 := bx1.set (i := 1) (by simp) (.slice a1 N c1)
  have rs2 := rs1.other (q := w.heap.size) (o := 1) (by omega) (.slice a1 N c1)
  have hB2 := hB1.setCell (p := ⟨w.heap.size, 1, none⟩) (Nat.le_refl _) (.slice a1 N c1)
  have T2 := T1.set_other (q := w.heap.size) (o := 1) (fun h0 => by have := (hg1 h0).1; omega) (.slice a1 N c1)
  have hf2 : 0 < N → ∀ o, (w1.setCell ⟨w.heap.size, 1, none⟩ (.slice a1 N c1)).frozen? ⟨g1, o, none⟩ = false := fun h0 o => (World.frozen?_setCell _ _ _ _).trans ((hg1 h0).2 o)
  have hgw : 0 < N → w.heap.size + 1 < g1 := fun h0 => by have := (hg1 h0).1; omega
  go_upto_region 2 with fail
  generalize w1.setCell ⟨w.heap.size, 1, none⟩ (.slice a1 N c1) = w2 at bx2 rs2 hB2 T2 hf2 ⊢
  clear p1 p2 bx0 rs0 hB0 bx1 rs1 hB1 T1 hg1 hb1 hszW T
  have p0 := bx2.c 0 _ rfl
  have p1 := bx2.c 1 _ rfl
  replace T2 := Lib.hid T2
  replace hf2 := Lib.hid hf2
  have r0 := rs2.c 0 _ rfl
  have r1 := rs2.c 1 _ rfl
  have r2 := rs2.f 0
  have r3 := rs2.f 1
  go_wp2_with fail
  refine bodyPost_ret (v := .agg #[.int .i64 V, .slice a1 N c1]) (by simp [results, Try.results56, go_sem, r0, r1]) rfl ⟨_, g1, _, rfl, (T2.out.set_other (fun h0 => by have := hgw h0; omega) _).set_other (fun h0 => by have := hgw h0; omega) _, fun h0 => ⟨by have := hgw h0; omega, fun o => (World.frozen?_setCell _ _ _ _).trans ((World.frozen?_setCell _ _ _ _).trans (hf2.out h0 o))⟩, ?_⟩
  exact (hB2.setCell (p := ⟨w.heap.size + 1, 0, none⟩) (by show _ ≤ w.heap.size + 1; omega) _).setCell (p := ⟨w.heap.size + 1, 1, none⟩) (by show _ ≤ w.heap.size + 1; omega) _
end Go.Proofs.Ytkefkophlhcbiaa
namespace Go.Proofs.Ytkefkophlhcbiaa
open Go.ChangeShapes Go.WideShapes Go.ChangeAt Go.RowKit Go.Maps
set_option linter.unusedVariables false
set_option linter.unusedSimpArgs false
open BigFrame Pk Fq Vr Fa

namespace Fa
def OwnF (w : World) (B : Nat) (v : Value) (W Z : Nat → Int) (D : Nat → Bool) (n : Nat) : Prop := w.ownsRow B 103 3 v n (rowF W Z D n)
theorem OwnF.lt {w : World} {B : Nat} {v : Value} {W Z : Nat → Int} {D : Nat → Bool} {n : Nat} (h : OwnF w B v W Z D n) {q : Nat} (hq : v.ownBlock = some q) : B ≤ q ∧ q < w.heap.size := by
  unfold OwnF at h
  exact h.lt q hq
theorem OwnF.bel {w w' : World} {B : Nat} {v : Value} {W Z : Nat → Int} {D : Nat → Bool} {n : Nat} (h : OwnF w B v W Z D n) (k : Below w.heap.size w w') : OwnF w' B v W Z D n := by
  refine ⟨h.1, ?_⟩
  rcases h.2 with hh | ⟨g, cap, cur, h1, h2, h3, h4⟩
  · exact .inl hh
  · exact .inr ⟨g, cap, cur, h1, h2, (k.block g (Array.getElem?_eq_some_iff.1 h3).1).trans h3, h4⟩
theorem OwnF.set {w : World} {B : Nat} {v : Value} {W Z : Nat → Int} {D : Nat → Bool} {n : Nat} (h : OwnF w B v W Z D n) {q o : Nat} (hq : v.ownBlock ≠ some q) (x : Value) : OwnF (w.setCell ⟨q, o, none⟩ x) B v W Z D n := by
  refine ⟨h.1, ?_⟩
  rcases h.2 with hh | ⟨g, cap, cur, h1, h2, h3, h4⟩
  · exact .inl hh
  · exact .inr ⟨g, cap, cur, h1, h2, (Below.heap_setCell _ ⟨q, o, none⟩ _ _ (fun e => hq (by rw [h1]; simp [Value.ownBlock]; exact e))).trans h3, h4⟩
theorem info_fl : (Try.prog.info? 103).map (fun i => (i.zero, i.size, i.bytes)) = some (some (.agg #[.int .i64 0, .int .i64 0, .bool false]), 3, 24) := by kernel_rfl
theorem wpList_appF {w : World} {ops : Array Oper} {rest : List Oper} {o : Oper} {a : Act} {Q : Exit → Act → World → Prop} (hgd : o.guard = none) (s x : Operand)
    (ho : o.op = .call { callee := .builtin .append, args := #[s, x], argTypes := #[99, 99] }) (B : Nat) (v : Value) (W Z : Nat → Int) (D : Nat → Bool) (n : Nat) (hs : a.eval s = v) (hown : OwnF w B v W Z D n) (hB : B ≤ w.heap.size)
    {q c : Nat} (hx : a.eval x = .slice (some ⟨q, 0, none⟩) 1 c) (hk : Blk w q (flC W Z D n)) (hl : n ≤ 1000000)
    (h : ∀ (a' : Option Addr) (n' c' : Nat) w', OwnF w' B (.slice a' n' c') W Z D (n + 1) → n' = n + 1 → w'.heap.size ≥ w.heap.size → w.grownBy w' v.ownBlock → ((Value.slice a' n' c').ownBlock = v.ownBlock ∨ (Value.slice a' n' c').ownBlock = some w.heap.size) → wpList Try.prog ops Q rest (a.put o.dst (.slice a' n' c')) w') : wpList Try.prog ops Q (o :: rest) a w := by
  obtain ⟨i0, hi0, hz0, hz1, hz2⟩ := info_parts info_fl
  refine wpList_append_own_at w hgd s x 99 ho B 103 i0 _ 3 24 Try.underlying99 hi0 hz0 hz1 hz2 rfl (by omega) v n (rowF W Z D n) hs hown ⟨q, 0, none⟩ 1 c (flC W Z D n) hx rfl (fun j u hj => ?_) (by intro u hu; simp [flC] at hu; rcases hu with rfl | rfl | rfl <;> rfl) (by unfold maxLen; omega) (by omega) hB (fun v' w' h1 h2 _ h4 => ?_)
  · have := hk.c j u hj
    rw [Addr.add_lit, Nat.zero_add]
    exact this
  · have h3 : OwnF w' B v' W Z D (n + 1) := by
      unfold OwnF
      rw [rowF_succ]
      exact h1
    rcases h3.2 with ⟨e, e2⟩ | ⟨g, cap, cur, e, _⟩
    · simp at e2
    · subst e
      exact h _ _ _ w' h3 rfl h2.size h2 h4
end Fa
end Go.Proofs.Ytkefkophlhcbiaa
namespace Go.Proofs.Ytkefkophlhcbiaa
open Go.ChangeShapes Go.WideShapes Go.ChangeAt Go.RowKit Go.Maps
set_option linter.unusedVariables false
set_option linter.unusedSimpArgs false
open BigFrame Pk Fq Vr Fa

namespace Fa
def sumW (g : Nat → Int) : Nat → Int
  | 0 => 0
  | n + 1 => sumW g n + g n
def nz : Nat → Int := fun _ => 0
def nd : Nat → Bool := fun _ => false
theorem sumW_b {g : Nat → Int} {N : Nat} (h : ∀ i, i < N → 1 ≤ g i ∧ g i ≤ 16) : ∀ n, n ≤ N → (n : Int) ≤ sumW g n ∧ sumW g n ≤ 16 * (n : Int)
  | 0, _ => ⟨by simp [sumW], by simp [sumW]⟩
  | n + 1, hn => by
    have h1 := sumW_b h n (by omega)
    have h2 := h n (by omega)
    simp only [sumW]
    push_cast
    omega
def NewF (N : Nat) (g : Nat → Int) (w : World) (e : Ending) (w' : World) : Prop :=
  ∃ f lb cl tb ct, e = .returned (.tuple #[.pointer (some ⟨f, 0, none⟩), .int .i64 0]) ∧ FD w' f lb cl tb ct N (sumW g N) 0 g nz nd nz nz ∧ w.heap.size ≤ f ∧ w.heap.size ≤ lb ∧ w.heap.size ≤ tb ∧ Below w.heap.size w w'
theorem new_step {W1 wr w5 : World} {f i k c5 : Nat} {lv a5 : Option Addr} {g : Nat → Int} {s s2 V : Int} {T : Value} {O : Obj} (hS : Blk wr f [.slice lv i k, .int .i64 s, .int .i64 V, T]) (hO : OwnF wr (f + 1) (.slice lv i k) g nz nd i) (hB2 : Below f W1 wr) (hf : f < W1.heap.size)
    (hown : OwnF w5 (f + 1) (.slice a5 (i + 1) c5) g nz nd (i + 1)) (hsz : w5.heap.size ≥ (wr.alloc O).heap.size) (hg : (wr.alloc O).grownBy w5 (Value.slice lv i k).ownBlock) :
    Blk w5 f [.slice lv i k, .int .i64 s, .int .i64 V, T] ∧ Blk (w5.setCell ⟨f, 0, none⟩ (.slice a5 (i + 1) c5)) f [.slice a5 (i + 1) c5, .int .i64 s, .int .i64 V, T] ∧ Blk ((w5.setCell ⟨f, 0, none⟩ (.slice a5 (i + 1) c5)).setCell ⟨f, 1, none⟩ (.int .i64 s2)) f [.slice a5 (i + 1) c5, .int .i64 s2, .int .i64 V, T] ∧
    OwnF ((w5.setCell ⟨f, 0, none⟩ (.slice a5 (i + 1) c5)).setCell ⟨f, 1, none⟩ (.int .i64 s2)) (f + 1) (.slice a5 (i + 1) c5) g nz nd (i + 1) ∧ Below f W1 ((w5.setCell ⟨f, 0, none⟩ (.slice a5 (i + 1) c5)).setCell ⟨f, 1, none⟩ (.int .i64 s2)) := by
  have hO' := hO
  unfold OwnF at hO'
  have h5 : Blk w5 f [.slice lv i k, .int .i64 s, .int .i64 V, T] := hS.grown hO' hg (by omega) (by simp at hsz; omega)
  have h6 := h5.set (i := 0) (by simp) (.slice a5 (i + 1) c5)
  have hq : (Value.slice a5 (i + 1) c5).ownBlock ≠ some f := fun e => by have := (hown.lt e).1; omega
  refine ⟨h5, h6, h6.set (i := 1) (by simp) _, (hown.set hq _).set hq _, ?_⟩
  refine Below.setCell (p := ⟨f, 1, none⟩) (Below.setCell (p := ⟨f, 0, none⟩) ?_ (Nat.le_refl _) _) (Nat.le_refl _) _
  have := hB2.size
  refine (hB2.alloc (by omega) O).grown hg (by simp; omega) (fun q e => ?_)
  have := (hO.lt e).1
  omega
end Fa
end Go.Proofs.Ytkefkophlhcbiaa
namespace Go.Proofs.Ytkefkophlhcbiaa
open Go.ChangeShapes Go.WideShapes Go.ChangeAt Go.RowKit Go.Maps
set_option linter.unusedVariables false
set_option linter.unusedSimpArgs false
open BigFrame Pk Fq Vr Fa

namespace Fa
theorem blkN_new (u : World) (l : List Value) (t : TypeId) : Blk (u.alloc (.cells l.toArray t)) u.heap.size l :=
  ⟨fun i z hz => by
    have hi : i < l.length := (List.getElem?_eq_some_iff.1 hz).1
    have h : (u.alloc (.cells l.toArray t)).heap[u.heap.size]? = some (.cells l.toArray t (0, 0)) := heap_alloc_new u _
    unfold World.cell?
    simp only [h]
    simpa using hz,
   fun o => by go_simp, by simp⟩
theorem OwnF.blk {w : World} {B n c : Nat} {a : Option Addr} {W Z : Nat → Int} {D : Nat → Bool} (h : OwnF w B (.slice a n c) W Z D n) (hn : 0 < n) : ∃ g, a = some ⟨g, 0, none⟩ ∧ B ≤ g ∧ Blk w g (rowF W Z D n) := by
  unfold OwnF at h
  obtain ⟨g, cap, e, hb, hl⟩ := h.form hn
  cases e
  exact ⟨g, rfl, hb, fun i x hx => by
    have hi : i < (rowF W Z D n).length := (List.getElem?_eq_some_iff.1 hx).1
    rw [h.cellAt i (by rw [← h.1]; exact hi)]; exact hx, fun o => h.frozenAt o, hl⟩
end Fa

set_option maxRecDepth 100000 in
set_option maxHeartbeats 4000000 in
theorem fnew_ok (w : World) (b off N c : Nat) (g : Nat → Int) (h1 : 1 ≤ N) (h8 : N ≤ 8) (hb : b < w.heap.size) (hc : ∀ i, i < N → w.cell? ⟨b, off + i, none⟩ = some (.int .i64 (g i))) (hg : ∀ i, i < N → 1 ≤ g i ∧ g i ≤ 16) :
    Calls Try.prog 24 #[.slice (some ⟨b, off, none⟩) N c] w (NewF N g w) := by
  have hN1 : (1 : Int) ≤ (N : Int) := by omega
  have hN8 : (N : Int) ≤ 8 := by omega
  replace hc := Lib.hid hc
  replace hg := Lib.hid hg
  have hnew := Lib.hid (vnew_ok N w h1 h8)
  go_enter Try.func24, Try.ntmps24
  go_wp2_with fail
  refine hnew.out.mono ?_
  rintro e w1 ⟨a1, tb, ct, rfl, T1, htb, hb1⟩
  obtain rfl := T1.ha (by omega)
  have htb1 := htb (by omega)
  have htb2 := T1.hb (by omega)
  clear hnew htb
  have ha := ((Below.refl w1.heap.size w1).alloc (Nat.le_refl _) (.cells #[.int .i64 0, .slice (some ⟨tb, 0, none⟩) N ct] 96)).alloc (by simp) (.cells #[.slice none 0 0, .int .i64 0, .int .i64 0, .slice (some ⟨tb, 0, none⟩) N ct] 101)
  have fb := blkN_new (w1.alloc (.cells #[.int .i64 0, .slice (some ⟨tb, 0, none⟩) N ct] 96)) [.slice none 0 0, .int .i64 0, .int .i64 0, .slice (some ⟨tb, 0, none⟩) N ct] 101
  rw [World.size_alloc] at fb
  have hB := Lib.hid (hb1.trans (ha.mono hb1.size))
  have hT := Lib.hid (T1.bel ha)
  have hsz := hb1.size
  replace fb := Lib.hid fb
  clear T1 hb1 ha
  go_upto_region 5 with fail
  generalize ((w1.alloc (.cells #[.int .i64 0, .slice (some ⟨tb, 0, none⟩) N ct] 96)).alloc (.cells #[.slice none 0 0, .int .i64 0, .int .i64 0, .slice (some ⟨tb, 0, none⟩) N ct] 101)) = W1 at hB hT fb ⊢
  obtain ⟨f, hf⟩ : ∃ f, RowKit.Hid (w1.heap.size + 1 = f) := ⟨_, Lib.hid rfl⟩
  rw [hf.out] at fb ⊢
  go_wp2_with fail
  go_loopw [8, 23] (fun _ s23 wr => ∃ (i : Nat) (lv : Option Addr) (k : Nat), s23 = .int .i64 (i : Nat) ∧ i ≤ N ∧ RowKit.Hid (Blk wr f [.slice lv i k, .int .i64 (sumW g i), .int .i64 0, .slice (some ⟨tb, 0, none⟩) N ct]) ∧ RowKit.Hid (OwnF wr (f + 1) (.slice lv i k) g nz nd i) ∧ RowKit.Hid (Below f W1 wr)) (fun _ s23 _ => N - (intOf s23).toNat)
  case atStart => exact ⟨0, none, 0, rfl, Nat.zero_le _, Lib.hid fb.out, Lib.hid ⟨rfl, .inl ⟨rfl, rfl⟩⟩, Lib.hid (Below.refl _ _)⟩
  case round =>
    obtain ⟨i, lv, k, rfl, hi, hS, hO, hK⟩ := hrel
    have ii : (i : Int) ≤ (N : Int) := by omega
    have hfW := fb.out.l
    have hbl : Below w.heap.size w wr := hB.out.trans (hK.out.mono (by have := hf.out; omega))
    by_cases hlt : i < N
    · have ii1 : (i : Int) < (N : Int) := by omega
      have x0 := (hbl.cell (p := ⟨b, off + i, none⟩) hb).trans (hc.out i hlt)
      have g1 := hg.out i hlt
      have sb := sumW_b hg.out i (by omega)
      obtain ⟨y, hy⟩ : ∃ y, g i = y := ⟨_, rfl⟩
      obtain ⟨s, hs⟩ : ∃ s, sumW g i = s := ⟨_, rfl⟩
      have hs2 : sumW g (i + 1) = s + y := by rw [sumW, hs, hy]
      have hbk := Lib.hid (show Blk (wr.alloc (.cells #[.int .i64 y, .int .i64 0, .bool false] 103)) wr.heap.size (flC g nz nd i) by rw [← hy]; exact blkN_new wr (flC g nz nd i) _)
      rw [hy] at x0 g1
      rw [hs] at sb hS
      obtain ⟨g2, g3⟩ := g1
      obtain ⟨s3, s4⟩ := sb
      have s0 := hS.out.c 0 _ rfl
      have hO2 := Lib.hid (hO.out.bel ((Below.refl wr.heap.size wr).alloc (Nat.le_refl _) (.cells #[.int .i64 y, .int .i64 0, .bool false] 103)))
      have hfl := hS.out.l
      have hszA := Lib.hid (show f + 1 ≤ (wr.alloc (.cells #[.int .i64 y, .int .i64 0, .bool false] 103)).heap.size by simp; omega)
      replace hs2 := Lib.hid hs2
      replace hbl := Lib.hid hbl
      clear hs hy hfl
      go_wp2_with (at_builtin; refine wpList_appF rfl _ _ rfl (f + 1) (.slice lv i k) g nz nd i (by rfl) hO2.out hszA.out (by rfl) hbk.out (by omega) ?_; intro a5 n5 c5 w5 hown5 hn5 hsz5 hgrow5 hor5; obtain rfl : n5 = i + 1 := hn5; have hst := Lib.hid (new_step (s2 := s + y) hS.out hO.out hK.out hfW hown5 (by have := hsz5; exact hgrow5.size) hgrow5); have q0 := hst.out.1.c 0 _ rfl; have q1 := hst.out.1.f 0; have q2 := hst.out.2.1.c 1 _ rfl; have q3 := hst.out.2.1.f 1; clear hown5 hsz5 hgrow5 hor5 s0)
      go_roundw
      case rel => exact ⟨i + 1, a5, c5, by go_num, hlt, Lib.hid (by rw [hs2.out]; exact hst.out.2.2.1), Lib.hid hst.out.2.2.2.1, Lib.hid hst.out.2.2.2.2⟩
      case measure => simp [intOf]; omega
    · obtain rfl : i = N := by omega
      obtain ⟨lb, rfl, hlb, hBl⟩ := hO.out.blk (by omega)
      have hF : NewF i g w (.returned (.tuple #[.pointer (some ⟨f, 0, none⟩), .int .i64 0])) wr := by
        have hf1 := hf.out
        exact ⟨f, lb, k, tb, ct, rfl, ⟨hS.out, hBl, hT.out.below hK.out (fun _ => by omega), by omega, by omega, by omega, h1, h8⟩, by omega, by omega, htb1, hbl⟩
      replace hF := Lib.hid hF
      clear hBl hlb
      go_wp2_with fail
      exact bodyPost_ret (v := .tuple #[.pointer (some ⟨f, 0, none⟩), .int .i64 0]) (by simp [results, Try.results24, go_sem]) rfl hF.out
end Go.Proofs.Ytkefkophlhcbiaa
namespace Go.Proofs.Ytkefkophlhcbiaa
open Go.ChangeShapes Go.WideShapes Go.ChangeAt Go.RowKit Go.Maps
set_option linter.unusedVariables false
set_option linter.unusedSimpArgs false
open BigFrame Pk Fq Vr Fa

set_option maxRecDepth 100000 in
set_option maxHeartbeats 4000000 in
theorem fnew_len (w : World) (a : Option Addr) (N c : Nat) (h : N < 1 ∨ 8 < N) :
    Calls Try.prog 24 #[.slice a N c] w fun e w' => e = .returned (.tuple #[.pointer none, .int .i64 2]) ∧ Below w.heap.size w w' := by
  have hnew := Lib.hid (vnew_no (N : Int) w (by omega))
  clear h
  go_enter Try.func24, Try.ntmps24
  go_wp2_with fail
  refine hnew.out.mono ?_
  rintro e w1 ⟨rfl, hb1⟩
  have hF := Lib.hid (hb1.alloc hb1.size (.cells #[.int .i64 0, .slice none 0 0] 96))
  clear hb1
  go_wp2_with fail
  exact bodyPost_ret (v := .tuple #[.pointer none, .int .i64 2]) (by simp [results, Try.results24, go_sem]) rfl ⟨rfl, hF.out⟩

set_option maxRecDepth 100000 in
set_option maxHeartbeats 4000000 in
theorem fnew_bad (w : World) (b off N c : Nat) (g : Nat → Int) (h1 : 1 ≤ N) (h8 : N ≤ 8) (hb : b < w.heap.size) (hc : ∀ i, i < N → w.cell? ⟨b, off + i, none⟩ = some (.int .i64 (g i))) (m : Nat) (hm : m < N) (hg : ∀ i, i < m → 1 ≤ g i ∧ g i ≤ 16) (hbad : g m < 1 ∨ 16 < g m) :
    Calls Try.prog 24 #[.slice (some ⟨b, off, none⟩) N c] w fun e w' => e = .returned (.tuple #[.pointer none, .int .i64 2]) ∧ Below w.heap.size w w' := by
  have hN1 : (1 : Int) ≤ (N : Int) := by omega
  have hN8 : (N : Int) ≤ 8 := by omega
  replace hc := Lib.hid hc
  replace hg := Lib.hid hg
  replace hbad := Lib.hid hbad
  have hnew := Lib.hid (vnew_ok N w h1 h8)
  go_enter Try.func24, Try.ntmps24
  go_wp2_with fail
  refine hnew.out.mono ?_
  rintro e w1 ⟨a1, tb, ct, rfl, T1, htb, hb1⟩
  obtain rfl := T1.ha (by omega)
  have htb1 := htb (by omega)
  have htb2 := T1.hb (by omega)
  clear hnew htb
  have ha := ((Below.refl w1.heap.size w1).alloc (Nat.le_refl _) (.cells #[.int .i64 0, .slice (some ⟨tb, 0, none⟩) N ct] 96)).alloc (by simp) (.cells #[.slice none 0 0, .int .i64 0, .int .i64 0, .slice (some ⟨tb, 0, none⟩) N ct] 101)
  have fb := blkN_new (w1.alloc (.cells #[.int .i64 0, .slice (some ⟨tb, 0, none⟩) N ct] 96)) [.slice none 0 0, .int .i64 0, .int .i64 0, .slice (some ⟨tb, 0, none⟩) N ct] 101
  rw [World.size_alloc] at fb
  have hB := Lib.hid (hb1.trans (ha.mono hb1.size))
  have hT := Lib.hid (T1.bel ha)
  have hsz := hb1.size
  replace fb := Lib.hid fb
  clear T1 hb1 ha
  go_upto_region 5 with fail
  generalize ((w1.alloc (.cells #[.int .i64 0, .slice (some ⟨tb, 0, none⟩) N ct] 96)).alloc (.cells #[.slice none 0 0, .int .i64 0, .int .i64 0, .slice (some ⟨tb, 0, none⟩) N ct] 101)) = W1 at hB hT fb ⊢
  obtain ⟨f, hf⟩ : ∃ f, RowKit.Hid (w1.heap.size + 1 = f) := ⟨_, Lib.hid rfl⟩
  rw [hf.out] at fb ⊢
  go_wp2_with fail
  go_loopw [8, 23] (fun _ s23 wr => ∃ (i : Nat) (lv : Option Addr) (k : Nat), s23 = .int .i64 (i : Nat) ∧ i ≤ m ∧ RowKit.Hid (Blk wr f [.slice lv i k, .int .i64 (sumW g i), .int .i64 0, .slice (some ⟨tb, 0, none⟩) N ct]) ∧ RowKit.Hid (OwnF wr (f + 1) (.slice lv i k) g nz nd i) ∧ RowKit.Hid (Below f W1 wr)) (fun _ s23 _ => N - (intOf s23).toNat)
  case atStart => exact ⟨0, none, 0, rfl, Nat.zero_le _, Lib.hid fb.out, Lib.hid ⟨rfl, .inl ⟨rfl, rfl⟩⟩, Lib.hid (Below.refl _ _)⟩
  case round =>
    obtain ⟨i, lv, k, rfl, hi, hS, hO, hK⟩ := hrel
    have ii1 : (i : Int) < (N : Int) := by omega
    have hfW := fb.out.l
    have hbl : Below w.heap.size w wr := hB.out.trans (hK.out.mono (by have := hf.out; omega))
    by_cases hlt : i < m
    · have x0 := (hbl.cell (p := ⟨b, off + i, none⟩) hb).trans (hc.out i (by omega))
      have g1 := hg.out i hlt
      have sb := sumW_b hg.out i (by omega)
      obtain ⟨y, hy⟩ : ∃ y, g i = y := ⟨_, rfl⟩
      obtain ⟨s, hs⟩ : ∃ s, sumW g i = s := ⟨_, rfl⟩
      have hs2 : sumW g (i + 1) = s + y := by rw [sumW, hs, hy]
      have hbk := Lib.hid (show Blk (wr.alloc (.cells #[.int .i64 y, .int .i64 0, .bool false] 103)) wr.heap.size (flC g nz nd i) by rw [← hy]; exact blkN_new wr (flC g nz nd i) _)
      rw [hy] at x0 g1
      rw [hs] at sb hS
      obtain ⟨g2, g3⟩ := g1
      obtain ⟨s3, s4⟩ := sb
      have s0 := hS.out.c 0 _ rfl
      have hO2 := Lib.hid (hO.out.bel ((Below.refl wr.heap.size wr).alloc (Nat.le_refl _) (.cells #[.int .i64 y, .int .i64 0, .bool false] 103)))
      have hfl := hS.out.l
      have hszA := Lib.hid (show f + 1 ≤ (wr.alloc (.cells #[.int .i64 y, .int .i64 0, .bool false] 103)).heap.size by simp; omega)
      replace hs2 := Lib.hid hs2
      replace hbl := Lib.hid hbl
      clear hs hy hfl
      go_wp2_with (at_builtin; refine wpList_appF rfl _ _ rfl (f + 1) (.slice lv i k) g nz nd i (by rfl) hO2.out hszA.out (by rfl) hbk.out (by omega) ?_; intro a5 n5 c5 w5 hown5 hn5 hsz5 hgrow5 hor5; obtain rfl : n5 = i + 1 := hn5; have hst := Lib.hid (new_step (s2 := s + y) hS.out hO.out hK.out hfW hown5 (by have := hsz5; exact hgrow5.size) hgrow5); have q0 := hst.out.1.c 0 _ rfl; have q1 := hst.out.1.f 0; have q2 := hst.out.2.1.c 1 _ rfl; have q3 := hst.out.2.1.f 1; clear hown5 hsz5 hgrow5 hor5 s0)
      go_roundw
      case rel => exact ⟨i + 1, a5, c5, by go_num, hlt, Lib.hid (by rw [hs2.out]; exact hst.out.2.2.1), Lib.hid hst.out.2.2.2.1, Lib.hid hst.out.2.2.2.2⟩
      case measure => simp [intOf]; omega
    · obtain rfl : i = m := by omega
      have x0 := (hbl.cell (p := ⟨b, off + i, none⟩) hb).trans (hc.out i hm)
      obtain ⟨y, hy⟩ : ∃ y, g i = y := ⟨_, rfl⟩
      have hbad := hbad.out
      rw [hy] at x0 hbad
      replace hbl := Lib.hid hbl
      clear hy
      by_cases y1 : y < 1
      · clear hbad
        go_wp2_with fail
        exact bodyPost_ret (v := .tuple #[.pointer none, .int .i64 2]) (by simp [results, Try.results24, go_sem]) rfl ⟨rfl, hbl.out⟩
      · have y2 : 16 < y := by omega
        clear hbad
        go_wp2_with fail
        exact bodyPost_ret (v := .tuple #[.pointer none, .int .i64 2]) (by simp [results, Try.results24, go_sem]) rfl ⟨rfl, hbl.out⟩
end Go.Proofs.Ytkefkophlhcbiaa
namespace Go.Proofs.Ytkefkophlhcbiaa
open Go.ChangeShapes Go.WideShapes Go.ChangeAt Go.RowKit Go.Maps
set_option linter.unusedVariables false
set_option linter.unusedSimpArgs false
open BigFrame Pk Fq Vr Fa

namespace Fa
def headBad (s : Int) : Bool := decide (s < 0) || decide (1500 < s)
def IdxH (N : Nat) (S F : Nat → Int) (w : World) (e : Ending) (w' : World) : Prop := ∃ r : Int, e = .returned (.int .i64 r) ∧ (r < 0 ↔ ∀ i, i < N → headBad (S i) = false) ∧ Below w.heap.size w w'
end Fa

set_option maxRecDepth 100000 in
set_option maxHeartbeats 2000000 in
theorem hbad_c (s f : Int) (w : World) :
    Calls Try.prog 47 #[.agg #[.int .i64 s, .int .i64 f]] w fun e w' => e = .returned (.bool (headBad s)) ∧ w' = w.alloc (.cells #[.int .i64 s, .int .i64 f] 78) := by
  unfold headBad
  by_cases h1 : s < 0
  · go_enter Try.func47, Try.ntmps47
    go_wp2_with fail
    exact bodyPost_ret (v := .bool true) (by simp [results, Try.results47, go_sem]) rfl ⟨by simp [h1], rfl⟩
  by_cases h3 : 1500 < s
  · go_enter Try.func47, Try.ntmps47
    go_wp2_with fail
    exact bodyPost_ret (v := .bool true) (by simp [results, Try.results47, go_sem]) rfl ⟨by simp [h3], rfl⟩
  · go_enter Try.func47, Try.ntmps47
    go_wp2_with fail
    exact bodyPost_ret (v := .bool false) (by simp [results, Try.results47, go_sem]) rfl ⟨by simp [h1, h3], rfl⟩

set_option maxRecDepth 100000 in
set_option maxHeartbeats 2000000 in
theorem hidx_c (a : Option Addr) (b off N c : Nat) (S F : Nat → Int) (w : World) (T : TagsAt w a b off N S F) (hN : N ≤ 1000) :
    Calls Try.prog 55 #[.slice a N c, .func (.func 47) #[] #[]] w (IdxH N S F w) := by
  by_cases h0 : 0 < N
  · obtain rfl := T.ha h0
    have hrow : ∀ (W : World), Below w.heap.size w W → ∀ j, j < N → W.cell? ⟨b, off + j * 2, none⟩ = some (.int .i64 (S j)) ∧ W.cell? ⟨b, off + j * 2 + 1, none⟩ = some (.int .i64 (F j)) := fun W hW j hj => ⟨(T.bel hW).c0 j hj, (T.bel hW).c1 j hj⟩
    clear T
    go_enter Try.func55, Try.ntmps55
    go_wp2_with fail
    go_loopg [5, 8] N (fun gg _ s8 wr => ∃ kk : Nat, kk ≤ N ∧ N - kk ≤ gg ∧ s8 = .int .i64 kk ∧ Aside (Below w.heap.size w wr) ∧ Aside (∀ j, j < kk → headBad (S j) = false))
    case atStart => exact ⟨0, Nat.zero_le _, by omega, rfl, Below.refl _ w, fun j hj => absurd hj (Nat.not_lt_zero _)⟩
    case round =>
      obtain ⟨kk, hkk, hg, rfl, BW, A⟩ := hrel
      by_cases hlt : kk < N
      · have hltz : (kk : Int) < (N : Int) := by omega
        obtain ⟨l0, l1⟩ := hrow wr BW.out kk hlt
        have hcall := hbad_c (S kk) (F kk) wr
        have hB2 := BW.out.alloc BW.out.size (.cells #[.int .i64 (S kk), .int .i64 (F kk)] 78)
        cases hq : headBad (S kk) with
        | true =>
          rw [hq] at hcall
          go_wp2_with fail
          refine hcall.mono ?_
          rintro e w' ⟨rfl, rfl⟩
          go_wp2_with fail
          go_ret
          exact ⟨_, rfl, ⟨fun h => absurd h (by omega), fun h => by have := h kk hlt; rw [hq] at this; cases this⟩, hB2⟩
        | false =>
          rw [hq] at hcall
          go_wp2_with fail
          refine hcall.mono ?_
          rintro e w' ⟨rfl, rfl⟩
          go_wp2_with fail
          go_roundg (N - (kk + 1))
          case measure => omega
          case rel =>
            refine ⟨kk + 1, by omega, by omega, by go_num, hB2, (show Aside _ from fun j hj => ?_)⟩
            by_cases e : j = kk
            · subst e
              exact hq
            · exact A.out j (by omega)
      · have hltz : ¬ (kk : Int) < (N : Int) := by omega
        have : kk = N := by omega
        subst this
        go_wp2
        go_ret
        exact ⟨_, rfl, ⟨fun _ => A.out, fun _ => by omega⟩, BW.out⟩
  · obtain rfl : N = 0 := by omega
    clear T
    go_enter Try.func55, Try.ntmps55
    go_wp2_with fail
    go_loopg [5, 8] 0 (fun _ _ s8 wr => s8 = .int .i64 0 ∧ wr = w)
    case atStart => exact ⟨rfl, rfl⟩
    case round =>
      obtain ⟨rfl, rfl⟩ := hrel
      go_wp2
      go_ret
      exact ⟨_, rfl, ⟨fun _ j hj => absurd hj (Nat.not_lt_zero _), fun _ => by omega⟩, Below.refl _ _⟩

set_option maxRecDepth 100000 in
theorem hcontains_c (a : Option Addr) (b off N c : Nat) (S F : Nat → Int) (w : World) (T : TagsAt w a b off N S F) (hN : N ≤ 1000) :
    Calls Try.prog 46 #[.slice a N c, .func (.func 47) #[] #[]] w fun e w' => e = .returned (.bool (!decide (∀ i, i < N → headBad (S i) = false))) ∧ Below w.heap.size w w' := by
  have hc := hidx_c a b off N c S F w T hN
  clear T
  go_enter Try.func46, Try.ntmps46
  go_wp2_with (go_at_call 55; refine hc.mono ?_; rintro e w' ⟨r, rfl, hr, hb⟩)
  go_ret
  refine ⟨?_, hb⟩
  by_cases h : r < 0
  · rw [decide_eq_true (hr.1 h), decide_eq_false (by omega)]; rfl
  · rw [decide_eq_false (fun k => h (hr.2 k)), decide_eq_true (by omega)]; rfl
end Go.Proofs.Ytkefkophlhcbiaa
