/- Virtual time: Rebase. -/
import Derived.Test.YtbbcongfaoopcaaV14
import Derived.Test.YtbbcongfaoopcaaStage2
namespace Go.Proofs.Ytbbcongfaoopcaa
open Go.ChangeShapes Go.WideShapes Go.ChangeAt Go.RowKit
set_option linter.unusedVariables false
set_option linter.unusedSimpArgs false
open BigFrame Vr Pk Fq
attribute [local go_sem] max_fold25

namespace Vr
/-- Rebased by so much. -/
def reb (d : Int) (O : Nat → Int) : Nat → Int := fun i => max (O i - d) 0
def rebTo (d : Int) (O : Nat → Int) (k : Nat) : Nat → Int := fun i => if i < k then max (O i - d) 0 else O i
theorem rebTo_zero (d : Int) (O : Nat → Int) : rebTo d O 0 = O := by funext i; simp [rebTo]
theorem rebTo_succ (d : Int) (O : Nat → Int) (k : Nat) : (fun i => if i = k then max (O k - d) 0 else rebTo d O k i) = rebTo d O (k + 1) := by
  funext i
  unfold rebTo
  by_cases h : i = k
  · subst h; simp
  · by_cases h2 : i < k
    · rw [if_neg h, if_pos h2, if_pos (by omega)]
    · rw [if_neg h, if_neg h2, if_neg (by omega)]
theorem rebTo_at (d : Int) (O : Nat → Int) (k : Nat) : rebTo d O k k = O k := by simp [rebTo]
theorem rebTo_same {w : World} {a : Option Addr} {b off N : Nat} {d : Int} {S F : Nat → Int} (h : TagsAt w a b off N (rebTo d S N) (rebTo d F N)) : TagsAt w a b off N (reb d S) (reb d F) :=
  ⟨h.ha, h.hb, fun i hi => by have := h.c0 i hi; unfold rebTo at this; rw [if_pos hi] at this; exact this, fun i hi => by have := h.c1 i hi; unfold rebTo at this; rw [if_pos hi] at this; exact this⟩
def rebOk (V : Int) (N : Nat) (S F : Nat → Int) : Prop := VOk V N S F ∧ 1125899906842624 < V
end Vr

set_option maxRecDepth 100000 in
set_option maxHeartbeats 4000000 in
theorem vrebase_same (V : Int) (N : Nat) (a : Option Addr) (b off c : Nat) (S F : Nat → Int) (w : World) (T : TagsAt w a b off N S F) (hN : N ≤ 1000) (h : ¬ rebOk V N S F) :
    Calls Try.prog 32 #[.agg #[.int .i64 V, .slice a N c]] w (CopP V N S F w) := by
  have hB0 : Below w.heap.size w ((w.alloc (.cells #[.int .i64 V, .slice a N c] 50)).alloc (.cells #[.int .i64 0, .slice none 0 0] 50)) := ((Below.refl _ _).alloc (Nat.le_refl _) _).alloc (by simp) _
  have bx0 := blk_two w (.int .i64 V) (.slice a N c) (.int .i64 0) (.slice none 0 0) 50 50
  have rs0 := blk_new (w.alloc (.cells #[.int .i64 V, .slice a N c] 50)) (.int .i64 0) (.slice none 0 0) 50
  rw [World.size_alloc] at rs0
  have hszW : w.heap.size + 1 < ((w.alloc (.cells #[.int .i64 V, .slice a N c] 50)).alloc (.cells #[.int .i64 0, .slice none 0 0] 50)).heap.size := by simp
  replace T := Lib.hid T
  by_cases hv : VOk V N S F
  · have hV0 := hv.1
    have hV1 : V ≤ 1125899906842624 := Classical.byContradiction fun q => h ⟨hv, by omega⟩
    clear h
    by_cases hV2 : V = 1125899906842624
    · have hs : V >>> 50 = 1 := by rw [hV2]; rfl
      have hs2 : V / 1125899906842624 = 1 := by rw [hV2]; rfl
      have hs3 : (V == 1125899906842624) = true := by simp [hV2]
      replace hV2 := Lib.hid hV2
      go_enter Try.func32, Try.ntmps32
      go_wp2_with fail
      generalize ((w.alloc (.cells #[.int .i64 V, .slice a N c] 50)).alloc (.cells #[.int .i64 0, .slice none 0 0] 50)) = W1 at bx0 rs0 hB0 hszW ⊢
      refine (vclone_c a b off N c S F W1 (T.out.bel hB0) hN).mono ?_
      rintro e w1 ⟨a1, g1, c1, rfl, T1, hg1, hb1⟩
      have bx1 := bx0.bel hb1
      have rs1 := rs0.bel hb1
      have hB1 := bNext hB0 hb1 (Nat.le_refl _)
      have p1 := bx1.c 1 _ rfl
      have p2 := bx1.f 1
      have bx2 := bx1.set (i := 1) (by simp) (.slice a1 N c1)
      have rs2 := rs1.other (q := w.heap.size) (o := 1) (by omega) (.slice a1 N c1)
      have hB2 := hB1.setCell (p := ⟨w.heap.size, 1, none⟩) (Nat.le_refl _) (.slice a1 N c1)
      have T2 := T1.set_other (q := w.heap.size) (o := 1) (fun h0 => by have := (hg1 h0).1; omega) (.slice a1 N c1)
      have hf2 : 0 < N → ∀ o, (w1.setCell ⟨w.heap.size, 1, none⟩ (.slice a1 N c1)).frozen? ⟨g1, o, none⟩ = false := fun h0 o => (World.frozen?_setCell _ _ _ _).trans ((hg1 h0).2 o)
      have hgw : 0 < N → w.heap.size + 1 < g1 := fun h0 => by have := (hg1 h0).1; omega
      go_upto_region 2 with fail
      generalize w1.setCell ⟨w.heap.size, 1, none⟩ (.slice a1 N c1) = w2 at bx2 rs2 hB2 T2 hf2 ⊢
      clear p1 p2 bx0 rs0 hB0 bx1 rs1 hB1 T1 hg1 hb1 hszW T
      have p0 := bx2.c 0 _ rfl
      have p1 := bx2.c 1 _ rfl
      replace T2 := Lib.hid T2
      replace hf2 := Lib.hid hf2
      go_wp2_with fail
      refine (vcheck_ok V _ g1 0 N c1 S F w2 T2.out hv).mono ?_
      rintro e w3 ⟨rfl, hb3⟩
      have bx3 := bx2.bel hb3
      have rs3 := rs2.bel hb3
      have hB3 := bNext hB2 hb3 (Nat.le_refl _)
      have T3 := T2.out.bel hb3
      have hf3 : 0 < N → ∀ o, w3.frozen? ⟨g1, o, none⟩ = false := fun h0 o => (hb3.frozen (p := ⟨g1, o, none⟩) (T2.out.hb h0)).trans (hf2.out h0 o)
      clear p0 p1 bx2 rs2 hB2 T2 hf2 hb3
      have p0 := bx3.c 0 _ rfl
      have p1 := bx3.c 1 _ rfl
      replace T3 := Lib.hid T3
      replace hf3 := Lib.hid hf3
      have r0 := rs3.c 0 _ rfl
      have r1 := rs3.c 1 _ rfl
      have r2 := rs3.f 0
      have r3 := rs3.f 1
      go_wp2_with fail
      refine bodyPost_ret (v := .agg #[.int .i64 V, .slice a1 N c1]) (by simp [results, Try.results32, go_sem, r0, r1]) rfl ⟨_, g1, _, rfl, (T3.out.set_other (fun h0 => by have := hgw h0; omega) _).set_other (fun h0 => by have := hgw h0; omega) _, fun h0 => ⟨by have := hgw h0; omega, fun o => (World.frozen?_setCell _ _ _ _).trans ((World.frozen?_setCell _ _ _ _).trans (hf3.out h0 o))⟩, ?_⟩
      exact (hB3.setCell (p := ⟨w.heap.size + 1, 0, none⟩) (by show _ ≤ w.heap.size + 1; omega) _).setCell (p := ⟨w.heap.size + 1, 1, none⟩) (by show _ ≤ w.heap.size + 1; omega) _
    · have hV3 : V < 1125899906842624 := by omega
      have hs : V >>> 50 = 0 := by rw [Int.shiftRight_eq_div_pow]; exact Int.ediv_eq_zero_of_lt hV0 (by simpa using hV3)
      have hs2 : V / 1125899906842624 = 0 := Int.ediv_eq_zero_of_lt hV0 hV3
      go_enter Try.func32, Try.ntmps32
      go_wp2_with fail
      generalize ((w.alloc (.cells #[.int .i64 V, .slice a N c] 50)).alloc (.cells #[.int .i64 0, .slice none 0 0] 50)) = W1 at bx0 rs0 hB0 hszW ⊢
      refine (vclone_c a b off N c S F W1 (T.out.bel hB0) hN).mono ?_
      rintro e w1 ⟨a1, g1, c1, rfl, T1, hg1, hb1⟩
      have bx1 := bx0.bel hb1
      have rs1 := rs0.bel hb1
      have hB1 := bNext hB0 hb1 (Nat.le_refl _)
      have p1 := bx1.c 1 _ rfl
      have p2 := bx1.f 1
      have bx2 := bx1.set (i := 1) (by simp) (.slice a1 N c1)
      have rs2 := rs1.other (q := w.heap.size) (o := 1) (by omega) (.slice a1 N c1)
      have hB2 := hB1.setCell (p := ⟨w.heap.size, 1, none⟩) (Nat.le_refl _) (.slice a1 N c1)
      have T2 := T1.set_other (q := w.heap.size) (o := 1) (fun h0 => by have := (hg1 h0).1; omega) (.slice a1 N c1)
      have hf2 : 0 < N → ∀ o, (w1.setCell ⟨w.heap.size, 1, none⟩ (.slice a1 N c1)).frozen? ⟨g1, o, none⟩ = false := fun h0 o => (World.frozen?_setCell _ _ _ _).trans ((hg1 h0).2 o)
      have hgw : 0 < N → w.heap.size + 1 < g1 := fun h0 => by have := (hg1 h0).1; omega
      go_upto_region 2 with fail
      generalize w1.setCell ⟨w.heap.size, 1, none⟩ (.slice a1 N c1) = w2 at bx2 rs2 hB2 T2 hf2 ⊢
      clear p1 p2 bx0 rs0 hB0 bx1 rs1 hB1 T1 hg1 hb1 hszW T
      have p0 := bx2.c 0 _ rfl
      have p1 := bx2.c 1 _ rfl
      replace T2 := Lib.hid T2
      replace hf2 := Lib.hid hf2
      go_wp2_with fail
      refine (vcheck_ok V _ g1 0 N c1 S F w2 T2.out hv).mono ?_
      rintro e w3 ⟨rfl, hb3⟩
      have bx3 := bx2.bel hb3
      have rs3 := rs2.bel hb3
      have hB3 := bNext hB2 hb3 (Nat.le_refl _)
      have T3 := T2.out.bel hb3
      have hf3 : 0 < N → ∀ o, w3.frozen? ⟨g1, o, none⟩ = false := fun h0 o => (hb3.frozen (p := ⟨g1, o, none⟩) (T2.out.hb h0)).trans (hf2.out h0 o)
      clear p0 p1 bx2 rs2 hB2 T2 hf2 hb3
      have p0 := bx3.c 0 _ rfl
      have p1 := bx3.c 1 _ rfl
      replace T3 := Lib.hid T3
      replace hf3 := Lib.hid hf3
      have r0 := rs3.c 0 _ rfl
      have r1 := rs3.c 1 _ rfl
      have r2 := rs3.f 0
      have r3 := rs3.f 1
      go_wp2_with fail
      refine bodyPost_ret (v := .agg #[.int .i64 V, .slice a1 N c1]) (by simp [results, Try.results32, go_sem, r0, r1]) rfl ⟨_, g1, _, rfl, (T3.out.set_other (fun h0 => by have := hgw h0; omega) _).set_other (fun h0 => by have := hgw h0; omega) _, fun h0 => ⟨by have := hgw h0; omega, fun o => (World.frozen?_setCell _ _ _ _).trans ((World.frozen?_setCell _ _ _ _).trans (hf3.out h0 o))⟩, ?_⟩
      exact (hB3.setCell (p := ⟨w.heap.size + 1, 0, none⟩) (by show _ ≤ w.heap.size + 1; omega) _).setCell (p := ⟨w.heap.size + 1, 1, none⟩) (by show _ ≤ w.heap.size + 1; omega) _
  · clear h
    go_enter Try.func32, Try.ntmps32
    go_wp2_with fail
    generalize ((w.alloc (.cells #[.int .i64 V, .slice a N c] 50)).alloc (.cells #[.int .i64 0, .slice none 0 0] 50)) = W1 at bx0 rs0 hB0 hszW ⊢
    refine (vclone_c a b off N c S F W1 (T.out.bel hB0) hN).mono ?_
    rintro e w1 ⟨a1, g1, c1, rfl, T1, hg1, hb1⟩
    have bx1 := bx0.bel hb1
    have rs1 := rs0.bel hb1
    have hB1 := bNext hB0 hb1 (Nat.le_refl _)
    have p1 := bx1.c 1 _ rfl
    have p2 := bx1.f 1
    have bx2 := bx1.set (i := 1) (by simp) (.slice a1 N c1)
    have rs2 := rs1.other (q := w.heap.size) (o := 1) (by omega) (.slice a1 N c1)
    have hB2 := hB1.setCell (p := ⟨w.heap.size, 1, none⟩) (Nat.le_refl _) (.slice a1 N c1)
    have T2 := T1.set_other (q := w.heap.size) (o := 1) (fun h0 => by have := (hg1 h0).1; omega) (.slice a1 N c1)
    have hf2 : 0 < N → ∀ o, (w1.setCell ⟨w.heap.size, 1, none⟩ (.slice a1 N c1)).frozen? ⟨g1, o, none⟩ = false := fun h0 o => (World.frozen?_setCell _ _ _ _).trans ((hg1 h0).2 o)
    have hgw : 0 < N → w.heap.size + 1 < g1 := fun h0 => by have := (hg1 h0).1; omega
    go_upto_region 2 with fail
    generalize w1.setCell ⟨w.heap.size, 1, none⟩ (.slice a1 N c1) = w2 at bx2 rs2 hB2 T2 hf2 ⊢
    clear p1 p2 bx0 rs0 hB0 bx1 rs1 hB1 T1 hg1 hb1 hszW T
    have p0 := bx2.c 0 _ rfl
    have p1 := bx2.c 1 _ rfl
    replace T2 := Lib.hid T2
    replace hf2 := Lib.hid hf2
    go_wp2_with fail
    refine (vcheck_no V _ g1 0 N c1 S F w2 T2.out hN hv).mono ?_
    rintro e w3 ⟨rfl, hb3⟩
    have bx3 := bx2.bel hb3
    have rs3 := rs2.bel hb3
    have hB3 := bNext hB2 hb3 (Nat.le_refl _)
    have T3 := T2.out.bel hb3
    have hf3 : 0 < N → ∀ o, w3.frozen? ⟨g1, o, none⟩ = false := fun h0 o => (hb3.frozen (p := ⟨g1, o, none⟩) (T2.out.hb h0)).trans (hf2.out h0 o)
    clear p0 p1 bx2 rs2 hB2 T2 hf2 hb3
    have p0 := bx3.c 0 _ rfl
    have p1 := bx3.c 1 _ rfl
    replace T3 := Lib.hid T3
    replace hf3 := Lib.hid hf3
    have r0 := rs3.c 0 _ rfl
    have r1 := rs3.c 1 _ rfl
    have r2 := rs3.f 0
    have r3 := rs3.f 1
    go_wp2_with fail
    refine bodyPost_ret (v := .agg #[.int .i64 V, .slice a1 N c1]) (by simp [results, Try.results32, go_sem, r0, r1]) rfl ⟨_, g1, _, rfl, (T3.out.set_other (fun h0 => by have := hgw h0; omega) _).set_other (fun h0 => by have := hgw h0; omega) _, fun h0 => ⟨by have := hgw h0; omega, fun o => (World.frozen?_setCell _ _ _ _).trans ((World.frozen?_setCell _ _ _ _).trans (hf3.out h0 o))⟩, ?_⟩
    exact (hB3.setCell (p := ⟨w.heap.size + 1, 0, none⟩) (by show _ ≤ w.heap.size + 1; omega) _).setCell (p := ⟨w.heap.size + 1, 1, none⟩) (by show _ ≤ w.heap.size + 1; omega) _

set_option maxRecDepth 100000 in
set_option maxHeartbeats 4000000 in
theorem vrebase_yes (V : Int) (N : Nat) (a : Option Addr) (b off c : Nat) (S F : Nat → Int) (w : World) (T : TagsAt w a b off N S F) (hN : N ≤ 1000) (h : rebOk V N S F) :
    Calls Try.prog 32 #[.agg #[.int .i64 V, .slice a N c]] w (CopP 1099511627776 N (reb (V - 1099511627776) S) (reb (V - 1099511627776) F) w) := by
  have hB0 : Below w.heap.size w ((w.alloc (.cells #[.int .i64 V, .slice a N c] 50)).alloc (.cells #[.int .i64 0, .slice none 0 0] 50)) := ((Below.refl _ _).alloc (Nat.le_refl _) _).alloc (by simp) _
  have bx0 := blk_two w (.int .i64 V) (.slice a N c) (.int .i64 0) (.slice none 0 0) 50 50
  have rs0 := blk_new (w.alloc (.cells #[.int .i64 V, .slice a N c] 50)) (.int .i64 0) (.slice none 0 0) 50
  rw [World.size_alloc] at rs0
  have hszW : w.heap.size + 1 < ((w.alloc (.cells #[.int .i64 V, .slice a N c] 50)).alloc (.cells #[.int .i64 0, .slice none 0 0] 50)).heap.size := by simp
  replace T := Lib.hid T
  obtain ⟨hv, hV1⟩ := h
  have hV2 := hv.2.1
  have hN8 := hv.2.2.1
  have hSF := hv.2.2.2
  have hs : (V >>> 50 == 0) = false := by
    rw [Int.shiftRight_eq_div_pow]
    have : ¬ V / (2 ^ 50 : Nat) = 0 := by omega
    simpa using this
  have hs2 : (V / 1125899906842624 == 0) = false := by
    have : ¬ V / 1125899906842624 = 0 := by omega
    simpa using this
  have hs3 : (V == 1125899906842624) = false := by simp; omega
  replace hSF := Lib.hid hSF
  go_enter Try.func32, Try.ntmps32
  go_wp2_with fail
  generalize ((w.alloc (.cells #[.int .i64 V, .slice a N c] 50)).alloc (.cells #[.int .i64 0, .slice none 0 0] 50)) = W1 at bx0 rs0 hB0 hszW ⊢
  refine (vclone_c a b off N c S F W1 (T.out.bel hB0) hN).mono ?_
  rintro e w1 ⟨a1, g1, c1, rfl, T1, hg1, hb1⟩
  have bx1 := bx0.bel hb1
  have rs1 := rs0.bel hb1
  have hB1 := bNext hB0 hb1 (Nat.le_refl _)
  have p1 := bx1.c 1 _ rfl
  have p2 := bx1.f 1
  have bx2 := bx1.set (i := 1) (by simp) (.slice a1 N c1)
  have rs2 := rs1.other (q := w.heap.size) (o := 1) (by omega) (.slice a1 N c1)
  have hB2 := hB1.setCell (p := ⟨w.heap.size, 1, none⟩) (Nat.le_refl _) (.slice a1 N c1)
  have T2 := T1.set_other (q := w.heap.size) (o := 1) (fun h0 => by have := (hg1 h0).1; omega) (.slice a1 N c1)
  have hf2 : 0 < N → ∀ o, (w1.setCell ⟨w.heap.size, 1, none⟩ (.slice a1 N c1)).frozen? ⟨g1, o, none⟩ = false := fun h0 o => (World.frozen?_setCell _ _ _ _).trans ((hg1 h0).2 o)
  have hgw : 0 < N → w.heap.size + 1 < g1 := fun h0 => by have := (hg1 h0).1; omega
  go_upto_region 2 with fail
  generalize w1.setCell ⟨w.heap.size, 1, none⟩ (.slice a1 N c1) = w2 at bx2 rs2 hB2 T2 hf2 ⊢
  clear p1 p2 bx0 rs0 hB0 bx1 rs1 hB1 T1 hg1 hb1 hszW T
  have p0 := bx2.c 0 _ rfl
  have p1 := bx2.c 1 _ rfl
  replace T2 := Lib.hid T2
  replace hf2 := Lib.hid hf2
  go_wp2_with fail
  refine (vcheck_ok V _ g1 0 N c1 S F w2 T2.out hv).mono ?_
  rintro e w3 ⟨rfl, hb3⟩
  have bx3 := bx2.bel hb3
  have rs3 := rs2.bel hb3
  have hB3 := bNext hB2 hb3 (Nat.le_refl _)
  have T3 := T2.out.bel hb3
  have hf3 : 0 < N → ∀ o, w3.frozen? ⟨g1, o, none⟩ = false := fun h0 o => (hb3.frozen (p := ⟨g1, o, none⟩) (T2.out.hb h0)).trans (hf2.out h0 o)
  clear p0 p1 bx2 rs2 hB2 T2 hf2 hb3
  have p0 := bx3.c 0 _ rfl
  have p1 := bx3.c 1 _ rfl
  replace T3 := Lib.hid T3
  replace hf3 := Lib.hid hf3
  obtain ⟨d, hd⟩ : ∃ d, V - 1099511627776 = d := ⟨_, rfl⟩
  have hd0 : 0 ≤ d := by omega
  have hd1 : d ≤ 1152921504606846976 := by omega
  replace hd := Lib.hid hd
  have p2 := bx3.f 0
  have bx4 := bx3.set (i := 0) (by simp) (.int .i64 1099511627776)
  have rs4 := rs3.other (q := w.heap.size) (o := 0) (by omega) (.int .i64 1099511627776)
  have hB4 := hB3.setCell (p := ⟨w.heap.size, 0, none⟩) (Nat.le_refl _) (.int .i64 1099511627776)
  have T4 := T3.out.set_other (q := w.heap.size) (o := 0) (fun h0 => by have := hgw h0; omega) (.int .i64 1099511627776)
  have hf4 : 0 < N → ∀ o, (w3.setCell ⟨w.heap.size, 0, none⟩ (.int .i64 1099511627776)).frozen? ⟨g1, o, none⟩ = false := fun h0 o => (World.frozen?_setCell _ _ _ _).trans (hf3.out h0 o)
  clear hv
  go_upto_region 6 with fail
  rw [hd.out]
  generalize w3.setCell ⟨w.heap.size, 0, none⟩ (.int .i64 1099511627776) = w4 at bx4 rs4 hB4 T4 hf4 ⊢
  clear p0 p1 p2 bx3 rs3 hB3 T3 hf3 hs hs2 hs3
  replace T4 := Lib.hid T4
  replace hf4 := Lib.hid hf4
  replace bx4 := Lib.hid bx4
  replace rs4 := Lib.hid rs4
  have p1 := bx4.out.c 1 _ rfl
  go_wp2_with fail
  clear p1
  go_loopw [4, 5, 32] (fun _ _ s32 wr => ∃ kk : Nat, kk ≤ N ∧ s32 = .int .i64 (kk : Nat) ∧ TagsAt wr a1 g1 0 N (rebTo d S kk) (rebTo d F kk) ∧ (0 < N → ∀ o, wr.frozen? ⟨g1, o, none⟩ = false) ∧ Blk wr w.heap.size [.int .i64 1099511627776, .slice a1 N c1] ∧ Blk wr (w.heap.size + 1) [.int .i64 0, .slice none 0 0] ∧ Below w.heap.size w wr) (fun _ _ s32 _ => N - (intOf s32).toNat)
  case atStart => exact ⟨0, Nat.zero_le _, rfl, by rw [rebTo_zero, rebTo_zero]; exact T4.out, hf4.out, bx4.out, rs4.out, hB4⟩
  case round =>
    obtain ⟨kk, hkk, rfl, Tr, hfr, bx, rs, hB⟩ := hrel
    clear hB4
    have p1 := bx.c 1 _ rfl
    by_cases hlt : kk < N
    · have hltz : (kk : Int) < (N : Int) := by omega
      obtain rfl := Tr.ha (by omega)
      have hgw' := hgw (by omega)
      have x0 := Tr.c0 kk hlt
      have x1 := Tr.c1 kk hlt
      rw [Nat.zero_add, rebTo_at] at x0 x1
      obtain ⟨s1, s2, s3⟩ := hSF.out kk hlt
      have hT9 := (((Tr.bel (Below.refl wr.heap.size wr).drew).set_start kk hlt (max (S kk - d) 0)).set_finish kk hlt (max (F kk - d) 0))
      rw [Nat.zero_add, rebTo_succ, rebTo_succ] at hT9
      replace hT9 := Lib.hid hT9
      replace Tr := Lib.hid Tr
      have f0 := hfr (by omega) (kk * 2)
      have f1 := hfr (by omega) (kk * 2 + 1)
      replace hfr := Lib.hid hfr
      replace bx := Lib.hid bx
      replace rs := Lib.hid rs
      go_upto_region 10 with fail
      refine wp_region_noPanic ?_
      refine Stg.wp_region_L [18, 21] (Vr.SB wr) (by kernel_rfl) (fun _ => (Below.refl _ _).drew) (fun hHeld => ?_)
      refine Stg.wpAnyL_start (n' := 22) (l' := #[false, false, false, false, false, false, false, false, false, false, false, false, false, false, false, false, false, false, false, false, false, false]) (by kernel_rfl) (by kernel_rfl) ?_
      refine Stg.wpAnyL_free (i := 0) (v := ?_) 0 rfl (by kernel_rfl) (by kernel_rfl) (by kernel_rfl) (by kernel_rfl) (by kernel_rfl) (fun _ _ _ h => h) (Or.inl ⟨by kernel_rfl, ?_⟩) (by assumption) ?_
      rotate_left
      · intro u _
        try simp only [List.getElem_toArray, List.getElem_cons_succ, List.getElem_cons_zero]
        go_simp
        try with_reducible rfl
      try simp only [Act.put, List.setIfInBounds_toArray, List.set_cons_zero, List.set_cons_succ]
      refine Stg.wpAnyL_free (i := 1) (v := ?_) 0 rfl (by kernel_rfl) (by kernel_rfl) (by kernel_rfl) (by kernel_rfl) (by kernel_rfl) (fun _ _ _ h => h) (Or.inl ⟨by kernel_rfl, ?_⟩) (by assumption) ?_
      rotate_left
      · intro u _
        try simp only [List.getElem_toArray, List.getElem_cons_succ, List.getElem_cons_zero]
        go_simp
        try with_reducible rfl
      try simp only [Act.put, List.setIfInBounds_toArray, List.set_cons_zero, List.set_cons_succ]
      refine Stg.wpAnyL_free (i := 2) (v := ?_) 0 rfl (by kernel_rfl) (by kernel_rfl) (by kernel_rfl) (by kernel_rfl) (by kernel_rfl) (fun _ _ _ h => h) (Or.inl ⟨by kernel_rfl, ?_⟩) (by assumption) ?_
      rotate_left
      · intro u _
        try simp only [List.getElem_toArray, List.getElem_cons_succ, List.getElem_cons_zero]
        go_simp
        try with_reducible rfl
      try simp only [Act.put, List.setIfInBounds_toArray, List.set_cons_zero, List.set_cons_succ]
      refine Stg.wpAnyL_start (n' := 19) (l' := #[true, true, true, false, false, false, false, false, false, false, false, false, false, false, false, false, false, false, false, false, false, false]) (by kernel_rfl) (by kernel_rfl) ?_
      refine Stg.wpAnyL_free (i := 3) (v := ?_) 0 rfl (by kernel_rfl) (by kernel_rfl) (by kernel_rfl) (by kernel_rfl) (by kernel_rfl) (fun _ _ _ h => h) (Or.inl ⟨by kernel_rfl, ?_⟩) (by assumption) ?_
      rotate_left
      · intro u _
        try simp only [List.getElem_toArray, List.getElem_cons_succ, List.getElem_cons_zero]
        go_simp
        try with_reducible rfl
      try simp only [Act.put, List.setIfInBounds_toArray, List.set_cons_zero, List.set_cons_succ]
      refine Stg.wpAnyL_free (i := 4) (v := ?_) 0 rfl (by kernel_rfl) (by kernel_rfl) (by kernel_rfl) (by kernel_rfl) (by kernel_rfl) (fun _ _ _ h => h) (Or.inl ⟨by kernel_rfl, ?_⟩) (by assumption) ?_
      rotate_left
      · intro u _
        try simp only [List.getElem_toArray, List.getElem_cons_succ, List.getElem_cons_zero]
        go_simp
        try with_reducible rfl
      try simp only [Act.put, List.setIfInBounds_toArray, List.set_cons_zero, List.set_cons_succ]
      refine Stg.wpAnyL_take (i := 5) (v := ?_) [7, 8, 16, 17, 18, 19, 20, 21] 0 rfl (by kernel_rfl) (by kernel_rfl) (by kernel_rfl) (by kernel_rfl) (by kernel_rfl) (fun _ _ _ h => h) (Or.inl ⟨by kernel_rfl, ?_⟩) (by assumption) ?_
      rotate_left
      · intro u hSu
        skip
        have sB := hSu rfl
        have y0 := cellB sB x0
        have y1 := cellB sB x1
        try simp only [List.getElem_toArray, List.getElem_cons_succ, List.getElem_cons_zero]
        go_simp
        try with_reducible rfl
      try simp only [Act.put, List.setIfInBounds_toArray, List.set_cons_zero, List.set_cons_succ]
      refine Stg.wpAnyL_start (n' := 16) (l' := #[true, true, true, true, true, true, false, false, false, false, false, false, false, false, false, false, false, false, false, false, false, false]) (by kernel_rfl) (by kernel_rfl) ?_
      refine Stg.wpAnyL_free (i := 6) (v := ?_) 0 rfl (by kernel_rfl) (by kernel_rfl) (by kernel_rfl) (by kernel_rfl) (by kernel_rfl) (fun _ _ _ h => h) (Or.inl ⟨by kernel_rfl, ?_⟩) (by assumption) ?_
      rotate_left
      · intro u _
        try simp only [List.getElem_toArray, List.getElem_cons_succ, List.getElem_cons_zero]
        go_simp
        try with_reducible rfl
      try simp only [Act.put, List.setIfInBounds_toArray, List.set_cons_zero, List.set_cons_succ]
      refine Stg.wpAnyL_free (i := 7) (v := ?_) 0 rfl (by kernel_rfl) (by kernel_rfl) (by kernel_rfl) (by kernel_rfl) (by kernel_rfl) (fun _ _ _ h => h) (Or.inl ⟨by kernel_rfl, ?_⟩) (by assumption) ?_
      rotate_left
      · intro u _
        try simp only [List.getElem_toArray, List.getElem_cons_succ, List.getElem_cons_zero]
        go_simp
        try with_reducible rfl
      try simp only [Act.put, List.setIfInBounds_toArray, List.set_cons_zero, List.set_cons_succ]
      refine Stg.wpAnyL_free (i := 8) (v := ?_) 0 rfl (by kernel_rfl) (by kernel_rfl) (by kernel_rfl) (by kernel_rfl) (by kernel_rfl) (fun _ _ _ h => h) (Or.inl ⟨by kernel_rfl, ?_⟩) (by assumption) ?_
      rotate_left
      · intro u _
        try simp only [List.getElem_toArray, List.getElem_cons_succ, List.getElem_cons_zero]
        go_simp
        try with_reducible rfl
      try simp only [Act.put, List.setIfInBounds_toArray, List.set_cons_zero, List.set_cons_succ]
      refine Stg.wpAnyL_start (n' := 13) (l' := #[true, true, true, true, true, true, true, true, true, false, false, false, false, false, false, false, false, false, false, false, false, false]) (by kernel_rfl) (by kernel_rfl) ?_
      refine Stg.wpAnyL_free (i := 9) (v := ?_) 0 rfl (by kernel_rfl) (by kernel_rfl) (by kernel_rfl) (by kernel_rfl) (by kernel_rfl) (fun _ _ _ h => h) (Or.inl ⟨by kernel_rfl, ?_⟩) (by assumption) ?_
      rotate_left
      · intro u _
        try simp only [List.getElem_toArray, List.getElem_cons_succ, List.getElem_cons_zero]
        go_simp
        try with_reducible rfl
      try simp only [Act.put, List.setIfInBounds_toArray, List.set_cons_zero, List.set_cons_succ]
      refine Stg.wpAnyL_free (i := 10) (v := ?_) 0 rfl (by kernel_rfl) (by kernel_rfl) (by kernel_rfl) (by kernel_rfl) (by kernel_rfl) (fun _ _ _ h => h) (Or.inl ⟨by kernel_rfl, ?_⟩) (by assumption) ?_
      rotate_left
      · intro u _
        try simp only [List.getElem_toArray, List.getElem_cons_succ, List.getElem_cons_zero]
        go_simp
        try with_reducible rfl
      try simp only [Act.put, List.setIfInBounds_toArray, List.set_cons_zero, List.set_cons_succ]
      refine Stg.wpAnyL_free (i := 11) (v := ?_) 0 rfl (by kernel_rfl) (by kernel_rfl) (by kernel_rfl) (by kernel_rfl) (by kernel_rfl) (fun _ _ _ h => h) (Or.inl ⟨by kernel_rfl, ?_⟩) (by assumption) ?_
      rotate_left
      · intro u _
        try simp only [List.getElem_toArray, List.getElem_cons_succ, List.getElem_cons_zero]
        go_simp
        try with_reducible rfl
      try simp only [Act.put, List.setIfInBounds_toArray, List.set_cons_zero, List.set_cons_succ]
      refine Stg.wpAnyL_start (n' := 10) (l' := #[true, true, true, true, true, true, true, true, true, true, true, true, false, false, false, false, false, false, false, false, false, false]) (by kernel_rfl) (by kernel_rfl) ?_
      refine Stg.wpAnyL_take (i := 12) (v := ?_) [14, 15, 16, 17, 18, 19, 20, 21] 0 rfl (by kernel_rfl) (by kernel_rfl) (by kernel_rfl) (by kernel_rfl) (by kernel_rfl) (fun _ _ _ h => h) (Or.inl ⟨by kernel_rfl, ?_⟩) (by assumption) ?_
      rotate_left
      · intro u hSu
        skip
        have sB := hSu rfl
        have y0 := cellB sB x0
        have y1 := cellB sB x1
        try simp only [List.getElem_toArray, List.getElem_cons_succ, List.getElem_cons_zero]
        go_simp
        try with_reducible rfl
      try simp only [Act.put, List.setIfInBounds_toArray, List.set_cons_zero, List.set_cons_succ]
      refine Stg.wpAnyL_free (i := 13) (v := ?_) 0 rfl (by kernel_rfl) (by kernel_rfl) (by kernel_rfl) (by kernel_rfl) (by kernel_rfl) (fun _ _ _ h => h) (Or.inl ⟨by kernel_rfl, ?_⟩) (by assumption) ?_
      rotate_left
      · intro u _
        try simp only [List.getElem_toArray, List.getElem_cons_succ, List.getElem_cons_zero]
        go_simp
        try with_reducible rfl
      try simp only [Act.put, List.setIfInBounds_toArray, List.set_cons_zero, List.set_cons_succ]
      refine Stg.wpAnyL_free (i := 14) (v := ?_) 0 rfl (by kernel_rfl) (by kernel_rfl) (by kernel_rfl) (by kernel_rfl) (by kernel_rfl) (fun _ _ _ h => h) (Or.inl ⟨by kernel_rfl, ?_⟩) (by assumption) ?_
      rotate_left
      · intro u _
        try simp only [List.getElem_toArray, List.getElem_cons_succ, List.getElem_cons_zero]
        go_simp
        try with_reducible rfl
      try simp only [Act.put, List.setIfInBounds_toArray, List.set_cons_zero, List.set_cons_succ]
      refine Stg.wpAnyL_start (n' := 7) (l' := #[true, true, true, true, true, true, true, true, true, true, true, true, true, true, true, false, false, false, false, false, false, false]) (by kernel_rfl) (by kernel_rfl) ?_
      refine Stg.wpAnyL_free (i := 15) (v := ?_) 0 rfl (by kernel_rfl) (by kernel_rfl) (by kernel_rfl) (by kernel_rfl) (by kernel_rfl) (fun _ _ _ h => h) (Or.inl ⟨by kernel_rfl, ?_⟩) (by assumption) ?_
      rotate_left
      · intro u _
        try simp only [List.getElem_toArray, List.getElem_cons_succ, List.getElem_cons_zero]
        go_simp
        try with_reducible rfl
      try simp only [Act.put, List.setIfInBounds_toArray, List.set_cons_zero, List.set_cons_succ]
      refine Stg.wpAnyL_free (i := 16) (v := ?_) 0 rfl (by kernel_rfl) (by kernel_rfl) (by kernel_rfl) (by kernel_rfl) (by kernel_rfl) (fun _ _ _ h => h) (Or.inl ⟨by kernel_rfl, ?_⟩) (by assumption) ?_
      rotate_left
      · intro u _
        try simp only [List.getElem_toArray, List.getElem_cons_succ, List.getElem_cons_zero]
        go_simp
        try with_reducible rfl
      try simp only [Act.put, List.setIfInBounds_toArray, List.set_cons_zero, List.set_cons_succ]
      refine Stg.wpAnyL_free (i := 17) (v := ?_) 0 rfl (by kernel_rfl) (by kernel_rfl) (by kernel_rfl) (by kernel_rfl) (by kernel_rfl) (fun _ _ _ h => h) (Or.inl ⟨by kernel_rfl, ?_⟩) (by assumption) ?_
      rotate_left
      · intro u _
        try simp only [List.getElem_toArray, List.getElem_cons_succ, List.getElem_cons_zero]
        go_simp
        try with_reducible rfl
      try simp only [Act.put, List.setIfInBounds_toArray, List.set_cons_zero, List.set_cons_succ]
      refine Stg.wpAnyL_start (n' := 4) (l' := #[true, true, true, true, true, true, true, true, true, true, true, true, true, true, true, true, true, true, false, false, false, false]) (by kernel_rfl) (by kernel_rfl) ?_
      refine Stg.wpAnyL_one (i := 18) 1 rfl (by kernel_rfl) (by kernel_rfl) (fun K hK => ?_)
      have y0 := cellB (hHeld rfl) x0
      have y1 := cellB (hHeld rfl) x1
      have z0 := ((hHeld rfl).frozen (p := ⟨g1, kk * 2, none⟩) (Tr.out.hb (by omega))).trans f0
      have z1 := ((hHeld rfl).frozen (p := ⟨g1, kk * 2 + 1, none⟩) (Tr.out.hb (by omega))).trans f1
      try simp only [List.getElem_toArray, List.getElem_cons_succ, List.getElem_cons_zero]
      go_simp
      refine hK.out _ _ ?_ (fun hHeld1 => ?_)
      · exact fun h => absurd h (by decide)
      clear hK K
      try simp only [Act.put, List.setIfInBounds_toArray, List.set_cons_zero, List.set_cons_succ]
      refine Stg.wpAnyL_free (i := 19) (v := ?_) 1 rfl (by kernel_rfl) (by kernel_rfl) (by kernel_rfl) (by kernel_rfl) (by kernel_rfl) (fun _ _ _ h => h) (Or.inl ⟨by kernel_rfl, ?_⟩) (by assumption) ?_
      rotate_left
      · intro u _
        try simp only [List.getElem_toArray, List.getElem_cons_succ, List.getElem_cons_zero]
        go_simp
        try with_reducible rfl
      try simp only [Act.put, List.setIfInBounds_toArray, List.set_cons_zero, List.set_cons_succ]
      refine Stg.wpAnyL_free (i := 20) (v := ?_) 1 rfl (by kernel_rfl) (by kernel_rfl) (by kernel_rfl) (by kernel_rfl) (by kernel_rfl) (fun _ _ _ h => h) (Or.inl ⟨by kernel_rfl, ?_⟩) (by assumption) ?_
      rotate_left
      · intro u _
        try simp only [List.getElem_toArray, List.getElem_cons_succ, List.getElem_cons_zero]
        go_simp
        try with_reducible rfl
      try simp only [Act.put, List.setIfInBounds_toArray, List.set_cons_zero, List.set_cons_succ]
      refine Stg.wpAnyL_start (n' := 1) (l' := #[true, true, true, true, true, true, true, true, true, true, true, true, true, true, true, true, true, true, true, true, true, false]) (by kernel_rfl) (by kernel_rfl) ?_
      refine Stg.wpAnyL_one (i := 21) 2 rfl (by kernel_rfl) (by kernel_rfl) (fun K hK => ?_)
      try simp only [List.getElem_toArray, List.getElem_cons_succ, List.getElem_cons_zero]
      go_simp
      refine hK.out _ _ ?_ (fun hHeld2 => ?_)
      · exact fun h => absurd h (by decide)
      clear hK K
      try simp only [Act.put, List.setIfInBounds_toArray, List.set_cons_zero, List.set_cons_succ]
      refine Stg.wpAnyL_done (by kernel_rfl) ?_ _
      try simp only [List.getElem_toArray, List.getElem_cons_succ, List.getElem_cons_zero]
      try simp only [Act.put, List.setIfInBounds_toArray, List.set_cons_zero, List.set_cons_succ]
      refine NoPanic.normal ?_
      have hd9 := (Below.refl wr.heap.size wr).drew
      have bx9 := ((bx.out.bel hd9).other (q := g1) (o := kk * 2) (by omega) (.int .i64 (max (S kk - d) 0))).other (q := g1) (o := kk * 2 + 1) (by omega) (.int .i64 (max (F kk - d) 0))
      have rs9 := ((rs.out.bel hd9).other (q := g1) (o := kk * 2) (by omega) (.int .i64 (max (S kk - d) 0))).other (q := g1) (o := kk * 2 + 1) (by omega) (.int .i64 (max (F kk - d) 0))
      have hB9 := ((bNext hB hd9 (Nat.le_refl _)).setCell (p := ⟨g1, kk * 2, none⟩) (by show _ ≤ g1; omega) (.int .i64 (max (S kk - d) 0))).setCell (p := ⟨g1, kk * 2 + 1, none⟩) (by show _ ≤ g1; omega) (.int .i64 (max (F kk - d) 0))
      have hf9 : 0 < N → ∀ o, ((wr.drew.setCell ⟨g1, kk * 2, none⟩ (.int .i64 (max (S kk - d) 0))).setCell ⟨g1, kk * 2 + 1, none⟩ (.int .i64 (max (F kk - d) 0))).frozen? ⟨g1, o, none⟩ = false := fun h0 o => (World.frozen?_setCell _ _ _ _).trans ((World.frozen?_setCell _ _ _ _).trans ((hd9.frozen (p := ⟨g1, o, none⟩) (Tr.out.hb h0)).trans (hfr.out h0 o)))
      go_wp2_with fail
      go_roundw
      case rel => exact ⟨kk + 1, by omega, by go_num, hT9.out, hf9, bx9, rs9, hB9⟩
      case measure => simp [intOf]; omega
    · have hltz : ¬ (kk : Int) < (N : Int) := by omega
      obtain rfl : kk = N := by omega
      have T9 := rebTo_same Tr
      rw [← hd.out] at T9
      clear Tr
      have p0 := bx.c 0 _ rfl
      have r0 := rs.c 0 _ rfl
      have r1 := rs.c 1 _ rfl
      have r2 := rs.f 0
      have r3 := rs.f 1
      replace T9 := Lib.hid T9
      replace hfr := Lib.hid hfr
      replace bx := Lib.hid bx
      replace rs := Lib.hid rs
      go_wp2_with fail
      refine bodyPost_ret (v := .agg #[.int .i64 1099511627776, .slice a1 kk c1]) (by simp [results, Try.results32, go_sem, r0, r1]) rfl ⟨_, g1, _, rfl, (T9.out.set_other (q := w.heap.size + 1) (o := 0) (fun h0 => by have := hgw h0; omega) (.int .i64 1099511627776)).set_other (q := w.heap.size + 1) (o := 1) (fun h0 => by have := hgw h0; omega) (.slice a1 kk c1), fun h0 => ⟨by have := hgw h0; omega, fun o => (World.frozen?_setCell _ _ _ _).trans ((World.frozen?_setCell _ _ _ _).trans (hfr.out h0 o))⟩, ?_⟩
      exact (hB.setCell (p := ⟨w.heap.size + 1, 0, none⟩) (by show _ ≤ w.heap.size + 1; omega) _).setCell (p := ⟨w.heap.size + 1, 1, none⟩) (by show _ ≤ w.heap.size + 1; omega) _
end Go.Proofs.Ytbbcongfaoopcaa
