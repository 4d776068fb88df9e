/- The reference's Rebase and New. -/
import Derived.Test.YtbbcongfaoopcaaV16
namespace Go.Proofs.Ytbbcongfaoopcaa
open Go.ChangeShapes Go.WideShapes Go.ChangeAt Go.RowKit
set_option linter.unusedVariables false
set_option linter.unusedSimpArgs false
open BigFrame Vr Pk Fq
attribute [local go_sem] max_fold25

set_option maxRecDepth 100000 in
set_option maxHeartbeats 2000000 in
theorem rnew_ok (n : Nat) (w : World) (h1 : 1 ≤ n) (h2 : n ≤ 8) :
    Calls Try.prog 24 #[.int .i64 (n : Nat)] w (VirP 0 n (fun _ => 0) (fun _ => 0) 0 w) := by
  obtain ⟨i0, hi0, hz0, hz1, hz2⟩ := info_parts info_tags
  have k1 : ¬ (n : Int) < 1 := by omega
  have k2 : ¬ (8 : Int) < (n : Int) := by omega
  have hB0 : Below w.heap.size w (w.alloc (.cells #[.int .i64 0, .slice none 0 0] 50)) := (Below.refl _ _).alloc (Nat.le_refl _) _
  go_enter Try.func24, Try.ntmps24
  go_wp2_with (at_make; refine wpList_make_full _ rfl _ _ 48 rfl (w.heap.size + 1) 78 i0 _ 2 Try.underlying48 hi0 hz0 hz1 .i64 .i64 _ _ n rfl rfl rfl rfl (by rw [hz2]; omega) (by unfold maxLen; omega) (by simp) ?_; intro w3 hown3 hgrow3; have KK := hgrow3.block w.heap.size (by simp) (by simp); have x0 : w3.cell? ⟨w.heap.size, 0, none⟩ = some (.int .i64 0) := (World.cell?_of_block KK).trans (by go_simp); have x1 : w3.cell? ⟨w.heap.size, 1, none⟩ = some (.slice none 0 0) := (World.cell?_of_block KK).trans (by go_simp); have f0 : ∀ o, w3.frozen? ⟨w.heap.size, o, none⟩ = false := (fun o => (World.frozen?_of_block KK).trans (by go_simp)); clear KK)
  have hsz0 : (w.alloc (.cells #[.int .i64 0, .slice none 0 0] 50)).heap.size = w.heap.size + 1 := by simp
  rw [hsz0] at hown3
  have hs3 := hgrow3.size
  have hl3 := (hown3.lt (w.heap.size + 1) rfl).2
  have hB3 : Below w.heap.size w w3 := hB0.grown hgrow3 (by simp) (fun k hk => by cases hk)
  refine bodyPost_ret (v := .tuple #[.agg #[.int .i64 0, .slice (some ⟨w.heap.size + 1, 0, none⟩) n n], .int .i64 0]) (by simp [results, Try.results24, go_sem, x0, x1]) rfl ⟨_, w.heap.size + 1, _, rfl, ?_, fun _ => by omega, ?_⟩
  · have T3 : TagsAt w3 (some ⟨w.heap.size + 1, 0, none⟩) (w.heap.size + 1) 0 n (fun _ => 0) (fun _ => 0) :=
      ⟨fun _ => rfl, fun _ => hl3, fun i hi => by rw [Nat.zero_add]; exact (hown3.cellAt (i * 2) (by omega)).trans (madeTags n _ (by omega)), fun i hi => by rw [Nat.zero_add]; exact (hown3.cellAt (i * 2 + 1) (by omega)).trans (madeTags n _ (by omega))⟩
    exact (T3.set_other (fun _ => by omega) _).set_other (fun _ => by omega) _
  · exact (hB3.setCell (p := ⟨w.heap.size, 0, none⟩) (Nat.le_refl _) _).setCell (p := ⟨w.heap.size, 1, none⟩) (Nat.le_refl _) _

set_option maxRecDepth 100000 in
set_option maxHeartbeats 2000000 in
theorem rnew_no (n : Int) (w : World) (h : n < 1 ∨ 8 < n) :
    Calls Try.prog 24 #[.int .i64 n] w fun e w' => e = .returned (.tuple #[.agg #[.int .i64 0, .slice none 0 0], .int .i64 2]) ∧ Below w.heap.size w w' := by
  have hB0 : Below w.heap.size w (w.alloc (.cells #[.int .i64 0, .slice none 0 0] 50)) := (Below.refl _ _).alloc (Nat.le_refl _) _
  by_cases k1 : n < 1
  · go_enter Try.func24, Try.ntmps24
    go_wp2_with fail
    refine bodyPost_ret (v := .tuple #[.agg #[.int .i64 0, .slice none 0 0], .int .i64 2]) (by simp [results, Try.results24, go_sem]) rfl ⟨rfl, ?_⟩
    exact hB0
  · have k2 : 8 < n := by omega
    clear h
    go_enter Try.func24, Try.ntmps24
    go_wp2_with fail
    refine bodyPost_ret (v := .tuple #[.agg #[.int .i64 0, .slice none 0 0], .int .i64 2]) (by simp [results, Try.results24, go_sem]) rfl ⟨rfl, ?_⟩
    exact hB0

set_option maxRecDepth 100000 in
set_option maxHeartbeats 4000000 in
theorem rrebase_same (V : Int) (N : Nat) (a : Option Addr) (b off c : Nat) (S F : Nat → Int) (w : World) (T : TagsAt w a b off N S F) (hN : N ≤ 1000) (h : ¬ rebOk V N S F) :
    Calls Try.prog 36 #[.agg #[.int .i64 V, .slice a N c]] w (CopP V N S F w) := by
  have hB0 : Below w.heap.size w ((w.alloc (.cells #[.int .i64 V, .slice a N c] 50)).alloc (.cells #[.int .i64 0, .slice none 0 0] 50)) := ((Below.refl _ _).alloc (Nat.le_refl _) _).alloc (by simp) _
  have bx0 := blk_two w (.int .i64 V) (.slice a N c) (.int .i64 0) (.slice none 0 0) 50 50
  have rs0 := blk_new (w.alloc (.cells #[.int .i64 V, .slice a N c] 50)) (.int .i64 0) (.slice none 0 0) 50
  rw [World.size_alloc] at rs0
  have hszW : w.heap.size + 1 < ((w.alloc (.cells #[.int .i64 V, .slice a N c] 50)).alloc (.cells #[.int .i64 0, .slice none 0 0] 50)).heap.size := by simp
  replace T := Lib.hid T
  by_cases hv : VOk V N S F
  · have hV0 := hv.1
    have hV1 : V ≤ 1125899906842624 := Classical.byContradiction fun q => h ⟨hv, by omega⟩
    clear h
    go_enter Try.func36, Try.ntmps36
    go_wp2_with fail
    generalize ((w.alloc (.cells #[.int .i64 V, .slice a N c] 50)).alloc (.cells #[.int .i64 0, .slice none 0 0] 50)) = W1 at bx0 rs0 hB0 hszW ⊢
    refine (rcopied_c V a b off N c S F W1 (T.out.bel hB0) hN).mono ?_
    rintro e w1 ⟨a1, g1, c1, rfl, T1, hg1, hb1⟩
    have bx1 := bx0.bel hb1
    have rs1 := rs0.bel hb1
    have hB1 := bNext hB0 hb1 (Nat.le_refl _)
    have hsz1 := hb1.size
    have hbb := (Below.refl w1.heap.size w1).alloc (Nat.le_refl _) (.cells #[.int .i64 V, .slice a1 N c1] 50)
    have ob2 := blk_new w1 (.int .i64 V) (.slice a1 N c1) 50
    have bx2 := bx1.bel hbb
    have rs2 := rs1.bel hbb
    have hB2 := bNext hB1 hbb (Nat.le_refl _)
    have T2 := T1.bel hbb
    have hf2 : 0 < N → ∀ o, (w1.alloc (.cells #[.int .i64 V, .slice a1 N c1] 50)).frozen? ⟨g1, o, none⟩ = false := fun h0 o => (hbb.frozen (p := ⟨g1, o, none⟩) (T1.hb h0)).trans ((hg1 h0).2 o)
    have hgw : 0 < N → w.heap.size + 1 < g1 ∧ g1 ≠ w1.heap.size := fun h0 => ⟨by have := (hg1 h0).1; omega, by have := T1.hb h0; omega⟩
    have how : w.heap.size + 1 < w1.heap.size := by omega
    go_upto_region 2 with fail
    generalize w1.alloc (.cells #[.int .i64 V, .slice a1 N c1] 50) = w2 at ob2 bx2 rs2 hB2 T2 hf2 ⊢
    generalize w1.heap.size = ob at ob2 hgw how ⊢
    clear bx0 rs0 hB0 bx1 rs1 hB1 T1 hg1 hb1 hszW hbb
    have p0 := bx2.c 0 _ rfl
    have p1 := bx2.c 1 _ rfl
    replace T2 := Lib.hid T2
    replace hf2 := Lib.hid hf2
    go_wp2_with fail
    refine (rcheck25_c true V a b off N c S F w2 (T.out.bel hB2) hN ⟨fun _ => hv, fun _ => rfl⟩).mono ?_
    rintro e w3 ⟨rfl, hb3⟩
    have ob3 := ob2.bel hb3
    have rs3 := rs2.bel hb3
    have bx3 := bx2.bel hb3
    have hB3 := bNext hB2 hb3 (Nat.le_refl _)
    have T3 := T2.out.bel hb3
    have hf3 : 0 < N → ∀ o, w3.frozen? ⟨g1, o, none⟩ = false := fun h0 o => (hb3.frozen (p := ⟨g1, o, none⟩) (T2.out.hb h0)).trans (hf2.out h0 o)
    clear p0 p1 bx2 ob2 rs2 hB2 T2 hf2 hb3
    have p0 := bx3.c 0 _ rfl
    have q0 := ob3.c 0 _ rfl
    have q1 := ob3.c 1 _ rfl
    replace T3 := Lib.hid T3
    replace hf3 := Lib.hid hf3
    have r0 := rs3.c 0 _ rfl
    have r1 := rs3.c 1 _ rfl
    have r2 := rs3.f 0
    have r3 := rs3.f 1
    go_wp2_with fail
    refine bodyPost_ret (v := .agg #[.int .i64 V, .slice a1 N c1]) (by simp [results, Try.results36, go_sem, r0, r1]) rfl ⟨_, g1, _, rfl, (T3.out.set_other (q := w.heap.size + 1) (o := 0) (fun h0 => by have := hgw h0; omega) (.int .i64 V)).set_other (q := w.heap.size + 1) (o := 1) (fun h0 => by have := hgw h0; omega) (.slice a1 N c1), fun h0 => ⟨by have := hgw h0; omega, fun o => (World.frozen?_setCell _ _ _ _).trans ((World.frozen?_setCell _ _ _ _).trans (hf3.out h0 o))⟩, ?_⟩
    exact (hB3.setCell (p := ⟨w.heap.size + 1, 0, none⟩) (by show _ ≤ w.heap.size + 1; omega) _).setCell (p := ⟨w.heap.size + 1, 1, none⟩) (by show _ ≤ w.heap.size + 1; omega) _
  · clear h
    go_enter Try.func36, Try.ntmps36
    go_wp2_with fail
    generalize ((w.alloc (.cells #[.int .i64 V, .slice a N c] 50)).alloc (.cells #[.int .i64 0, .slice none 0 0] 50)) = W1 at bx0 rs0 hB0 hszW ⊢
    refine (rcopied_c V a b off N c S F W1 (T.out.bel hB0) hN).mono ?_
    rintro e w1 ⟨a1, g1, c1, rfl, T1, hg1, hb1⟩
    have bx1 := bx0.bel hb1
    have rs1 := rs0.bel hb1
    have hB1 := bNext hB0 hb1 (Nat.le_refl _)
    have hsz1 := hb1.size
    have hbb := (Below.refl w1.heap.size w1).alloc (Nat.le_refl _) (.cells #[.int .i64 V, .slice a1 N c1] 50)
    have ob2 := blk_new w1 (.int .i64 V) (.slice a1 N c1) 50
    have bx2 := bx1.bel hbb
    have rs2 := rs1.bel hbb
    have hB2 := bNext hB1 hbb (Nat.le_refl _)
    have T2 := T1.bel hbb
    have hf2 : 0 < N → ∀ o, (w1.alloc (.cells #[.int .i64 V, .slice a1 N c1] 50)).frozen? ⟨g1, o, none⟩ = false := fun h0 o => (hbb.frozen (p := ⟨g1, o, none⟩) (T1.hb h0)).trans ((hg1 h0).2 o)
    have hgw : 0 < N → w.heap.size + 1 < g1 ∧ g1 ≠ w1.heap.size := fun h0 => ⟨by have := (hg1 h0).1; omega, by have := T1.hb h0; omega⟩
    have how : w.heap.size + 1 < w1.heap.size := by omega
    go_upto_region 2 with fail
    generalize w1.alloc (.cells #[.int .i64 V, .slice a1 N c1] 50) = w2 at ob2 bx2 rs2 hB2 T2 hf2 ⊢
    generalize w1.heap.size = ob at ob2 hgw how ⊢
    clear bx0 rs0 hB0 bx1 rs1 hB1 T1 hg1 hb1 hszW hbb
    have p0 := bx2.c 0 _ rfl
    have p1 := bx2.c 1 _ rfl
    replace T2 := Lib.hid T2
    replace hf2 := Lib.hid hf2
    go_wp2_with fail
    refine (rcheck25_c false V a b off N c S F w2 (T.out.bel hB2) hN ⟨(fun q => by cases q), fun q => absurd q hv⟩).mono ?_
    rintro e w3 ⟨rfl, hb3⟩
    have ob3 := ob2.bel hb3
    have rs3 := rs2.bel hb3
    have bx3 := bx2.bel hb3
    have hB3 := bNext hB2 hb3 (Nat.le_refl _)
    have T3 := T2.out.bel hb3
    have hf3 : 0 < N → ∀ o, w3.frozen? ⟨g1, o, none⟩ = false := fun h0 o => (hb3.frozen (p := ⟨g1, o, none⟩) (T2.out.hb h0)).trans (hf2.out h0 o)
    clear p0 p1 bx2 ob2 rs2 hB2 T2 hf2 hb3
    have p0 := bx3.c 0 _ rfl
    have q0 := ob3.c 0 _ rfl
    have q1 := ob3.c 1 _ rfl
    replace T3 := Lib.hid T3
    replace hf3 := Lib.hid hf3
    have r0 := rs3.c 0 _ rfl
    have r1 := rs3.c 1 _ rfl
    have r2 := rs3.f 0
    have r3 := rs3.f 1
    go_wp2_with fail
    refine bodyPost_ret (v := .agg #[.int .i64 V, .slice a1 N c1]) (by simp [results, Try.results36, go_sem, r0, r1]) rfl ⟨_, g1, _, rfl, (T3.out.set_other (q := w.heap.size + 1) (o := 0) (fun h0 => by have := hgw h0; omega) (.int .i64 V)).set_other (q := w.heap.size + 1) (o := 1) (fun h0 => by have := hgw h0; omega) (.slice a1 N c1), fun h0 => ⟨by have := hgw h0; omega, fun o => (World.frozen?_setCell _ _ _ _).trans ((World.frozen?_setCell _ _ _ _).trans (hf3.out h0 o))⟩, ?_⟩
    exact (hB3.setCell (p := ⟨w.heap.size + 1, 0, none⟩) (by show _ ≤ w.heap.size + 1; omega) _).setCell (p := ⟨w.heap.size + 1, 1, none⟩) (by show _ ≤ w.heap.size + 1; omega) _

set_option maxRecDepth 100000 in
set_option maxHeartbeats 4000000 in
theorem rrebase_yes (V : Int) (N : Nat) (a : Option Addr) (b off c : Nat) (S F : Nat → Int) (w : World) (T : TagsAt w a b off N S F) (hN : N ≤ 1000) (h : rebOk V N S F) :
    Calls Try.prog 36 #[.agg #[.int .i64 V, .slice a N c]] w (CopP 1099511627776 N (reb (V - 1099511627776) S) (reb (V - 1099511627776) F) w) := by
  have hB0 : Below w.heap.size w ((w.alloc (.cells #[.int .i64 V, .slice a N c] 50)).alloc (.cells #[.int .i64 0, .slice none 0 0] 50)) := ((Below.refl _ _).alloc (Nat.le_refl _) _).alloc (by simp) _
  have bx0 := blk_two w (.int .i64 V) (.slice a N c) (.int .i64 0) (.slice none 0 0) 50 50
  have rs0 := blk_new (w.alloc (.cells #[.int .i64 V, .slice a N c] 50)) (.int .i64 0) (.slice none 0 0) 50
  rw [World.size_alloc] at rs0
  have hszW : w.heap.size + 1 < ((w.alloc (.cells #[.int .i64 V, .slice a N c] 50)).alloc (.cells #[.int .i64 0, .slice none 0 0] 50)).heap.size := by simp
  replace T := Lib.hid T
  obtain ⟨hv, hV1⟩ := h
  have hV2 := hv.2.1
  have hN8 := hv.2.2.1
  have hSF := hv.2.2.2
  have hV3 : ¬ V ≤ 1125899906842624 := by omega
  replace hSF := Lib.hid hSF
  go_enter Try.func36, Try.ntmps36
  go_wp2_with fail
  generalize ((w.alloc (.cells #[.int .i64 V, .slice a N c] 50)).alloc (.cells #[.int .i64 0, .slice none 0 0] 50)) = W1 at bx0 rs0 hB0 hszW ⊢
  refine (rcopied_c V a b off N c S F W1 (T.out.bel hB0) hN).mono ?_
  rintro e w1 ⟨a1, g1, c1, rfl, T1, hg1, hb1⟩
  have bx1 := bx0.bel hb1
  have rs1 := rs0.bel hb1
  have hB1 := bNext hB0 hb1 (Nat.le_refl _)
  have hsz1 := hb1.size
  have hbb := (Below.refl w1.heap.size w1).alloc (Nat.le_refl _) (.cells #[.int .i64 V, .slice a1 N c1] 50)
  have ob2 := blk_new w1 (.int .i64 V) (.slice a1 N c1) 50
  have bx2 := bx1.bel hbb
  have rs2 := rs1.bel hbb
  have hB2 := bNext hB1 hbb (Nat.le_refl _)
  have T2 := T1.bel hbb
  have hf2 : 0 < N → ∀ o, (w1.alloc (.cells #[.int .i64 V, .slice a1 N c1] 50)).frozen? ⟨g1, o, none⟩ = false := fun h0 o => (hbb.frozen (p := ⟨g1, o, none⟩) (T1.hb h0)).trans ((hg1 h0).2 o)
  have hgw : 0 < N → w.heap.size + 1 < g1 ∧ g1 ≠ w1.heap.size := fun h0 => ⟨by have := (hg1 h0).1; omega, by have := T1.hb h0; omega⟩
  have how : w.heap.size + 1 < w1.heap.size := by omega
  go_upto_region 2 with fail
  generalize w1.alloc (.cells #[.int .i64 V, .slice a1 N c1] 50) = w2 at ob2 bx2 rs2 hB2 T2 hf2 ⊢
  generalize w1.heap.size = ob at ob2 hgw how ⊢
  clear bx0 rs0 hB0 bx1 rs1 hB1 T1 hg1 hb1 hszW hbb
  have p0 := bx2.c 0 _ rfl
  have p1 := bx2.c 1 _ rfl
  replace T2 := Lib.hid T2
  replace hf2 := Lib.hid hf2
  go_wp2_with fail
  refine (rcheck25_c true V a b off N c S F w2 (T.out.bel hB2) hN ⟨fun _ => hv, fun _ => rfl⟩).mono ?_
  rintro e w3 ⟨rfl, hb3⟩
  have ob3 := ob2.bel hb3
  have rs3 := rs2.bel hb3
  have bx3 := bx2.bel hb3
  have hB3 := bNext hB2 hb3 (Nat.le_refl _)
  have T3 := T2.out.bel hb3
  have hf3 : 0 < N → ∀ o, w3.frozen? ⟨g1, o, none⟩ = false := fun h0 o => (hb3.frozen (p := ⟨g1, o, none⟩) (T2.out.hb h0)).trans (hf2.out h0 o)
  clear p0 p1 bx2 ob2 rs2 hB2 T2 hf2 hb3
  have p0 := bx3.c 0 _ rfl
  have q0 := ob3.c 0 _ rfl
  have q1 := ob3.c 1 _ rfl
  replace T3 := Lib.hid T3
  replace hf3 := Lib.hid hf3
  obtain ⟨d, hd⟩ : ∃ d, V - 1099511627776 = d := ⟨_, rfl⟩
  have hd0 : 0 ≤ d := by omega
  have hd1 : d ≤ 1152921504606846976 := by omega
  replace hd := Lib.hid hd
  have q2 := ob3.f 0
  have ob4 := ob3.set (i := 0) (by simp) (.int .i64 1099511627776)
  have rs4 := rs3.other (q := ob) (o := 0) (by omega) (.int .i64 1099511627776)
  have hB4 := hB3.setCell (p := ⟨ob, 0, none⟩) (by show _ ≤ ob; omega) (.int .i64 1099511627776)
  have T4 := T3.out.set_other (q := ob) (o := 0) (fun h0 => (hgw h0).2) (.int .i64 1099511627776)
  have hf4 : 0 < N → ∀ o, (w3.setCell ⟨ob, 0, none⟩ (.int .i64 1099511627776)).frozen? ⟨g1, o, none⟩ = false := fun h0 o => (World.frozen?_setCell _ _ _ _).trans (hf3.out h0 o)
  clear hv
  go_upto_region 6 with fail
  rw [hd.out]
  generalize w3.setCell ⟨ob, 0, none⟩ (.int .i64 1099511627776) = w4 at ob4 rs4 hB4 T4 hf4 ⊢
  clear p0 q0 q1 q2 bx3 ob3 rs3 hB3 T3 hf3
  replace T4 := Lib.hid T4
  replace hf4 := Lib.hid hf4
  replace ob4 := Lib.hid ob4
  replace rs4 := Lib.hid rs4
  go_wp2_with fail
  go_loopw [5] (fun s5 wr => ∃ kk : Nat, kk ≤ N ∧ s5 = .int .i64 (kk : Nat) ∧ TagsAt wr a1 g1 0 N (rebTo d S kk) (rebTo d F kk) ∧ (0 < N → ∀ o, wr.frozen? ⟨g1, o, none⟩ = false) ∧ Blk wr ob [.int .i64 1099511627776, .slice a1 N c1] ∧ Blk wr (w.heap.size + 1) [.int .i64 0, .slice none 0 0] ∧ Below w.heap.size w wr) (fun s5 _ => N - (intOf s5).toNat)
  case atStart => exact ⟨0, Nat.zero_le _, rfl, by rw [rebTo_zero, rebTo_zero]; exact T4.out, hf4.out, ob4.out, rs4.out, hB4⟩
  case round =>
    obtain ⟨kk, hkk, rfl, Tr, hfr, bo, rs, hB⟩ := hrel
    clear hB4
    have p1 := bo.c 1 _ rfl
    by_cases hlt : kk < N
    · have hltz : (kk : Int) < (N : Int) := by omega
      obtain rfl := Tr.ha (by omega)
      have hgw' := hgw (by omega)
      have x0 := Tr.c0 kk hlt
      rw [Nat.zero_add, rebTo_at] at x0
      obtain ⟨s1, s2, s3⟩ := hSF.out kk hlt
      have e1 : max (S kk) d - d = max (S kk - d) 0 := by omega
      have e2 : max (F kk) d - d = max (F kk - d) 0 := by omega
      replace e1 := Lib.hid e1
      replace e2 := Lib.hid e2
      have hT9 := (Tr.bel (Below.refl wr.heap.size wr).drew).set_start kk hlt (max (S kk) d - d)
      rw [Nat.zero_add, e1.out, rebTo_succ, ← e1.out] at hT9
      replace hT9 := Lib.hid hT9
      replace Tr := Lib.hid Tr
      have f0 := hfr (by omega) (kk * 2)
      replace hfr := Lib.hid hfr
      replace bo := Lib.hid bo
      replace rs := Lib.hid rs
      have hw1 := IntWalk.i64_in (max (S kk) d - d) (by omega)
      have hw2 := IntWalk.i64_in (max (F kk) d - d) (by omega)
      go_upto_region 9 with fail
      refine wp_region_noPanic ?_
      refine Stg.wp_region_L [15] (Vr.SB wr) (by kernel_rfl) (fun _ => (Below.refl _ _).drew) (fun hHeld => ?_)
      refine Stg.wpAnyL_start (n' := 16) (l' := #[false, false, false, false, false, false, false, false, false, false, false, false, false, false, false, false]) (by kernel_rfl) (by kernel_rfl) ?_
      refine Stg.wpAnyL_free (i := 0) (v := ?_) 0 rfl (by kernel_rfl) (by kernel_rfl) (by kernel_rfl) (by kernel_rfl) (by kernel_rfl) (fun _ _ _ h => h) (Or.inl ⟨by kernel_rfl, ?_⟩) (by assumption) ?_
      rotate_left
      · intro u _
        try simp only [List.getElem_toArray, List.getElem_cons_succ, List.getElem_cons_zero]
        go_simp
        try with_reducible rfl
      try simp only [Act.put, List.setIfInBounds_toArray, List.set_cons_zero, List.set_cons_succ]
      refine Stg.wpAnyL_take (i := 1) (v := ?_) [13, 14, 15] 0 rfl (by kernel_rfl) (by kernel_rfl) (by kernel_rfl) (by kernel_rfl) (by kernel_rfl) (fun _ _ _ h => h) (Or.inl ⟨by kernel_rfl, ?_⟩) (by assumption) ?_
      rotate_left
      · intro u hSu
        skip
        have sB := hSu rfl
        have y0 := cellB sB p1
        have y1 := cellB sB x0
        try simp only [List.getElem_toArray, List.getElem_cons_succ, List.getElem_cons_zero]
        go_simp
        try with_reducible rfl
      try simp only [Act.put, List.setIfInBounds_toArray, List.set_cons_zero, List.set_cons_succ]
      refine Stg.wpAnyL_free (i := 2) (v := ?_) 0 rfl (by kernel_rfl) (by kernel_rfl) (by kernel_rfl) (by kernel_rfl) (by kernel_rfl) (fun _ _ _ h => h) (Or.inl ⟨by kernel_rfl, ?_⟩) (by assumption) ?_
      rotate_left
      · intro u _
        try simp only [List.getElem_toArray, List.getElem_cons_succ, List.getElem_cons_zero]
        go_simp
        try with_reducible rfl
      try simp only [Act.put, List.setIfInBounds_toArray, List.set_cons_zero, List.set_cons_succ]
      refine Stg.wpAnyL_start (n' := 13) (l' := #[true, true, true, false, false, false, false, false, false, false, false, false, false, false, false, false]) (by kernel_rfl) (by kernel_rfl) ?_
      refine Stg.wpAnyL_free (i := 3) (v := ?_) 0 rfl (by kernel_rfl) (by kernel_rfl) (by kernel_rfl) (by kernel_rfl) (by kernel_rfl) (fun _ _ _ h => h) (Or.inl ⟨by kernel_rfl, ?_⟩) (by assumption) ?_
      rotate_left
      · intro u _
        try simp only [List.getElem_toArray, List.getElem_cons_succ, List.getElem_cons_zero]
        go_simp
        try with_reducible rfl
      try simp only [Act.put, List.setIfInBounds_toArray, List.set_cons_zero, List.set_cons_succ]
      refine Stg.wpAnyL_take (i := 4) (v := ?_) [6, 7, 8, 10, 12, 13, 14, 15] 0 rfl (by kernel_rfl) (by kernel_rfl) (by kernel_rfl) (by kernel_rfl) (by kernel_rfl) (fun _ _ _ h => h) (Or.inl ⟨by kernel_rfl, ?_⟩) (by assumption) ?_
      rotate_left
      · intro u hSu
        skip
        have sB := hSu rfl
        have y0 := cellB sB p1
        have y1 := cellB sB x0
        try simp only [List.getElem_toArray, List.getElem_cons_succ, List.getElem_cons_zero]
        go_simp
        try with_reducible rfl
      try simp only [Act.put, List.setIfInBounds_toArray, List.set_cons_zero, List.set_cons_succ]
      refine Stg.wpAnyL_free (i := 5) (v := ?_) 0 rfl (by kernel_rfl) (by kernel_rfl) (by kernel_rfl) (by kernel_rfl) (by kernel_rfl) (fun _ _ _ h => h) (Or.inl ⟨by kernel_rfl, ?_⟩) (by assumption) ?_
      rotate_left
      · intro u _
        try simp only [List.getElem_toArray, List.getElem_cons_succ, List.getElem_cons_zero]
        go_simp
        try with_reducible rfl
      try simp only [Act.put, List.setIfInBounds_toArray, List.set_cons_zero, List.set_cons_succ]
      refine Stg.wpAnyL_start (n' := 10) (l' := #[true, true, true, true, true, true, false, false, false, false, false, false, false, false, false, false]) (by kernel_rfl) (by kernel_rfl) ?_
      refine Stg.wpAnyL_free (i := 6) (v := ?_) 0 rfl (by kernel_rfl) (by kernel_rfl) (by kernel_rfl) (by kernel_rfl) (by kernel_rfl) (fun _ _ _ h => h) (Or.inl ⟨by kernel_rfl, ?_⟩) (by assumption) ?_
      rotate_left
      · intro u _
        try simp only [List.getElem_toArray, List.getElem_cons_succ, List.getElem_cons_zero]
        go_simp
        try with_reducible rfl
      try simp only [Act.put, List.setIfInBounds_toArray, List.set_cons_zero, List.set_cons_succ]
      refine Stg.wpAnyL_free (i := 7) (v := ?_) 0 rfl (by kernel_rfl) (by kernel_rfl) (by kernel_rfl) (by kernel_rfl) (by kernel_rfl) (fun _ _ _ h => h) (Or.inl ⟨by kernel_rfl, ?_⟩) (by assumption) ?_
      rotate_left
      · intro u _
        try simp only [List.getElem_toArray, List.getElem_cons_succ, List.getElem_cons_zero]
        go_simp
        try with_reducible rfl
      try simp only [Act.put, List.setIfInBounds_toArray, List.set_cons_zero, List.set_cons_succ]
      refine Stg.wpAnyL_take (i := 8) (v := ?_) [10, 12, 13, 14, 15] 0 rfl (by kernel_rfl) (by kernel_rfl) (by kernel_rfl) (by kernel_rfl) (by kernel_rfl) (fun _ _ _ h => h) (Or.inl ⟨by kernel_rfl, ?_⟩) (by assumption) ?_
      rotate_left
      · intro u hSu
        skip
        have sB := hSu rfl
        have y0 := cellB sB p1
        have y1 := cellB sB x0
        try simp only [List.getElem_toArray, List.getElem_cons_succ, List.getElem_cons_zero]
        go_simp
        try with_reducible rfl
      try simp only [Act.put, List.setIfInBounds_toArray, List.set_cons_zero, List.set_cons_succ]
      refine Stg.wpAnyL_start (n' := 7) (l' := #[true, true, true, true, true, true, true, true, true, false, false, false, false, false, false, false]) (by kernel_rfl) (by kernel_rfl) ?_
      refine Stg.wpAnyL_free (i := 9) (v := ?_) 0 rfl (by kernel_rfl) (by kernel_rfl) (by kernel_rfl) (by kernel_rfl) (by kernel_rfl) (fun _ _ _ h => h) (Or.inl ⟨by kernel_rfl, ?_⟩) (by assumption) ?_
      rotate_left
      · intro u _
        try simp only [List.getElem_toArray, List.getElem_cons_succ, List.getElem_cons_zero]
        go_simp
        try with_reducible rfl
      try simp only [Act.put, List.setIfInBounds_toArray, List.set_cons_zero, List.set_cons_succ]
      refine Stg.wpAnyL_free (i := 10) (v := ?_) 0 rfl (by kernel_rfl) (by kernel_rfl) (by kernel_rfl) (by kernel_rfl) (by kernel_rfl) (fun _ _ _ h => h) (Or.inl ⟨by kernel_rfl, ?_⟩) (by assumption) ?_
      rotate_left
      · intro u _
        try simp only [List.getElem_toArray, List.getElem_cons_succ, List.getElem_cons_zero]
        go_simp
        try with_reducible rfl
      try simp only [Act.put, List.setIfInBounds_toArray, List.set_cons_zero, List.set_cons_succ]
      refine Stg.wpAnyL_free (i := 11) (v := ?_) 0 rfl (by kernel_rfl) (by kernel_rfl) (by kernel_rfl) (by kernel_rfl) (by kernel_rfl) (fun _ _ _ h => h) (Or.inl ⟨by kernel_rfl, ?_⟩) (by assumption) ?_
      rotate_left
      · intro u _
        try simp only [List.getElem_toArray, List.getElem_cons_succ, List.getElem_cons_zero]
        go_simp
        try with_reducible rfl
      try simp only [Act.put, List.setIfInBounds_toArray, List.set_cons_zero, List.set_cons_succ]
      refine Stg.wpAnyL_start (n' := 4) (l' := #[true, true, true, true, true, true, true, true, true, true, true, true, false, false, false, false]) (by kernel_rfl) (by kernel_rfl) ?_
      refine Stg.wpAnyL_free (i := 12) (v := ?_) 0 rfl (by kernel_rfl) (by kernel_rfl) (by kernel_rfl) (by kernel_rfl) (by kernel_rfl) (fun _ _ _ h => h) (Or.inl ⟨by kernel_rfl, ?_⟩) (by assumption) ?_
      rotate_left
      · intro u _
        try simp only [List.getElem_toArray, List.getElem_cons_succ, List.getElem_cons_zero]
        go_simp
        try with_reducible rfl
      try simp only [Act.put, List.setIfInBounds_toArray, List.set_cons_zero, List.set_cons_succ]
      refine Stg.wpAnyL_free (i := 13) (v := ?_) 0 rfl (by kernel_rfl) (by kernel_rfl) (by kernel_rfl) (by kernel_rfl) (by kernel_rfl) (fun _ _ _ h => h) (Or.inl ⟨by kernel_rfl, ?_⟩) (by assumption) ?_
      rotate_left
      · intro u _
        try simp only [List.getElem_toArray, List.getElem_cons_succ, List.getElem_cons_zero]
        go_simp
        try with_reducible rfl
      try simp only [Act.put, List.setIfInBounds_toArray, List.set_cons_zero, List.set_cons_succ]
      refine Stg.wpAnyL_free (i := 14) (v := ?_) 0 rfl (by kernel_rfl) (by kernel_rfl) (by kernel_rfl) (by kernel_rfl) (by kernel_rfl) (fun _ _ _ h => h) (Or.inl ⟨by kernel_rfl, ?_⟩) (by assumption) ?_
      rotate_left
      · intro u _
        try simp only [List.getElem_toArray, List.getElem_cons_succ, List.getElem_cons_zero]
        go_simp
        try with_reducible rfl
      try simp only [Act.put, List.setIfInBounds_toArray, List.set_cons_zero, List.set_cons_succ]
      refine Stg.wpAnyL_start (n' := 1) (l' := #[true, true, true, true, true, true, true, true, true, true, true, true, true, true, true, false]) (by kernel_rfl) (by kernel_rfl) ?_
      refine Stg.wpAnyL_one (i := 15) 1 rfl (by kernel_rfl) (by kernel_rfl) (fun K hK => ?_)
      have z0 := ((hHeld rfl).frozen (p := ⟨g1, kk * 2, none⟩) (Tr.out.hb (by omega))).trans f0
      have z1 := cellB (hHeld rfl) x0
      try simp only [List.getElem_toArray, List.getElem_cons_succ, List.getElem_cons_zero]
      go_simp
      refine hK.out _ _ ?_ (fun hHeld1 => ?_)
      · exact fun h => absurd h (by decide)
      clear hK K
      try simp only [Act.put, List.setIfInBounds_toArray, List.set_cons_zero, List.set_cons_succ]
      refine Stg.wpAnyL_done (by kernel_rfl) ?_ _
      try simp only [List.getElem_toArray, List.getElem_cons_succ, List.getElem_cons_zero]
      try simp only [Act.put, List.setIfInBounds_toArray, List.set_cons_zero, List.set_cons_succ]
      refine NoPanic.normal ?_
      have hd9 := (Below.refl wr.heap.size wr).drew
      have bo9 := (bo.out.bel hd9).other (q := g1) (o := kk * 2) (by omega) (.int .i64 (max (S kk) d - d))
      have rs9 := (rs.out.bel hd9).other (q := g1) (o := kk * 2) (by omega) (.int .i64 (max (S kk) d - d))
      have hB9 := (bNext hB hd9 (Nat.le_refl _)).setCell (p := ⟨g1, kk * 2, none⟩) (by show _ ≤ g1; omega) (.int .i64 (max (S kk) d - d))
      have hf9 : 0 < N → ∀ o, (wr.drew.setCell ⟨g1, kk * 2, none⟩ (.int .i64 (max (S kk) d - d))).frozen? ⟨g1, o, none⟩ = false := fun h0 o => (World.frozen?_setCell _ _ _ _).trans ((hd9.frozen (p := ⟨g1, o, none⟩) (Tr.out.hb h0)).trans (hfr.out h0 o))
      clear f0 x0 p1 z0 z1 hHeld hHeld1
      rw [show (wr.setCell ⟨g1, kk * 2, none⟩ (.int .i64 (max (S kk) d - d))).drew = wr.drew.setCell ⟨g1, kk * 2, none⟩ (.int .i64 (max (S kk) d - d)) from rfl]
      generalize wr.drew.setCell ⟨g1, kk * 2, none⟩ (.int .i64 (max (S kk) d - d)) = wm at bo9 rs9 hB9 hf9 hT9 ⊢
      have x1 := hT9.out.c1 kk hlt
      rw [Nat.zero_add, rebTo_at] at x1
      have p1m := bo9.c 1 _ rfl
      have hT10 := (hT9.out.bel (Below.refl wm.heap.size wm).drew).set_finish kk hlt (max (F kk) d - d)
      rw [Nat.zero_add, e2.out, rebTo_succ, ← e2.out] at hT10
      replace hT10 := Lib.hid hT10
      replace hf9 := Lib.hid hf9
      replace bo9 := Lib.hid bo9
      replace rs9 := Lib.hid rs9
      go_upto_region 10 with fail
      refine wp_region_noPanic ?_
      refine Stg.wp_region_L [15] (Vr.SB wm) (by kernel_rfl) (fun _ => (Below.refl _ _).drew) (fun hKeld => ?_)
      refine Stg.wpAnyL_start (n' := 16) (l' := #[false, false, false, false, false, false, false, false, false, false, false, false, false, false, false, false]) (by kernel_rfl) (by kernel_rfl) ?_
      refine Stg.wpAnyL_free (i := 0) (v := ?_) 0 rfl (by kernel_rfl) (by kernel_rfl) (by kernel_rfl) (by kernel_rfl) (by kernel_rfl) (fun _ _ _ h => h) (Or.inl ⟨by kernel_rfl, ?_⟩) (by assumption) ?_
      rotate_left
      · intro u _
        try simp only [List.getElem_toArray, List.getElem_cons_succ, List.getElem_cons_zero]
        go_simp
        try with_reducible rfl
      try simp only [Act.put, List.setIfInBounds_toArray, List.set_cons_zero, List.set_cons_succ]
      refine Stg.wpAnyL_take (i := 1) (v := ?_) [13, 14, 15] 0 rfl (by kernel_rfl) (by kernel_rfl) (by kernel_rfl) (by kernel_rfl) (by kernel_rfl) (fun _ _ _ h => h) (Or.inl ⟨by kernel_rfl, ?_⟩) (by assumption) ?_
      rotate_left
      · intro u hSu
        skip
        have sB := hSu rfl
        have y0 := cellB sB p1m
        have y1 := cellB sB x1
        try simp only [List.getElem_toArray, List.getElem_cons_succ, List.getElem_cons_zero]
        go_simp
        try with_reducible rfl
      try simp only [Act.put, List.setIfInBounds_toArray, List.set_cons_zero, List.set_cons_succ]
      refine Stg.wpAnyL_free (i := 2) (v := ?_) 0 rfl (by kernel_rfl) (by kernel_rfl) (by kernel_rfl) (by kernel_rfl) (by kernel_rfl) (fun _ _ _ h => h) (Or.inl ⟨by kernel_rfl, ?_⟩) (by assumption) ?_
      rotate_left
      · intro u _
        try simp only [List.getElem_toArray, List.getElem_cons_succ, List.getElem_cons_zero]
        go_simp
        try with_reducible rfl
      try simp only [Act.put, List.setIfInBounds_toArray, List.set_cons_zero, List.set_cons_succ]
      refine Stg.wpAnyL_start (n' := 13) (l' := #[true, true, true, false, false, false, false, false, false, false, false, false, false, false, false, false]) (by kernel_rfl) (by kernel_rfl) ?_
      refine Stg.wpAnyL_free (i := 3) (v := ?_) 0 rfl (by kernel_rfl) (by kernel_rfl) (by kernel_rfl) (by kernel_rfl) (by kernel_rfl) (fun _ _ _ h => h) (Or.inl ⟨by kernel_rfl, ?_⟩) (by assumption) ?_
      rotate_left
      · intro u _
        try simp only [List.getElem_toArray, List.getElem_cons_succ, List.getElem_cons_zero]
        go_simp
        try with_reducible rfl
      try simp only [Act.put, List.setIfInBounds_toArray, List.set_cons_zero, List.set_cons_succ]
      refine Stg.wpAnyL_take (i := 4) (v := ?_) [6, 7, 8, 10, 12, 13, 14, 15] 0 rfl (by kernel_rfl) (by kernel_rfl) (by kernel_rfl) (by kernel_rfl) (by kernel_rfl) (fun _ _ _ h => h) (Or.inl ⟨by kernel_rfl, ?_⟩) (by assumption) ?_
      rotate_left
      · intro u hSu
        skip
        have sB := hSu rfl
        have y0 := cellB sB p1m
        have y1 := cellB sB x1
        try simp only [List.getElem_toArray, List.getElem_cons_succ, List.getElem_cons_zero]
        go_simp
        try with_reducible rfl
      try simp only [Act.put, List.setIfInBounds_toArray, List.set_cons_zero, List.set_cons_succ]
      refine Stg.wpAnyL_free (i := 5) (v := ?_) 0 rfl (by kernel_rfl) (by kernel_rfl) (by kernel_rfl) (by kernel_rfl) (by kernel_rfl) (fun _ _ _ h => h) (Or.inl ⟨by kernel_rfl, ?_⟩) (by assumption) ?_
      rotate_left
      · intro u _
        try simp only [List.getElem_toArray, List.getElem_cons_succ, List.getElem_cons_zero]
        go_simp
        try with_reducible rfl
      try simp only [Act.put, List.setIfInBounds_toArray, List.set_cons_zero, List.set_cons_succ]
      refine Stg.wpAnyL_start (n' := 10) (l' := #[true, true, true, true, true, true, false, false, false, false, false, false, false, false, false, false]) (by kernel_rfl) (by kernel_rfl) ?_
      refine Stg.wpAnyL_free (i := 6) (v := ?_) 0 rfl (by kernel_rfl) (by kernel_rfl) (by kernel_rfl) (by kernel_rfl) (by kernel_rfl) (fun _ _ _ h => h) (Or.inl ⟨by kernel_rfl, ?_⟩) (by assumption) ?_
      rotate_left
      · intro u _
        try simp only [List.getElem_toArray, List.getElem_cons_succ, List.getElem_cons_zero]
        go_simp
        try with_reducible rfl
      try simp only [Act.put, List.setIfInBounds_toArray, List.set_cons_zero, List.set_cons_succ]
      refine Stg.wpAnyL_free (i := 7) (v := ?_) 0 rfl (by kernel_rfl) (by kernel_rfl) (by kernel_rfl) (by kernel_rfl) (by kernel_rfl) (fun _ _ _ h => h) (Or.inl ⟨by kernel_rfl, ?_⟩) (by assumption) ?_
      rotate_left
      · intro u _
        try simp only [List.getElem_toArray, List.getElem_cons_succ, List.getElem_cons_zero]
        go_simp
        try with_reducible rfl
      try simp only [Act.put, List.setIfInBounds_toArray, List.set_cons_zero, List.set_cons_succ]
      refine Stg.wpAnyL_take (i := 8) (v := ?_) [10, 12, 13, 14, 15] 0 rfl (by kernel_rfl) (by kernel_rfl) (by kernel_rfl) (by kernel_rfl) (by kernel_rfl) (fun _ _ _ h => h) (Or.inl ⟨by kernel_rfl, ?_⟩) (by assumption) ?_
      rotate_left
      · intro u hSu
        skip
        have sB := hSu rfl
        have y0 := cellB sB p1m
        have y1 := cellB sB x1
        try simp only [List.getElem_toArray, List.getElem_cons_succ, List.getElem_cons_zero]
        go_simp
        try with_reducible rfl
      try simp only [Act.put, List.setIfInBounds_toArray, List.set_cons_zero, List.set_cons_succ]
      refine Stg.wpAnyL_start (n' := 7) (l' := #[true, true, true, true, true, true, true, true, true, false, false, false, false, false, false, false]) (by kernel_rfl) (by kernel_rfl) ?_
      refine Stg.wpAnyL_free (i := 9) (v := ?_) 0 rfl (by kernel_rfl) (by kernel_rfl) (by kernel_rfl) (by kernel_rfl) (by kernel_rfl) (fun _ _ _ h => h) (Or.inl ⟨by kernel_rfl, ?_⟩) (by assumption) ?_
      rotate_left
      · intro u _
        try simp only [List.getElem_toArray, List.getElem_cons_succ, List.getElem_cons_zero]
        go_simp
        try with_reducible rfl
      try simp only [Act.put, List.setIfInBounds_toArray, List.set_cons_zero, List.set_cons_succ]
      refine Stg.wpAnyL_free (i := 10) (v := ?_) 0 rfl (by kernel_rfl) (by kernel_rfl) (by kernel_rfl) (by kernel_rfl) (by kernel_rfl) (fun _ _ _ h => h) (Or.inl ⟨by kernel_rfl, ?_⟩) (by assumption) ?_
      rotate_left
      · intro u _
        try simp only [List.getElem_toArray, List.getElem_cons_succ, List.getElem_cons_zero]
        go_simp
        try with_reducible rfl
      try simp only [Act.put, List.setIfInBounds_toArray, List.set_cons_zero, List.set_cons_succ]
      refine Stg.wpAnyL_free (i := 11) (v := ?_) 0 rfl (by kernel_rfl) (by kernel_rfl) (by kernel_rfl) (by kernel_rfl) (by kernel_rfl) (fun _ _ _ h => h) (Or.inl ⟨by kernel_rfl, ?_⟩) (by assumption) ?_
      rotate_left
      · intro u _
        try simp only [List.getElem_toArray, List.getElem_cons_succ, List.getElem_cons_zero]
        go_simp
        try with_reducible rfl
      try simp only [Act.put, List.setIfInBounds_toArray, List.set_cons_zero, List.set_cons_succ]
      refine Stg.wpAnyL_start (n' := 4) (l' := #[true, true, true, true, true, true, true, true, true, true, true, true, false, false, false, false]) (by kernel_rfl) (by kernel_rfl) ?_
      refine Stg.wpAnyL_free (i := 12) (v := ?_) 0 rfl (by kernel_rfl) (by kernel_rfl) (by kernel_rfl) (by kernel_rfl) (by kernel_rfl) (fun _ _ _ h => h) (Or.inl ⟨by kernel_rfl, ?_⟩) (by assumption) ?_
      rotate_left
      · intro u _
        try simp only [List.getElem_toArray, List.getElem_cons_succ, List.getElem_cons_zero]
        go_simp
        try with_reducible rfl
      try simp only [Act.put, List.setIfInBounds_toArray, List.set_cons_zero, List.set_cons_succ]
      refine Stg.wpAnyL_free (i := 13) (v := ?_) 0 rfl (by kernel_rfl) (by kernel_rfl) (by kernel_rfl) (by kernel_rfl) (by kernel_rfl) (fun _ _ _ h => h) (Or.inl ⟨by kernel_rfl, ?_⟩) (by assumption) ?_
      rotate_left
      · intro u _
        try simp only [List.getElem_toArray, List.getElem_cons_succ, List.getElem_cons_zero]
        go_simp
        try with_reducible rfl
      try simp only [Act.put, List.setIfInBounds_toArray, List.set_cons_zero, List.set_cons_succ]
      refine Stg.wpAnyL_free (i := 14) (v := ?_) 0 rfl (by kernel_rfl) (by kernel_rfl) (by kernel_rfl) (by kernel_rfl) (by kernel_rfl) (fun _ _ _ h => h) (Or.inl ⟨by kernel_rfl, ?_⟩) (by assumption) ?_
      rotate_left
      · intro u _
        try simp only [List.getElem_toArray, List.getElem_cons_succ, List.getElem_cons_zero]
        go_simp
        try with_reducible rfl
      try simp only [Act.put, List.setIfInBounds_toArray, List.set_cons_zero, List.set_cons_succ]
      refine Stg.wpAnyL_start (n' := 1) (l' := #[true, true, true, true, true, true, true, true, true, true, true, true, true, true, true, false]) (by kernel_rfl) (by kernel_rfl) ?_
      refine Stg.wpAnyL_one (i := 15) 1 rfl (by kernel_rfl) (by kernel_rfl) (fun K hK => ?_)
      have z0 := ((hKeld rfl).frozen (p := ⟨g1, kk * 2 + 1, none⟩) (hT9.out.hb (by omega))).trans (hf9.out (by omega) (kk * 2 + 1))
      have z1 := cellB (hKeld rfl) x1
      try simp only [List.getElem_toArray, List.getElem_cons_succ, List.getElem_cons_zero]
      go_simp
      refine hK.out _ _ ?_ (fun hKeld1 => ?_)
      · exact fun h => absurd h (by decide)
      clear hK K
      try simp only [Act.put, List.setIfInBounds_toArray, List.set_cons_zero, List.set_cons_succ]
      refine Stg.wpAnyL_done (by kernel_rfl) ?_ _
      try simp only [List.getElem_toArray, List.getElem_cons_succ, List.getElem_cons_zero]
      try simp only [Act.put, List.setIfInBounds_toArray, List.set_cons_zero, List.set_cons_succ]
      refine NoPanic.normal ?_
      have hdm := (Below.refl wm.heap.size wm).drew
      have bo10 := (bo9.out.bel hdm).other (q := g1) (o := kk * 2 + 1) (by omega) (.int .i64 (max (F kk) d - d))
      have rs10 := (rs9.out.bel hdm).other (q := g1) (o := kk * 2 + 1) (by omega) (.int .i64 (max (F kk) d - d))
      have hB10 := (bNext hB9 hdm (Nat.le_refl _)).setCell (p := ⟨g1, kk * 2 + 1, none⟩) (by show _ ≤ g1; omega) (.int .i64 (max (F kk) d - d))
      have hf10 : 0 < N → ∀ o, (wm.drew.setCell ⟨g1, kk * 2 + 1, none⟩ (.int .i64 (max (F kk) d - d))).frozen? ⟨g1, o, none⟩ = false := fun h0 o => (World.frozen?_setCell _ _ _ _).trans ((hdm.frozen (p := ⟨g1, o, none⟩) (hT9.out.hb h0)).trans (hf9.out h0 o))
      go_wp2_with fail
      go_roundw
      case rel => exact ⟨kk + 1, by omega, by go_num, hT10.out, hf10, bo10, rs10, hB10⟩
      case measure => simp [intOf]; omega
    · have hltz : ¬ (kk : Int) < (N : Int) := by omega
      obtain rfl : kk = N := by omega
      have T9 := rebTo_same Tr
      rw [← hd.out] at T9
      clear Tr
      have p0 := bo.c 0 _ rfl
      have r0 := rs.c 0 _ rfl
      have r1 := rs.c 1 _ rfl
      have r2 := rs.f 0
      have r3 := rs.f 1
      replace T9 := Lib.hid T9
      replace hfr := Lib.hid hfr
      replace bo := Lib.hid bo
      replace rs := Lib.hid rs
      go_wp2_with fail
      refine bodyPost_ret (v := .agg #[.int .i64 1099511627776, .slice a1 kk c1]) (by simp [results, Try.results36, go_sem, r0, r1]) rfl ⟨_, g1, _, rfl, (T9.out.set_other (q := w.heap.size + 1) (o := 0) (fun h0 => by have := hgw h0; omega) (.int .i64 1099511627776)).set_other (q := w.heap.size + 1) (o := 1) (fun h0 => by have := hgw h0; omega) (.slice a1 kk c1), fun h0 => ⟨by have := hgw h0; omega, fun o => (World.frozen?_setCell _ _ _ _).trans ((World.frozen?_setCell _ _ _ _).trans (hfr.out h0 o))⟩, ?_⟩
      exact (hB.setCell (p := ⟨w.heap.size + 1, 0, none⟩) (by show _ ≤ w.heap.size + 1; omega) _).setCell (p := ⟨w.heap.size + 1, 1, none⟩) (by show _ ≤ w.heap.size + 1; omega) _
end Go.Proofs.Ytbbcongfaoopcaa
