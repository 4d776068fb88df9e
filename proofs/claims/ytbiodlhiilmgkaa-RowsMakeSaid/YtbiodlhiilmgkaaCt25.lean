/- RowsMake: the walk of the law. -/
import Derived.Test.YtbiodlhiilmgkaaCt24
import Derived.Test.YtbiodlhiilmgkaaCt13
namespace Go.Proofs.Ytbiodlhiilmgkaa
open Go.ChangeShapes Go.WideShapes Go.ChangeAt Go.RowKit
set_option linter.unusedVariables false
set_option linter.unusedSimpArgs false
open BigFrame Bs Rw Ct

set_option maxRecDepth 100000 in
set_option maxHeartbeats 40000000 in
theorem rowsMake_h (b t : Int) (a : Option Addr) (n c : Nat) (l : List En) (a2 : Option Addr) (m c2 : Nat) (l2 : List En) (i mo : Int) (w : World) (h : LAt w a n c l) (hw : Wfl l) (hb : I64 b) (ht : I64 t) (h2 : LAt w a2 m c2 l2) (hw2 : Wfl l2) (hi : I64 i) (hsz : ∀ y ∈ l2, y.d.length ≤ reachBytes) :
    Calls Try.prog 5 #[.agg #[.int .i64 b, .int .i64 t, .slice a n c], .slice a2 m c2, .int .i64 i, .int .i64 mo] w fun e w' => e = .returned (.bool true) ∧ Below w.heap.size w w' := by
  have hB0 : Below w.heap.size w (w.alloc (.cells #[.int .i64 b, .int .i64 t, .slice a n c] 24)) := (Below.refl _ _).alloc (Nat.le_refl _) _
  have bx0 := Lib.hid (blk_new w [.int .i64 b, .int .i64 t, .slice a n c] 24)
  have hgr := Lib.hid (great09_c b t a n c l _ (h.bel hB0))
  have hlg := Lib.hid (fun u (hu : Below w.heap.size w u) => long_s a2 m c2 l2 u (h2.bel hu) hsz)
  obtain ⟨P, hP⟩ : ∃ P, addR b t l l2 = P := ⟨_, rfl⟩
  have hp := fun (hs : Sml l2) u (hu : Below w.heap.size w u) => add_c b t a a2 n c m c2 l l2 u (h.bel hu) (h2.bel hu) hw hw2 hb ht hs
  have hrp := fun (hs : Sml l2) u (hu : Below w.heap.size w u) => radd_c b t a a2 n c m c2 l l2 u (h.bel hu) (h2.bel hu) hw hw2 hb ht hs
  rw [hP] at hp hrp
  obtain ⟨C, hC⟩ : ∃ C, cutR b t l i = C := ⟨_, rfl⟩
  have hc := fun u (hu : Below w.heap.size w u) => cut_c b t i a n c l u (h.bel hu) hw hb ht hi
  have hrc := fun u (hu : Below w.heap.size w u) => rcut_c b t i a n c l u (h.bel hu) hw hb ht hi
  rw [hC] at hc hrc
  obtain ⟨F, hF⟩ : ∃ F, fromR b t l i mo = F := ⟨_, rfl⟩
  have hf := fun u (hu : Below w.heap.size w u) => from_c b t i mo a n c l u (h.bel hu) hw hb ht hi
  have hrf := fun u (hu : Below w.heap.size w u) => rfrom_c b t i mo a n c l u (h.bel hu) hw hb ht hi
  rw [hF] at hf hrf
  replace hp := Lib.hid hp
  replace hrp := Lib.hid hrp
  replace hc := Lib.hid hc
  replace hrc := Lib.hid hrc
  replace hf := Lib.hid hf
  replace hrf := Lib.hid hrf
  replace hB0 := Lib.hid hB0
  clear hP hC hF h h2 hsz
  go_enter Try.func5, Try.ntmps5
  go_wp2_with fail
  refine hgr.out.mono ?_
  rintro e w1 ⟨g1, rfl, _, hb1⟩
  have hB1 := Lib.hid (bNext hB0.out hb1 (Nat.le_refl _))
  have bx1 := bx0.out.bel hb1
  have p0 := bx1.c 0 _ rfl
  have p1 := bx1.c 1 _ rfl
  have p2 := bx1.c 2 _ rfl
  replace bx1 := Lib.hid bx1
  clear hb1 hB0 bx0 
  clear hgr
  cases g1 with
  | true =>
    go_wp2_with fail
    refine (wakes09_c _).mono ?_
    rintro e wz ⟨rfl, hbz⟩
    have hBz := Lib.hid (bNext hB1.out hbz (Nat.le_refl _))
    clear hbz
    go_wp2_with fail
    go_ret
    exact ⟨rfl, hBz.out⟩
  | false =>
    go_wp2_with fail
    refine (hlg.out _ hB1.out).mono ?_
    rintro e w2 ⟨g2, rfl, hsm, hb2⟩
    have hB2 := Lib.hid (bNext hB1.out hb2 (Nat.le_refl _))
    have bx2 := bx1.out.bel hb2
    have p0 := bx2.c 0 _ rfl
    have p1 := bx2.c 1 _ rfl
    have p2 := bx2.c 2 _ rfl
    replace bx2 := Lib.hid bx2
    clear hb2 hB1 bx1 
    clear hlg
    cases g2 with
    | true =>
      clear hsm
      go_wp2_with fail
      refine (wakes09_c _).mono ?_
      rintro e wz ⟨rfl, hbz⟩
      have hBz := Lib.hid (bNext hB2.out hbz (Nat.le_refl _))
      clear hbz
      go_wp2_with fail
      go_ret
      exact ⟨rfl, hBz.out⟩
    | false =>
      replace hsm := Lib.hid (hsm rfl)
      go_wp2_with fail
      refine (hp.out hsm.out _ hB2.out).mono ?_
      rintro e w3 ⟨a3, n3, c3, rfl, hL3, _, hb3⟩
      have ha3 := (Below.refl w3.heap.size w3).alloc (Nat.le_refl _) (.cells #[.int .i64 P.b, .int .i64 P.t, .slice a3 n3 c3] 24)
      have hbb := hb3.trans (ha3.mono hb3.size)
      have x3 := Lib.hid (blk_new w3 [.int .i64 P.b, .int .i64 P.t, .slice a3 n3 c3] 24)
      have LX3 := Lib.hid (hL3.bel ha3)
      have bxm := bx2.out.bel hb3
      have p0 := bxm.c 0 _ rfl
      have p1 := bxm.c 1 _ rfl
      have p2 := bxm.c 2 _ rfl
      clear bxm
      have hx0 := Lib.hid (show w.heap.size < w3.heap.size by have := hb3.size; have := bx2.out.l; omega)
      have hB3 := Lib.hid (bNext hB2.out hbb (Nat.le_refl _))
      have bx3 := bx2.out.bel hbb
      have q0 := bx3.c 0 _ rfl
      have q1 := bx3.c 1 _ rfl
      have q2 := bx3.c 2 _ rfl
      replace bx3 := Lib.hid bx3
      clear hbb hB2 bx2 
      clear hL3 hb3 ha3 hp
      go_wp2_with fail
      refine (hrp.out hsm.out _ hB3.out).mono ?_
      rintro e w4 ⟨a4, n4, c4, rfl, hL4, _, hb4⟩
      have ha4 := (Below.refl w4.heap.size w4).alloc (Nat.le_refl _) (.cells #[.int .i64 P.b, .int .i64 P.t, .slice a4 n4 c4] 24)
      have hbb := hb4.trans (ha4.mono hb4.size)
      have y4 := Lib.hid (blk_new w4 [.int .i64 P.b, .int .i64 P.t, .slice a4 n4 c4] 24)
      have LY4 := Lib.hid (hL4.bel ha4)
      have hxy := Lib.hid (show w3.heap.size < w4.heap.size by have := hb4.size; have := x3.out.l; omega)
      have hB4 := Lib.hid (bNext hB3.out hbb (Nat.le_refl _))
      have bx4 := bx3.out.bel hbb
      have p0 := bx4.c 0 _ rfl
      have p1 := bx4.c 1 _ rfl
      have p2 := bx4.c 2 _ rfl
      replace bx4 := Lib.hid bx4
      have x4 := x3.out.bel hbb
      have o0 := x4.c 0 _ rfl
      have o1 := x4.c 1 _ rfl
      have o2 := x4.c 2 _ rfl
      have of0 := x4.f 0
      have of1 := x4.f 1
      have of2 := x4.f 2
      replace x4 := Lib.hid x4
      have LX4 := Lib.hid (LX3.out.bel hbb)
      clear hbb hB3 bx3 x3 LX3
      have u0 := y4.out.c 0 _ rfl
      have u1 := y4.out.c 1 _ rfl
      have u2 := y4.out.c 2 _ rfl
      have hsa := same09_c P.b P.t P.b P.t a3 a4 n3 c3 n4 c4 P.l P.l _ LX4.out LY4.out
      rw [show decide (P.b = P.b ∧ P.t = P.t ∧ P.l = P.l) = true from decide_eq_true ⟨rfl, rfl, rfl⟩] at hsa
      replace hsa := Lib.hid hsa
      clear hL4 hb4 ha4 hrp q0 q1 q2
      go_wp2_with fail
      refine hsa.out.mono ?_
      rintro e w5 ⟨rfl, hb5⟩
      have hB5 := Lib.hid (bNext hB4.out hb5 (Nat.le_refl _))
      have bx5 := bx4.out.bel hb5
      have p0 := bx5.c 0 _ rfl
      have p1 := bx5.c 1 _ rfl
      have p2 := bx5.c 2 _ rfl
      replace bx5 := Lib.hid bx5
      have x5 := x4.out.bel hb5
      have o0 := x5.c 0 _ rfl
      have o1 := x5.c 1 _ rfl
      have o2 := x5.c 2 _ rfl
      have of0 := x5.f 0
      have of1 := x5.f 1
      have of2 := x5.f 2
      replace x5 := Lib.hid x5
      have y5 := y4.out.bel hb5
      have u0 := y5.c 0 _ rfl
      have u1 := y5.c 1 _ rfl
      have u2 := y5.c 2 _ rfl
      have uf0 := y5.f 0
      have uf1 := y5.f 1
      have uf2 := y5.f 2
      replace y5 := Lib.hid y5
      clear hb5 hB4 bx4 x4 y4 
      clear hsa LX4 LY4
      go_wp2_with fail
      refine (hc.out _ hB5.out).mono ?_
      rintro e w6 ⟨a6, n6, c6, rfl, hL6, hF6, hb6⟩
      have hl5x := x5.out.l
      have hl5y := y5.out.l
      have hl5b := bx5.out.l
      have hB6 := Lib.hid (bNext hB5.out hb6 (Nat.le_refl _))
      have bx6 := bx5.out.bel hb6
      have p0 := bx6.c 0 _ rfl
      have p1 := bx6.c 1 _ rfl
      have p2 := bx6.c 2 _ rfl
      replace bx6 := Lib.hid bx6
      have x6 := x5.out.bel hb6
      have o0 := x6.c 0 _ rfl
      have o1 := x6.c 1 _ rfl
      have o2 := x6.c 2 _ rfl
      have of0 := x6.f 0
      have of1 := x6.f 1
      have of2 := x6.f 2
      replace x6 := Lib.hid x6
      have y6 := y5.out.bel hb6
      have u0 := y6.c 0 _ rfl
      have u1 := y6.c 1 _ rfl
      have u2 := y6.c 2 _ rfl
      have uf0 := y6.f 0
      have uf1 := y6.f 1
      have uf2 := y6.f 2
      replace y6 := Lib.hid y6
      clear hb6 hB5 bx5 x5 y5 
      have hX7 := blk_set3 x6.out (.int .i64 C.b) (.int .i64 C.t) (.slice a6 n6 c6)
      have hY7 := blk_oth3 y6.out (q := w3.heap.size) (by have := hxy.out; omega) (.int .i64 C.b) (.int .i64 C.t) (.slice a6 n6 c6)
      have hbx7 := blk_oth3 bx6.out (q := w3.heap.size) (by have := hx0.out; omega) (.int .i64 C.b) (.int .i64 C.t) (.slice a6 n6 c6)
      have hB7 := Lib.hid (below_set3 hB6.out (show w.heap.size ≤ w3.heap.size by have := hx0.out; omega) (.int .i64 C.b) (.int .i64 C.t) (.slice a6 n6 c6))
      have LX7 := Lib.hid (hL6.set3 hF6 hl5x x6.out (.int .i64 C.b) (.int .i64 C.t) (.slice a6 n6 c6))
      have p0 := hbx7.c 0 _ rfl
      have p1 := hbx7.c 1 _ rfl
      have p2 := hbx7.c 2 _ rfl
      replace hX7 := Lib.hid hX7
      replace hY7 := Lib.hid hY7
      replace hbx7 := Lib.hid hbx7
      replace hF6 := Lib.hid hF6
      clear hc hL6 bx6 x6 y6 hB6
      go_wp2_with fail
      refine (hrc.out _ hB7.out).mono ?_
      rintro e w8 ⟨a8, n8, c8, rfl, hL8, hF8, hb8⟩
      have hB8 := Lib.hid (bNext hB7.out hb8 (Nat.le_refl _))
      have x8 := hX7.out.bel hb8
      have y8 := hY7.out.bel hb8
      have b8 := hbx7.out.bel hb8
      have LX8 := LX7.out.bel hb8
      have hl7y := hY7.out.l
      have u0 := y8.c 0 _ rfl
      have u1 := y8.c 1 _ rfl
      have u2 := y8.c 2 _ rfl
      have uf0 := y8.f 0
      have uf1 := y8.f 1
      have uf2 := y8.f 2
      have X9 := blk_oth3 x8 (q := w4.heap.size) (by have := hxy.out; omega) (.int .i64 C.b) (.int .i64 C.t) (.slice a8 n8 c8)
      have Y9 := blk_set3 y8 (.int .i64 C.b) (.int .i64 C.t) (.slice a8 n8 c8)
      have b9 := blk_oth3 b8 (q := w4.heap.size) (by have := hxy.out; have := hx0.out; omega) (.int .i64 C.b) (.int .i64 C.t) (.slice a8 n8 c8)
      have hB9 := Lib.hid (below_set3 hB8.out (show w.heap.size ≤ w4.heap.size by have := hxy.out; have := hx0.out; omega) (.int .i64 C.b) (.int .i64 C.t) (.slice a8 n8 c8))
      have LX9 := LX8.set3 hF6.out hl5y y8 (.int .i64 C.b) (.int .i64 C.t) (.slice a8 n8 c8)
      have LY9 := hL8.set3 hF8 hl7y y8 (.int .i64 C.b) (.int .i64 C.t) (.slice a8 n8 c8)
      have v0 := X9.c 0 _ rfl
      have v1 := X9.c 1 _ rfl
      have v2 := X9.c 2 _ rfl
      have y0 := Y9.c 0 _ rfl
      have y1 := Y9.c 1 _ rfl
      have y2 := Y9.c 2 _ rfl
      have hsb := same09_c C.b C.t C.b C.t a6 a8 n6 c6 n8 c8 C.l C.l _ LX9 LY9
      rw [show decide (C.b = C.b ∧ C.t = C.t ∧ C.l = C.l) = true from decide_eq_true ⟨rfl, rfl, rfl⟩] at hsb
      replace hsb := Lib.hid hsb
      have b9' := Lib.hid b9
      clear hrc hL8 hF8 hb8 x8 y8 b8 LX8 X9 Y9 LX9 LY9 hB8 hB7 hX7 hY7 hbx7 LX7 hF6 b9 o0 o1 o2 of0 of1 of2
      go_wp2_with fail
      refine hsb.out.mono ?_
      rintro e w10 ⟨rfl, hb10⟩
      have hB10 := Lib.hid (bNext hB9.out hb10 (Nat.le_refl _))
      have bx10 := b9'.out.bel hb10
      have p0 := bx10.c 0 _ rfl
      have p1 := bx10.c 1 _ rfl
      have p2 := bx10.c 2 _ rfl
      replace bx10 := Lib.hid bx10
      clear hb10 hB9 b9' hsb u0 u1 u2 uf0 uf1 uf2 v0 v1 v2 y0 y1 y2
      go_wp2_with fail
      refine (hf.out _ hB10.out).mono ?_
      rintro e w11 ⟨a11, n11, c11, rfl, hL11, hb11⟩
      have LF11 := Lib.hid hL11
      have hB11 := Lib.hid (bNext hB10.out hb11 (Nat.le_refl _))
      have bx11 := bx10.out.bel hb11
      have p0 := bx11.c 0 _ rfl
      have p1 := bx11.c 1 _ rfl
      have p2 := bx11.c 2 _ rfl
      replace bx11 := Lib.hid bx11
      clear hb11 hB10 bx10 
      clear hL11 hf
      go_wp2_with fail
      refine (hrf.out _ hB11.out).mono ?_
      rintro e w12 ⟨a12, n12, c12, rfl, hL12, hb12⟩
      have hB12 := Lib.hid (bNext hB11.out hb12 (Nat.le_refl _))
      have hse := sameEntries_c a11 a12 n11 c11 n12 c12 F.1 F.1 w12 (LF11.out.bel hb12) hL12
      rw [show decide (F.1 = F.1) = true from decide_eq_true rfl] at hse
      replace hse := Lib.hid hse
      clear hL12 hb12 hB11 hrf LF11
      go_wp2_with fail
      refine hse.out.mono ?_
      rintro e w13 ⟨rfl, hb13⟩
      have hB13 := Lib.hid (bNext hB12.out hb13 (Nat.le_refl _))
      clear hb13 hse
      go_wp2_with fail
      refine (wakes09_c _).mono ?_
      rintro e wz ⟨rfl, hbz⟩
      have hBz := Lib.hid (bNext hB13.out hbz (Nat.le_refl _))
      clear hbz
      go_wp2_with fail
      go_ret
      exact ⟨rfl, hBz.out⟩
theorem wt_LEntry {H : Type} {enc : TypeId × Value → H} {w : World} {v : Value} {x : XT_LEntry} {d : DataW H} {p : List MemPlace} (hx : Is_LEntry w v x) (h : DataW.Trod enc Try.prog w 0 (fun _ => true) true 22 v d p) (hw : ∀ k ∈ d.weights Try.prog 22, k ≤ reachBytes) : ∀ y ∈ x.l, y.d.length ≤ reachBytes := by
  obtain ⟨rfl, _, hL⟩ := hx
  obtain ⟨fuel, hf⟩ := h
  exact wt_es hL hf hw
theorem rowsMake_walk (w : World) (v0 : Value) (a0 : XT_Rows) (v1 : Value) (a1 : XT_LEntry) (a2 a3 : Int) (w0 : Is_Rows w v0 a0) (w1 : Is_LEntry w v1 a1) (w2 : (Lit.int .i64 a2).wf = true) (w3 : (Lit.int .i64 a3).wf = true) (hz : ∀ y ∈ a1.l, y.d.length ≤ reachBytes) :
    Calls Try.prog 5 #[v0, v1, .int .i64 a2, .int .i64 a3] w fun e w' => e = .returned (.bool true) ∧ Below w.heap.size w w' := by
  obtain ⟨rfl, hb, ht, hw, hL⟩ := w0
  obtain ⟨rfl, hw3, hL3⟩ := w1
  exact rowsMake_h a0.b a0.t a0.a a0.n a0.c a0.l a1.a a1.n a1.c a1.l a2 a3 w hL hw hb ht hL3 hw3 (ct_i64 w2) hz
end Go.Proofs.Ytbiodlhiilmgkaa
