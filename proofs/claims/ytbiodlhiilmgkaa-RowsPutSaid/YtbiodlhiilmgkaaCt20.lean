/- RowsPut: the walk of the law. -/
import Derived.Test.YtbiodlhiilmgkaaCt19
namespace Go.Proofs.Ytbiodlhiilmgkaa
open Go.ChangeShapes Go.WideShapes Go.ChangeAt Go.RowKit
set_option linter.unusedVariables false
set_option linter.unusedSimpArgs false
open BigFrame Bs Rw Ct

set_option maxRecDepth 100000 in
set_option maxHeartbeats 40000000 in
theorem rowsPut_h (b t : Int) (a : Option Addr) (n c : Nat) (l : List En) (i τ : Int) (a2 : Option Addr) (m c2 : Nat) (l2 : List En) (w : World) (h : LAt w a n c l) (hw : Wfl l) (hb : I64 b) (ht : I64 t) (hi : I64 i) (hτ : I64 τ) (h2 : LAt w a2 m c2 l2) (hw2 : Wfl l2) :
    Calls Try.prog 3 #[.agg #[.int .i64 b, .int .i64 t, .slice a n c], .int .i64 i, .int .i64 τ, .slice a2 m c2] w fun e w' => e = .returned (.bool true) ∧ Below w.heap.size w w' := by
  have hB0 : Below w.heap.size w (w.alloc (.cells #[.int .i64 b, .int .i64 t, .slice a n c] 24)) := (Below.refl _ _).alloc (Nat.le_refl _) _
  have bx := Lib.hid (blk_new w [.int .i64 b, .int .i64 t, .slice a n c] 24)
  have hgr := Lib.hid (great09_c b t a n c l _ (h.bel hB0))
  have hlg := Lib.hid (fun u (hu : Below w.heap.size w u) => long_c a2 m c2 l2 u (h2.bel hu))
  obtain ⟨P, hP⟩ : ∃ P, putR b t l i τ l2 = P := ⟨_, rfl⟩
  have hp := fun u (hu : Below w.heap.size w u) => put_c b t i τ a a2 n c m c2 l l2 u (h.bel hu) (h2.bel hu) hw hw2 hb ht hi hτ
  have hrp := fun u (hu : Below w.heap.size w u) => rput_c b t i τ a a2 n c m c2 l l2 u (h.bel hu) (h2.bel hu) hw hw2 hb ht hi hτ
  rw [hP] at hp hrp
  replace hp := Lib.hid hp
  replace hrp := Lib.hid hrp
  replace hB0 := Lib.hid hB0
  clear hP h h2
  go_enter Try.func3, Try.ntmps3
  go_wp2_with fail
  refine hgr.out.mono ?_
  rintro e w1 ⟨g1, rfl, _, hb1⟩
  have hB1 := Lib.hid (bNext hB0.out hb1 (Nat.le_refl _))
  have bx1 := bx.out.bel hb1
  have p0 := bx1.c 0 _ rfl
  have p1 := bx1.c 1 _ rfl
  have p2 := bx1.c 2 _ rfl
  replace bx1 := Lib.hid bx1
  clear hb1 hgr hB0 bx
  cases g1 with
  | true =>
    go_wp2_with fail
    refine (wakes09_c _).mono ?_
    rintro e wz ⟨rfl, hbz⟩
    have hBz := Lib.hid (bNext hB1.out hbz (Nat.le_refl _))
    clear hbz
    go_wp2_with fail
    go_ret
    exact ⟨rfl, hBz.out⟩
  | false =>
    go_wp2_with fail
    refine (hlg.out _ hB1.out).mono ?_
    rintro e w2 ⟨g2, rfl, _, hb2⟩
    have hB2 := Lib.hid (bNext hB1.out hb2 (Nat.le_refl _))
    have bx2 := bx1.out.bel hb2
    have p0 := bx2.c 0 _ rfl
    have p1 := bx2.c 1 _ rfl
    have p2 := bx2.c 2 _ rfl
    replace bx2 := Lib.hid bx2
    clear hb2 hlg hB1 bx1
    cases g2 with
    | true =>
      go_wp2_with fail
      refine (wakes09_c _).mono ?_
      rintro e wz ⟨rfl, hbz⟩
      have hBz := Lib.hid (bNext hB2.out hbz (Nat.le_refl _))
      clear hbz
      go_wp2_with fail
      go_ret
      exact ⟨rfl, hBz.out⟩
    | false =>
      go_wp2_with fail
      refine (hp.out _ hB2.out).mono ?_
      rintro e w3 ⟨a3, n3, c3, rfl, hL3, hb3⟩
      have hb3a := (Below.refl w3.heap.size w3).alloc (Nat.le_refl _) (.cells #[.int .i64 P.r.b, .int .i64 P.r.t, .slice a3 n3 c3] 24)
      have k3 := blk_new w3 [.int .i64 P.r.b, .int .i64 P.r.t, .slice a3 n3 c3] 24
      have hB3 := Lib.hid (bNext (bNext hB2.out hb3 (Nat.le_refl _)) hb3a (Nat.le_refl _))
      have bx3 := (bx2.out.bel hb3).bel hb3a
      have p0 := (bx2.out.bel hb3).c 0 _ rfl
      have p1 := (bx2.out.bel hb3).c 1 _ rfl
      have p2 := (bx2.out.bel hb3).c 2 _ rfl
      have q0 := bx3.c 0 _ rfl
      have q1 := bx3.c 1 _ rfl
      have q2 := bx3.c 2 _ rfl
      have hL3a := Lib.hid (hL3.bel hb3a)
      replace k3 := Lib.hid k3
      clear hb3 hB2 bx2 bx3 hp hL3 hb3a
      go_wp2_with fail
      refine (hrp.out _ hB3.out).mono ?_
      rintro e w4 ⟨a4, n4, c4, rfl, hL4, hb4⟩
      have hb4a := (Below.refl w4.heap.size w4).alloc (Nat.le_refl _) (.cells #[.int .i64 P.r.b, .int .i64 P.r.t, .slice a4 n4 c4] 24)
      have hB4 := Lib.hid (bNext (bNext hB3.out hb4 (Nat.le_refl _)) hb4a (Nat.le_refl _))
      have k4 := k3.out.bel hb4
      have r0 := k4.c 0 _ rfl
      have r1 := k4.c 1 _ rfl
      have r2 := k4.c 2 _ rfl
      have k4a := k4.bel hb4a
      have s0 := k4a.c 0 _ rfl
      have s1 := k4a.c 1 _ rfl
      have s2 := k4a.c 2 _ rfl
      have hsm := same09_c P.r.b P.r.t P.r.b P.r.t a3 a4 n3 c3 n4 c4 P.r.l P.r.l _ ((hL3a.out.bel hb4).bel hb4a) (hL4.bel hb4a)
      rw [show decide (P.r.b = P.r.b ∧ P.r.t = P.r.t ∧ P.r.l = P.r.l) = true from decide_eq_true ⟨rfl, rfl, rfl⟩] at hsm
      replace hsm := Lib.hid hsm
      clear hb4 hb4a hB3 k3 k4 k4a hL4 hL3a hrp q0 q1 q2 p0 p1 p2
      go_wp2_with fail
      refine hsm.out.mono ?_
      rintro e w5 ⟨rfl, hb5⟩
      have hB5 := Lib.hid (bNext hB4.out hb5 (Nat.le_refl _))
      clear hb5 hB4 hsm r0 r1 r2 s0 s1 s2
      go_wp2_with fail
      refine (wakes09_c _).mono ?_
      rintro e wz ⟨rfl, hbz⟩
      have hBz := Lib.hid (bNext hB5.out hbz (Nat.le_refl _))
      clear hbz
      go_wp2_with fail
      go_ret
      exact ⟨rfl, hBz.out⟩

theorem rowsPut_walk (w : World) (v0 : Value) (a0 : XT_Rows) (a1 a2 : Int) (v3 : Value) (a3 : XT_LEntry) (w0 : Is_Rows w v0 a0) (w1 : (Lit.int .i64 a1).wf = true) (w2 : (Lit.int .i64 a2).wf = true) (w3 : Is_LEntry w v3 a3) :
    Calls Try.prog 3 #[v0, .int .i64 a1, .int .i64 a2, v3] w fun e w' => e = .returned (.bool true) ∧ Below w.heap.size w w' := by
  obtain ⟨rfl, hb, ht, hw, hL⟩ := w0
  obtain ⟨rfl, hw3, hL3⟩ := w3
  exact rowsPut_h a0.b a0.t a0.a a0.n a0.c a0.l a1 a2 a3.a a3.n a3.c a3.l w hL hw hb ht (ct_i64 w1) (ct_i64 w2) hL3 hw3
end Go.Proofs.Ytbiodlhiilmgkaa
