/- Rows by what they say: the reference's Entry. -/
import Derived.Test.YtbiodlhiilmgkaaCt9
namespace Go.Proofs.Ytbiodlhiilmgkaa
open Go.ChangeShapes Go.WideShapes Go.ChangeAt Go.RowKit
set_option linter.unusedVariables false
set_option linter.unusedSimpArgs false
open BigFrame Bs Rw Ct

namespace Ct
theorem Byt.far {w w' : World} {a : Option Addr} {n cap m : Nat} {d : List Nat} (h : Byt w a n cap d) (hf : Far m a n) (hc : ∀ b o, m ≤ b → w'.cell? ⟨b, o, none⟩ = w.cell? ⟨b, o, none⟩) (hs : w.heap.size ≤ w'.heap.size) : Byt w' a n cap d :=
  ⟨h.len, h.le, h.mx, fun hn => by
    obtain ⟨b, o, ha, hb, hr⟩ := h.row hn
    obtain ⟨g, o2, ha2, hg⟩ := hf hn
    rw [ha] at ha2
    cases ha2
    exact ⟨b, o, ha, Nat.lt_of_lt_of_le hb hs, fun i x hx => ⟨(hc b _ hg).trans (hr i x hx).1, (hr i x hx).2⟩⟩⟩
end Ct
attribute [local go_sem ↓] sliced_cut

set_option maxRecDepth 100000 in
set_option maxHeartbeats 4000000 in
/-- The reference's 'Entry' of rows that may be. -/
theorem rent_c (b t i : Int) (a : Option Addr) (n c : Nat) (l : List En) (w : World) (h : LAt w a n c l) (hw : Wfl l) (hb : I64 b) (ht : I64 t) (hi : I64 i) (hc : chk b t l = true) :
    Calls Try.prog 15 #[.agg #[.int .i64 b, .int .i64 t, .slice a n c], .int .i64 i] w (EntP w (entR b t l i)) := by
  have hl := h.len
  obtain ⟨g1, _⟩ := chk_iff.1 hc
  have hB0 : Below w.heap.size w ((w.alloc (.cells #[.int .i64 b, .int .i64 t, .slice a n c] 24)).alloc (.cells #[.int .i64 0, .int .i8 0, .int .i64 0, .int .u8 0, .slice none 0 0] 39)) := ((Below.refl _ _).alloc (Nat.le_refl _) _).alloc (by simp) _
  have bx := Lib.hid ((blk_new w [.int .i64 b, .int .i64 t, .slice a n c] 24).bel ((Below.refl _ _).alloc (Nat.le_refl _) (.cells #[.int .i64 0, .int .i8 0, .int .i64 0, .int .u8 0, .slice none 0 0] 39)))
  have rs := blk_new (w.alloc (.cells #[.int .i64 b, .int .i64 t, .slice a n c] 24)) [.int .i64 0, .int .i8 0, .int .i64 0, .int .u8 0, .slice none 0 0] 39
  rw [World.size_alloc] at rs
  replace rs := Lib.hid rs
  have hla := Lib.hid (rlast_l b t a n c l _ (h.bel hB0) hw hb ht hc)
  have hck := Lib.hid (fun u (hu : Below w.heap.size w u) => rcheck_l b t a n c l u (h.bel hu) hw hb ht)
  rw [hc] at hck
  have hsm := Lib.hid (chk_sml hc)
  have g2 : 0 ≤ b := g1.1
  have g3 : (l.length : Int) ≤ 4096 := by omega
  have g4 : b ≤ 1099511627776 := by omega
  have hi1 := hi.1
  have hi2 := hi.2
  have hln : Hid (n = l.length) := hl
  have H := Lib.hid h
  replace hB0 := Lib.hid hB0
  clear hc g1 h hl
  unfold I64 at hi
  by_cases h1 : i ≤ b
  · have hm := Lib.hid (show entR b t l i = (en0, false) by unfold entR; rw [if_neg (by omega)])
    go_enter Try.func15, Try.ntmps15
    go_wp2_with fail
    refine hla.out.mono ?_
    rintro e w1 ⟨rfl, hb1⟩
    have hB1 := Lib.hid (bNext hB0.out hb1 (Nat.le_refl _))
    have bx1 := bx.out.bel hb1
    have rs1 := Lib.hid (rs.out.bel hb1)
    have p0 := bx1.c 0 _ rfl
    have p1 := bx1.c 1 _ rfl
    have p2 := bx1.c 2 _ rfl
    replace bx1 := Lib.hid bx1
    clear hb1
    go_wp2_with fail
    refine (hck.out _ hB1.out).mono ?_
    rintro e w2 ⟨rfl, hb2⟩
    have hB2 := Lib.hid (bNext hB1.out hb2 (Nat.le_refl _))
    have bx2 := bx1.out.bel hb2
    have rs2 := Lib.hid (rs1.out.bel hb2)
    have q0 := bx2.c 0 _ rfl
    have q1 := bx2.c 1 _ rfl
    have q2 := bx2.c 2 _ rfl
    clear bx2 hb2 bx1 rs1 hB1 p0 p1 p2 hla hck bx hB0 rs
    have r0 := rs2.out.c 0 _ rfl
    have r1 := rs2.out.c 1 _ rfl
    have r2 := rs2.out.c 2 _ rfl
    have r3 := rs2.out.c 3 _ rfl
    have r4 := rs2.out.c 4 _ rfl
    have rf := rs2.out.f 0
    have rf1 := rs2.out.f 1
    have rf2 := rs2.out.f 2
    have rf3 := rs2.out.f 3
    have rf4 := rs2.out.f 4
    have rs4 := ((((rs2.out.set (i := 0) (by simp) (.int .i64 0)).set (i := 1) (by simp) (.int .i8 0)).set (i := 2) (by simp) (.int .i64 0)).set (i := 3) (by simp) (.int .u8 0)).set (i := 4) (by simp) (.slice none 0 0)
    have s0 := Lib.hid (rs4.c 0 _ rfl)
    have s1 := Lib.hid (rs4.c 1 _ rfl)
    have s2 := Lib.hid (rs4.c 2 _ rfl)
    have s3 := Lib.hid (rs4.c 3 _ rfl)
    have s4 := Lib.hid (rs4.c 4 _ rfl)
    have hB4 := Lib.hid (((((hB2.out.setCell (p := ⟨w.heap.size + 1, 0, none⟩) (by show _ ≤ w.heap.size + 1; omega) (.int .i64 0)).setCell (p := ⟨w.heap.size + 1, 1, none⟩) (by show _ ≤ w.heap.size + 1; omega) (.int .i8 0)).setCell (p := ⟨w.heap.size + 1, 2, none⟩) (by show _ ≤ w.heap.size + 1; omega) (.int .i64 0)).setCell (p := ⟨w.heap.size + 1, 3, none⟩) (by show _ ≤ w.heap.size + 1; omega) (.int .u8 0)).setCell (p := ⟨w.heap.size + 1, 4, none⟩) (by show _ ≤ w.heap.size + 1; omega) (.slice none 0 0))
    clear rs4
    go_wp2_with fail
    refine bodyPost_ret (v := .tuple #[.agg #[.int .i64 0, .int .i8 0, .int .i64 0, .int .u8 0, .slice none 0 0], .bool false]) (by simp [results, Try.results15, go_sem, s0.out, s1.out, s2.out, s3.out, s4.out]) rfl ?_
    rw [hm.out]
    exact ⟨_, _, _, rfl, Byt.nil _ _ _ (by omega), hB4.out⟩
  by_cases h2 : b + l.length < i
  · have hm := Lib.hid (show entR b t l i = (en0, false) by unfold entR; rw [if_neg (by omega)])
    go_enter Try.func15, Try.ntmps15
    go_wp2_with fail
    refine hla.out.mono ?_
    rintro e w1 ⟨rfl, hb1⟩
    have hB1 := Lib.hid (bNext hB0.out hb1 (Nat.le_refl _))
    have bx1 := bx.out.bel hb1
    have rs1 := Lib.hid (rs.out.bel hb1)
    have p0 := bx1.c 0 _ rfl
    have p1 := bx1.c 1 _ rfl
    have p2 := bx1.c 2 _ rfl
    replace bx1 := Lib.hid bx1
    clear hb1
    go_wp2_with fail
    refine (hck.out _ hB1.out).mono ?_
    rintro e w2 ⟨rfl, hb2⟩
    have hB2 := Lib.hid (bNext hB1.out hb2 (Nat.le_refl _))
    have bx2 := bx1.out.bel hb2
    have rs2 := Lib.hid (rs1.out.bel hb2)
    have q0 := bx2.c 0 _ rfl
    have q1 := bx2.c 1 _ rfl
    have q2 := bx2.c 2 _ rfl
    clear bx2 hb2 bx1 rs1 hB1 p0 p1 p2 hla hck bx hB0 rs
    have r0 := rs2.out.c 0 _ rfl
    have r1 := rs2.out.c 1 _ rfl
    have r2 := rs2.out.c 2 _ rfl
    have r3 := rs2.out.c 3 _ rfl
    have r4 := rs2.out.c 4 _ rfl
    have rf := rs2.out.f 0
    have rf1 := rs2.out.f 1
    have rf2 := rs2.out.f 2
    have rf3 := rs2.out.f 3
    have rf4 := rs2.out.f 4
    have rs4 := ((((rs2.out.set (i := 0) (by simp) (.int .i64 0)).set (i := 1) (by simp) (.int .i8 0)).set (i := 2) (by simp) (.int .i64 0)).set (i := 3) (by simp) (.int .u8 0)).set (i := 4) (by simp) (.slice none 0 0)
    have s0 := Lib.hid (rs4.c 0 _ rfl)
    have s1 := Lib.hid (rs4.c 1 _ rfl)
    have s2 := Lib.hid (rs4.c 2 _ rfl)
    have s3 := Lib.hid (rs4.c 3 _ rfl)
    have s4 := Lib.hid (rs4.c 4 _ rfl)
    have hB4 := Lib.hid (((((hB2.out.setCell (p := ⟨w.heap.size + 1, 0, none⟩) (by show _ ≤ w.heap.size + 1; omega) (.int .i64 0)).setCell (p := ⟨w.heap.size + 1, 1, none⟩) (by show _ ≤ w.heap.size + 1; omega) (.int .i8 0)).setCell (p := ⟨w.heap.size + 1, 2, none⟩) (by show _ ≤ w.heap.size + 1; omega) (.int .i64 0)).setCell (p := ⟨w.heap.size + 1, 3, none⟩) (by show _ ≤ w.heap.size + 1; omega) (.int .u8 0)).setCell (p := ⟨w.heap.size + 1, 4, none⟩) (by show _ ≤ w.heap.size + 1; omega) (.slice none 0 0))
    clear rs4
    go_wp2_with fail
    refine bodyPost_ret (v := .tuple #[.agg #[.int .i64 0, .int .i8 0, .int .i64 0, .int .u8 0, .slice none 0 0], .bool false]) (by simp [results, Try.results15, go_sem, s0.out, s1.out, s2.out, s3.out, s4.out]) rfl ?_
    rw [hm.out]
    exact ⟨_, _, _, rfl, Byt.nil _ _ _ (by omega), hB4.out⟩
  · obtain ⟨k, hk⟩ : ∃ k : Nat, i - b - 1 = (k : Int) := ⟨(i - b - 1).toNat, by omega⟩
    have hkl : k < l.length := by omega
    have hk1 : i - b = (k : Int) + 1 := by omega
    obtain ⟨y, hy⟩ : ∃ y, l[k]? = some y := ⟨_, List.getElem?_eq_getElem hkl⟩
    have hm := Lib.hid (show entR b t l i = (y, true) by unfold entR; rw [if_pos (by omega), hk, Int.toNat_natCast, List.getD_eq_getElem?_getD, hy]; rfl)
    have hkn : k + 1 ≤ n := by have := hln.out; omega
    have hknc : k + 1 ≤ c := by have := H.out.le; omega
    have hknI : (k : Int) + 1 ≤ (n : Int) := by omega
    have hkcI : (k : Int) + 1 ≤ (c : Int) := by omega
    have hk0 : (k : Int) ≤ 5000 := by omega
    have hdy := Lib.hid (show (l.take (k + 1)).drop k = [y] by rw [take_snocE hy, List.drop_append_of_le_length (by simp; omega)]; simp)
    have hcp := Lib.hid (fun u (hu : Below w.heap.size w u) => (show Calls Try.prog 32 #[.slice (cutA a k c 5) 1 (c - k)] u (CopLF u 1 [y]) by
      have q := (H.out.bel hu).cut (show k ≤ k + 1 by omega) hkn hknc (Nat.le_refl c)
      rw [hdy.out, Nat.add_sub_cancel_left] at q
      exact rcopied_f _ _ _ _ u q ⟨by simp, fun z hz => by rw [List.mem_singleton] at hz; subst hz; exact hsm.out.at hy⟩))
    have hd1 : decide (i ≤ b) = false := by simpa using h1
    have hd2 : decide (b + (l.length : Int) < i) = false := by simpa using h2
    clear hy h1 h2
    go_enter Try.func15, Try.ntmps15
    go_wp2_with fail
    refine hla.out.mono ?_
    rintro e w1 ⟨rfl, hb1⟩
    have hB1 := Lib.hid (bNext hB0.out hb1 (Nat.le_refl _))
    have bx1 := bx.out.bel hb1
    have rs1 := Lib.hid (rs.out.bel hb1)
    have p0 := bx1.c 0 _ rfl
    have p1 := bx1.c 1 _ rfl
    have p2 := bx1.c 2 _ rfl
    replace bx1 := Lib.hid bx1
    clear hb1
    go_wp2_with fail
    refine (hck.out _ hB1.out).mono ?_
    rintro e w2 ⟨rfl, hb2⟩
    have hB2 := Lib.hid (bNext hB1.out hb2 (Nat.le_refl _))
    have bx2 := bx1.out.bel hb2
    have rs2 := Lib.hid (rs1.out.bel hb2)
    have q0 := bx2.c 0 _ rfl
    have q1 := bx2.c 1 _ rfl
    have q2 := bx2.c 2 _ rfl
    clear bx2 hb2 bx1 rs1 hB1 p0 p1 p2 hla hck bx hB0 rs
    go_wp2_with fail
    refine (hcp.out _ hB2.out).mono ?_
    rintro e w3 ⟨a3, c3, rfl, ⟨es, hE, hH, hff⟩, hF3, hb3⟩
    obtain ⟨x, rfl⟩ : ∃ x, es = [x] := List.length_eq_one_iff.1 hH.1
    obtain ⟨g, o, rfl, hg, hx⟩ := hE.row (by omega)
    have hhas := hH.2 0 x y rfl rfl
    have hfx := hff x (by simp)
    obtain ⟨x0, x1, x2, x3, x4⟩ := hx 0 x rfl
    rw [Nat.zero_mul, Nat.add_zero] at x0 x1 x2 x3 x4
    rw [hhas.t] at x0
    rw [hhas.k] at x1
    rw [hhas.s] at x2
    rw [hhas.u] at x3
    have hB3 := bNext hB2.out hb3 (Nat.le_refl _)
    have rs3 := rs2.out.bel hb3
    have hls := rs2.out.l
    have r0 := rs3.c 0 _ rfl
    have r1 := rs3.c 1 _ rfl
    have r2 := rs3.c 2 _ rfl
    have r3 := rs3.c 3 _ rfl
    have r4 := rs3.c 4 _ rfl
    have rf := rs3.f 0
    have rf1 := rs3.f 1
    have rf2 := rs3.f 2
    have rf3 := rs3.f 3
    have rf4 := rs3.f 4
    have rs4 := ((((rs3.set (i := 0) (by simp) (.int .i64 y.term)).set (i := 1) (by simp) (.int .i8 y.kind)).set (i := 2) (by simp) (.int .i64 y.stamp)).set (i := 3) (by simp) (.int .u8 y.set)).set (i := 4) (by simp) (.slice x.da x.dl x.dc)
    have s0 := Lib.hid (rs4.c 0 _ rfl)
    have s1 := Lib.hid (rs4.c 1 _ rfl)
    have s2 := Lib.hid (rs4.c 2 _ rfl)
    have s3 := Lib.hid (rs4.c 3 _ rfl)
    have s4 := Lib.hid (rs4.c 4 _ rfl)
    have hB4 := Lib.hid (((((hB3.setCell (p := ⟨w.heap.size + 1, 0, none⟩) (by show _ ≤ w.heap.size + 1; omega) (.int .i64 y.term)).setCell (p := ⟨w.heap.size + 1, 1, none⟩) (by show _ ≤ w.heap.size + 1; omega) (.int .i8 y.kind)).setCell (p := ⟨w.heap.size + 1, 2, none⟩) (by show _ ≤ w.heap.size + 1; omega) (.int .i64 y.stamp)).setCell (p := ⟨w.heap.size + 1, 3, none⟩) (by show _ ≤ w.heap.size + 1; omega) (.int .u8 y.set)).setCell (p := ⟨w.heap.size + 1, 4, none⟩) (by show _ ≤ w.heap.size + 1; omega) (.slice x.da x.dl x.dc))
    have hd4 := Lib.hid (hhas.d.far (w' := ((((w3.setCell ⟨w.heap.size + 1, 0, none⟩ (.int .i64 y.term)).setCell ⟨w.heap.size + 1, 1, none⟩ (.int .i8 y.kind)).setCell ⟨w.heap.size + 1, 2, none⟩ (.int .i64 y.stamp)).setCell ⟨w.heap.size + 1, 3, none⟩ (.int .u8 y.set)).setCell ⟨w.heap.size + 1, 4, none⟩ (.slice x.da x.dl x.dc)) hfx (fun b' o' hb' => by
      have q : ∀ (U : World) j v, (U.setCell ⟨w.heap.size + 1, j, none⟩ v).cell? ⟨b', o', none⟩ = U.cell? ⟨b', o', none⟩ := fun U j v => World.cell?_setCell_other _ _ _ _ (by simp <;> omega)
      rw [q, q, q, q, q]) (by simp))
    clear rs4 rs3 hB3 hb3 hE hH hff hF3 hx hhas hfx
    go_wp2_with fail
    refine bodyPost_ret (v := .tuple #[.agg #[.int .i64 y.term, .int .i8 y.kind, .int .i64 y.stamp, .int .u8 y.set, .slice x.da x.dl x.dc], .bool true]) (by simp [results, Try.results15, go_sem, s0.out, s1.out, s2.out, s3.out, s4.out]) rfl ?_
    rw [hm.out]
    exact ⟨_, _, _, rfl, hd4.out, hB4.out⟩
end Go.Proofs.Ytbiodlhiilmgkaa
