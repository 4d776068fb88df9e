/- Rows by what they say: Cut, From, Entry. -/
import Derived.Test.YtbiodlhiilmgkaaCt7
namespace Go.Proofs.Ytbiodlhiilmgkaa
open Go.ChangeShapes Go.WideShapes Go.ChangeAt Go.RowKit
set_option linter.unusedVariables false
set_option linter.unusedSimpArgs false
open BigFrame Bs Rw Ct

namespace Ct
theorem LAt.cut_all {w : World} {a : Option Addr} {n cap : Nat} {l : List En} (h : LAt w a n cap l) {k : Nat} (h1 : k ≤ n) : LAt w (cutA a k cap 5) (n - k) (cap - k) (l.drop k) := by
  have q := h.cut h1 (Nat.le_refl n) h.le (Nat.le_refl cap)
  rwa [List.take_of_length_le (by rw [← h.len]; exact Nat.le_refl _)] at q
theorem Sml.sub {l m : List En} (h : Sml l) (hl : m.length ≤ l.length) (hm : ∀ y ∈ m, y ∈ l) : Sml m := ⟨by have := h.1; omega, fun y hy => h.2 y (hm y hy)⟩
theorem Sml.drop {l : List En} (h : Sml l) (k : Nat) : Sml (l.drop k) := h.sub (by simp) (fun y hy => List.mem_of_mem_drop hy)
theorem Sml.take {l : List En} (h : Sml l) (k : Nat) : Sml (l.take k) := h.sub (by simp; omega) (fun y hy => List.mem_of_mem_take hy)
theorem Wfl.drop {l : List En} (h : Wfl l) (k : Nat) : Wfl (l.drop k) := fun y hy => h y (List.mem_of_mem_drop hy)
theorem Wfl.take {l : List En} (h : Wfl l) (k : Nat) : Wfl (l.take k) := fun y hy => h y (List.mem_of_mem_take hy)
theorem Wfl.app {l m : List En} (h : Wfl l) (k : Wfl m) : Wfl (l ++ m) := fun y hy => (List.mem_append.1 hy).elim (h y) (k y)
end Ct
attribute [local go_sem ↓] sliced_cut

set_option maxRecDepth 100000 in
set_option maxHeartbeats 4000000 in
theorem cut_c (b t i : Int) (a : Option Addr) (n c : Nat) (l : List En) (w : World) (h : LAt w a n c l) (hw : Wfl l) (hb : I64 b) (ht : I64 t) (hi : I64 i) :
    Calls Try.prog 19 #[.agg #[.int .i64 b, .int .i64 t, .slice a n c], .int .i64 i] w (RowsP w (cutR b t l i)) := by
  have hl := Lib.hid h.len
  have hB0 : Below w.heap.size w ((w.alloc (.cells #[.int .i64 b, .int .i64 t, .slice a n c] 24)).alloc (.cells #[.int .i64 0, .int .i64 0, .slice none 0 0] 24)) := ((Below.refl _ _).alloc (Nat.le_refl _) _).alloc (by simp) _
  have bx := Lib.hid ((blk_new w [.int .i64 b, .int .i64 t, .slice a n c] 24).bel ((Below.refl _ _).alloc (Nat.le_refl _) (.cells #[.int .i64 0, .int .i64 0, .slice none 0 0] 24)))
  have rs := blk_new (w.alloc (.cells #[.int .i64 b, .int .i64 t, .slice a n c] 24)) [.int .i64 0, .int .i64 0, .slice none 0 0] 24
  rw [World.size_alloc] at rs
  replace rs := Lib.hid rs
  have hck := Lib.hid (check_l b t a n c l _ (h.bel hB0) hw hb ht)
  replace hB0 := Lib.hid hB0
  cases hc : chk b t l with
  | false =>
    have hm := Lib.hid (show cutR b t l i = ⟨0, 0, [], 90⟩ by unfold cutR; rw [hc]; rfl)
    rw [hc] at hck
    clear hc h
    go_enter Try.func19, Try.ntmps19
    go_wp2_with fail
    refine hck.out.mono ?_
    rintro e w1 ⟨rfl, hb1⟩
    have rs1 := rs.out.bel hb1
    have hB1 := bNext hB0.out hb1 (Nat.le_refl _)
    have r0 := rs1.c 0 _ rfl
    have r1 := rs1.c 1 _ rfl
    have r2 := rs1.c 2 _ rfl
    have rf := rs1.f 0
    have rf1 := rs1.f 1
    have rf2 := rs1.f 2
    have rs4 := blk_set3 rs1 (.int .i64 0) (.int .i64 0) (.slice none 0 0)
    have s0 := Lib.hid (rs4.c 0 _ rfl)
    have s1 := Lib.hid (rs4.c 1 _ rfl)
    have s2 := Lib.hid (rs4.c 2 _ rfl)
    have hB4 := Lib.hid (below_set3 hB1 (show w.heap.size ≤ w.heap.size + 1 by omega) (.int .i64 0) (.int .i64 0) (.slice none 0 0))
    clear rs1 hB1 rs4 hb1 hck bx rs hB0
    go_wp2_with fail
    refine bodyPost_ret (v := .tuple #[.agg #[.int .i64 0, .int .i64 0, .slice none 0 0], .int .i64 90]) (by simp [results, Try.results19, go_sem, s0.out, s1.out, s2.out]) rfl ?_
    rw [hm.out]
    exact ⟨_, _, _, rfl, LAt.nil _ _ _ (by omega), Far.zero _ _, hB4.out⟩
  | true =>
    rw [hc] at hck
    have hsm := Lib.hid (chk_sml hc)
    have htm := Lib.hid (fun u (hu : Below w.heap.size w u) => term_c b t i a n c l u (h.bel hu) hw hb ht hi hc)
    obtain ⟨g1, _⟩ := chk_iff.1 hc
    have g2 : 0 ≤ b := g1.1
    have g3 : (l.length : Int) ≤ 4096 := by omega
    have g4 : b ≤ 1099511627776 := by omega
    have hi1 := hi.1
    have hi2 := hi.2
    clear g1
    cases hB : termB b l i with
    | false =>
      have hm := Lib.hid (show cutR b t l i = ⟨0, 0, [], 4⟩ by unfold cutR; rw [hc]; unfold termB at hB; have := of_decide_eq_false hB; simp only [if_true]; rw [if_neg this])
      rw [hB] at htm
      clear hc hB h
      go_enter Try.func19, Try.ntmps19
      go_wp2_with fail
      refine hck.out.mono ?_
      rintro e w1 ⟨rfl, hb1⟩
      have bx1 := bx.out.bel hb1
      have rs1 := Lib.hid (rs.out.bel hb1)
      have hB1 := Lib.hid (bNext hB0.out hb1 (Nat.le_refl _))
      have p0 := bx1.c 0 _ rfl
      have p1 := bx1.c 1 _ rfl
      have p2 := bx1.c 2 _ rfl
      clear bx1 hb1 hck bx rs hB0
      go_wp2_with fail
      refine (htm.out _ hB1.out).mono ?_
      rintro e w2 ⟨rfl, hb2⟩
      have rs2 := rs1.out.bel hb2
      have hB2 := bNext hB1.out hb2 (Nat.le_refl _)
      have r0 := rs2.c 0 _ rfl
      have r1 := rs2.c 1 _ rfl
      have r2 := rs2.c 2 _ rfl
      have rf := rs2.f 0
      have rf1 := rs2.f 1
      have rf2 := rs2.f 2
      have rs4 := blk_set3 rs2 (.int .i64 0) (.int .i64 0) (.slice none 0 0)
      have s0 := Lib.hid (rs4.c 0 _ rfl)
      have s1 := Lib.hid (rs4.c 1 _ rfl)
      have s2 := Lib.hid (rs4.c 2 _ rfl)
      have hB4 := Lib.hid (below_set3 hB2 (show w.heap.size ≤ w.heap.size + 1 by omega) (.int .i64 0) (.int .i64 0) (.slice none 0 0))
      clear rs2 hB2 rs4 hb2 rs1 hB1 p0 p1 p2
      go_wp2_with fail
      refine bodyPost_ret (v := .tuple #[.agg #[.int .i64 0, .int .i64 0, .slice none 0 0], .int .i64 4]) (by simp [results, Try.results19, go_sem, s0.out, s1.out, s2.out]) rfl ?_
      rw [hm.out]
      exact ⟨_, _, _, rfl, LAt.nil _ _ _ (by omega), Far.zero _ _, hB4.out⟩
    | true =>
      have hT := of_decide_eq_true hB
      obtain ⟨k, hk⟩ : ∃ k : Nat, i - b = (k : Int) := ⟨(i - b).toNat, by omega⟩
      have hkn : k ≤ n := by have := hl.out; omega
      have hm := Lib.hid (show cutR b t l i = ⟨i, termT b t l i, l.drop k, 0⟩ by
        unfold cutR termT
        rw [hc, if_pos rfl, if_pos hT, if_pos hT, hk]; rfl)
      have hcp := Lib.hid (fun u (hu : Below w.heap.size w u) => copied_c (cutA a k c 5) (n - k) (c - k) (l.drop k) u ((h.bel hu).cut_all hkn) (hsm.out.drop k))
      have hkI : (k : Int) ≤ (n : Int) := by omega
      obtain ⟨T, hTT⟩ : ∃ T, termT b t l i = T := ⟨_, rfl⟩
      rw [hB, hTT] at htm
      rw [hTT] at hm
      clear hc hB hT hTT h
      go_enter Try.func19, Try.ntmps19
      go_wp2_with fail
      refine hck.out.mono ?_
      rintro e w1 ⟨rfl, hb1⟩
      have bx1 := bx.out.bel hb1
      have rs1 := Lib.hid (rs.out.bel hb1)
      have hB1 := Lib.hid (bNext hB0.out hb1 (Nat.le_refl _))
      have p0 := bx1.c 0 _ rfl
      have p1 := bx1.c 1 _ rfl
      have p2 := bx1.c 2 _ rfl
      replace bx1 := Lib.hid bx1
      clear hb1 hck bx rs hB0
      go_wp2_with fail
      refine (htm.out _ hB1.out).mono ?_
      rintro e w2 ⟨rfl, hb2⟩
      have bx2 := bx1.out.bel hb2
      have rs2 := Lib.hid (rs1.out.bel hb2)
      have hB2 := Lib.hid (bNext hB1.out hb2 (Nat.le_refl _))
      have q0 := bx2.c 0 _ rfl
      have q1 := bx2.c 1 _ rfl
      have q2 := bx2.c 2 _ rfl
      clear bx2 hb2 bx1 rs1 hB1 p0 p1 p2 htm
      go_wp2_with fail
      refine (hcp.out _ hB2.out).mono ?_
      rintro e w3 ⟨a3, c3, rfl, hL3, hF3, hb3⟩
      have rs3 := rs2.out.bel hb3
      have hB3 := bNext hB2.out hb3 (Nat.le_refl _)
      have hF := hF3.mono (show w.heap.size + 2 ≤ w2.heap.size by have := hB2.out.size; have := rs2.out.l; omega)
      have r0 := rs3.c 0 _ rfl
      have r1 := rs3.c 1 _ rfl
      have r2 := rs3.c 2 _ rfl
      have rf := rs3.f 0
      have rf1 := rs3.f 1
      have rf2 := rs3.f 2
      have rs4 := blk_set3 rs3 (.int .i64 i) (.int .i64 T) (.slice a3 (n - k) c3)
      have s0 := Lib.hid (rs4.c 0 _ rfl)
      have s1 := Lib.hid (rs4.c 1 _ rfl)
      have s2 := Lib.hid (rs4.c 2 _ rfl)
      have hL4 := Lib.hid (hL3.set3 hF (show w.heap.size + 1 < w.heap.size + 2 by omega) rs3 (.int .i64 i) (.int .i64 T) (.slice a3 (n - k) c3))
      have hB4 := Lib.hid (below_set3 hB3 (show w.heap.size ≤ w.heap.size + 1 by omega) (.int .i64 i) (.int .i64 T) (.slice a3 (n - k) c3))
      replace hF := Lib.hid hF
      clear rs3 hB3 hL3 rs4 hb3 rs2 hB2 hF3 q0 q1 q2
      go_wp2_with fail
      refine bodyPost_ret (v := .tuple #[.agg #[.int .i64 i, .int .i64 T, .slice a3 (n - k) c3], .int .i64 0]) (by simp [results, Try.results19, go_sem, s0.out, s1.out, s2.out]) rfl ?_
      rw [hm.out]
      exact ⟨_, _, _, rfl, hL4.out, hF.out.mono (by omega), hB4.out⟩
set_option maxRecDepth 100000 in
set_option maxHeartbeats 4000000 in
theorem rcut_c (b t i : Int) (a : Option Addr) (n c : Nat) (l : List En) (w : World) (h : LAt w a n c l) (hw : Wfl l) (hb : I64 b) (ht : I64 t) (hi : I64 i) :
    Calls Try.prog 20 #[.agg #[.int .i64 b, .int .i64 t, .slice a n c], .int .i64 i] w (RowsP w (cutR b t l i)) := by
  have hl := Lib.hid h.len
  have hB0 : Below w.heap.size w ((w.alloc (.cells #[.int .i64 b, .int .i64 t, .slice a n c] 24)).alloc (.cells #[.int .i64 0, .int .i64 0, .slice none 0 0] 24)) := ((Below.refl _ _).alloc (Nat.le_refl _) _).alloc (by simp) _
  have bx := Lib.hid ((blk_new w [.int .i64 b, .int .i64 t, .slice a n c] 24).bel ((Below.refl _ _).alloc (Nat.le_refl _) (.cells #[.int .i64 0, .int .i64 0, .slice none 0 0] 24)))
  have rs := blk_new (w.alloc (.cells #[.int .i64 b, .int .i64 t, .slice a n c] 24)) [.int .i64 0, .int .i64 0, .slice none 0 0] 24
  rw [World.size_alloc] at rs
  replace rs := Lib.hid rs
  have hck := Lib.hid (rcheck_l b t a n c l _ (h.bel hB0) hw hb ht)
  replace hB0 := Lib.hid hB0
  cases hc : chk b t l with
  | false =>
    have hm := Lib.hid (show cutR b t l i = ⟨0, 0, [], 90⟩ by unfold cutR; rw [hc]; rfl)
    rw [hc] at hck
    clear hc h
    go_enter Try.func20, Try.ntmps20
    go_wp2_with fail
    refine hck.out.mono ?_
    rintro e w1 ⟨rfl, hb1⟩
    have rs1 := rs.out.bel hb1
    have hB1 := bNext hB0.out hb1 (Nat.le_refl _)
    have r0 := rs1.c 0 _ rfl
    have r1 := rs1.c 1 _ rfl
    have r2 := rs1.c 2 _ rfl
    have rf := rs1.f 0
    have rf1 := rs1.f 1
    have rf2 := rs1.f 2
    have rs4 := blk_set3 rs1 (.int .i64 0) (.int .i64 0) (.slice none 0 0)
    have s0 := Lib.hid (rs4.c 0 _ rfl)
    have s1 := Lib.hid (rs4.c 1 _ rfl)
    have s2 := Lib.hid (rs4.c 2 _ rfl)
    have hB4 := Lib.hid (below_set3 hB1 (show w.heap.size ≤ w.heap.size + 1 by omega) (.int .i64 0) (.int .i64 0) (.slice none 0 0))
    clear rs1 hB1 rs4 hb1 hck bx rs hB0
    go_wp2_with fail
    refine bodyPost_ret (v := .tuple #[.agg #[.int .i64 0, .int .i64 0, .slice none 0 0], .int .i64 90]) (by simp [results, Try.results20, go_sem, s0.out, s1.out, s2.out]) rfl ?_
    rw [hm.out]
    exact ⟨_, _, _, rfl, LAt.nil _ _ _ (by omega), Far.zero _ _, hB4.out⟩
  | true =>
    rw [hc] at hck
    have hsm := Lib.hid (chk_sml hc)
    have htm := Lib.hid (fun u (hu : Below w.heap.size w u) => rterm_c b t i a n c l u (h.bel hu) hw hb ht hi hc)
    obtain ⟨g1, _⟩ := chk_iff.1 hc
    have g2 : 0 ≤ b := g1.1
    have g3 : (l.length : Int) ≤ 4096 := by omega
    have g4 : b ≤ 1099511627776 := by omega
    have hi1 := hi.1
    have hi2 := hi.2
    clear g1
    cases hB : termB b l i with
    | false =>
      have hm := Lib.hid (show cutR b t l i = ⟨0, 0, [], 4⟩ by unfold cutR; rw [hc]; unfold termB at hB; have := of_decide_eq_false hB; simp only [if_true]; rw [if_neg this])
      rw [hB] at htm
      clear hc hB h
      go_enter Try.func20, Try.ntmps20
      go_wp2_with fail
      refine hck.out.mono ?_
      rintro e w1 ⟨rfl, hb1⟩
      have bx1 := bx.out.bel hb1
      have rs1 := Lib.hid (rs.out.bel hb1)
      have hB1 := Lib.hid (bNext hB0.out hb1 (Nat.le_refl _))
      have p0 := bx1.c 0 _ rfl
      have p1 := bx1.c 1 _ rfl
      have p2 := bx1.c 2 _ rfl
      clear bx1 hb1 hck bx rs hB0
      go_wp2_with fail
      refine (htm.out _ hB1.out).mono ?_
      rintro e w2 ⟨rfl, hb2⟩
      have rs2 := rs1.out.bel hb2
      have hB2 := bNext hB1.out hb2 (Nat.le_refl _)
      have r0 := rs2.c 0 _ rfl
      have r1 := rs2.c 1 _ rfl
      have r2 := rs2.c 2 _ rfl
      have rf := rs2.f 0
      have rf1 := rs2.f 1
      have rf2 := rs2.f 2
      have rs4 := blk_set3 rs2 (.int .i64 0) (.int .i64 0) (.slice none 0 0)
      have s0 := Lib.hid (rs4.c 0 _ rfl)
      have s1 := Lib.hid (rs4.c 1 _ rfl)
      have s2 := Lib.hid (rs4.c 2 _ rfl)
      have hB4 := Lib.hid (below_set3 hB2 (show w.heap.size ≤ w.heap.size + 1 by omega) (.int .i64 0) (.int .i64 0) (.slice none 0 0))
      clear rs2 hB2 rs4 hb2 rs1 hB1 p0 p1 p2
      go_wp2_with fail
      refine bodyPost_ret (v := .tuple #[.agg #[.int .i64 0, .int .i64 0, .slice none 0 0], .int .i64 4]) (by simp [results, Try.results20, go_sem, s0.out, s1.out, s2.out]) rfl ?_
      rw [hm.out]
      exact ⟨_, _, _, rfl, LAt.nil _ _ _ (by omega), Far.zero _ _, hB4.out⟩
    | true =>
      have hT := of_decide_eq_true hB
      obtain ⟨k, hk⟩ : ∃ k : Nat, i - b = (k : Int) := ⟨(i - b).toNat, by omega⟩
      have hkn : k ≤ n := by have := hl.out; omega
      have hm := Lib.hid (show cutR b t l i = ⟨i, termT b t l i, l.drop k, 0⟩ by
        unfold cutR termT
        rw [hc, if_pos rfl, if_pos hT, if_pos hT, hk]; rfl)
      have hcp := Lib.hid (fun u (hu : Below w.heap.size w u) => rcopied_c (cutA a k c 5) (n - k) (c - k) (l.drop k) u ((h.bel hu).cut_all hkn) (hsm.out.drop k))
      have hkI : (k : Int) ≤ (n : Int) := by omega
      obtain ⟨T, hTT⟩ : ∃ T, termT b t l i = T := ⟨_, rfl⟩
      rw [hB, hTT] at htm
      rw [hTT] at hm
      clear hc hB hT hTT h
      go_enter Try.func20, Try.ntmps20
      go_wp2_with fail
      refine hck.out.mono ?_
      rintro e w1 ⟨rfl, hb1⟩
      have bx1 := bx.out.bel hb1
      have rs1 := Lib.hid (rs.out.bel hb1)
      have hB1 := Lib.hid (bNext hB0.out hb1 (Nat.le_refl _))
      have p0 := bx1.c 0 _ rfl
      have p1 := bx1.c 1 _ rfl
      have p2 := bx1.c 2 _ rfl
      replace bx1 := Lib.hid bx1
      clear hb1 hck bx rs hB0
      go_wp2_with fail
      refine (htm.out _ hB1.out).mono ?_
      rintro e w2 ⟨rfl, hb2⟩
      have bx2 := bx1.out.bel hb2
      have rs2 := Lib.hid (rs1.out.bel hb2)
      have hB2 := Lib.hid (bNext hB1.out hb2 (Nat.le_refl _))
      have q0 := bx2.c 0 _ rfl
      have q1 := bx2.c 1 _ rfl
      have q2 := bx2.c 2 _ rfl
      clear bx2 hb2 bx1 rs1 hB1 p0 p1 p2 htm
      go_wp2_with fail
      refine (hcp.out _ hB2.out).mono ?_
      rintro e w3 ⟨a3, c3, rfl, hL3, hF3, hb3⟩
      have rs3 := rs2.out.bel hb3
      have hB3 := bNext hB2.out hb3 (Nat.le_refl _)
      have hF := hF3.mono (show w.heap.size + 2 ≤ w2.heap.size by have := hB2.out.size; have := rs2.out.l; omega)
      have r0 := rs3.c 0 _ rfl
      have r1 := rs3.c 1 _ rfl
      have r2 := rs3.c 2 _ rfl
      have rf := rs3.f 0
      have rf1 := rs3.f 1
      have rf2 := rs3.f 2
      have rs4 := blk_set3 rs3 (.int .i64 i) (.int .i64 T) (.slice a3 (n - k) c3)
      have s0 := Lib.hid (rs4.c 0 _ rfl)
      have s1 := Lib.hid (rs4.c 1 _ rfl)
      have s2 := Lib.hid (rs4.c 2 _ rfl)
      have hL4 := Lib.hid (hL3.set3 hF (show w.heap.size + 1 < w.heap.size + 2 by omega) rs3 (.int .i64 i) (.int .i64 T) (.slice a3 (n - k) c3))
      have hB4 := Lib.hid (below_set3 hB3 (show w.heap.size ≤ w.heap.size + 1 by omega) (.int .i64 i) (.int .i64 T) (.slice a3 (n - k) c3))
      replace hF := Lib.hid hF
      clear rs3 hB3 hL3 rs4 hb3 rs2 hB2 hF3 q0 q1 q2
      go_wp2_with fail
      refine bodyPost_ret (v := .tuple #[.agg #[.int .i64 i, .int .i64 T, .slice a3 (n - k) c3], .int .i64 0]) (by simp [results, Try.results20, go_sem, s0.out, s1.out, s2.out]) rfl ?_
      rw [hm.out]
      exact ⟨_, _, _, rfl, hL4.out, hF.out.mono (by omega), hB4.out⟩
end Go.Proofs.Ytbiodlhiilmgkaa
