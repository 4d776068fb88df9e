/- RowsPieces: pieces of rows that were cut; the walk of the law. -/
import Derived.Test.YtbiodlhiilmgkaaCt19
namespace Go.Proofs.Ytbiodlhiilmgkaa
open Go.ChangeShapes Go.WideShapes Go.ChangeAt Go.RowKit
set_option linter.unusedVariables false
set_option linter.unusedSimpArgs false
open BigFrame Bs Rw Ct

namespace Ct
theorem tl_drop (t : Int) (l : List En) (k j : Nat) (hj : k + j ≤ l.length) : tl (tl t l k) (l.drop k) j = tl t l (k + j) := by
  unfold tl
  by_cases h : j = 0
  · subst h; rw [if_pos rfl, Nat.add_zero]
  · rw [if_neg h, if_neg (by omega), List.getD_eq_getElem?_getD, List.getD_eq_getElem?_getD, List.getElem?_drop, show k + (j - 1) = k + j - 1 by omega]
theorem mayB_t {y : En} {t : Int} (h : Rw.mayB (enr y) t = true) : 1 ≤ y.term ∧ t ≤ y.term := by
  unfold Rw.mayB at h
  have := of_decide_eq_true h
  exact ⟨this.1, this.2.1⟩
/-- Rows that are cut may be. -/
theorem chk_cut {b t : Int} {l : List En} (h : chk b t l = true) (k : Nat) (hk : k ≤ l.length) : chk (b + k) (tl t l k) (l.drop k) = true := by
  obtain ⟨⟨g1, g2, g3, g4, g5⟩, g6⟩ := chk_iff.1 h
  have hl : (l.drop k).length = l.length - k := by simp
  refine chk_iff.2 ⟨⟨by omega, by rw [hl]; omega, by rw [hl]; omega, ?_, ?_⟩, fun i hi => ?_⟩
  · by_cases h0 : k = 0
    · subst h0; exact g4
    · have := (mayB_t (g6 (k - 1) (by omega))).1
      unfold tl
      rw [if_neg h0]
      omega
  · by_cases h0 : k = 0
    · subst h0
      simp only [Int.natCast_zero, Int.add_zero] at *
      exact g5
    · have := (mayB_t (g6 (k - 1) (by omega))).1
      right
      unfold tl
      rw [if_neg h0]
      omega
  · rw [hl] at hi
    rw [tl_drop t l k i (by omega)]
    have := g6 (k + i) (by omega)
    rw [List.getD_eq_getElem?_getD, List.getElem?_drop, ← List.getD_eq_getElem?_getD]
    exact this
/-- Is an end at least as new as these rows'? -/
def newL (b t : Int) (l : List En) (i τ : Int) : Bool := decide (tl t l l.length < τ ∨ (τ = tl t l l.length ∧ b + l.length ≤ i))
theorem newL_self (b t : Int) (l : List En) : newL b t l (b + l.length) (tl t l l.length) = true := by unfold newL; exact decide_eq_true (.inr ⟨rfl, Int.le_refl _⟩)
theorem newer_two (b t : Int) (l : List En) (b2 t2 : Int) (l2 : List En) :
    (newL b t l (b2 + l2.length) (tl t2 l2 l2.length) = false → newL b2 t2 l2 (b + l.length) (tl t l l.length) = true) ∧
    (newL b t l (b2 + l2.length) (tl t2 l2 l2.length) = true → newL b2 t2 l2 (b + l.length) (tl t l l.length) = true → b + l.length = b2 + l2.length ∧ tl t l l.length = tl t2 l2 l2.length) := by
  unfold newL
  constructor
  · intro h
    have := of_decide_eq_false h
    exact decide_eq_true (by omega)
  · intro h h'
    have := of_decide_eq_true h
    have := of_decide_eq_true h'
    omega
end Ct
theorem newer_l (b t i τ : Int) (a : Option Addr) (n c : Nat) (l : List En) (w : World) (h : LAt w a n c l) (hw : Wfl l) (hb : I64 b) (ht : I64 t) (hc : chk b t l = true) :
    Calls Try.prog 26 #[.agg #[.int .i64 b, .int .i64 t, .slice a n c], .int .i64 i, .int .i64 τ] w fun e w' => e = .returned (.bool (newL b t l i τ)) ∧ Below w.heap.size w w' := by
  have hl := h.len
  obtain ⟨e, h1, h2, h3, h4, h5⟩ := h.toR hw hb ht
  have q := newer_c ⟨b, t, a, n, c, e⟩ i τ w h2 h1
  have e1 : Rw.newerB ⟨b, t, a, n, c, e⟩ i τ = newL b t l i τ := by
    unfold Rw.newerB newL
    rw [h4, hc, Bool.true_and]
    have e2 : Rw.lastT ⟨b, t, a, n, c, e⟩ = tl t l l.length := by show Rw.tb _ n = _; rw [h5 n (Nat.le_refl _), hl]
    have e3 : Rw.lastI ⟨b, t, a, n, c, e⟩ = b + l.length := by show b + (n : Int) = _; rw [hl]
    rw [e2, e3]
  rw [e1] at q
  exact q

set_option maxRecDepth 100000 in
set_option maxHeartbeats 40000000 in
theorem rowsPieces_h (b t : Int) (a : Option Addr) (n c : Nat) (l : List En) (at_ i mo : Int) (b2 t2 : Int) (a2 : Option Addr) (m c2 : Nat) (l2 : List En) (w : World) (h : LAt w a n c l) (hw : Wfl l) (hb : I64 b) (ht : I64 t) (hat : I64 at_) (hi : I64 i) (h2 : LAt w a2 m c2 l2) (hw2 : Wfl l2) (hb2 : I64 b2) (ht2 : I64 t2) :
    Calls Try.prog 6 #[.agg #[.int .i64 b, .int .i64 t, .slice a n c], .int .i64 at_, .int .i64 i, .int .i64 mo, .agg #[.int .i64 b2, .int .i64 t2, .slice a2 m c2]] w fun e w' => e = .returned (.bool true) ∧ Below w.heap.size w w' := by
  have hB0 : Below w.heap.size w ((w.alloc (.cells #[.int .i64 b, .int .i64 t, .slice a n c] 24)).alloc (.cells #[.int .i64 b2, .int .i64 t2, .slice a2 m c2] 24)) := ((Below.refl _ _).alloc (Nat.le_refl _) _).alloc (by simp) _
  have bx := Lib.hid ((blk_new w [.int .i64 b, .int .i64 t, .slice a n c] 24).bel ((Below.refl _ _).alloc (Nat.le_refl _) (.cells #[.int .i64 b2, .int .i64 t2, .slice a2 m c2] 24)))
  have bo := blk_new (w.alloc (.cells #[.int .i64 b, .int .i64 t, .slice a n c] 24)) [.int .i64 b2, .int .i64 t2, .slice a2 m c2] 24
  rw [World.size_alloc] at bo
  replace bo := Lib.hid bo
  have hgr := Lib.hid (great09_c b t a n c l _ (h.bel hB0))
  have hgo := Lib.hid (fun u (hu : Below w.heap.size w u) => great09_c b2 t2 a2 m c2 l2 u (h2.bel hu))
  have hck := Lib.hid (fun u (hu : Below w.heap.size w u) => check_l b t a n c l u (h.bel hu) hw hb ht)
  have hco := Lib.hid (fun u (hu : Below w.heap.size w u) => check_l b2 t2 a2 m c2 l2 u (h2.bel hu) hw2 hb2 ht2)
  have hcut := Lib.hid (fun u (hu : Below w.heap.size w u) => cut_c b t at_ a n c l u (h.bel hu) hw hb ht hat)
  have hfr := Lib.hid (fun u (hu : Below w.heap.size w u) => from_c b t i mo a n c l u (h.bel hu) hw hb ht hi)
  have H := Lib.hid h
  have H2 := Lib.hid h2
  replace hB0 := Lib.hid hB0
  clear h h2
  go_enter Try.func6, Try.ntmps6
  go_wp2_with fail
  refine hgr.out.mono ?_
  rintro e w1 ⟨g1, rfl, _, hb1⟩
  have hB1 := Lib.hid (bNext hB0.out hb1 (Nat.le_refl _))
  have bx1 := bx.out.bel hb1
  have bo1 := bo.out.bel hb1
  have p0 := bx1.c 0 _ rfl
  have p1 := bx1.c 1 _ rfl
  have p2 := bx1.c 2 _ rfl
  have o0 := bo1.c 0 _ rfl
  have o1 := bo1.c 1 _ rfl
  have o2 := bo1.c 2 _ rfl
  replace bx1 := Lib.hid bx1
  replace bo1 := Lib.hid bo1
  clear hb1 hB0 bx bo
  clear hgr
  cases g1 with
  | true =>
    go_wp2_with fail
    refine (wakes09_c _).mono ?_
    rintro e wz ⟨rfl, hbz⟩
    have hBz := Lib.hid (bNext hB1.out hbz (Nat.le_refl _))
    clear hbz
    go_wp2_with fail
    go_ret
    exact ⟨rfl, hBz.out⟩
  | false =>
    go_wp2_with fail
    refine (hgo.out _ hB1.out).mono ?_
    rintro e w2 ⟨g2, rfl, _, hb2'⟩
    have hB2 := Lib.hid (bNext hB1.out hb2' (Nat.le_refl _))
    have bx2 := bx1.out.bel hb2'
    have bo2 := bo1.out.bel hb2'
    have p0 := bx2.c 0 _ rfl
    have p1 := bx2.c 1 _ rfl
    have p2 := bx2.c 2 _ rfl
    have o0 := bo2.c 0 _ rfl
    have o1 := bo2.c 1 _ rfl
    have o2 := bo2.c 2 _ rfl
    replace bx2 := Lib.hid bx2
    replace bo2 := Lib.hid bo2
    clear hb2' hB1 bx1 bo1
    clear hgo
    cases g2 with
    | true =>
      go_wp2_with fail
      refine (wakes09_c _).mono ?_
      rintro e wz ⟨rfl, hbz⟩
      have hBz := Lib.hid (bNext hB2.out hbz (Nat.le_refl _))
      clear hbz
      go_wp2_with fail
      go_ret
      exact ⟨rfl, hBz.out⟩
    | false =>
      have hck2 := hck.out _ hB2.out
      cases hc : chk b t l with
      | false =>
        rw [hc] at hck2
        replace hck2 := Lib.hid hck2
        clear hc
        go_wp2_with fail
        refine hck2.out.mono ?_
        rintro e w3 ⟨rfl, hb3⟩
        have hB3 := Lib.hid (bNext hB2.out hb3 (Nat.le_refl _))
        clear hb3
        go_wp2_with fail
        refine (wakes09_c _).mono ?_
        rintro e wz ⟨rfl, hbz⟩
        have hBz := Lib.hid (bNext hB3.out hbz (Nat.le_refl _))
        clear hbz
        go_wp2_with fail
        go_ret
        exact ⟨rfl, hBz.out⟩
      | true =>
        rw [hc] at hck2
        replace hck2 := Lib.hid hck2
        have HC := Lib.hid hc
        clear hc
        go_wp2_with fail
        refine hck2.out.mono ?_
        rintro e w3 ⟨rfl, hb3⟩
        have hB3 := Lib.hid (bNext hB2.out hb3 (Nat.le_refl _))
        have bx3 := bx2.out.bel hb3
        have bo3 := bo2.out.bel hb3
        have p0 := bx3.c 0 _ rfl
        have p1 := bx3.c 1 _ rfl
        have p2 := bx3.c 2 _ rfl
        have o0 := bo3.c 0 _ rfl
        have o1 := bo3.c 1 _ rfl
        have o2 := bo3.c 2 _ rfl
        replace bx3 := Lib.hid bx3
        replace bo3 := Lib.hid bo3
        clear hb3 hB2 bx2 bo2
        clear hck2 hck
        have hck2 := hco.out _ hB3.out
        cases hc2 : chk b2 t2 l2 with
        | false =>
          rw [hc2] at hck2
          replace hck2 := Lib.hid hck2
          clear hc2
          go_wp2_with fail
          refine hck2.out.mono ?_
          rintro e w4 ⟨rfl, hb4⟩
          have hB4 := Lib.hid (bNext hB3.out hb4 (Nat.le_refl _))
          clear hb4
          go_wp2_with fail
          refine (wakes09_c _).mono ?_
          rintro e wz ⟨rfl, hbz⟩
          have hBz := Lib.hid (bNext hB4.out hbz (Nat.le_refl _))
          clear hbz
          go_wp2_with fail
          go_ret
          exact ⟨rfl, hBz.out⟩
        | true =>
          rw [hc2] at hck2
          replace hck2 := Lib.hid hck2
          have HC2 := Lib.hid hc2
          clear hc2
          go_wp2_with fail
          refine hck2.out.mono ?_
          rintro e w4 ⟨rfl, hb4⟩
          have hB4 := Lib.hid (bNext hB3.out hb4 (Nat.le_refl _))
          have bx4 := bx3.out.bel hb4
          have bo4 := bo3.out.bel hb4
          have p0 := bx4.c 0 _ rfl
          have p1 := bx4.c 1 _ rfl
          have p2 := bx4.c 2 _ rfl
          have o0 := bo4.c 0 _ rfl
          have o1 := bo4.c 1 _ rfl
          have o2 := bo4.c 2 _ rfl
          replace bx4 := Lib.hid bx4
          replace bo4 := Lib.hid bo4
          clear hb4 hB3 bx3 bo3
          clear hck2 hco
          have hcut2 := hcut.out _ hB4.out
          by_cases hin : b ≤ at_ ∧ at_ ≤ b + l.length
          rotate_left
          · have e1 : cutR b t l at_ = ⟨0, 0, [], 4⟩ := by unfold cutR; rw [if_pos HC.out, if_neg hin]
            rw [e1] at hcut2
            replace hcut2 := Lib.hid hcut2
            clear e1 hin
            go_wp2_with fail
            refine hcut2.out.mono ?_
            rintro e w5 ⟨a5, n5, c5, rfl, hL5, _, hb5⟩
            have hB5 := Lib.hid ((bNext hB4.out hb5 (Nat.le_refl _)).alloc (by have := hB4.out.size; have := hb5.size; omega) (.cells #[.int .i64 0, .int .i64 0, .slice a5 n5 c5] 24))
            clear hb5 hL5 hcut hfr
            go_wp2_with fail
            refine (wakes09_c _).mono ?_
            rintro e wz ⟨rfl, hbz⟩
            have hBz := Lib.hid (bNext hB5.out hbz (Nat.le_refl _))
            clear hbz
            go_wp2_with fail
            go_ret
            exact ⟨rfl, hBz.out⟩
          · obtain ⟨k, hk⟩ : ∃ k : Nat, at_ - b = (k : Int) := ⟨(at_ - b).toNat, by omega⟩
            obtain rfl : at_ = b + k := by omega
            obtain ⟨T, hT⟩ : ∃ T, tl t l k = T := ⟨_, rfl⟩
            have e1 : cutR b t l (b + k) = ⟨b + k, T, l.drop k, 0⟩ := by unfold cutR; rw [if_pos HC.out, if_pos hin, hk, Int.toNat_natCast, hT]
            have hkl : k ≤ l.length := by omega
            have hcx := chk_cut HC.out k hkl
            rw [hT] at hcx
            have hIT : I64 T := by
              rw [← hT]
              unfold tl
              split
              · exact ht
              · rename_i hk0
                have hkk : k - 1 < l.length := by omega
                rw [show l.getD (k - 1) en0 = l[k - 1] by simp [List.getD, hkk]]
                exact (hw _ (List.getElem_mem hkk)).1
            rw [e1] at hcut2
            replace hcut2 := Lib.hid hcut2
            have hTh := Lib.hid hT
            have hkh := Lib.hid hk
            have hinh := Lib.hid hin
            clear e1 hin hk hT
            go_wp2_with fail
            refine hcut2.out.mono ?_
            rintro e w5 ⟨a5, n5, c5, rfl, hL5, _, hb5⟩
            have hb5a := (Below.refl w5.heap.size w5).alloc (Nat.le_refl _) (.cells #[.int .i64 (b + k), .int .i64 T, .slice a5 n5 c5] 24)
            have hfx := Lib.hid (from_c (b + k) T i mo a5 n5 c5 (l.drop k) _ (hL5.bel hb5a) (hw.drop k) hat hIT hi)
            have k5 := blk_new w5 [.int .i64 (b + k), .int .i64 T, .slice a5 n5 c5] 24
            have hB5 := Lib.hid (bNext (bNext hB4.out hb5 (Nat.le_refl _)) hb5a (Nat.le_refl _))
            have bx5 := Lib.hid ((bx4.out.bel hb5).bel hb5a)
            have bo5 := Lib.hid ((bo4.out.bel hb5).bel hb5a)
            clear hb5 hb5a bx4 bo4 hB4 hL5 hcut hcut2 k5
            go_wp2_with fail
            refine hfx.out.mono ?_
            rintro e w6 ⟨a6, n6, c6, rfl, hL6, hb6⟩
            have hL6' := Lib.hid hL6
            have hB6 := Lib.hid (bNext hB5.out hb6 (Nat.le_refl _))
            have bx6 := bx5.out.bel hb6
            have bo6 := bo5.out.bel hb6
            have p0 := bx6.c 0 _ rfl
            have p1 := bx6.c 1 _ rfl
            have p2 := bx6.c 2 _ rfl
            have o0 := bo6.c 0 _ rfl
            have o1 := bo6.c 1 _ rfl
            have o2 := bo6.c 2 _ rfl
            replace bx6 := Lib.hid bx6
            replace bo6 := Lib.hid bo6
            clear hb6 hB5 bx5 bo5
            clear hfx hL6
            go_wp2_with fail
            refine (hfr.out _ hB6.out).mono ?_
            rintro e w7 ⟨a7, n7, c7, rfl, hL7, hb7⟩
            have hL7' := Lib.hid hL7
            have hL67 := Lib.hid (hL6'.out.bel hb7)
            have hB7 := Lib.hid (bNext hB6.out hb7 (Nat.le_refl _))
            have bx7 := bx6.out.bel hb7
            have bo7 := bo6.out.bel hb7
            have p0 := bx7.c 0 _ rfl
            have p1 := bx7.c 1 _ rfl
            have p2 := bx7.c 2 _ rfl
            have o0 := bo7.c 0 _ rfl
            have o1 := bo7.c 1 _ rfl
            have o2 := bo7.c 2 _ rfl
            replace bx7 := Lib.hid bx7
            replace bo7 := Lib.hid bo7
            clear hb7 hB6 bx6 bo6
            clear hfr hL7
            have hl1 := Lib.hid (fun u (hu : Below w.heap.size w u) => plast_l b t a n c l u (H.out.bel hu) hw hb ht HC.out)
            have hl2 := Lib.hid (fun u (hu : Below w.heap.size w u) => plast_l b2 t2 a2 m c2 l2 u (H2.out.bel hu) hw2 hb2 ht2 HC2.out)
            by_cases cA : b + (k : Int) < i ∧ i ≤ b + l.length + 1
            · obtain ⟨L, hL⟩ : ∃ L, (l.drop (i - b - 1).toNat).take (mostN mo) = L := ⟨_, rfl⟩
              have e6 : fromR (b + k) T (l.drop k) i mo = (L, 0) := by
                unfold fromR
                rw [if_pos hcx, if_pos (by simp; omega), List.drop_drop, ← hL, show k + (i - (b + (k : Int)) - 1).toNat = (i - b - 1).toNat by omega]
              have e7 : fromR b t l i mo = (L, 0) := by
                unfold fromR
                rw [if_pos HC.out, if_pos (by omega), hL]
              rw [e6] at hL67
              rw [e7] at hL7'
              rw [e6, e7]
              have hse := Lib.hid (fun u (hu : Below w7.heap.size w7 u) => sameEntries_c a6 a7 n6 c6 n7 c7 L L u (hL67.out.bel hu) (hL7'.out.bel hu))
              rw [show decide (L = L) = true from decide_eq_true rfl] at hse
              clear e6 e7 cA
              go_wp2_with fail
              refine (hse.out _ (Below.refl _ _)).mono ?_
              rintro e w8 ⟨rfl, hb8⟩
              have hB8 := Lib.hid (bNext hB7.out hb8 (Nat.le_refl _))
              have bx8 := bx7.out.bel hb8
              have bo8 := bo7.out.bel hb8
              have p0 := bx8.c 0 _ rfl
              have p1 := bx8.c 1 _ rfl
              have p2 := bx8.c 2 _ rfl
              have o0 := bo8.c 0 _ rfl
              have o1 := bo8.c 1 _ rfl
              have o2 := bo8.c 2 _ rfl
              replace bx8 := Lib.hid bx8
              replace bo8 := Lib.hid bo8
              clear hb8 hB7 bx7 bo7
              clear hse
              go_wp2_with fail
              refine (hl1.out _ hB8.out).mono ?_
              rintro e w9 ⟨rfl, hbq⟩
              have hB9 := Lib.hid (bNext hB8.out hbq (Nat.le_refl _))
              have bx9 := bx8.out.bel hbq
              have bo9 := bo8.out.bel hbq
              have p0 := bx9.c 0 _ rfl
              have p1 := bx9.c 1 _ rfl
              have p2 := bx9.c 2 _ rfl
              have o0 := bo9.c 0 _ rfl
              have o1 := bo9.c 1 _ rfl
              have o2 := bo9.c 2 _ rfl
              replace bx9 := Lib.hid bx9
              replace bo9 := Lib.hid bo9
              clear hbq hB8 bx8 bo8
              go_wp2_with fail
              refine (hl2.out _ hB9.out).mono ?_
              rintro e w10 ⟨rfl, hbq⟩
              have hB10 := Lib.hid (bNext hB9.out hbq (Nat.le_refl _))
              have bx10 := bx9.out.bel hbq
              have bo10 := bo9.out.bel hbq
              have p0 := bx10.c 0 _ rfl
              have p1 := bx10.c 1 _ rfl
              have p2 := bx10.c 2 _ rfl
              have o0 := bo10.c 0 _ rfl
              have o1 := bo10.c 1 _ rfl
              have o2 := bo10.c 2 _ rfl
              replace bx10 := Lib.hid bx10
              replace bo10 := Lib.hid bo10
              clear hbq hB9 bx9 bo9
              have hrel := newer_two b t l b2 t2 l2
              have hnA := fun u (hu : Below w.heap.size w u) => newer_l b t (b2 + (l2.length : Int)) (tl t2 l2 l2.length) a n c l u (H.out.bel hu) hw hb ht HC.out
              have hnB := fun u (hu : Below w.heap.size w u) => newer_l b2 t2 (b + (l.length : Int)) (tl t l l.length) a2 m c2 l2 u (H2.out.bel hu) hw2 hb2 ht2 HC2.out
              have hnC := fun u (hu : Below w.heap.size w u) => newer_l b t (b + (l.length : Int)) (tl t l l.length) a n c l u (H.out.bel hu) hw hb ht HC.out
              rw [newL_self] at hnC
              replace hnC := Lib.hid hnC
              cases hA : newL b t l (b2 + (l2.length : Int)) (tl t2 l2 l2.length) with
              | true =>
                rw [hA] at hnA
                replace hnA := Lib.hid hnA
                cases hB : newL b2 t2 l2 (b + (l.length : Int)) (tl t l l.length) with
                | true =>
                  rw [hB] at hnB
                  replace hnB := Lib.hid hnB
                  obtain ⟨e1, e2⟩ := hrel.2 hA hB
                  have d1 : (b + (l.length : Int) == b2 + (l2.length : Int)) = true := by rw [e1]; simp
                  have d2 : (tl t l l.length == tl t2 l2 l2.length) = true := by rw [e2]; simp
                  clear hA hB hrel e1 e2
                  go_wp2_with fail
                  refine (hnA.out _ hB10.out).mono ?_
                  rintro e w11 ⟨rfl, hbq⟩
                  have hB11 := Lib.hid (bNext hB10.out hbq (Nat.le_refl _))
                  have bx11 := bx10.out.bel hbq
                  have bo11 := bo10.out.bel hbq
                  have p0 := bx11.c 0 _ rfl
                  have p1 := bx11.c 1 _ rfl
                  have p2 := bx11.c 2 _ rfl
                  have o0 := bo11.c 0 _ rfl
                  have o1 := bo11.c 1 _ rfl
                  have o2 := bo11.c 2 _ rfl
                  replace bx11 := Lib.hid bx11
                  replace bo11 := Lib.hid bo11
                  clear hbq hB10 bx10 bo10
                  go_wp2_with fail
                  refine (hnC.out _ hB11.out).mono ?_
                  rintro e w12 ⟨rfl, hbq⟩
                  have hB12 := Lib.hid (bNext hB11.out hbq (Nat.le_refl _))
                  have bx12 := bx11.out.bel hbq
                  have bo12 := bo11.out.bel hbq
                  have p0 := bx12.c 0 _ rfl
                  have p1 := bx12.c 1 _ rfl
                  have p2 := bx12.c 2 _ rfl
                  have o0 := bo12.c 0 _ rfl
                  have o1 := bo12.c 1 _ rfl
                  have o2 := bo12.c 2 _ rfl
                  replace bx12 := Lib.hid bx12
                  replace bo12 := Lib.hid bo12
                  clear hbq hB11 bx11 bo11
                  go_wp2_with fail
                  refine (hnA.out _ hB12.out).mono ?_
                  rintro e w13 ⟨rfl, hbq⟩
                  have hB13 := Lib.hid (bNext hB12.out hbq (Nat.le_refl _))
                  have bx13 := bx12.out.bel hbq
                  have bo13 := bo12.out.bel hbq
                  have p0 := bx13.c 0 _ rfl
                  have p1 := bx13.c 1 _ rfl
                  have p2 := bx13.c 2 _ rfl
                  have o0 := bo13.c 0 _ rfl
                  have o1 := bo13.c 1 _ rfl
                  have o2 := bo13.c 2 _ rfl
                  replace bx13 := Lib.hid bx13
                  replace bo13 := Lib.hid bo13
                  clear hbq hB12 bx12 bo12
                  go_wp2_with fail
                  refine (hnB.out _ hB13.out).mono ?_
                  rintro e w14 ⟨rfl, hbq⟩
                  have hB14 := Lib.hid (bNext hB13.out hbq (Nat.le_refl _))
                  have bx14 := bx13.out.bel hbq
                  have bo14 := bo13.out.bel hbq
                  have p0 := bx14.c 0 _ rfl
                  have p1 := bx14.c 1 _ rfl
                  have p2 := bx14.c 2 _ rfl
                  have o0 := bo14.c 0 _ rfl
                  have o1 := bo14.c 1 _ rfl
                  have o2 := bo14.c 2 _ rfl
                  replace bx14 := Lib.hid bx14
                  replace bo14 := Lib.hid bo14
                  clear hbq hB13 bx13 bo13
                  go_wp2_with fail
                  refine (wakes09_c _).mono ?_
                  rintro e wz ⟨rfl, hbz⟩
                  have hBz := Lib.hid (bNext hB14.out hbz (Nat.le_refl _))
                  clear hbz
                  go_wp2_with fail
                  go_ret
                  exact ⟨rfl, hBz.out⟩
                | false =>
                  rw [hB] at hnB
                  replace hnB := Lib.hid hnB
                  clear hA hB hrel
                  go_wp2_with fail
                  refine (hnA.out _ hB10.out).mono ?_
                  rintro e w11 ⟨rfl, hbq⟩
                  have hB11 := Lib.hid (bNext hB10.out hbq (Nat.le_refl _))
                  have bx11 := bx10.out.bel hbq
                  have bo11 := bo10.out.bel hbq
                  have p0 := bx11.c 0 _ rfl
                  have p1 := bx11.c 1 _ rfl
                  have p2 := bx11.c 2 _ rfl
                  have o0 := bo11.c 0 _ rfl
                  have o1 := bo11.c 1 _ rfl
                  have o2 := bo11.c 2 _ rfl
                  replace bx11 := Lib.hid bx11
                  replace bo11 := Lib.hid bo11
                  clear hbq hB10 bx10 bo10
                  go_wp2_with fail
                  refine (hnC.out _ hB11.out).mono ?_
                  rintro e w12 ⟨rfl, hbq⟩
                  have hB12 := Lib.hid (bNext hB11.out hbq (Nat.le_refl _))
                  have bx12 := bx11.out.bel hbq
                  have bo12 := bo11.out.bel hbq
                  have p0 := bx12.c 0 _ rfl
                  have p1 := bx12.c 1 _ rfl
                  have p2 := bx12.c 2 _ rfl
                  have o0 := bo12.c 0 _ rfl
                  have o1 := bo12.c 1 _ rfl
                  have o2 := bo12.c 2 _ rfl
                  replace bx12 := Lib.hid bx12
                  replace bo12 := Lib.hid bo12
                  clear hbq hB11 bx11 bo11
                  go_wp2_with fail
                  refine (hnA.out _ hB12.out).mono ?_
                  rintro e w13 ⟨rfl, hbq⟩
                  have hB13 := Lib.hid (bNext hB12.out hbq (Nat.le_refl _))
                  have bx13 := bx12.out.bel hbq
                  have bo13 := bo12.out.bel hbq
                  have p0 := bx13.c 0 _ rfl
                  have p1 := bx13.c 1 _ rfl
                  have p2 := bx13.c 2 _ rfl
                  have o0 := bo13.c 0 _ rfl
                  have o1 := bo13.c 1 _ rfl
                  have o2 := bo13.c 2 _ rfl
                  replace bx13 := Lib.hid bx13
                  replace bo13 := Lib.hid bo13
                  clear hbq hB12 bx12 bo12
                  go_wp2_with fail
                  refine (hnB.out _ hB13.out).mono ?_
                  rintro e w14 ⟨rfl, hbq⟩
                  have hB14 := Lib.hid (bNext hB13.out hbq (Nat.le_refl _))
                  have bx14 := bx13.out.bel hbq
                  have bo14 := bo13.out.bel hbq
                  have p0 := bx14.c 0 _ rfl
                  have p1 := bx14.c 1 _ rfl
                  have p2 := bx14.c 2 _ rfl
                  have o0 := bo14.c 0 _ rfl
                  have o1 := bo14.c 1 _ rfl
                  have o2 := bo14.c 2 _ rfl
                  replace bx14 := Lib.hid bx14
                  replace bo14 := Lib.hid bo14
                  clear hbq hB13 bx13 bo13
                  go_wp2_with fail
                  refine (wakes09_c _).mono ?_
                  rintro e wz ⟨rfl, hbz⟩
                  have hBz := Lib.hid (bNext hB14.out hbz (Nat.le_refl _))
                  clear hbz
                  go_wp2_with fail
                  go_ret
                  exact ⟨rfl, hBz.out⟩
              | false =>
                rw [hA] at hnA
                replace hnA := Lib.hid hnA
                have hB := hrel.1 hA
                rw [hB] at hnB
                replace hnB := Lib.hid hnB
                clear hA hB hrel
                go_wp2_with fail
                refine (hnA.out _ hB10.out).mono ?_
                rintro e w11 ⟨rfl, hbq⟩
                have hB11 := Lib.hid (bNext hB10.out hbq (Nat.le_refl _))
                have bx11 := bx10.out.bel hbq
                have bo11 := bo10.out.bel hbq
                have p0 := bx11.c 0 _ rfl
                have p1 := bx11.c 1 _ rfl
                have p2 := bx11.c 2 _ rfl
                have o0 := bo11.c 0 _ rfl
                have o1 := bo11.c 1 _ rfl
                have o2 := bo11.c 2 _ rfl
                replace bx11 := Lib.hid bx11
                replace bo11 := Lib.hid bo11
                clear hbq hB10 bx10 bo10
                go_wp2_with fail
                refine (hnB.out _ hB11.out).mono ?_
                rintro e w12 ⟨rfl, hbq⟩
                have hB12 := Lib.hid (bNext hB11.out hbq (Nat.le_refl _))
                have bx12 := bx11.out.bel hbq
                have bo12 := bo11.out.bel hbq
                have p0 := bx12.c 0 _ rfl
                have p1 := bx12.c 1 _ rfl
                have p2 := bx12.c 2 _ rfl
                have o0 := bo12.c 0 _ rfl
                have o1 := bo12.c 1 _ rfl
                have o2 := bo12.c 2 _ rfl
                replace bx12 := Lib.hid bx12
                replace bo12 := Lib.hid bo12
                clear hbq hB11 bx11 bo11
                go_wp2_with fail
                refine (hnC.out _ hB12.out).mono ?_
                rintro e w13 ⟨rfl, hbq⟩
                have hB13 := Lib.hid (bNext hB12.out hbq (Nat.le_refl _))
                have bx13 := bx12.out.bel hbq
                have bo13 := bo12.out.bel hbq
                have p0 := bx13.c 0 _ rfl
                have p1 := bx13.c 1 _ rfl
                have p2 := bx13.c 2 _ rfl
                have o0 := bo13.c 0 _ rfl
                have o1 := bo13.c 1 _ rfl
                have o2 := bo13.c 2 _ rfl
                replace bx13 := Lib.hid bx13
                replace bo13 := Lib.hid bo13
                clear hbq hB12 bx12 bo12
                go_wp2_with fail
                refine (hnA.out _ hB13.out).mono ?_
                rintro e w14 ⟨rfl, hbq⟩
                have hB14 := Lib.hid (bNext hB13.out hbq (Nat.le_refl _))
                have bx14 := bx13.out.bel hbq
                have bo14 := bo13.out.bel hbq
                have p0 := bx14.c 0 _ rfl
                have p1 := bx14.c 1 _ rfl
                have p2 := bx14.c 2 _ rfl
                have o0 := bo14.c 0 _ rfl
                have o1 := bo14.c 1 _ rfl
                have o2 := bo14.c 2 _ rfl
                replace bx14 := Lib.hid bx14
                replace bo14 := Lib.hid bo14
                clear hbq hB13 bx13 bo13
                go_wp2_with fail
                refine (wakes09_c _).mono ?_
                rintro e wz ⟨rfl, hbz⟩
                have hBz := Lib.hid (bNext hB14.out hbz (Nat.le_refl _))
                clear hbz
                go_wp2_with fail
                go_ret
                exact ⟨rfl, hBz.out⟩
            by_cases cB : i ≤ b + (k : Int)
            · have e6 : fromR (b + k) T (l.drop k) i mo = ([], 4) := by
                unfold fromR
                rw [if_pos hcx, if_neg (by omega)]
              obtain ⟨g7, hg7⟩ : ∃ g7, (fromR b t l i mo).2 = g7 := ⟨_, rfl⟩
              rw [e6, hg7]
              clear e6 hg7 cA
              have d1 : decide (b + (k : Int) < i) = false := decide_eq_false (by omega)
              go_wp2_with fail
              refine (hl1.out _ hB7.out).mono ?_
              rintro e w8 ⟨rfl, hbq⟩
              have hB8 := Lib.hid (bNext hB7.out hbq (Nat.le_refl _))
              have bx8 := bx7.out.bel hbq
              have bo8 := bo7.out.bel hbq
              have p0 := bx8.c 0 _ rfl
              have p1 := bx8.c 1 _ rfl
              have p2 := bx8.c 2 _ rfl
              have o0 := bo8.c 0 _ rfl
              have o1 := bo8.c 1 _ rfl
              have o2 := bo8.c 2 _ rfl
              replace bx8 := Lib.hid bx8
              replace bo8 := Lib.hid bo8
              clear hbq hB7 bx7 bo7
              go_wp2_with fail
              refine (hl2.out _ hB8.out).mono ?_
              rintro e w9 ⟨rfl, hbq⟩
              have hB9 := Lib.hid (bNext hB8.out hbq (Nat.le_refl _))
              have bx9 := bx8.out.bel hbq
              have bo9 := bo8.out.bel hbq
              have p0 := bx9.c 0 _ rfl
              have p1 := bx9.c 1 _ rfl
              have p2 := bx9.c 2 _ rfl
              have o0 := bo9.c 0 _ rfl
              have o1 := bo9.c 1 _ rfl
              have o2 := bo9.c 2 _ rfl
              replace bx9 := Lib.hid bx9
              replace bo9 := Lib.hid bo9
              clear hbq hB8 bx8 bo8
              have hrel := newer_two b t l b2 t2 l2
              have hnA := fun u (hu : Below w.heap.size w u) => newer_l b t (b2 + (l2.length : Int)) (tl t2 l2 l2.length) a n c l u (H.out.bel hu) hw hb ht HC.out
              have hnB := fun u (hu : Below w.heap.size w u) => newer_l b2 t2 (b + (l.length : Int)) (tl t l l.length) a2 m c2 l2 u (H2.out.bel hu) hw2 hb2 ht2 HC2.out
              have hnC := fun u (hu : Below w.heap.size w u) => newer_l b t (b + (l.length : Int)) (tl t l l.length) a n c l u (H.out.bel hu) hw hb ht HC.out
              rw [newL_self] at hnC
              replace hnC := Lib.hid hnC
              cases hA : newL b t l (b2 + (l2.length : Int)) (tl t2 l2 l2.length) with
              | true =>
                rw [hA] at hnA
                replace hnA := Lib.hid hnA
                cases hB : newL b2 t2 l2 (b + (l.length : Int)) (tl t l l.length) with
                | true =>
                  rw [hB] at hnB
                  replace hnB := Lib.hid hnB
                  obtain ⟨e1, e2⟩ := hrel.2 hA hB
                  have d1 : (b + (l.length : Int) == b2 + (l2.length : Int)) = true := by rw [e1]; simp
                  have d2 : (tl t l l.length == tl t2 l2 l2.length) = true := by rw [e2]; simp
                  clear hA hB hrel e1 e2
                  go_wp2_with fail
                  refine (hnA.out _ hB9.out).mono ?_
                  rintro e w10 ⟨rfl, hbq⟩
                  have hB10 := Lib.hid (bNext hB9.out hbq (Nat.le_refl _))
                  have bx10 := bx9.out.bel hbq
                  have bo10 := bo9.out.bel hbq
                  have p0 := bx10.c 0 _ rfl
                  have p1 := bx10.c 1 _ rfl
                  have p2 := bx10.c 2 _ rfl
                  have o0 := bo10.c 0 _ rfl
                  have o1 := bo10.c 1 _ rfl
                  have o2 := bo10.c 2 _ rfl
                  replace bx10 := Lib.hid bx10
                  replace bo10 := Lib.hid bo10
                  clear hbq hB9 bx9 bo9
                  go_wp2_with fail
                  refine (hnC.out _ hB10.out).mono ?_
                  rintro e w11 ⟨rfl, hbq⟩
                  have hB11 := Lib.hid (bNext hB10.out hbq (Nat.le_refl _))
                  have bx11 := bx10.out.bel hbq
                  have bo11 := bo10.out.bel hbq
                  have p0 := bx11.c 0 _ rfl
                  have p1 := bx11.c 1 _ rfl
                  have p2 := bx11.c 2 _ rfl
                  have o0 := bo11.c 0 _ rfl
                  have o1 := bo11.c 1 _ rfl
                  have o2 := bo11.c 2 _ rfl
                  replace bx11 := Lib.hid bx11
                  replace bo11 := Lib.hid bo11
                  clear hbq hB10 bx10 bo10
                  go_wp2_with fail
                  refine (hnA.out _ hB11.out).mono ?_
                  rintro e w12 ⟨rfl, hbq⟩
                  have hB12 := Lib.hid (bNext hB11.out hbq (Nat.le_refl _))
                  have bx12 := bx11.out.bel hbq
                  have bo12 := bo11.out.bel hbq
                  have p0 := bx12.c 0 _ rfl
                  have p1 := bx12.c 1 _ rfl
                  have p2 := bx12.c 2 _ rfl
                  have o0 := bo12.c 0 _ rfl
                  have o1 := bo12.c 1 _ rfl
                  have o2 := bo12.c 2 _ rfl
                  replace bx12 := Lib.hid bx12
                  replace bo12 := Lib.hid bo12
                  clear hbq hB11 bx11 bo11
                  go_wp2_with fail
                  refine (hnB.out _ hB12.out).mono ?_
                  rintro e w13 ⟨rfl, hbq⟩
                  have hB13 := Lib.hid (bNext hB12.out hbq (Nat.le_refl _))
                  have bx13 := bx12.out.bel hbq
                  have bo13 := bo12.out.bel hbq
                  have p0 := bx13.c 0 _ rfl
                  have p1 := bx13.c 1 _ rfl
                  have p2 := bx13.c 2 _ rfl
                  have o0 := bo13.c 0 _ rfl
                  have o1 := bo13.c 1 _ rfl
                  have o2 := bo13.c 2 _ rfl
                  replace bx13 := Lib.hid bx13
                  replace bo13 := Lib.hid bo13
                  clear hbq hB12 bx12 bo12
                  go_wp2_with fail
                  refine (wakes09_c _).mono ?_
                  rintro e wz ⟨rfl, hbz⟩
                  have hBz := Lib.hid (bNext hB13.out hbz (Nat.le_refl _))
                  clear hbz
                  go_wp2_with fail
                  go_ret
                  exact ⟨rfl, hBz.out⟩
                | false =>
                  rw [hB] at hnB
                  replace hnB := Lib.hid hnB
                  clear hA hB hrel
                  go_wp2_with fail
                  refine (hnA.out _ hB9.out).mono ?_
                  rintro e w10 ⟨rfl, hbq⟩
                  have hB10 := Lib.hid (bNext hB9.out hbq (Nat.le_refl _))
                  have bx10 := bx9.out.bel hbq
                  have bo10 := bo9.out.bel hbq
                  have p0 := bx10.c 0 _ rfl
                  have p1 := bx10.c 1 _ rfl
                  have p2 := bx10.c 2 _ rfl
                  have o0 := bo10.c 0 _ rfl
                  have o1 := bo10.c 1 _ rfl
                  have o2 := bo10.c 2 _ rfl
                  replace bx10 := Lib.hid bx10
                  replace bo10 := Lib.hid bo10
                  clear hbq hB9 bx9 bo9
                  go_wp2_with fail
                  refine (hnC.out _ hB10.out).mono ?_
                  rintro e w11 ⟨rfl, hbq⟩
                  have hB11 := Lib.hid (bNext hB10.out hbq (Nat.le_refl _))
                  have bx11 := bx10.out.bel hbq
                  have bo11 := bo10.out.bel hbq
                  have p0 := bx11.c 0 _ rfl
                  have p1 := bx11.c 1 _ rfl
                  have p2 := bx11.c 2 _ rfl
                  have o0 := bo11.c 0 _ rfl
                  have o1 := bo11.c 1 _ rfl
                  have o2 := bo11.c 2 _ rfl
                  replace bx11 := Lib.hid bx11
                  replace bo11 := Lib.hid bo11
                  clear hbq hB10 bx10 bo10
                  go_wp2_with fail
                  refine (hnA.out _ hB11.out).mono ?_
                  rintro e w12 ⟨rfl, hbq⟩
                  have hB12 := Lib.hid (bNext hB11.out hbq (Nat.le_refl _))
                  have bx12 := bx11.out.bel hbq
                  have bo12 := bo11.out.bel hbq
                  have p0 := bx12.c 0 _ rfl
                  have p1 := bx12.c 1 _ rfl
                  have p2 := bx12.c 2 _ rfl
                  have o0 := bo12.c 0 _ rfl
                  have o1 := bo12.c 1 _ rfl
                  have o2 := bo12.c 2 _ rfl
                  replace bx12 := Lib.hid bx12
                  replace bo12 := Lib.hid bo12
                  clear hbq hB11 bx11 bo11
                  go_wp2_with fail
                  refine (hnB.out _ hB12.out).mono ?_
                  rintro e w13 ⟨rfl, hbq⟩
                  have hB13 := Lib.hid (bNext hB12.out hbq (Nat.le_refl _))
                  have bx13 := bx12.out.bel hbq
                  have bo13 := bo12.out.bel hbq
                  have p0 := bx13.c 0 _ rfl
                  have p1 := bx13.c 1 _ rfl
                  have p2 := bx13.c 2 _ rfl
                  have o0 := bo13.c 0 _ rfl
                  have o1 := bo13.c 1 _ rfl
                  have o2 := bo13.c 2 _ rfl
                  replace bx13 := Lib.hid bx13
                  replace bo13 := Lib.hid bo13
                  clear hbq hB12 bx12 bo12
                  go_wp2_with fail
                  refine (wakes09_c _).mono ?_
                  rintro e wz ⟨rfl, hbz⟩
                  have hBz := Lib.hid (bNext hB13.out hbz (Nat.le_refl _))
                  clear hbz
                  go_wp2_with fail
                  go_ret
                  exact ⟨rfl, hBz.out⟩
              | false =>
                rw [hA] at hnA
                replace hnA := Lib.hid hnA
                have hB := hrel.1 hA
                rw [hB] at hnB
                replace hnB := Lib.hid hnB
                clear hA hB hrel
                go_wp2_with fail
                refine (hnA.out _ hB9.out).mono ?_
                rintro e w10 ⟨rfl, hbq⟩
                have hB10 := Lib.hid (bNext hB9.out hbq (Nat.le_refl _))
                have bx10 := bx9.out.bel hbq
                have bo10 := bo9.out.bel hbq
                have p0 := bx10.c 0 _ rfl
                have p1 := bx10.c 1 _ rfl
                have p2 := bx10.c 2 _ rfl
                have o0 := bo10.c 0 _ rfl
                have o1 := bo10.c 1 _ rfl
                have o2 := bo10.c 2 _ rfl
                replace bx10 := Lib.hid bx10
                replace bo10 := Lib.hid bo10
                clear hbq hB9 bx9 bo9
                go_wp2_with fail
                refine (hnB.out _ hB10.out).mono ?_
                rintro e w11 ⟨rfl, hbq⟩
                have hB11 := Lib.hid (bNext hB10.out hbq (Nat.le_refl _))
                have bx11 := bx10.out.bel hbq
                have bo11 := bo10.out.bel hbq
                have p0 := bx11.c 0 _ rfl
                have p1 := bx11.c 1 _ rfl
                have p2 := bx11.c 2 _ rfl
                have o0 := bo11.c 0 _ rfl
                have o1 := bo11.c 1 _ rfl
                have o2 := bo11.c 2 _ rfl
                replace bx11 := Lib.hid bx11
                replace bo11 := Lib.hid bo11
                clear hbq hB10 bx10 bo10
                go_wp2_with fail
                refine (hnC.out _ hB11.out).mono ?_
                rintro e w12 ⟨rfl, hbq⟩
                have hB12 := Lib.hid (bNext hB11.out hbq (Nat.le_refl _))
                have bx12 := bx11.out.bel hbq
                have bo12 := bo11.out.bel hbq
                have p0 := bx12.c 0 _ rfl
                have p1 := bx12.c 1 _ rfl
                have p2 := bx12.c 2 _ rfl
                have o0 := bo12.c 0 _ rfl
                have o1 := bo12.c 1 _ rfl
                have o2 := bo12.c 2 _ rfl
                replace bx12 := Lib.hid bx12
                replace bo12 := Lib.hid bo12
                clear hbq hB11 bx11 bo11
                go_wp2_with fail
                refine (hnA.out _ hB12.out).mono ?_
                rintro e w13 ⟨rfl, hbq⟩
                have hB13 := Lib.hid (bNext hB12.out hbq (Nat.le_refl _))
                have bx13 := bx12.out.bel hbq
                have bo13 := bo12.out.bel hbq
                have p0 := bx13.c 0 _ rfl
                have p1 := bx13.c 1 _ rfl
                have p2 := bx13.c 2 _ rfl
                have o0 := bo13.c 0 _ rfl
                have o1 := bo13.c 1 _ rfl
                have o2 := bo13.c 2 _ rfl
                replace bx13 := Lib.hid bx13
                replace bo13 := Lib.hid bo13
                clear hbq hB12 bx12 bo12
                go_wp2_with fail
                refine (wakes09_c _).mono ?_
                rintro e wz ⟨rfl, hbz⟩
                have hBz := Lib.hid (bNext hB13.out hbz (Nat.le_refl _))
                clear hbz
                go_wp2_with fail
                go_ret
                exact ⟨rfl, hBz.out⟩
            · have e6 : fromR (b + k) T (l.drop k) i mo = ([], 4) := by
                unfold fromR
                rw [if_pos hcx, if_neg (by simp; omega)]
              have e7 : fromR b t l i mo = ([], 4) := by
                unfold fromR
                rw [if_pos HC.out, if_neg (by omega)]
              rw [e6, e7]
              have d1 : decide (b + (k : Int) < i) = true := decide_eq_true (by omega)
              clear e6 e7 cA
              go_wp2_with fail
              refine (hl1.out _ hB7.out).mono ?_
              rintro e w8 ⟨rfl, hbq⟩
              have hB8 := Lib.hid (bNext hB7.out hbq (Nat.le_refl _))
              have bx8 := bx7.out.bel hbq
              have bo8 := bo7.out.bel hbq
              have p0 := bx8.c 0 _ rfl
              have p1 := bx8.c 1 _ rfl
              have p2 := bx8.c 2 _ rfl
              have o0 := bo8.c 0 _ rfl
              have o1 := bo8.c 1 _ rfl
              have o2 := bo8.c 2 _ rfl
              replace bx8 := Lib.hid bx8
              replace bo8 := Lib.hid bo8
              clear hbq hB7 bx7 bo7
              go_wp2_with fail
              refine (hl2.out _ hB8.out).mono ?_
              rintro e w9 ⟨rfl, hbq⟩
              have hB9 := Lib.hid (bNext hB8.out hbq (Nat.le_refl _))
              have bx9 := bx8.out.bel hbq
              have bo9 := bo8.out.bel hbq
              have p0 := bx9.c 0 _ rfl
              have p1 := bx9.c 1 _ rfl
              have p2 := bx9.c 2 _ rfl
              have o0 := bo9.c 0 _ rfl
              have o1 := bo9.c 1 _ rfl
              have o2 := bo9.c 2 _ rfl
              replace bx9 := Lib.hid bx9
              replace bo9 := Lib.hid bo9
              clear hbq hB8 bx8 bo8
              have hrel := newer_two b t l b2 t2 l2
              have hnA := fun u (hu : Below w.heap.size w u) => newer_l b t (b2 + (l2.length : Int)) (tl t2 l2 l2.length) a n c l u (H.out.bel hu) hw hb ht HC.out
              have hnB := fun u (hu : Below w.heap.size w u) => newer_l b2 t2 (b + (l.length : Int)) (tl t l l.length) a2 m c2 l2 u (H2.out.bel hu) hw2 hb2 ht2 HC2.out
              have hnC := fun u (hu : Below w.heap.size w u) => newer_l b t (b + (l.length : Int)) (tl t l l.length) a n c l u (H.out.bel hu) hw hb ht HC.out
              rw [newL_self] at hnC
              replace hnC := Lib.hid hnC
              cases hA : newL b t l (b2 + (l2.length : Int)) (tl t2 l2 l2.length) with
              | true =>
                rw [hA] at hnA
                replace hnA := Lib.hid hnA
                cases hB : newL b2 t2 l2 (b + (l.length : Int)) (tl t l l.length) with
                | true =>
                  rw [hB] at hnB
                  replace hnB := Lib.hid hnB
                  obtain ⟨e1, e2⟩ := hrel.2 hA hB
                  have d1 : (b + (l.length : Int) == b2 + (l2.length : Int)) = true := by rw [e1]; simp
                  have d2 : (tl t l l.length == tl t2 l2 l2.length) = true := by rw [e2]; simp
                  clear hA hB hrel e1 e2
                  go_wp2_with fail
                  refine (hnA.out _ hB9.out).mono ?_
                  rintro e w10 ⟨rfl, hbq⟩
                  have hB10 := Lib.hid (bNext hB9.out hbq (Nat.le_refl _))
                  have bx10 := bx9.out.bel hbq
                  have bo10 := bo9.out.bel hbq
                  have p0 := bx10.c 0 _ rfl
                  have p1 := bx10.c 1 _ rfl
                  have p2 := bx10.c 2 _ rfl
                  have o0 := bo10.c 0 _ rfl
                  have o1 := bo10.c 1 _ rfl
                  have o2 := bo10.c 2 _ rfl
                  replace bx10 := Lib.hid bx10
                  replace bo10 := Lib.hid bo10
                  clear hbq hB9 bx9 bo9
                  go_wp2_with fail
                  refine (hnC.out _ hB10.out).mono ?_
                  rintro e w11 ⟨rfl, hbq⟩
                  have hB11 := Lib.hid (bNext hB10.out hbq (Nat.le_refl _))
                  have bx11 := bx10.out.bel hbq
                  have bo11 := bo10.out.bel hbq
                  have p0 := bx11.c 0 _ rfl
                  have p1 := bx11.c 1 _ rfl
                  have p2 := bx11.c 2 _ rfl
                  have o0 := bo11.c 0 _ rfl
                  have o1 := bo11.c 1 _ rfl
                  have o2 := bo11.c 2 _ rfl
                  replace bx11 := Lib.hid bx11
                  replace bo11 := Lib.hid bo11
                  clear hbq hB10 bx10 bo10
                  go_wp2_with fail
                  refine (hnA.out _ hB11.out).mono ?_
                  rintro e w12 ⟨rfl, hbq⟩
                  have hB12 := Lib.hid (bNext hB11.out hbq (Nat.le_refl _))
                  have bx12 := bx11.out.bel hbq
                  have bo12 := bo11.out.bel hbq
                  have p0 := bx12.c 0 _ rfl
                  have p1 := bx12.c 1 _ rfl
                  have p2 := bx12.c 2 _ rfl
                  have o0 := bo12.c 0 _ rfl
                  have o1 := bo12.c 1 _ rfl
                  have o2 := bo12.c 2 _ rfl
                  replace bx12 := Lib.hid bx12
                  replace bo12 := Lib.hid bo12
                  clear hbq hB11 bx11 bo11
                  go_wp2_with fail
                  refine (hnB.out _ hB12.out).mono ?_
                  rintro e w13 ⟨rfl, hbq⟩
                  have hB13 := Lib.hid (bNext hB12.out hbq (Nat.le_refl _))
                  have bx13 := bx12.out.bel hbq
                  have bo13 := bo12.out.bel hbq
                  have p0 := bx13.c 0 _ rfl
                  have p1 := bx13.c 1 _ rfl
                  have p2 := bx13.c 2 _ rfl
                  have o0 := bo13.c 0 _ rfl
                  have o1 := bo13.c 1 _ rfl
                  have o2 := bo13.c 2 _ rfl
                  replace bx13 := Lib.hid bx13
                  replace bo13 := Lib.hid bo13
                  clear hbq hB12 bx12 bo12
                  go_wp2_with fail
                  refine (wakes09_c _).mono ?_
                  rintro e wz ⟨rfl, hbz⟩
                  have hBz := Lib.hid (bNext hB13.out hbz (Nat.le_refl _))
                  clear hbz
                  go_wp2_with fail
                  go_ret
                  exact ⟨rfl, hBz.out⟩
                | false =>
                  rw [hB] at hnB
                  replace hnB := Lib.hid hnB
                  clear hA hB hrel
                  go_wp2_with fail
                  refine (hnA.out _ hB9.out).mono ?_
                  rintro e w10 ⟨rfl, hbq⟩
                  have hB10 := Lib.hid (bNext hB9.out hbq (Nat.le_refl _))
                  have bx10 := bx9.out.bel hbq
                  have bo10 := bo9.out.bel hbq
                  have p0 := bx10.c 0 _ rfl
                  have p1 := bx10.c 1 _ rfl
                  have p2 := bx10.c 2 _ rfl
                  have o0 := bo10.c 0 _ rfl
                  have o1 := bo10.c 1 _ rfl
                  have o2 := bo10.c 2 _ rfl
                  replace bx10 := Lib.hid bx10
                  replace bo10 := Lib.hid bo10
                  clear hbq hB9 bx9 bo9
                  go_wp2_with fail
                  refine (hnC.out _ hB10.out).mono ?_
                  rintro e w11 ⟨rfl, hbq⟩
                  have hB11 := Lib.hid (bNext hB10.out hbq (Nat.le_refl _))
                  have bx11 := bx10.out.bel hbq
                  have bo11 := bo10.out.bel hbq
                  have p0 := bx11.c 0 _ rfl
                  have p1 := bx11.c 1 _ rfl
                  have p2 := bx11.c 2 _ rfl
                  have o0 := bo11.c 0 _ rfl
                  have o1 := bo11.c 1 _ rfl
                  have o2 := bo11.c 2 _ rfl
                  replace bx11 := Lib.hid bx11
                  replace bo11 := Lib.hid bo11
                  clear hbq hB10 bx10 bo10
                  go_wp2_with fail
                  refine (hnA.out _ hB11.out).mono ?_
                  rintro e w12 ⟨rfl, hbq⟩
                  have hB12 := Lib.hid (bNext hB11.out hbq (Nat.le_refl _))
                  have bx12 := bx11.out.bel hbq
                  have bo12 := bo11.out.bel hbq
                  have p0 := bx12.c 0 _ rfl
                  have p1 := bx12.c 1 _ rfl
                  have p2 := bx12.c 2 _ rfl
                  have o0 := bo12.c 0 _ rfl
                  have o1 := bo12.c 1 _ rfl
                  have o2 := bo12.c 2 _ rfl
                  replace bx12 := Lib.hid bx12
                  replace bo12 := Lib.hid bo12
                  clear hbq hB11 bx11 bo11
                  go_wp2_with fail
                  refine (hnB.out _ hB12.out).mono ?_
                  rintro e w13 ⟨rfl, hbq⟩
                  have hB13 := Lib.hid (bNext hB12.out hbq (Nat.le_refl _))
                  have bx13 := bx12.out.bel hbq
                  have bo13 := bo12.out.bel hbq
                  have p0 := bx13.c 0 _ rfl
                  have p1 := bx13.c 1 _ rfl
                  have p2 := bx13.c 2 _ rfl
                  have o0 := bo13.c 0 _ rfl
                  have o1 := bo13.c 1 _ rfl
                  have o2 := bo13.c 2 _ rfl
                  replace bx13 := Lib.hid bx13
                  replace bo13 := Lib.hid bo13
                  clear hbq hB12 bx12 bo12
                  go_wp2_with fail
                  refine (wakes09_c _).mono ?_
                  rintro e wz ⟨rfl, hbz⟩
                  have hBz := Lib.hid (bNext hB13.out hbz (Nat.le_refl _))
                  clear hbz
                  go_wp2_with fail
                  go_ret
                  exact ⟨rfl, hBz.out⟩
              | false =>
                rw [hA] at hnA
                replace hnA := Lib.hid hnA
                have hB := hrel.1 hA
                rw [hB] at hnB
                replace hnB := Lib.hid hnB
                clear hA hB hrel
                go_wp2_with fail
                refine (hnA.out _ hB9.out).mono ?_
                rintro e w10 ⟨rfl, hbq⟩
                have hB10 := Lib.hid (bNext hB9.out hbq (Nat.le_refl _))
                have bx10 := bx9.out.bel hbq
                have bo10 := bo9.out.bel hbq
                have p0 := bx10.c 0 _ rfl
                have p1 := bx10.c 1 _ rfl
                have p2 := bx10.c 2 _ rfl
                have o0 := bo10.c 0 _ rfl
                have o1 := bo10.c 1 _ rfl
                have o2 := bo10.c 2 _ rfl
                replace bx10 := Lib.hid bx10
                replace bo10 := Lib.hid bo10
                clear hbq hB9 bx9 bo9
                go_wp2_with fail
                refine (hnB.out _ hB10.out).mono ?_
                rintro e w11 ⟨rfl, hbq⟩
                have hB11 := Lib.hid (bNext hB10.out hbq (Nat.le_refl _))
                have bx11 := bx10.out.bel hbq
                have bo11 := bo10.out.bel hbq
                have p0 := bx11.c 0 _ rfl
                have p1 := bx11.c 1 _ rfl
                have p2 := bx11.c 2 _ rfl
                have o0 := bo11.c 0 _ rfl
                have o1 := bo11.c 1 _ rfl
                have o2 := bo11.c 2 _ rfl
                replace bx11 := Lib.hid bx11
                replace bo11 := Lib.hid bo11
                clear hbq hB10 bx10 bo10
                go_wp2_with fail
                refine (hnC.out _ hB11.out).mono ?_
                rintro e w12 ⟨rfl, hbq⟩
                have hB12 := Lib.hid (bNext hB11.out hbq (Nat.le_refl _))
                have bx12 := bx11.out.bel hbq
                have bo12 := bo11.out.bel hbq
                have p0 := bx12.c 0 _ rfl
                have p1 := bx12.c 1 _ rfl
                have p2 := bx12.c 2 _ rfl
                have o0 := bo12.c 0 _ rfl
                have o1 := bo12.c 1 _ rfl
                have o2 := bo12.c 2 _ rfl
                replace bx12 := Lib.hid bx12
                replace bo12 := Lib.hid bo12
                clear hbq hB11 bx11 bo11
                go_wp2_with fail
                refine (hnA.out _ hB12.out).mono ?_
                rintro e w13 ⟨rfl, hbq⟩
                have hB13 := Lib.hid (bNext hB12.out hbq (Nat.le_refl _))
                have bx13 := bx12.out.bel hbq
                have bo13 := bo12.out.bel hbq
                have p0 := bx13.c 0 _ rfl
                have p1 := bx13.c 1 _ rfl
                have p2 := bx13.c 2 _ rfl
                have o0 := bo13.c 0 _ rfl
                have o1 := bo13.c 1 _ rfl
                have o2 := bo13.c 2 _ rfl
                replace bx13 := Lib.hid bx13
                replace bo13 := Lib.hid bo13
                clear hbq hB12 bx12 bo12
                go_wp2_with fail
                refine (wakes09_c _).mono ?_
                rintro e wz ⟨rfl, hbz⟩
                have hBz := Lib.hid (bNext hB13.out hbz (Nat.le_refl _))
                clear hbz
                go_wp2_with fail
                go_ret
                exact ⟨rfl, hBz.out⟩

theorem rowsPieces_walk (w : World) (v0 : Value) (a0 : XT_Rows) (a1 a2 a3 : Int) (v4 : Value) (a4 : XT_Rows) (w0 : Is_Rows w v0 a0) (w1 : (Lit.int .i64 a1).wf = true) (w2 : (Lit.int .i64 a2).wf = true) (w3 : (Lit.int .i64 a3).wf = true) (w4 : Is_Rows w v4 a4) :
    Calls Try.prog 6 #[v0, .int .i64 a1, .int .i64 a2, .int .i64 a3, v4] w fun e w' => e = .returned (.bool true) ∧ Below w.heap.size w w' := by
  obtain ⟨rfl, hb, ht, hw, hL⟩ := w0
  obtain ⟨rfl, hb2, ht2, hw2, hL2⟩ := w4
  exact rowsPieces_h a0.b a0.t a0.a a0.n a0.c a0.l a1 a2 a3 a4.b a4.t a4.a a4.n a4.c a4.l w hL hw hb ht (ct_i64 w1) (ct_i64 w2) hL2 hw2 hb2 ht2
end Go.Proofs.Ytbiodlhiilmgkaa
