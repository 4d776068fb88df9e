/- RowsMatch: the walk of the law. -/
import Derived.Test.YtbiodlhiilmgkaaCt22
import Derived.Test.YtbiodlhiilmgkaaCt11
import Derived.Deep.CutRange
import Derived.Deep.CutBlock
namespace Go.Proofs.Ytbiodlhiilmgkaa
open Go.ChangeShapes Go.WideShapes Go.ChangeAt Go.RowKit
set_option linter.unusedVariables false
set_option linter.unusedSimpArgs false
open BigFrame Bs Rw Ct

set_option maxRecDepth 100000 in
set_option maxHeartbeats 40000000 in
theorem rowsMatch_h (b t : Int) (a : Option Addr) (n c : Nat) (l : List En) (i τ : Int) (a2 : Option Addr) (m c2 : Nat) (l2 : List En) (w : World) (h : LAt w a n c l) (hw : Wfl l) (hb : I64 b) (ht : I64 t) (hi : I64 i) (hτ : I64 τ) (h2 : LAt w a2 m c2 l2) (hw2 : Wfl l2) :
    Calls Try.prog 4 #[.agg #[.int .i64 b, .int .i64 t, .slice a n c], .int .i64 i, .int .i64 τ, .slice a2 m c2] w fun e w' => e = .returned (.bool true) ∧ Below w.heap.size w w' := by
  have hB0 : Below w.heap.size w (w.alloc (.cells #[.int .i64 b, .int .i64 t, .slice a n c] 24)) := (Below.refl _ _).alloc (Nat.le_refl _) _
  have bx0 := Lib.hid (blk_new w [.int .i64 b, .int .i64 t, .slice a n c] 24)
  have hgr := Lib.hid (great09_c b t a n c l _ (h.bel hB0))
  have hlg := Lib.hid (fun u (hu : Below w.heap.size w u) => long_c a2 m c2 l2 u (h2.bel hu))
  have hck := Lib.hid (fun u (hu : Below w.heap.size w u) => rcheck_l b t a n c l u (h.bel hu) hw hb ht)
  have H := Lib.hid h
  have H2 := Lib.hid h2
  replace hB0 := Lib.hid hB0
  clear h h2
  go_enter Try.func4, Try.ntmps4
  go_wp2_with fail
  refine hgr.out.mono ?_
  rintro e w1 ⟨g1, rfl, _, hb1⟩
  have hB1 := Lib.hid (bNext hB0.out hb1 (Nat.le_refl _))
  have bx1 := bx0.out.bel hb1
  have p0 := bx1.c 0 _ rfl
  have p1 := bx1.c 1 _ rfl
  have p2 := bx1.c 2 _ rfl
  replace bx1 := Lib.hid bx1
  clear hb1 hB0 bx0
  clear hgr
  cases g1 with
  | true =>
    go_wp2_with fail
    refine (wakes09_c _).mono ?_
    rintro e wz ⟨rfl, hbz⟩
    have hBz := Lib.hid (bNext hB1.out hbz (Nat.le_refl _))
    clear hbz
    go_wp2_with fail
    go_ret
    exact ⟨rfl, hBz.out⟩
  | false =>
    go_wp2_with fail
    refine (hlg.out _ hB1.out).mono ?_
    rintro e w2 ⟨g2, rfl, _, hb2⟩
    have hB2 := Lib.hid (bNext hB1.out hb2 (Nat.le_refl _))
    have bx2 := bx1.out.bel hb2
    have p0 := bx2.c 0 _ rfl
    have p1 := bx2.c 1 _ rfl
    have p2 := bx2.c 2 _ rfl
    replace bx2 := Lib.hid bx2
    clear hb2 hB1 bx1
    clear hlg
    cases g2 with
    | true =>
      go_wp2_with fail
      refine (wakes09_c _).mono ?_
      rintro e wz ⟨rfl, hbz⟩
      have hBz := Lib.hid (bNext hB2.out hbz (Nat.le_refl _))
      clear hbz
      go_wp2_with fail
      go_ret
      exact ⟨rfl, hBz.out⟩
    | false =>
      have hck2 := hck.out _ hB2.out
      cases hc : chk b t l with
      | false =>
        rw [hc] at hck2
        replace hck2 := Lib.hid hck2
        clear hc
        go_wp2_with fail
        refine hck2.out.mono ?_
        rintro e w3 ⟨rfl, hb3⟩
        have hB3 := Lib.hid (bNext hB2.out hb3 (Nat.le_refl _))
        clear hb3
        go_wp2_with fail
        refine (wakes09_c _).mono ?_
        rintro e wz ⟨rfl, hbz⟩
        have hBz := Lib.hid (bNext hB3.out hbz (Nat.le_refl _))
        clear hbz
        go_wp2_with fail
        go_ret
        exact ⟨rfl, hBz.out⟩
      | true =>
        rw [hc] at hck2
        replace hck2 := Lib.hid hck2
        go_wp2_with fail
        refine hck2.out.mono ?_
        rintro e w3 ⟨rfl, hb3⟩
        have hB3 := Lib.hid (bNext hB2.out hb3 (Nat.le_refl _))
        have bx3 := bx2.out.bel hb3
        have p0 := bx3.c 0 _ rfl
        have p1 := bx3.c 1 _ rfl
        have p2 := bx3.c 2 _ rfl
        replace bx3 := Lib.hid bx3
        clear hb3 hB2 bx2
        clear hck2 hck
        have hp := put_c b t i τ a a2 n c m c2 l l2 w3 (H.out.bel hB3.out) (H2.out.bel hB3.out) hw hw2 hb ht hi hτ
        by_cases he : (putR b t l i τ l2).r.e = 0
        rotate_left
        · obtain ⟨P, hP⟩ : ∃ P, putR b t l i τ l2 = P := ⟨_, rfl⟩
          rw [hP] at hp he
          have hne : (P.r.e == 0) = false := by simpa using he
          have hne' : (P.r.e != 0) = true := by simpa using he
          replace hp := Lib.hid hp
          clear hP he hc
          go_wp2_with fail
          refine hp.out.mono ?_
          rintro e w4 ⟨a4, n4, c4, rfl, hL4, hb4⟩
          have hB4 := Lib.hid ((bNext hB3.out hb4 (Nat.le_refl _)).alloc (by have := hB3.out.size; have := hb4.size; omega) (.cells #[.int .i64 P.r.b, .int .i64 P.r.t, .slice a4 n4 c4] 24))
          clear hb4 hL4 hp
          go_wp2_with fail
          refine (wakes09_c _).mono ?_
          rintro e wz ⟨rfl, hbz⟩
          have hBz := Lib.hid (bNext hB4.out hbz (Nat.le_refl _))
          clear hbz
          go_wp2_with fail
          go_ret
          exact ⟨rfl, hBz.out⟩
        have HC := Lib.hid hc
        obtain ⟨⟨g1, g2, g3, g4, g5⟩, _⟩ := chk_iff.1 hc
        have g3' : b ≤ 1099511627776 := by omega
        have g6 : (n : Int) ≤ 4096 := by have := H.out.len; omega
        have g7 : (l.length : Int) ≤ 4096 := by omega
        have hml := Lib.hid H2.out.len
        clear g5
        rcases put_cases hc he with ⟨s, hP, hs1, hs2, hs3⟩ | ⟨X, hP, hT, h16, hci⟩
        · clear hc he
          rw [hP] at hp
          replace hp := Lib.hid hp
          clear hP
          go_wp2_with fail
          refine hp.out.mono ?_
          rintro e w4 ⟨a4, n4, c4, rfl, hL4, hb4⟩
          simp only at hL4
          have hb4a := (Below.refl w4.heap.size w4).alloc (Nat.le_refl _) (.cells #[.int .i64 b, .int .i64 t, .slice a4 n4 c4] 24)
          have kx4 := Lib.hid (blk_new w4 [.int .i64 b, .int .i64 t, .slice a4 n4 c4] 24)
          have hLx := Lib.hid (hL4.bel hb4a)
          have hbb := hb4.trans (hb4a.mono hb4.size)
          have bxm := bx3.out.bel hb4
          have p0 := bxm.c 0 _ rfl
          have p1 := bxm.c 1 _ rfl
          have p2 := bxm.c 2 _ rfl
          clear bxm
          have hB4 := Lib.hid (bNext hB3.out hbb (Nat.le_refl _))
          have bx4 := bx3.out.bel hbb
          have p0 := bx4.c 0 _ rfl
          have p1 := bx4.c 1 _ rfl
          have p2 := bx4.c 2 _ rfl
          replace bx4 := Lib.hid bx4
          clear hbb hB3 bx3
          clear hb4 hb4a hL4 hp
          have hla := Lib.hid (rlast_l b t a n c l _ (H.out.bel hB4.out) hw hb ht HC.out)
          go_wp2_with fail
          refine hla.out.mono ?_
          rintro e w5 ⟨rfl, hb5⟩
          have hLx5 := Lib.hid (hLx.out.bel hb5)
          have hB5 := Lib.hid (bNext hB4.out hb5 (Nat.le_refl _))
          have bx5 := bx4.out.bel hb5
          have p0 := bx5.c 0 _ rfl
          have p1 := bx5.c 1 _ rfl
          have p2 := bx5.c 2 _ rfl
          replace bx5 := Lib.hid bx5
          have kx5 := kx4.out.bel hb5
          have o0 := kx5.c 0 _ rfl
          have o1 := kx5.c 1 _ rfl
          have o2 := kx5.c 2 _ rfl
          replace kx5 := Lib.hid kx5
          clear hb5 hB4 bx4 kx4
          clear hla hLx
          have hcx := rcheck_l b t a4 n4 c4 l w5 hLx5.out hw hb ht
          rw [HC.out] at hcx
          replace hcx := Lib.hid hcx
          go_wp2_with fail
          refine hcx.out.mono ?_
          rintro e w6 ⟨rfl, hb6⟩
          have hLx6 := Lib.hid (hLx5.out.bel hb6)
          have hB6 := Lib.hid (bNext hB5.out hb6 (Nat.le_refl _))
          have bx6 := bx5.out.bel hb6
          have p0 := bx6.c 0 _ rfl
          have p1 := bx6.c 1 _ rfl
          have p2 := bx6.c 2 _ rfl
          replace bx6 := Lib.hid bx6
          have kx6 := kx5.out.bel hb6
          have o0 := kx6.c 0 _ rfl
          have o1 := kx6.c 1 _ rfl
          have o2 := kx6.c 2 _ rfl
          replace kx6 := Lib.hid kx6
          clear hb6 hB5 bx5 kx5
          have hsm := same09_c b t b t a4 a n4 c4 n c l l w6 hLx6.out (H.out.bel hB6.out)
          rw [show decide (b = b ∧ t = t ∧ l = l) = true from decide_eq_true ⟨rfl, rfl, rfl⟩] at hsm
          replace hsm := Lib.hid hsm
          clear hcx hLx5
          go_wp2_with fail
          refine hsm.out.mono ?_
          rintro e w7 ⟨rfl, hb7⟩
          have hB7 := Lib.hid (bNext hB6.out hb7 (Nat.le_refl _))
          have bx7 := bx6.out.bel hb7
          have p0 := bx7.c 0 _ rfl
          have p1 := bx7.c 1 _ rfl
          have p2 := bx7.c 2 _ rfl
          replace bx7 := Lib.hid bx7
          have kx7 := kx6.out.bel hb7
          have o0 := kx7.c 0 _ rfl
          have o1 := kx7.c 1 _ rfl
          have o2 := kx7.c 2 _ rfl
          replace kx7 := Lib.hid kx7
          clear hb7 hB6 bx6 kx6
          have d1 : decide (b ≤ s) = true := decide_eq_true hs1
          have d2 : decide (s ≤ b + (l.length : Int)) = true := decide_eq_true hs2
          clear hsm hLx6
          by_cases hs4 : s < i
          · have d3 : decide (s < i) = true := decide_eq_true hs4
            go_wp2_with fail
            refine (wakes09_c _).mono ?_
            rintro e wz ⟨rfl, hbz⟩
            have hBz := Lib.hid (bNext hB7.out hbz (Nat.le_refl _))
            clear hbz
            go_wp2_with fail
            go_ret
            exact ⟨rfl, hBz.out⟩
          · have d3 : decide (s < i) = false := decide_eq_false hs4
            have d4 : decide (i ≤ b) = true := decide_eq_true (hs3.resolve_left hs4)
            have d4' : i ≤ b := hs3.resolve_left hs4
            go_wp2_with fail
            refine (wakes09_c _).mono ?_
            rintro e wz ⟨rfl, hbz⟩
            have hBz := Lib.hid (bNext hB7.out hbz (Nat.le_refl _))
            clear hbz
            go_wp2_with fail
            go_ret
            exact ⟨rfl, hBz.out⟩
        · rw [← hml.out] at hP
          have hag := hT.again
          rw [← hml.out] at hag
          replace hag := Lib.hid hag
          obtain ⟨⟨q1, q2, q3, _⟩, _⟩ := chk_iff.1 hci
          have i1 : 0 ≤ i := q1
          have i2 : i ≤ 1099511627776 := by omega
          have m16 : (m : Int) ≤ 16 := by have := hml.out; omega
          clear hc he q1 q2 q3 h16 hci
          rw [hP] at hp
          replace hp := Lib.hid hp
          clear hP
          go_wp2_with fail
          refine hp.out.mono ?_
          rintro e w4 ⟨a4, n4, c4, rfl, hL4, hb4⟩
          simp only at hL4
          have hb4a := (Below.refl w4.heap.size w4).alloc (Nat.le_refl _) (.cells #[.int .i64 b, .int .i64 t, .slice a4 n4 c4] 24)
          have kx4 := Lib.hid (blk_new w4 [.int .i64 b, .int .i64 t, .slice a4 n4 c4] 24)
          have hLx := Lib.hid (hL4.bel hb4a)
          have hbb := hb4.trans (hb4a.mono hb4.size)
          have bxm := bx3.out.bel hb4
          have p0 := bxm.c 0 _ rfl
          have p1 := bxm.c 1 _ rfl
          have p2 := bxm.c 2 _ rfl
          clear bxm
          have hB4 := Lib.hid (bNext hB3.out hbb (Nat.le_refl _))
          have bx4 := bx3.out.bel hbb
          have p0 := bx4.c 0 _ rfl
          have p1 := bx4.c 1 _ rfl
          have p2 := bx4.c 2 _ rfl
          replace bx4 := Lib.hid bx4
          clear hbb hB3 bx3
          clear hb4 hb4a hL4 hp
          have hla := Lib.hid (rlast_l b t a n c l _ (H.out.bel hB4.out) hw hb ht HC.out)
          go_wp2_with fail
          refine hla.out.mono ?_
          rintro e w5 ⟨rfl, hb5⟩
          have hLx5 := Lib.hid (hLx.out.bel hb5)
          have hB5 := Lib.hid (bNext hB4.out hb5 (Nat.le_refl _))
          have bx5 := bx4.out.bel hb5
          have p0 := bx5.c 0 _ rfl
          have p1 := bx5.c 1 _ rfl
          have p2 := bx5.c 2 _ rfl
          replace bx5 := Lib.hid bx5
          have kx5 := kx4.out.bel hb5
          have o0 := kx5.c 0 _ rfl
          have o1 := kx5.c 1 _ rfl
          have o2 := kx5.c 2 _ rfl
          replace kx5 := Lib.hid kx5
          clear hb5 hB4 bx4 kx4
          clear hla hLx
          have hcx := rcheck_l b t a4 n4 c4 X w5 hLx5.out (hT.wf hw hw2) hb ht
          rw [hT.ck] at hcx
          replace hcx := Lib.hid hcx
          have HT := Lib.hid hT
          have hwX := Lib.hid (hT.wf hw hw2)
          clear hT
          go_wp2_with fail
          refine hcx.out.mono ?_
          rintro e w6 ⟨rfl, hb6⟩
          have hLx6 := Lib.hid (hLx5.out.bel hb6)
          have hB6 := Lib.hid (bNext hB5.out hb6 (Nat.le_refl _))
          have bx6 := bx5.out.bel hb6
          have p0 := bx6.c 0 _ rfl
          have p1 := bx6.c 1 _ rfl
          have p2 := bx6.c 2 _ rfl
          replace bx6 := Lib.hid bx6
          have kx6 := kx5.out.bel hb6
          have o0 := kx6.c 0 _ rfl
          have o1 := kx6.c 1 _ rfl
          have o2 := kx6.c 2 _ rfl
          replace kx6 := Lib.hid kx6
          clear hb6 hB5 bx5 kx5
          clear hcx hLx5
          have hwx := hwX.out
          go_wp2_with fail
          go_loopw [112] (fun s wr => ∃ j : Nat, j ≤ m ∧ s = .int .i64 (j : Nat) ∧ Below w6.heap.size w6 wr) (fun s _ => m - (intOf s).toNat)
          case atStart => exact ⟨0, Nat.zero_le _, rfl, Below.refl _ _⟩
          case round =>
            obtain ⟨j, hj, rfl, hBj⟩ := hrel
            have bxr := bx6.out.bel hBj
            have kxr := kx6.out.bel hBj
            have p0 := bxr.c 0 _ rfl
            have p1 := bxr.c 1 _ rfl
            have p2 := bxr.c 2 _ rfl
            have o0 := kxr.c 0 _ rfl
            have o1 := kxr.c 1 _ rfl
            have o2 := kxr.c 2 _ rfl
            replace bxr := Lib.hid bxr
            replace kxr := Lib.hid kxr
            by_cases hlt : j < m
            · have hltI : (j : Int) < (m : Int) := by omega
              by_cases hsk : i + 1 + (j : Int) ≤ b
              · replace hBj := Lib.hid hBj
                go_wp2_with fail
                go_roundw
                case rel => exact ⟨j + 1, by omega, by go_num, hBj.out⟩
                case measure => simp [intOf]; omega
              · obtain ⟨y, hy⟩ : ∃ y, l2[j]? = some y := ⟨_, List.getElem?_eq_getElem (show j < l2.length by have := hml.out; omega)⟩
                obtain ⟨hin, hterm⟩ := HT.out.there j y hy (by omega)
                obtain ⟨yX, hyX⟩ : ∃ yX, X.getD (i + 1 + (j : Int) - b - 1).toNat en0 = yX := ⟨_, rfl⟩
                rw [hyX] at hterm
                have hent := rent_c b t (i + 1 + (j : Int)) a4 n4 c4 X wr (hLx6.out.bel hBj) hwx hb ht (by unfold I64; omega) HT.out.ck
                rw [show entR b t X (i + 1 + (j : Int)) = (yX, true) by unfold entR; rw [if_pos (by omega), hyX]] at hent
                obtain ⟨g2, og2, x2, rfl, hg2, hx2, hhas2⟩ := (H2.out.bel (bNext hB6.out hBj (Nat.le_refl _))).ent hy
                have z0 := hx2.1
                rw [hhas2.t, ← hterm] at z0
                replace hent := Lib.hid hent
                replace hBj := Lib.hid hBj
                replace hterm := Lib.hid hterm
                clear hy hyX hin hx2 hhas2
                go_wp2_with fail
                refine hent.out.mono ?_
                rintro e w8 ⟨a8, n8, c8, rfl, hd8, hb8⟩
                have ha8 := (Below.refl w8.heap.size w8).alloc (Nat.le_refl _) (.cells #[.int .i64 yX.term, .int .i8 yX.kind, .int .i64 yX.stamp, .int .u8 yX.set, .slice a8 n8 c8] 39)
                have hbb := hb8.trans (ha8.mono hb8.size)
                have e0 := (blk_new w8 [.int .i64 yX.term, .int .i8 yX.kind, .int .i64 yX.stamp, .int .u8 yX.set, .slice a8 n8 c8] 39).c 0 _ rfl
                have z0' := cellB hbb z0
                have hBe := Lib.hid (bNext hBj.out hbb (Nat.le_refl _))
                clear hd8 hb8 ha8 hbb hent z0
                go_upto_region 18 with fail
                obtain ⟨nn, hnn⟩ : ∃ nn, w8.heap.size = nn := ⟨_, rfl⟩
                rw [hnn] at e0
                simp only [hnn]
                generalize (w8.alloc (.cells #[.int .i64 yX.term, .int .i8 yX.kind, .int .i64 yX.stamp, .int .u8 yX.set, .slice a8 n8 c8] 39)) = we at e0 z0' hBe ⊢
                clear hnn
                refine wp_region_noPanic ?_
                refine Stg.wp_region_L [] (Bs.SB we) (by kernel_rfl) (fun _ => (Below.refl _ _).drew) (fun hHeld => ?_)
                refine Stg.wpAnyL_start (n' := 12) (l' := #[false, false, false, false, false, false, false, false, false, false, false, false]) (by kernel_rfl) (by kernel_rfl) ?_
                refine Stg.wpAnyL_free (i := 0) (v := ?_) 0 rfl (by kernel_rfl) (by kernel_rfl) (by kernel_rfl) (by kernel_rfl) (by kernel_rfl) (fun _ _ _ h => h) (Or.inl ⟨by kernel_rfl, ?_⟩) (by assumption) ?_
                rotate_left
                · intro u _
                  try simp only [List.getElem_toArray, List.getElem_cons_succ, List.getElem_cons_zero]
                  go_simp
                  try with_reducible rfl
                try simp only [Act.put, List.setIfInBounds_toArray, List.set_cons_zero, List.set_cons_succ]
                refine Stg.wpAnyL_free (i := 1) (v := ?_) 0 rfl (by kernel_rfl) (by kernel_rfl) (by kernel_rfl) (by kernel_rfl) (by kernel_rfl) (fun _ _ _ h => h) (Or.inl ⟨by kernel_rfl, ?_⟩) (by assumption) ?_
                rotate_left
                · intro u _
                  try simp only [List.getElem_toArray, List.getElem_cons_succ, List.getElem_cons_zero]
                  go_simp
                  try with_reducible rfl
                try simp only [Act.put, List.setIfInBounds_toArray, List.set_cons_zero, List.set_cons_succ]
                refine Stg.wpAnyL_free (i := 2) (v := ?_) 0 rfl (by kernel_rfl) (by kernel_rfl) (by kernel_rfl) (by kernel_rfl) (by kernel_rfl) (fun _ _ _ h => h) (Or.inl ⟨by kernel_rfl, ?_⟩) (by assumption) ?_
                rotate_left
                · intro u _
                  try simp only [List.getElem_toArray, List.getElem_cons_succ, List.getElem_cons_zero]
                  go_simp
                  try with_reducible rfl
                try simp only [Act.put, List.setIfInBounds_toArray, List.set_cons_zero, List.set_cons_succ]
                refine Stg.wpAnyL_start (n' := 9) (l' := #[true, true, true, false, false, false, false, false, false, false, false, false]) (by kernel_rfl) (by kernel_rfl) ?_
                refine Stg.wpAnyL_free (i := 3) (v := ?_) 0 rfl (by kernel_rfl) (by kernel_rfl) (by kernel_rfl) (by kernel_rfl) (by kernel_rfl) (fun _ _ _ h => h) (Or.inl ⟨by kernel_rfl, ?_⟩) (by assumption) ?_
                rotate_left
                · intro u _
                  try simp only [List.getElem_toArray, List.getElem_cons_succ, List.getElem_cons_zero]
                  go_simp
                  try with_reducible rfl
                try simp only [Act.put, List.setIfInBounds_toArray, List.set_cons_zero, List.set_cons_succ]
                refine Stg.wpAnyL_take (i := 4) (v := ?_) [10, 11] 0 rfl (by kernel_rfl) (by kernel_rfl) (by kernel_rfl) (by kernel_rfl) (by kernel_rfl) (fun _ _ _ h => h) (Or.inl ⟨by kernel_rfl, ?_⟩) (by assumption) ?_
                rotate_left
                · intro u hSu
                  skip
                  have sB := hSu rfl
                  have y0 := cellB sB e0
                  have y1 := cellB sB z0'
                  try simp only [List.getElem_toArray, List.getElem_cons_succ, List.getElem_cons_zero]
                  go_simp
                  try with_reducible rfl
                try simp only [Act.put, List.setIfInBounds_toArray, List.set_cons_zero, List.set_cons_succ]
                refine Stg.wpAnyL_free (i := 5) (v := ?_) 0 rfl (by kernel_rfl) (by kernel_rfl) (by kernel_rfl) (by kernel_rfl) (by kernel_rfl) (fun _ _ _ h => h) (Or.inl ⟨by kernel_rfl, ?_⟩) (by assumption) ?_
                rotate_left
                · intro u _
                  try simp only [List.getElem_toArray, List.getElem_cons_succ, List.getElem_cons_zero]
                  go_simp
                  try with_reducible rfl
                try simp only [Act.put, List.setIfInBounds_toArray, List.set_cons_zero, List.set_cons_succ]
                refine Stg.wpAnyL_start (n' := 6) (l' := #[true, true, true, true, true, true, false, false, false, false, false, false]) (by kernel_rfl) (by kernel_rfl) ?_
                refine Stg.wpAnyL_free (i := 6) (v := ?_) 0 rfl (by kernel_rfl) (by kernel_rfl) (by kernel_rfl) (by kernel_rfl) (by kernel_rfl) (fun _ _ _ h => h) (Or.inl ⟨by kernel_rfl, ?_⟩) (by assumption) ?_
                rotate_left
                · intro u _
                  try simp only [List.getElem_toArray, List.getElem_cons_succ, List.getElem_cons_zero]
                  go_simp
                  try with_reducible rfl
                try simp only [Act.put, List.setIfInBounds_toArray, List.set_cons_zero, List.set_cons_succ]
                refine Stg.wpAnyL_free (i := 7) (v := ?_) 0 rfl (by kernel_rfl) (by kernel_rfl) (by kernel_rfl) (by kernel_rfl) (by kernel_rfl) (fun _ _ _ h => h) (Or.inl ⟨by kernel_rfl, ?_⟩) (by assumption) ?_
                rotate_left
                · intro u _
                  try simp only [List.getElem_toArray, List.getElem_cons_succ, List.getElem_cons_zero]
                  go_simp
                  try with_reducible rfl
                try simp only [Act.put, List.setIfInBounds_toArray, List.set_cons_zero, List.set_cons_succ]
                refine Stg.wpAnyL_free (i := 8) (v := ?_) 0 rfl (by kernel_rfl) (by kernel_rfl) (by kernel_rfl) (by kernel_rfl) (by kernel_rfl) (fun _ _ _ h => h) (Or.inl ⟨by kernel_rfl, ?_⟩) (by assumption) ?_
                rotate_left
                · intro u _
                  try simp only [List.getElem_toArray, List.getElem_cons_succ, List.getElem_cons_zero]
                  go_simp
                  try with_reducible rfl
                try simp only [Act.put, List.setIfInBounds_toArray, List.set_cons_zero, List.set_cons_succ]
                refine Stg.wpAnyL_start (n' := 3) (l' := #[true, true, true, true, true, true, true, true, true, false, false, false]) (by kernel_rfl) (by kernel_rfl) ?_
                refine Stg.wpAnyL_take (i := 9) (v := ?_) [10, 11] 0 rfl (by kernel_rfl) (by kernel_rfl) (by kernel_rfl) (by kernel_rfl) (by kernel_rfl) (fun _ _ _ h => h) (Or.inl ⟨by kernel_rfl, ?_⟩) (by assumption) ?_
                rotate_left
                · intro u hSu
                  skip
                  have sB := hSu rfl
                  have y0 := cellB sB e0
                  have y1 := cellB sB z0'
                  try simp only [List.getElem_toArray, List.getElem_cons_succ, List.getElem_cons_zero]
                  go_simp
                  try with_reducible rfl
                try simp only [Act.put, List.setIfInBounds_toArray, List.set_cons_zero, List.set_cons_succ]
                refine Stg.wpAnyL_free (i := 10) (v := ?_) 0 rfl (by kernel_rfl) (by kernel_rfl) (by kernel_rfl) (by kernel_rfl) (by kernel_rfl) (fun _ _ _ h => h) (Or.inl ⟨by kernel_rfl, ?_⟩) (by assumption) ?_
                rotate_left
                · intro u _
                  try simp only [List.getElem_toArray, List.getElem_cons_succ, List.getElem_cons_zero]
                  go_simp
                  try with_reducible rfl
                try simp only [Act.put, List.setIfInBounds_toArray, List.set_cons_zero, List.set_cons_succ]
                refine Stg.wpAnyL_free (i := 11) (v := ?_) 0 rfl (by kernel_rfl) (by kernel_rfl) (by kernel_rfl) (by kernel_rfl) (by kernel_rfl) (fun _ _ _ h => h) (Or.inl ⟨by kernel_rfl, ?_⟩) (by assumption) ?_
                rotate_left
                · intro u _
                  try simp only [List.getElem_toArray, List.getElem_cons_succ, List.getElem_cons_zero]
                  go_simp
                  try with_reducible rfl
                try simp only [Act.put, List.setIfInBounds_toArray, List.set_cons_zero, List.set_cons_succ]
                refine Stg.wpAnyL_done (by kernel_rfl) ?_ _
                try simp only [List.getElem_toArray, List.getElem_cons_succ, List.getElem_cons_zero]
                try simp only [Act.put, List.setIfInBounds_toArray, List.set_cons_zero, List.set_cons_succ]
                refine NoPanic.normal ?_
                have hBf := Lib.hid (bNext hBe.out (Below.refl we.heap.size we).drew (Nat.le_refl _))
                go_wp2_with fail
                go_roundw
                case rel => exact ⟨j + 1, by omega, by go_num, hBf.out⟩
                case measure => simp [intOf]; omega
            · obtain rfl : j = m := by omega
              have hB7 := Lib.hid (bNext hB6.out hBj (Nat.le_refl _))
              have hLx7 := Lib.hid (hLx6.out.bel hBj)
              obtain ⟨w7, rfl⟩ : ∃ wo : World, wo = wr := ⟨_, rfl⟩
              clear hBj
              go_upto_block 2 with fail
              go_cut [18] from 147 to 174 (fun s18 wx => (∃ p, s18 = .int .i64 p) ∧ Below w7.heap.size w7 wx)
              case first =>
                go_wp2_with fail
                go_loopw [18] (fun s wr => ∃ p : Int, s = .int .i64 p ∧ b + 1 ≤ p ∧ p ≤ b + (l.length : Int) + 1 ∧ Below w7.heap.size w7 wr) (fun s _ => (b + (l.length : Int) + 1 - intOf s).toNat)
                case atStart => exact ⟨_, rfl, by omega, by omega, Below.refl _ _⟩
                case round =>
                  obtain ⟨p, rfl, hp1, hp2, hBp⟩ := hrel
                  obtain ⟨w8, rfl⟩ : ∃ wo : World, wo = wr := ⟨_, rfl⟩
                  have bx8 := bxr.out.bel hBp
                  have kx8 := kxr.out.bel hBp
                  have p0 := bx8.c 0 _ rfl
                  have p1 := bx8.c 1 _ rfl
                  have p2 := bx8.c 2 _ rfl
                  replace bx8 := Lib.hid bx8
                  replace kx8 := Lib.hid kx8
                  by_cases hpe : p ≤ b + (l.length : Int)
                  · obtain ⟨yl, hyl⟩ : ∃ yl, l.getD (p - b - 1).toNat en0 = yl := ⟨_, rfl⟩
                    have he1 := rent_c b t p a n c l w8 (H.out.bel (bNext hB7.out hBp (Nat.le_refl _))) hw hb ht (by unfold I64; omega) HC.out
                    rw [show entR b t l p = (yl, true) by unfold entR; rw [if_pos (by omega), hyl]] at he1
                    replace he1 := Lib.hid he1
                    replace hBp := Lib.hid hBp
                    go_wp2_with fail
                    refine he1.out.mono ?_
                    rintro e w9 ⟨a9, n9, c9, rfl, hd9, hb9⟩
                    have ha9 := (Below.refl w9.heap.size w9).alloc (Nat.le_refl _) (.cells #[.int .i64 yl.term, .int .i8 yl.kind, .int .i64 yl.stamp, .int .u8 yl.set, .slice a9 n9 c9] 39)
                    have hbb := hb9.trans (ha9.mono hb9.size)
                    have k9 := Lib.hid (blk_new w9 [.int .i64 yl.term, .int .i8 yl.kind, .int .i64 yl.stamp, .int .u8 yl.set, .slice a9 n9 c9] 39)
                    have hd9' := Lib.hid (hd9.bel ha9)
                    have hB9 := Lib.hid (bNext hBp.out hbb (Nat.le_refl _))
                    have kx9 := kx8.out.bel hbb
                    have o0 := kx9.c 0 _ rfl
                    have o1 := kx9.c 1 _ rfl
                    have o2 := kx9.c 2 _ rfl
                    have hLy := hLx7.out.bel hB9.out
                    by_cases hpx : p ≤ b + (X.length : Int)
                    · obtain ⟨yx, hyx⟩ : ∃ yx, X.getD (p - b - 1).toNat en0 = yx := ⟨_, rfl⟩
                      have he2 := rent_c b t p a4 n4 c4 X _ hLy hwx hb ht (by unfold I64; omega) HT.out.ck
                      rw [show entR b t X p = (yx, true) by unfold entR; rw [if_pos (by omega), hyx]] at he2
                      replace he2 := Lib.hid he2
                      have hdiff := Lib.hid (show p ≤ i → yl = yx by
                        intro hpi
                        have := (HT.out.ahead p (by omega) hpe hpi).2
                        rw [hyl, hyx] at this
                        exact this)
                      clear hd9 hb9 ha9 hbb kx9 he1 hyx hLy
                      go_wp2_with fail
                      refine he2.out.mono ?_
                      rintro e w10 ⟨a10, n10, c10, rfl, hd10, hb10⟩
                      have ha10 := (Below.refl w10.heap.size w10).alloc (Nat.le_refl _) (.cells #[.int .i64 yx.term, .int .i8 yx.kind, .int .i64 yx.stamp, .int .u8 yx.set, .slice a10 n10 c10] 39)
                      have hbb := hb10.trans (ha10.mono hb10.size)
                      have k10 := k9.out.bel hbb
                      have u0 := k10.c 0 _ rfl
                      have u1 := k10.c 1 _ rfl
                      have u2 := k10.c 2 _ rfl
                      have u3 := k10.c 3 _ rfl
                      have u4 := k10.c 4 _ rfl
                      have hB10 := Lib.hid (bNext hB9.out hbb (Nat.le_refl _))
                      have hse := sameEntry_c yl yx a9 a10 n9 c9 n10 c10 _ (hd9'.out.bel hbb) (hd10.bel ha10)
                      clear hd10 hb10 ha10 hbb k10 he2
                      by_cases heq : yl = yx
                      · rw [show decide (yl = yx) = true from decide_eq_true heq] at hse
                        replace hse := Lib.hid hse
                        clear heq
                        go_wp2_with fail
                        refine hse.out.mono ?_
                        rintro e w11 ⟨rfl, hb11⟩
                        have hB11 := Lib.hid (bNext hB10.out hb11 (Nat.le_refl _))
                        clear hb11 hse
                        go_wp2_with fail
                        go_roundw
                        case rel => exact ⟨p + 1, rfl, by omega, by omega, hB11.out⟩
                        case measure => simp [intOf]; omega
                      · rw [show decide (yl = yx) = false from decide_eq_false heq] at hse
                        replace hse := Lib.hid hse
                        have hpi : ¬ p ≤ i := fun q => heq (hdiff.out q)
                        clear heq
                        go_wp2_with fail
                        refine hse.out.mono ?_
                        rintro e w11 ⟨rfl, hb11⟩
                        have hB11 := Lib.hid (bNext hB10.out hb11 (Nat.le_refl _))
                        clear hb11 hse
                        go_wp2_with fail
                        go_meet
                        exact ⟨⟨_, rfl⟩, hB11.out⟩
                    · have he2 := rent_c b t p a4 n4 c4 X _ hLy hwx hb ht (by unfold I64; omega) HT.out.ck
                      rw [show entR b t X p = (en0, false) by unfold entR; rw [if_neg (by omega)]] at he2
                      replace he2 := Lib.hid he2
                      have hpi : ¬ p ≤ i := fun q => hpx (HT.out.ahead p (by omega) hpe q).1
                      clear hd9 hb9 ha9 hbb kx9 he1 hLy
                      go_wp2_with fail
                      refine he2.out.mono ?_
                      rintro e w10 ⟨a10, n10, c10, rfl, hd10, hb10⟩
                      have hB10 := Lib.hid ((bNext hB9.out hb10 (Nat.le_refl _)).alloc (by have := hB9.out.size; have := hb10.size; omega) (.cells #[.int .i64 en0.term, .int .i8 en0.kind, .int .i64 en0.stamp, .int .u8 en0.set, .slice a10 n10 c10] 39))
                      clear hd10 hb10 he2
                      go_wp2_with fail
                      go_meet
                      exact ⟨⟨_, rfl⟩, hB10.out⟩
                  · replace hBp := Lib.hid hBp
                    go_wp2_with fail
                    go_meet
                    exact ⟨⟨_, rfl⟩, hBp.out⟩
              case rest =>
                obtain ⟨⟨p, rfl⟩, hBp⟩ := hcut
                have kx8 := kxr.out.bel hBp
                have o0 := kx8.c 0 _ rfl
                have o1 := kx8.c 1 _ rfl
                have o2 := kx8.c 2 _ rfl
                have hB8 := Lib.hid (bNext hB7.out hBp (Nat.le_refl _))
                have hLx8 := Lib.hid (hLx7.out.bel hBp)
                have hpp := put_c b t i τ a4 a2 n4 c4 j c2 X l2 _ hLx8.out (H2.out.bel hB8.out) hwx hw2 hb ht hi hτ
                rw [hag.out] at hpp
                replace hpp := Lib.hid hpp
                replace kx8 := Lib.hid kx8
                clear hBp
                go_wp2_with fail
                refine hpp.out.mono ?_
                rintro e w9 ⟨a9, n9, c9, rfl, hL9, hb9⟩
                simp only at hL9
                have ha9 := (Below.refl w9.heap.size w9).alloc (Nat.le_refl _) (.cells #[.int .i64 b, .int .i64 t, .slice a9 n9 c9] 24)
                have hbb := hb9.trans (ha9.mono hb9.size)
                have kx9 := kx8.out.bel hbb
                have o0 := kx9.c 0 _ rfl
                have o1 := kx9.c 1 _ rfl
                have o2 := kx9.c 2 _ rfl
                have hB9 := Lib.hid (bNext hB8.out hbb (Nat.le_refl _))
                have hsm := same09_c b t b t a4 a9 n4 c4 n9 c9 X X _ (hLx8.out.bel hbb) (hL9.bel ha9)
                rw [show decide (b = b ∧ t = t ∧ X = X) = true from decide_eq_true ⟨rfl, rfl, rfl⟩] at hsm
                replace hsm := Lib.hid hsm
                clear hL9 hb9 ha9 hbb kx9 hpp
                go_wp2_with fail
                refine hsm.out.mono ?_
                rintro e w10 ⟨rfl, hb10⟩
                have hB10 := Lib.hid (bNext hB9.out hb10 (Nat.le_refl _))
                clear hb10 hsm
                go_wp2_with fail
                refine (wakes09_c _).mono ?_
                rintro e wz ⟨rfl, hbz⟩
                have hBz := Lib.hid (bNext hB10.out hbz (Nat.le_refl _))
                clear hbz
                go_wp2_with fail
                go_ret
                exact ⟨rfl, hBz.out⟩

theorem rowsMatch_walk (w : World) (v0 : Value) (a0 : XT_Rows) (a1 a2 : Int) (v3 : Value) (a3 : XT_LEntry) (w0 : Is_Rows w v0 a0) (w1 : (Lit.int .i64 a1).wf = true) (w2 : (Lit.int .i64 a2).wf = true) (w3 : Is_LEntry w v3 a3) :
    Calls Try.prog 4 #[v0, .int .i64 a1, .int .i64 a2, v3] w fun e w' => e = .returned (.bool true) ∧ Below w.heap.size w w' := by
  obtain ⟨rfl, hb, ht, hw, hL⟩ := w0
  obtain ⟨rfl, hw3, hL3⟩ := w3
  exact rowsMatch_h a0.b a0.t a0.a a0.n a0.c a0.l a1 a2 a3.a a3.n a3.c a3.l w hL hw hb ht (ct_i64 w1) (ct_i64 w2) hL3 hw3
end Go.Proofs.Ytbiodlhiilmgkaa
