/- Rows by what they say: the reference's From. -/
import Derived.Test.YtbiodlhiilmgkaaCt9
namespace Go.Proofs.Ytbiodlhiilmgkaa
open Go.ChangeShapes Go.WideShapes Go.ChangeAt Go.RowKit
set_option linter.unusedVariables false
set_option linter.unusedSimpArgs false
open BigFrame Bs Rw Ct

attribute [local go_sem ↓] sliced_cut
attribute [local go_sem] mx_fold mn_fold

set_option maxRecDepth 100000 in
set_option maxHeartbeats 4000000 in
theorem rfrom_c (b t i most : Int) (a : Option Addr) (n c : Nat) (l : List En) (w : World) (h : LAt w a n c l) (hw : Wfl l) (hb : I64 b) (ht : I64 t) (hi : I64 i) :
    Calls Try.prog 22 #[.agg #[.int .i64 b, .int .i64 t, .slice a n c], .int .i64 i, .int .i64 most] w (FromP w (fromR b t l i most)) := by
  have hl := Lib.hid h.len
  have hB0 : Below w.heap.size w (w.alloc (.cells #[.int .i64 b, .int .i64 t, .slice a n c] 24)) := (Below.refl _ _).alloc (Nat.le_refl _) _
  have bx := blk_new w [.int .i64 b, .int .i64 t, .slice a n c] 24
  have hck := Lib.hid (rcheck_l b t a n c l _ (h.bel hB0) hw hb ht)
  cases hc : chk b t l with
  | false =>
    have hm := Lib.hid (show fromR b t l i most = ([], 90) by unfold fromR; rw [hc]; rfl)
    rw [hc] at hck
    replace bx := Lib.hid bx
    replace hB0 := Lib.hid hB0
    clear hc h
    go_enter Try.func22, Try.ntmps22
    go_wp2_with fail
    refine hck.out.mono ?_
    rintro e w2 ⟨rfl, hb2⟩
    have hB2 := Lib.hid (bNext hB0.out hb2 (Nat.le_refl _))
    clear hb2
    go_wp2_with fail
    go_ret2
    rw [hm.out]
    exact ⟨_, _, _, rfl, LAt.nil _ _ _ (by omega), hB2.out⟩
  | true =>
    have hla := Lib.hid (fun u (hu : Below w.heap.size w u) => rlast_l b t a n c l u (h.bel hu) hw hb ht hc)
    rw [hc] at hck
    have hsm := Lib.hid (chk_sml hc)
    obtain ⟨g1, _⟩ := chk_iff.1 hc
    have g2 : 0 ≤ b := g1.1
    have g3 : (l.length : Int) ≤ 4096 := by omega
    have g4 : b ≤ 1099511627776 := by omega
    have hi1 := hi.1
    have hi2 := hi.2
    have H := Lib.hid h
    have HC := Lib.hid hc
    replace bx := Lib.hid bx
    replace hB0 := Lib.hid hB0
    unfold I64 at hi
    clear g1 h hc
    by_cases h1 : i ≤ b
    · have hm := Lib.hid (show fromR b t l i most = ([], 4) by unfold fromR; rw [HC.out, if_pos rfl, if_neg (by omega)])
      go_enter Try.func22, Try.ntmps22
      go_wp2_with fail
      refine hck.out.mono ?_
      rintro e w1 ⟨rfl, hb1⟩
      have hB1 := Lib.hid (bNext hB0.out hb1 (Nat.le_refl _))
      have bx1 := bx.out.bel hb1
      have p0 := bx1.c 0 _ rfl
      have p1 := bx1.c 1 _ rfl
      have p2 := bx1.c 2 _ rfl
      replace bx1 := Lib.hid bx1
      clear hb1
      go_wp2_with fail
      refine (hla.out _ hB1.out).mono ?_
      rintro e w2 ⟨rfl, hb2⟩
      have hB2 := Lib.hid (bNext hB1.out hb2 (Nat.le_refl _))
      have bx2 := bx1.out.bel hb2
      have q0 := bx2.c 0 _ rfl
      have q1 := bx2.c 1 _ rfl
      have q2 := bx2.c 2 _ rfl
      clear bx2 hb2 bx1 hB1 p0 p1 p2 hla hck bx hB0
      go_wp2_with fail
      go_ret2
      rw [hm.out]
      exact ⟨_, _, _, rfl, LAt.nil _ _ _ (by omega), hB2.out⟩
    by_cases h2 : b + l.length + 1 < i
    · have hm := Lib.hid (show fromR b t l i most = ([], 4) by unfold fromR; rw [HC.out, if_pos rfl, if_neg (by omega)])
      go_enter Try.func22, Try.ntmps22
      go_wp2_with fail
      refine hck.out.mono ?_
      rintro e w1 ⟨rfl, hb1⟩
      have hB1 := Lib.hid (bNext hB0.out hb1 (Nat.le_refl _))
      have bx1 := bx.out.bel hb1
      have p0 := bx1.c 0 _ rfl
      have p1 := bx1.c 1 _ rfl
      have p2 := bx1.c 2 _ rfl
      replace bx1 := Lib.hid bx1
      clear hb1
      go_wp2_with fail
      refine (hla.out _ hB1.out).mono ?_
      rintro e w2 ⟨rfl, hb2⟩
      have hB2 := Lib.hid (bNext hB1.out hb2 (Nat.le_refl _))
      have bx2 := bx1.out.bel hb2
      have q0 := bx2.c 0 _ rfl
      have q1 := bx2.c 1 _ rfl
      have q2 := bx2.c 2 _ rfl
      clear bx2 hb2 bx1 hB1 p0 p1 p2 hla hck bx hB0
      go_wp2_with fail
      go_ret2
      rw [hm.out]
      exact ⟨_, _, _, rfl, LAt.nil _ _ _ (by omega), hB2.out⟩
    · obtain ⟨k, hk⟩ : ∃ k : Nat, i - b - 1 = (k : Int) := ⟨(i - b - 1).toNat, by omega⟩
      obtain ⟨m, hmm⟩ : ∃ m, mostN most = m := ⟨_, rfl⟩
      have hln := hl.out
      have hkn : k ≤ n := by omega
      have em : mn 16 (mx most 0) = (m : Int) := by rw [mn_eq, mx_eq, ← hmm]; unfold mostN; omega
      have hkI : (k : Int) ≤ (n : Int) := by omega
      have hm16 : (m : Int) ≤ 16 := by rw [← hmm]; unfold mostN; omega
      have hk5 : (k : Int) ≤ 4096 := by omega
      have hd1 : decide (i ≤ b) = false := by simpa using h1
      have hd2 : decide (b + (l.length : Int) + 1 < i) = false := by simpa using h2
      have hm0 := Lib.hid (show fromR b t l i most = ((l.drop k).take m, 0) by
        unfold fromR
        rw [HC.out, if_pos rfl, if_pos (by omega), hk, hmm, Int.toNat_natCast])
      by_cases hmq : m ≤ n - k
      · have hx1 : ¬ n - k < m := by omega
        have hx2 : ¬ (((n - k : Nat)) : Int) < (m : Int) := by omega
        have hx3 : ¬ ((n : Int) - (k : Int)) < (m : Int) := by omega
        have hNk : m ≤ c - k := by have := H.out.le; omega
        have hNc : (m : Int) ≤ ((c - k : Nat) : Int) := by omega
        have hcpL := Lib.hid (fun u (hu : Below w.heap.size w u) => (show LAt u (cutA (cutA a k c 5) 0 (c - k) 5) m (c - k) ((l.drop k).take m) by
          have q := (((H.out.bel hu).cut_all hkn).cut (Nat.zero_le m) hmq hNk (Nat.le_refl (c - k)))
          simpa using q))
        clear hln hmm h1 h2
        go_enter Try.func22, Try.ntmps22
        go_wp2_with fail
        refine hck.out.mono ?_
        rintro e w1 ⟨rfl, hb1⟩
        have hB1 := Lib.hid (bNext hB0.out hb1 (Nat.le_refl _))
        have bx1 := bx.out.bel hb1
        have p0 := bx1.c 0 _ rfl
        have p1 := bx1.c 1 _ rfl
        have p2 := bx1.c 2 _ rfl
        replace bx1 := Lib.hid bx1
        clear hb1
        go_wp2_with fail
        refine (hla.out _ hB1.out).mono ?_
        rintro e w2 ⟨rfl, hb2⟩
        have hB2 := Lib.hid (bNext hB1.out hb2 (Nat.le_refl _))
        have bx2 := bx1.out.bel hb2
        have q0 := bx2.c 0 _ rfl
        have q1 := bx2.c 1 _ rfl
        have q2 := bx2.c 2 _ rfl
        clear bx2 hb2 bx1 hB1 p0 p1 p2 hla hck bx hB0
        have hL4 := hcpL.out _ hB2.out
        have hcp := Lib.hid (rcopied_c _ _ _ _ w2 hL4 ((hsm.out.drop k).take m))
        clear hL4
        go_wp2_with fail
        refine hcp.out.mono ?_
        rintro e w3 ⟨a3, c3, rfl, hL3, hF3, hb3⟩
        have hB3 := Lib.hid (bNext hB2.out hb3 (Nat.le_refl _))
        replace hL3 := Lib.hid hL3
        clear hF3 hb3
        go_wp2_with fail
        go_ret2
        rw [hm0.out]
        exact ⟨_, _, _, rfl, hL3.out, hB3.out⟩
      · have hx1 : n - k < m := by omega
        have hx2 : (((n - k : Nat)) : Int) < (m : Int) := by omega
        have hx3 : ((n : Int) - (k : Int)) < (m : Int) := by omega
        have hNk : n - k ≤ c - k := by have := H.out.le; omega
        have hNc : ((n - k : Nat) : Int) ≤ ((c - k : Nat) : Int) := by omega
        have htk := Lib.hid (show (l.drop k).take m = l.drop k from List.take_of_length_le (by simp; omega))
        have hcpL := Lib.hid (fun u (hu : Below w.heap.size w u) => (show LAt u (cutA (cutA a k c 5) 0 (c - k) 5) (n - k) (c - k) (l.drop k) by
          have q := (((H.out.bel hu).cut_all hkn).cut (Nat.zero_le (n - k)) (Nat.le_refl (n - k)) hNk (Nat.le_refl (c - k)))
          have e : (l.drop k).take (n - k) = l.drop k := List.take_of_length_le (by simp; omega)
          rw [e] at q
          simpa using q))
        clear hln hmm h1 h2
        go_enter Try.func22, Try.ntmps22
        go_wp2_with fail
        refine hck.out.mono ?_
        rintro e w1 ⟨rfl, hb1⟩
        have hB1 := Lib.hid (bNext hB0.out hb1 (Nat.le_refl _))
        have bx1 := bx.out.bel hb1
        have p0 := bx1.c 0 _ rfl
        have p1 := bx1.c 1 _ rfl
        have p2 := bx1.c 2 _ rfl
        replace bx1 := Lib.hid bx1
        clear hb1
        go_wp2_with fail
        refine (hla.out _ hB1.out).mono ?_
        rintro e w2 ⟨rfl, hb2⟩
        have hB2 := Lib.hid (bNext hB1.out hb2 (Nat.le_refl _))
        have bx2 := bx1.out.bel hb2
        have q0 := bx2.c 0 _ rfl
        have q1 := bx2.c 1 _ rfl
        have q2 := bx2.c 2 _ rfl
        clear bx2 hb2 bx1 hB1 p0 p1 p2 hla hck bx hB0
        have hL4 := hcpL.out _ hB2.out
        have hcp := Lib.hid (rcopied_c _ _ _ _ w2 hL4 (hsm.out.drop k))
        clear hL4
        go_wp2_with fail
        refine hcp.out.mono ?_
        rintro e w3 ⟨a3, c3, rfl, hL3, hF3, hb3⟩
        have hB3 := Lib.hid (bNext hB2.out hb3 (Nat.le_refl _))
        replace hL3 := Lib.hid hL3
        clear hF3 hb3
        go_wp2_with fail
        go_ret2
        rw [hm0.out, htk.out]
        exact ⟨_, _, _, rfl, hL3.out, hB3.out⟩
end Go.Proofs.Ytbiodlhiilmgkaa
