/- Rows by what they say: From, Entry. -/
import Derived.Test.YtbiodlhiilmgkaaCt8
namespace Go.Proofs.Ytbiodlhiilmgkaa
open Go.ChangeShapes Go.WideShapes Go.ChangeAt Go.RowKit
set_option linter.unusedVariables false
set_option linter.unusedSimpArgs false
open BigFrame Bs Rw Ct

namespace Ct
@[irreducible] def mx (a b : Int) : Int := max a b
@[irreducible] def mn (a b : Int) : Int := min a b
theorem mx_eq (a b : Int) : mx a b = max a b := by unfold mx; rfl
theorem mn_eq (a b : Int) : mn a b = min a b := by unfold mn; rfl
theorem mx_fold (a b : Int) : (if a < b then b else a) = mx a b := by rw [mx_eq]; omega
theorem mn_fold (a b : Int) : (if a < b then a else b) = mn a b := by rw [mn_eq]; omega
/-- How many at most. -/
def mostN (most : Int) : Nat := (min (max most 0) 16).toNat
def fromR (b t : Int) (l : List En) (i most : Int) : List En × Int := if chk b t l then (if b < i ∧ i ≤ b + l.length + 1 then ((l.drop (i - b - 1).toNat).take (mostN most), 0) else ([], 4)) else ([], 90)
def FromP (w : World) (r : List En × Int) (e : Ending) (w' : World) : Prop :=
  ∃ a n c, e = .returned (.tuple #[.slice a n c, .int .i64 r.2]) ∧ LAt w' a n c r.1 ∧ Below w.heap.size w w'
theorem take_min_drop (l : List En) (k m : Nat) : (l.take (min (k + m) l.length)).drop k = (l.drop k).take m := by
  rw [List.drop_take]
  have : (l.drop k).length = l.length - k := by simp
  by_cases h : m ≤ l.length - k
  · rw [show min (k + m) l.length - k = m by omega]
  · rw [List.take_of_length_le (by rw [this]; omega), List.take_of_length_le (by rw [this]; omega)]
/-- An entry of rows, by its place. -/
def entR (b t : Int) (l : List En) (i : Int) : En × Bool := if b < i ∧ i ≤ b + l.length then (l.getD (i - b - 1).toNat en0, true) else (en0, false)
def EntP (w : World) (r : En × Bool) (e : Ending) (w' : World) : Prop :=
  ∃ a n c, e = .returned (.tuple #[.agg #[.int .i64 r.1.term, .int .i8 r.1.kind, .int .i64 r.1.stamp, .int .u8 r.1.set, .slice a n c], .bool r.2]) ∧ Byt w' a n c r.1.d ∧ Below w.heap.size w w'
end Ct
attribute [local go_sem ↓] sliced_cut
attribute [local go_sem] mx_fold mn_fold

set_option maxRecDepth 100000 in
set_option maxHeartbeats 4000000 in
theorem from_c (b t i most : Int) (a : Option Addr) (n c : Nat) (l : List En) (w : World) (h : LAt w a n c l) (hw : Wfl l) (hb : I64 b) (ht : I64 t) (hi : I64 i) :
    Calls Try.prog 21 #[.agg #[.int .i64 b, .int .i64 t, .slice a n c], .int .i64 i, .int .i64 most] w (FromP w (fromR b t l i most)) := by
  have hl := Lib.hid h.len
  have hB0 : Below w.heap.size w (w.alloc (.cells #[.int .i64 b, .int .i64 t, .slice a n c] 24)) := (Below.refl _ _).alloc (Nat.le_refl _) _
  have bx := blk_new w [.int .i64 b, .int .i64 t, .slice a n c] 24
  have hck := Lib.hid (fun u (hu : Below w.heap.size w u) => check_l b t a n c l u (h.bel hu) hw hb ht)
  cases hc : chk b t l with
  | false =>
    have hla := Lib.hid (last_any b t a n c l w.heap.size _ (h.bel hB0) (bx.c 0 _ rfl) (bx.c 1 _ rfl) (bx.c 2 _ rfl))
    have hm := Lib.hid (show fromR b t l i most = ([], 90) by unfold fromR; rw [hc]; rfl)
    rw [hc] at hck
    replace bx := Lib.hid bx
    replace hB0 := Lib.hid hB0
    clear hc h
    go_enter Try.func21, Try.ntmps21
    go_wp2_with fail
    refine hla.out.mono ?_
    rintro e w1 ⟨x, y, rfl, hb1⟩
    have hB1 := Lib.hid (bNext hB0.out hb1 (Nat.le_refl _))
    have bx1 := bx.out.bel hb1
    have p0 := bx1.c 0 _ rfl
    have p1 := bx1.c 1 _ rfl
    have p2 := bx1.c 2 _ rfl
    clear bx1 hb1
    go_wp2_with fail
    refine (hck.out _ hB1.out).mono ?_
    rintro e w2 ⟨rfl, hb2⟩
    have hB2 := Lib.hid (bNext hB1.out hb2 (Nat.le_refl _))
    clear hb2 p0 p1 p2
    go_wp2_with fail
    go_ret2
    rw [hm.out]
    exact ⟨_, _, _, rfl, LAt.nil _ _ _ (by omega), hB2.out⟩
  | true =>
    have hla := Lib.hid (last_l b t a n c l w.heap.size _ (h.bel hB0) hw hb ht hc (bx.c 0 _ rfl) (bx.c 1 _ rfl) (bx.c 2 _ rfl))
    rw [hc] at hck
    have hsm := Lib.hid (chk_sml hc)
    obtain ⟨g1, _⟩ := chk_iff.1 hc
    have g2 : 0 ≤ b := g1.1
    have g3 : (l.length : Int) ≤ 4096 := by omega
    have g4 : b ≤ 1099511627776 := by omega
    have hi1 := hi.1
    have hi2 := hi.2
    have H := Lib.hid h
    have HC := Lib.hid hc
    replace bx := Lib.hid bx
    replace hB0 := Lib.hid hB0
    unfold I64 at hi
    clear g1 h hc
    go_enter Try.func21, Try.ntmps21
    go_wp2_with fail
    refine hla.out.mono ?_
    rintro e w1 ⟨rfl, hb1⟩
    have hB1 := Lib.hid (bNext hB0.out hb1 (Nat.le_refl _))
    have bx1 := bx.out.bel hb1
    have p0 := bx1.c 0 _ rfl
    have p1 := bx1.c 1 _ rfl
    have p2 := bx1.c 2 _ rfl
    replace bx1 := Lib.hid bx1
    clear hb1
    go_wp2_with fail
    refine (hck.out _ hB1.out).mono ?_
    rintro e w2 ⟨rfl, hb2⟩
    have hB2 := Lib.hid (bNext hB1.out hb2 (Nat.le_refl _))
    have bx2 := bx1.out.bel hb2
    have q0 := bx2.c 0 _ rfl
    have q1 := bx2.c 1 _ rfl
    have q2 := bx2.c 2 _ rfl
    clear bx2 hb2 bx1 hB1 p0 p1 p2 hla hck bx hB0
    by_cases h1 : i ≤ b
    · have hm := Lib.hid (show fromR b t l i most = ([], 4) by unfold fromR; rw [HC.out, if_pos rfl, if_neg (by omega)])
      go_wp2_with fail
      go_ret2
      rw [hm.out]
      exact ⟨_, _, _, rfl, LAt.nil _ _ _ (by omega), hB2.out⟩
    by_cases h2 : b + l.length + 1 < i
    · have hm := Lib.hid (show fromR b t l i most = ([], 4) by unfold fromR; rw [HC.out, if_pos rfl, if_neg (by omega)])
      go_wp2_with fail
      go_ret2
      rw [hm.out]
      exact ⟨_, _, _, rfl, LAt.nil _ _ _ (by omega), hB2.out⟩
    · obtain ⟨k, hk⟩ : ∃ k : Nat, i - b - 1 = (k : Int) := ⟨(i - b - 1).toNat, by omega⟩
      obtain ⟨m, hmm⟩ : ∃ m, mostN most = m := ⟨_, rfl⟩
      obtain ⟨N, hN⟩ : ∃ N, min (k + m) n = N := ⟨_, rfl⟩
      have hln := hl.out
      have hkn : k ≤ n := by omega
      have hm := Lib.hid (show fromR b t l i most = ((l.take N).drop k, 0) by
        unfold fromR
        rw [HC.out, if_pos rfl, if_pos (by omega), hk, hmm, Int.toNat_natCast, ← hN, hln, take_min_drop])
      have em : mn 16 (mx most 0) = (m : Int) := by rw [mn_eq, mx_eq, ← hmm]; unfold mostN; omega
      have eN : mn (n : Int) ((k : Int) + (m : Int)) = (N : Int) := by rw [mn_eq]; omega
      have hkN : k ≤ N := by omega
      have hNn : N ≤ n := by omega
      have hkNI : (k : Int) ≤ (N : Int) := by omega
      have hm16 : (m : Int) ≤ 16 := by rw [← hmm]; unfold mostN; omega
      have hNc : (N : Int) ≤ (c : Int) := by have := H.out.le; omega
      have hcp := Lib.hid (copied_c (cutA a k N 5) (N - k) (N - k) ((l.take N).drop k) w2 ((H.out.bel hB2.out).cut hkN hNn (Nat.le_refl N) (by omega)) ((hsm.out.take N).drop k))
      have hk5 : (k : Int) ≤ 4096 := by omega
      clear hN hln hmm
      go_wp2_with fail
      refine hcp.out.mono ?_
      rintro e w3 ⟨a3, c3, rfl, hL3, hF3, hb3⟩
      have hB3 := Lib.hid (bNext hB2.out hb3 (Nat.le_refl _))
      replace hL3 := Lib.hid hL3
      clear hF3 hb3
      go_wp2_with fail
      go_ret2
      rw [hm.out]
      exact ⟨_, _, _, rfl, hL3.out, hB3.out⟩

end Go.Proofs.Ytbiodlhiilmgkaa
