/- The scheduler: New, its walk. -/
import Derived.Test.YtbbcongfaoopcaaF4
namespace Go.Proofs.Ytbbcongfaoopcaa
open Go.ChangeShapes Go.WideShapes Go.ChangeAt Go.RowKit Go.Maps
set_option linter.unusedVariables false
set_option linter.unusedSimpArgs false
open BigFrame Pk Fq Vr Fa

namespace Fa
theorem blkN_new (u : World) (l : List Value) (t : TypeId) : Blk (u.alloc (.cells l.toArray t)) u.heap.size l :=
  ⟨fun i z hz => by
    have hi : i < l.length := (List.getElem?_eq_some_iff.1 hz).1
    have h : (u.alloc (.cells l.toArray t)).heap[u.heap.size]? = some (.cells l.toArray t (0, 0)) := heap_alloc_new u _
    unfold World.cell?
    simp only [h]
    simpa using hz,
   fun o => by go_simp, by simp⟩
theorem OwnF.blk {w : World} {B n c : Nat} {a : Option Addr} {W Z : Nat → Int} {D : Nat → Bool} (h : OwnF w B (.slice a n c) W Z D n) (hn : 0 < n) : ∃ g, a = some ⟨g, 0, none⟩ ∧ B ≤ g ∧ Blk w g (rowF W Z D n) := by
  unfold OwnF at h
  obtain ⟨g, cap, e, hb, hl⟩ := h.form hn
  cases e
  exact ⟨g, rfl, hb, fun i x hx => by
    have hi : i < (rowF W Z D n).length := (List.getElem?_eq_some_iff.1 hx).1
    rw [h.cellAt i (by rw [← h.1]; exact hi)]; exact hx, fun o => h.frozenAt o, hl⟩
end Fa

set_option maxRecDepth 100000 in
set_option maxHeartbeats 4000000 in
theorem fnew_ok (w : World) (b off N c : Nat) (g : Nat → Int) (h1 : 1 ≤ N) (h8 : N ≤ 8) (hb : b < w.heap.size) (hc : ∀ i, i < N → w.cell? ⟨b, off + i, none⟩ = some (.int .i64 (g i))) (hg : ∀ i, i < N → 1 ≤ g i ∧ g i ≤ 16) :
    Calls Try.prog 11 #[.slice (some ⟨b, off, none⟩) N c] w (NewF N g w) := by
  have hN1 : (1 : Int) ≤ (N : Int) := by omega
  have hN8 : (N : Int) ≤ 8 := by omega
  replace hc := Lib.hid hc
  replace hg := Lib.hid hg
  have hnew := Lib.hid (vnew_ok N w h1 h8)
  go_enter Try.func11, Try.ntmps11
  go_wp2_with fail
  refine hnew.out.mono ?_
  rintro e w1 ⟨a1, tb, ct, rfl, T1, htb, hb1⟩
  obtain rfl := T1.ha (by omega)
  have htb1 := htb (by omega)
  have htb2 := T1.hb (by omega)
  clear hnew htb
  have ha := ((Below.refl w1.heap.size w1).alloc (Nat.le_refl _) (.cells #[.int .i64 0, .slice (some ⟨tb, 0, none⟩) N ct] 50)).alloc (by simp) (.cells #[.slice none 0 0, .int .i64 0, .int .i64 0, .slice (some ⟨tb, 0, none⟩) N ct] 65)
  have fb := blkN_new (w1.alloc (.cells #[.int .i64 0, .slice (some ⟨tb, 0, none⟩) N ct] 50)) [.slice none 0 0, .int .i64 0, .int .i64 0, .slice (some ⟨tb, 0, none⟩) N ct] 65
  rw [World.size_alloc] at fb
  have hB := Lib.hid (hb1.trans (ha.mono hb1.size))
  have hT := Lib.hid (T1.bel ha)
  have hsz := hb1.size
  replace fb := Lib.hid fb
  clear T1 hb1 ha
  go_upto_region 5 with fail
  generalize ((w1.alloc (.cells #[.int .i64 0, .slice (some ⟨tb, 0, none⟩) N ct] 50)).alloc (.cells #[.slice none 0 0, .int .i64 0, .int .i64 0, .slice (some ⟨tb, 0, none⟩) N ct] 65)) = W1 at hB hT fb ⊢
  obtain ⟨f, hf⟩ : ∃ f, RowKit.Hid (w1.heap.size + 1 = f) := ⟨_, Lib.hid rfl⟩
  rw [hf.out] at fb ⊢
  go_wp2_with fail
  go_loopw [8, 23] (fun _ s23 wr => ∃ (i : Nat) (lv : Option Addr) (k : Nat), s23 = .int .i64 (i : Nat) ∧ i ≤ N ∧ RowKit.Hid (Blk wr f [.slice lv i k, .int .i64 (sumW g i), .int .i64 0, .slice (some ⟨tb, 0, none⟩) N ct]) ∧ RowKit.Hid (OwnF wr (f + 1) (.slice lv i k) g nz nd i) ∧ RowKit.Hid (Below f W1 wr)) (fun _ s23 _ => N - (intOf s23).toNat)
  case atStart => exact ⟨0, none, 0, rfl, Nat.zero_le _, Lib.hid fb.out, Lib.hid ⟨rfl, .inl ⟨rfl, rfl⟩⟩, Lib.hid (Below.refl _ _)⟩
  case round =>
    obtain ⟨i, lv, k, rfl, hi, hS, hO, hK⟩ := hrel
    have ii : (i : Int) ≤ (N : Int) := by omega
    have hfW := fb.out.l
    have hbl : Below w.heap.size w wr := hB.out.trans (hK.out.mono (by have := hf.out; omega))
    by_cases hlt : i < N
    · have ii1 : (i : Int) < (N : Int) := by omega
      have x0 := (hbl.cell (p := ⟨b, off + i, none⟩) hb).trans (hc.out i hlt)
      have g1 := hg.out i hlt
      have sb := sumW_b hg.out i (by omega)
      obtain ⟨y, hy⟩ : ∃ y, g i = y := ⟨_, rfl⟩
      obtain ⟨s, hs⟩ : ∃ s, sumW g i = s := ⟨_, rfl⟩
      have hs2 : sumW g (i + 1) = s + y := by rw [sumW, hs, hy]
      have hbk := Lib.hid (show Blk (wr.alloc (.cells #[.int .i64 y, .int .i64 0, .bool false] 67)) wr.heap.size (flC g nz nd i) by rw [← hy]; exact blkN_new wr (flC g nz nd i) _)
      rw [hy] at x0 g1
      rw [hs] at sb hS
      obtain ⟨g2, g3⟩ := g1
      obtain ⟨s3, s4⟩ := sb
      have s0 := hS.out.c 0 _ rfl
      have hO2 := Lib.hid (hO.out.bel ((Below.refl wr.heap.size wr).alloc (Nat.le_refl _) (.cells #[.int .i64 y, .int .i64 0, .bool false] 67)))
      have hfl := hS.out.l
      have hszA := Lib.hid (show f + 1 ≤ (wr.alloc (.cells #[.int .i64 y, .int .i64 0, .bool false] 67)).heap.size by simp; omega)
      replace hs2 := Lib.hid hs2
      replace hbl := Lib.hid hbl
      clear hs hy hfl
      go_wp2_with (at_builtin; refine wpList_appF rfl _ _ rfl (f + 1) (.slice lv i k) g nz nd i (by rfl) hO2.out hszA.out (by rfl) hbk.out (by omega) ?_; intro a5 n5 c5 w5 hown5 hn5 hsz5 hgrow5 hor5; obtain rfl : n5 = i + 1 := hn5; have hst := Lib.hid (new_step (s2 := s + y) hS.out hO.out hK.out hfW hown5 (by have := hsz5; exact hgrow5.size) hgrow5); have q0 := hst.out.1.c 0 _ rfl; have q1 := hst.out.1.f 0; have q2 := hst.out.2.1.c 1 _ rfl; have q3 := hst.out.2.1.f 1; clear hown5 hsz5 hgrow5 hor5 s0)
      go_roundw
      case rel => exact ⟨i + 1, a5, c5, by go_num, hlt, Lib.hid (by rw [hs2.out]; exact hst.out.2.2.1), Lib.hid hst.out.2.2.2.1, Lib.hid hst.out.2.2.2.2⟩
      case measure => simp [intOf]; omega
    · obtain rfl : i = N := by omega
      obtain ⟨lb, rfl, hlb, hBl⟩ := hO.out.blk (by omega)
      have hF : NewF i g w (.returned (.tuple #[.pointer (some ⟨f, 0, none⟩), .int .i64 0])) wr := by
        have hf1 := hf.out
        exact ⟨f, lb, k, tb, ct, rfl, ⟨hS.out, hBl, hT.out.below hK.out (fun _ => by omega), by omega, by omega, by omega, h1, h8⟩, by omega, by omega, htb1, hbl⟩
      replace hF := Lib.hid hF
      clear hBl hlb
      go_wp2_with fail
      exact bodyPost_ret (v := .tuple #[.pointer (some ⟨f, 0, none⟩), .int .i64 0]) (by simp [results, Try.results11, go_sem]) rfl hF.out
end Go.Proofs.Ytbbcongfaoopcaa
