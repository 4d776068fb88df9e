/- The scheduler run over queues: Run refused; Run whatever it is given. -/
import Derived.Test.YtbbcongfaoopcaaF25
namespace Go.Proofs.Ytbbcongfaoopcaa
open Go.ChangeShapes Go.WideShapes Go.ChangeAt Go.RowKit Go.Maps
set_option linter.unusedVariables false
set_option linter.unusedSimpArgs false
open BigFrame Pk Fq Vr Fa

namespace Fa
theorem leastBad (P : Nat → Prop) : ∀ N, (¬ ∀ i, i < N → P i) → ∃ m, m < N ∧ ¬ P m ∧ ∀ i, i < m → P i
  | 0, h => absurd (fun i hi => absurd hi (Nat.not_lt_zero _)) h
  | N + 1, h => by
    by_cases h2 : ∀ i, i < N → P i
    · refine ⟨N, by omega, fun q => h fun i hi => ?_, h2⟩
      by_cases e : i = N
      · subst e; exact q
      · exact h2 i (by omega)
    · obtain ⟨m, a, b, c⟩ := leastBad P N h2
      exact ⟨m, by omega, b, c⟩
def NoNew (w : World) (e : Ending) (w' : World) : Prop := e = .returned (.tuple #[.pointer none, .int .i64 2]) ∧ Below w.heap.size w w'
theorem runP_nil {w w' : World} (h : Below w.heap.size w w') : RunP w [] (.returned (.slice none 0 0)) w' := ⟨none, 0, 0, rfl, rfl, OwnZ.nil _ _, h⟩
def newOk (dw : List Int) : Prop := 1 ≤ dw.length ∧ dw.length ≤ 8 ∧ ∀ x, x ∈ dw → 1 ≤ x ∧ x ≤ 16
def gd (dw : List Int) : Nat → Int := fun i => dw.getD i 0
def runOk (dw : List Int) (nq : Nat) (Q : Nat → List Int) : Prop := newOk dw ∧ nq = dw.length ∧ goodQ Q nq ∧ leftQ Q t0 nq ≤ 1000
open Classical in
noncomputable def runR (dw : List Int) (nq : Nat) (Q : Nat → List Int) : List Int := if runOk dw nq Q then servedN nq (sumW (gd dw) nq) (gd dw) Q (leftQ Q t0 nq) sched0 t0 else []
theorem gd_at {dw : List Int} {i : Nat} (h : i < dw.length) : dw[i]? = some (gd dw i) := by
  unfold gd
  rw [List.getD_eq_getElem?_getD, List.getElem?_eq_getElem h]
  rfl
theorem gd_mem {dw : List Int} {i : Nat} (h : i < dw.length) : gd dw i ∈ dw := List.mem_of_getElem? (gd_at h)
end Fa

set_option maxRecDepth 100000 in
set_option maxHeartbeats 4000000 in
theorem frun_nonew (w : World) (a a2 : Option Addr) (n c n2 c2 : Nat) (hnew : Calls Try.prog 11 #[.slice a n c] w (NoNew w)) :
    Calls Try.prog 9 #[.slice a n c, .slice a2 n2 c2] w (RunP w []) := by
  replace hnew := Lib.hid hnew
  go_enter Try.func9, Try.ntmps9
  go_wp2_with fail
  refine hnew.out.mono ?_
  rintro e w1 ⟨rfl, hB1⟩
  replace hB1 := Lib.hid hB1
  clear hnew
  go_wp2_with fail
  exact bodyPost_ret (v := .slice none 0 0) (by simp [results, Try.results9, go_sem]) rfl (runP_nil hB1.out)

set_option maxRecDepth 100000 in
set_option maxHeartbeats 4000000 in
theorem frun_len (w : World) (a2 : Option Addr) (b off N c n2 c2 : Nat) (g : Nat → Int) (h1 : 1 ≤ N) (h8 : N ≤ 8) (hb : b < w.heap.size) (hc : ∀ i, i < N → w.cell? ⟨b, off + i, none⟩ = some (.int .i64 (g i))) (hg : ∀ i, i < N → 1 ≤ g i ∧ g i ≤ 16) (hne : n2 ≠ N) :
    Calls Try.prog 9 #[.slice (some ⟨b, off, none⟩) N c, .slice a2 n2 c2] w (RunP w []) := by
  have hnew := Lib.hid (fnew_ok w b off N c g h1 h8 hb hc hg)
  have hne2 : ¬ (n2 : Int) = (N : Int) := by omega
  clear hc hg hne
  go_enter Try.func9, Try.ntmps9
  go_wp2_with fail
  refine hnew.out.mono ?_
  rintro e w1 ⟨f, lb, cl, tb, ct, rfl, hF, hf1, hf2, hf3, hB1⟩
  replace hB1 := Lib.hid hB1
  clear hnew hF
  go_wp2_with fail
  exact bodyPost_ret (v := .slice none 0 0) (by simp [results, Try.results9, go_sem]) rfl (runP_nil hB1.out)

set_option maxRecDepth 100000 in
set_option maxHeartbeats 20000000 in
theorem frun_bad (w : World) (b off N c c2 b2 off2 : Nat) (g : Nat → Int) (a2 : Option Addr) (A : Nat → Option Addr) (L C : Nat → Nat) (Q : Nat → List Int) (h1 : 1 ≤ N) (h8 : N ≤ 8) (hb : b < w.heap.size) (hc : ∀ i, i < N → w.cell? ⟨b, off + i, none⟩ = some (.int .i64 (g i))) (hg : ∀ i, i < N → 1 ≤ g i ∧ g i ≤ 16)
    (T : QsAt w a2 b2 off2 N A L C Q) (hl : ∀ i, i < N → L i ≤ 200) (hno : ¬ (goodQ Q N ∧ leftQ Q t0 N ≤ 1000)) :
    Calls Try.prog 9 #[.slice (some ⟨b, off, none⟩) N c, .slice a2 N c2] w (RunP w []) := by
  have hN1 : (1 : Int) ≤ (N : Int) := by omega
  have hN8 : (N : Int) ≤ 8 := by omega
  have hnew := Lib.hid (fnew_ok w b off N c g h1 h8 hb hc hg)
  obtain rfl := T.ha (by omega)
  have hb2 := T.hb (by omega)
  replace T := Lib.hid T
  replace hno := Lib.hid hno
  replace hg := Lib.hid hg
  replace hl := Lib.hid hl
  clear hc
  go_enter Try.func9, Try.ntmps9
  go_wp2_with fail
  refine hnew.out.mono ?_
  rintro e w1 ⟨f, lb, cl, tb, ct, rfl, hF, hf1, hf2, hf3, hB1⟩
  have T1 := Lib.hid (T.out.bel hB1)
  replace hF := Lib.hid hF
  replace hB1 := Lib.hid hB1
  clear hnew
  go_wp2_with fail
  go_loopw [4, 7, 9, 33] (fun s4 s7 _ s33 wr => ∃ (i : Nat), s4 = .slice none 0 0 ∧ s7 = .int .i64 ((leftQ Q t0 i : Nat) : Int) ∧ s33 = .int .i64 (i : Nat) ∧ i ≤ N ∧ wr = w1 ∧ RowKit.Hid (goodQ Q i ∧ leftQ Q t0 i ≤ 1000)) (fun _ _ _ s33 _ => N - (intOf s33).toNat)
  case atStart => exact ⟨0, rfl, rfl, rfl, Nat.zero_le _, rfl, Lib.hid ⟨fun i hi => by omega, by simp [leftQ]⟩⟩
  case round =>
    obtain ⟨i, rfl, rfl, rfl, hi, rfl, hgq⟩ := hrel
    have ii : (i : Int) ≤ (N : Int) := by omega
    by_cases hlt : i < N
    · have ii1 : (i : Int) < (N : Int) := by omega
      have x0 := T1.out.c0 i hlt
      have hq := T1.out.q i hlt
      have hlen := hq.len
      have hcap := hq.cap
      have hmax := hq.max
      have hli := hl.out i hlt
      have hs1 := hgq.out.2
      have hstep : leftQ Q t0 (i + 1) = leftQ Q t0 i + L i := by simp only [leftQ, t0]; omega
      have hcont := scontains_c (A i) (L i) (C i) (Q i) wr hq (by omega)
      obtain ⟨bad, hbad⟩ : ∃ bad, (!decide (∀ x, x ∈ Q i → sizeBad x = false)) = bad := ⟨_, rfl⟩
      rw [hbad] at hcont
      replace hcont := Lib.hid hcont
      have hgood2 : RowKit.Hid (bad = false → goodQ Q (i + 1)) := Lib.hid (fun e => by
        rw [e] at hbad
        have h2 : ∀ x, x ∈ Q i → sizeBad x = false := by simpa using hbad
        intro k hk x hx
        by_cases e : k = i
        · subst e; exact sizeOk.1 (h2 x hx)
        · exact hgq.out.1 k (by omega) x hx)
      obtain ⟨Li, eL⟩ : ∃ n, L i = n := ⟨_, rfl⟩
      obtain ⟨Ci, eC⟩ : ∃ n, C i = n := ⟨_, rfl⟩
      obtain ⟨Ai, eA⟩ : ∃ n, A i = n := ⟨_, rfl⟩
      obtain ⟨S, eS⟩ : ∃ n, leftQ Q t0 i = n := ⟨_, rfl⟩
      rw [eL, eC] at hcap
      rw [eC] at hmax
      rw [eL] at hli
      rw [eS] at hs1
      rw [eL, eC, eA] at hcont x0
      rw [eS, eL] at hstep
      replace hstep := Lib.hid hstep
      clear hq hbad eL eC eA hlen
      rw [eS]
      clear eS
      by_cases hbig : S + Li ≤ 1000
      · have hle : ((S : Nat) : Int) + (Li : Int) ≤ 1000 := by omega
        cases bad with
        | false =>
          go_wp2_with fail
          refine hcont.out.mono ?_
          rintro e w' ⟨rfl, rfl⟩
          go_wp2_with fail
          go_roundw
          case rel => exact ⟨i + 1, rfl, by rw [hstep.out]; push_cast; rfl, by go_num, hlt, by first | rfl | trivial, Lib.hid ⟨hgood2.out (by first | rfl | trivial), by have := hstep.out; omega⟩⟩
          case measure => simp [intOf]; omega
        | true =>
          go_wp2_with fail
          refine hcont.out.mono ?_
          rintro e w' ⟨rfl, rfl⟩
          go_wp2_with fail
          exact bodyPost_ret (v := .slice none 0 0) (by simp [results, Try.results9, go_sem]) rfl (runP_nil hB1.out)
      · have hle : 1000 < ((S : Nat) : Int) + (Li : Int) := by omega
        have hle2 : ((S : Nat) : Int) + (Li : Int) ≤ 1200 := by omega
        go_wp2_with fail
        exact bodyPost_ret (v := .slice none 0 0) (by simp [results, Try.results9, go_sem]) rfl (runP_nil hB1.out)
    · obtain rfl : i = N := by omega
      exact absurd hgq.out hno.out
theorem frun_c (w : World) (aw a2 : Option Addr) (nw cw nq c2 b2 off2 : Nat) (dw : List Int) (A : Nat → Option Addr) (L C : Nat → Nat) (Q : Nat → List Int) (Wt : IAt w aw nw cw dw) (T : QsAt w a2 b2 off2 nq A L C Q) (hl : ∀ i, i < nq → L i ≤ 200) :
    Calls Try.prog 9 #[.slice aw nw cw, .slice a2 nq c2] w (RunP w (runR dw nq Q)) := by
  have hlen := Wt.len
  unfold runR
  by_cases hlw : dw.length < 1 ∨ 8 < dw.length
  · rw [if_neg (fun q => by have := q.1.1; have := q.1.2.1; omega)]
    exact frun_nonew w aw a2 nw cw nq c2 (fnew_len w aw nw cw (by omega))
  · obtain ⟨b, off, rfl, hb, hc⟩ := Wt.row (by omega)
    have hc2 : ∀ i, i < nw → w.cell? ⟨b, off + i, none⟩ = some (.int .i64 (gd dw i)) := fun i hi => hc i _ (gd_at (by omega))
    by_cases hgood : ∀ i, i < nw → 1 ≤ gd dw i ∧ gd dw i ≤ 16
    · have hnok : newOk dw := ⟨by omega, by omega, fun x hx => by
        obtain ⟨i, hi, rfl⟩ := List.getElem_of_mem hx
        have := hgood i (by omega)
        have e := gd_at hi
        rw [List.getElem?_eq_getElem hi] at e
        injection e with e
        rw [e]; exact this⟩
      by_cases hnq : nq = nw
      · subst hnq
        by_cases hq : goodQ Q nq ∧ leftQ Q t0 nq ≤ 1000
        · rw [if_pos ⟨hnok, hlen.symm, hq.1, hq.2⟩]
          exact frun_ok w b off nq cw c2 b2 off2 (gd dw) a2 A L C Q (by omega) (by omega) hb hc2 hgood T hq.1 hq.2
        · rw [if_neg (fun q => hq q.2.2)]
          exact frun_bad w b off nq cw c2 b2 off2 (gd dw) a2 A L C Q (by omega) (by omega) hb hc2 hgood T hl hq
      · rw [if_neg (fun q => hnq (by rw [q.2.1, hlen]))]
        exact frun_len w a2 b off nw cw nq c2 (gd dw) (by omega) (by omega) hb hc2 hgood hnq
    · rw [if_neg (fun q => hgood (fun i hi => q.1.2.2 _ (gd_mem (by omega))))]
      refine frun_nonew w _ a2 nw cw nq c2 ?_
      obtain ⟨m, hm, hbad, hmin⟩ := leastBad (fun i => 1 ≤ gd dw i ∧ gd dw i ≤ 16) nw hgood
      exact fnew_bad w b off nw cw (gd dw) (by omega) (by omega) hb hc2 m hm hmin (by omega)
end Go.Proofs.Ytbbcongfaoopcaa
