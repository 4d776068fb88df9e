/- The shaper: what pumps do (plain); what the law's waking comes to. -/
import Derived.Test.YtkefkophlhcbiaaS8
namespace Go.Proofs.Ytkefkophlhcbiaa
open Go.ChangeShapes Go.WideShapes Go.ChangeAt Go.RowKit
set_option linter.unusedVariables false
set_option linter.unusedSimpArgs false
open BigFrame Pk Sh Fa Fq
open Vr hiding cellB
open By (Byt RowG blkO)
open Fp (Pt PQ PqP)

namespace Sh
theorem pk_none {I : Ids} {G : Gs} (h : ∀ i, i < I.N → hd I G i ≤ 0) : (pk I G).ok = false := by
  cases hk : (pk I G).ok with
  | false => rfl
  | true =>
    obtain ⟨k, _, h2, h3⟩ := pickX_yes hk
    have := h k h2
    omega
theorem pk_some {I : Ids} {G : Gs} {i : Nat} (hi : i < I.N) (h : 0 < hd I G i) : (pk I G).ok = true := by
  unfold pk pickX
  by_cases hno : leastK (toldN I.N I.ALL G.x.V I.W G.x.Z G.x.D G.x.S G.x.F (hd I G)).S (rdy (hd I G)) I.N < 0
  · have := leastK_no hno i hi
    unfold rdy at this
    simp at this
    omega
  · rw [if_neg hno]
theorem run_first {I : Ids} {G G' : Gs} {out : List (Nat × Pt)} (r : Run I G out G') : (out = [] ∧ G' = G) ∨ ∃ k p l out', Step I G k p l ∧ Run I (popG I G k p l) out' G' ∧ out = (k, p) :: out' := by
  induction r with
  | nil => exact .inl ⟨rfl, rfl⟩
  | snoc r st ih =>
    rename_i G1 out k p l
    rcases ih with ⟨rfl, rfl⟩ | ⟨k1, p1, l1, out1, s1, r1, rfl⟩
    · exact .inr ⟨k, p, l, [], st, .nil _, rfl⟩
    · exact .inr ⟨k1, p1, l1, out1 ++ [(k, p)], s1, .snoc r1 st, rfl⟩
theorem run_stuck {I : Ids} {G G' : Gs} {out : List (Nat × Pt)} (r : Run I G out G') (h : (pk I G).ok = false) : out = [] ∧ G' = G := by
  rcases run_first r with q | ⟨k, p, l, out', s, _, _⟩
  · exact q
  · have := s.2.1; rw [h] at this; cases this
theorem pump_none {I : Ids} {G G1 G2 : Gs} {out : List (Nat × Pt)} (r : Run I G out G1) (d : Done I G1 G2) (hl : 0 < G.link) (h : (pk I G).ok = false) : out = [] ∧ G2 = { noG I G with link := 0 } := by
  obtain ⟨rfl, rfl⟩ := run_stuck r h
  rcases d with ⟨q, _⟩ | ⟨_, _, rfl⟩
  · omega
  · exact ⟨rfl, rfl⟩
/-- One flow's first packet goes out; there are no tokens for its next one. -/
theorem pump_one {I : Ids} {G G1 G2 : Gs} {out : List (Nat × Pt)} {P P2 : Pt} (r : Run I G out G1) (d : Done I G1 G2) (hN : I.N = 1) (hl : G.link = 500) (hT : I.T 0 = 1) (hQ : G.Q 0 = [P, P2]) (h1 : P.d.length = 92) (h2 : P2.d.length = 92) (ht : G.tok 1 = 150) :
    out = [(0, P)] ∧ G2.Q 0 = [P2] ∧ G2.tok 1 = 50 := by
  have hd0 : hd I G 0 = 100 := by
    unfold hd
    rw [hQ]
    simp only [hT]
    rw [h1, show ((1 : Int)).toNat = 1 from rfl, ht]
    rfl
  have hok := pk_some (I := I) (G := G) (i := 0) (by omega) (by omega)
  rcases run_first r with ⟨rfl, rfl⟩ | ⟨k, p, l, out', s, r', rfl⟩
  · rcases d with ⟨q, _⟩ | ⟨_, q, _⟩
    · omega
    · rw [hok] at q; cases q
  · obtain ⟨_, _, _, hkN, hQk, _⟩ := s
    obtain rfl : k = 0 := by omega
    rw [hQ] at hQk
    injection hQk with e1 e2
    subst e1 e2
    have hb : ∀ i, i < I.N → hd I (popG I G 0 P [P2]) i ≤ 0 := fun i hi => by
      obtain rfl : i = 0 := by omega
      have hq : (popG I G 0 P [P2]).Q 0 = [P2] := by simp [popG, upQ]
      have htk : (popG I G 0 P [P2]).tok 1 = 50 := by
        show Sh.up G.tok (I.T 0).toNat (G.tok (I.T 0).toNat - (8 + (P.d.length : Int))) 1 = 50
        rw [hT, h1, show ((1 : Int)).toNat = 1 from rfl, ht]
        rfl
      unfold hd
      rw [hq]
      simp only [hT]
      rw [h2, show ((1 : Int)).toNat = 1 from rfl, htk]
      decide
    obtain ⟨rfl, rfl⟩ := run_stuck r' (pk_none hb)
    have htk : (popG I G 0 P [P2]).tok 1 = 50 := by
      show Sh.up G.tok (I.T 0).toNat (G.tok (I.T 0).toNat - (8 + (P.d.length : Int))) 1 = 50
      rw [hT, h1, show ((1 : Int)).toNat = 1 from rfl, ht]
      rfl
    have hq : (popG I G 0 P [P2]).Q 0 = [P2] := by simp [popG, upQ]
    rcases d with ⟨_, rfl⟩ | ⟨_, _, rfl⟩
    · exact ⟨rfl, hq, htk⟩
    · exact ⟨rfl, hq, htk⟩
def XW : Nat → Nat → Int := fun _ j => if j = 2 then 5 else 1
def pW : Pt := ⟨0, 1, 0, List.replicate 92 0⟩
def dW : List Nat := bldD pW
theorem goodW : goodD dW := by
  unfold goodD goodF
  decide +kernel
theorem lenW : dW.length = 100 := by rw [dW, bldD_len]; rfl
theorem dropW : (dW.drop 8).length = 92 := by rw [List.length_drop, lenW]
theorem newW : newSOk 1 XW := ⟨by omega, by omega, fun i hi => by unfold flowOk XW; simp⟩
theorem tW : dT dW = 1 ∧ dC dW = 0 := by constructor <;> decide +kernel
theorem wake_in {I : Ids} (hN : I.N = 1) (hT : I.T = fun i => XW i 0) (hR : I.R = fun i => XW i 2) (G : Gs) (h : (G.Q 0).length < 5) : dK I dW = 0 ∧ inOk I dW G := by
  have e1 : flowE I.T I.N (dT dW) (dC dW) = 0 := by rw [hN, hT, tW.1, tW.2]; decide +kernel
  have e2 : dK I dW = 0 := by unfold dK; rw [hN, hT, tW.1, tW.2]; decide +kernel
  refine ⟨e2, goodW, e1, ?_⟩
  rw [e2]
  unfold Ids.room
  rw [hR]
  exact h
end Sh
end Go.Proofs.Ytkefkophlhcbiaa
