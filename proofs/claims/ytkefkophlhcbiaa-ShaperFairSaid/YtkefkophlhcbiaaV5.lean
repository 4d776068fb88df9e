/- Virtual time: a flow's new tags, refused or not; Wake and Next. -/
import Derived.Test.YtkefkophlhcbiaaV4
namespace Go.Proofs.Ytkefkophlhcbiaa
open Go.ChangeShapes Go.WideShapes Go.ChangeAt Go.RowKit
set_option linter.unusedVariables false
set_option linter.unusedSimpArgs false
open BigFrame Vr Pk Fq

namespace Vr
/-- May a flow be given these tags? -/
def tagOk (V : Int) (N : Nat) (S F : Nat → Int) (k c st : Int) : Prop := VOk V N S F ∧ 0 ≤ k ∧ k < (N : Int) ∧ c ≠ 0 ∧ st ≤ 1152921504606846976 - c
/-- What is answered: a virtual time and an error's number. -/
structure VR where
  V : Int
  N : Nat
  S : Nat → Int
  F : Nat → Int
  x : Int
open Classical in
noncomputable def tagR (V : Int) (N : Nat) (S F : Nat → Int) (k c st : Int) : VR := if tagOk V N S F k c st then ⟨V, N, fun i => if i = k.toNat then st else S i, fun i => if i = k.toNat then st + c else F i, 0⟩ else ⟨0, 0, S, F, 2⟩
def VirX (r : VR) (w : World) (e : Ending) (w' : World) : Prop := VirP r.V r.N r.S r.F r.x w e w'
theorem virX_no {w : World} {e : Ending} {w' : World} (S F : Nat → Int) (x : Int) (h : e = .returned (.tuple #[.agg #[.int .i64 0, .slice none 0 0], .int .i64 x]) ∧ Below w.heap.size w w') : VirX ⟨0, 0, S, F, x⟩ w e w' :=
  ⟨none, 0, 0, h.1, ⟨fun h => absurd h (Nat.lt_irrefl _), fun h => absurd h (Nat.lt_irrefl _), fun i hi => absurd hi (Nat.not_lt_zero _), fun i hi => absurd hi (Nat.not_lt_zero _)⟩, fun h => absurd h (Nat.lt_irrefl _), h.2⟩
end Vr

set_option maxRecDepth 100000 in
set_option maxHeartbeats 4000000 in
theorem vtag_no (g : Nat) (lb : Array Value) (V : Int) (k : Int) (N : Nat) (cost : Int) (a : Option Addr) (b off c : Nat) (S F : Nat → Int) (w : World) (T : TagsAt w a b off N S F) (hN : N ≤ 1000)
    (h : ¬ VOk V N S F ∨ k < 0 ∨ (N : Int) ≤ k ∨ cost = 0) :
    Calls Try.prog 67 #[.agg #[.int .i64 V, .slice a N c], .int .i64 k, .int .i64 cost, .func (.func g) #[] lb] w fun e w' => e = .returned (.tuple #[.agg #[.int .i64 0, .slice none 0 0], .int .i64 2]) ∧ Below w.heap.size w w' := by
  have hB0 : Below w.heap.size w ((w.alloc (.cells #[.int .i64 V, .slice a N c] 96)).alloc (.cells #[.int .i64 0, .slice none 0 0] 96)) := ((Below.refl _ _).alloc (Nat.le_refl _) _).alloc (by simp) _
  have bx0 : Blk ((w.alloc (.cells #[.int .i64 V, .slice a N c] 96)).alloc (.cells #[.int .i64 0, .slice none 0 0] 96)) w.heap.size [.int .i64 V, .slice a N c] := ⟨fun i x hx => by
    rcases i with _ | _ | i
    · simp at hx; subst hx; go_simp
    · simp at hx; subst hx; go_simp
    · simp at hx, fun o => by go_simp, by simp <;> omega⟩
  have rs0 : Blk ((w.alloc (.cells #[.int .i64 V, .slice a N c] 96)).alloc (.cells #[.int .i64 0, .slice none 0 0] 96)) (w.heap.size + 1) [.int .i64 0, .slice none 0 0] := ⟨fun i x hx => by
    rcases i with _ | _ | i
    · simp at hx; subst hx; go_simp
    · simp at hx; subst hx; go_simp
    · simp at hx, fun o => by go_simp, by simp <;> omega⟩
  obtain ⟨ok, hck, hok⟩ : ∃ ok : Bool, (Calls Try.prog 60 #[.agg #[.int .i64 V, .slice a N c]] ((w.alloc (.cells #[.int .i64 V, .slice a N c] 96)).alloc (.cells #[.int .i64 0, .slice none 0 0] 96)) fun e w' => e = .returned (.bool ok) ∧ Below ((w.alloc (.cells #[.int .i64 V, .slice a N c] 96)).alloc (.cells #[.int .i64 0, .slice none 0 0] 96)).heap.size ((w.alloc (.cells #[.int .i64 V, .slice a N c] 96)).alloc (.cells #[.int .i64 0, .slice none 0 0] 96)) w') ∧ (ok = false ∨ k < 0 ∨ (N : Int) ≤ k ∨ cost = 0) := by
    by_cases hv : VOk V N S F
    · exact ⟨true, vcheck_ok V _ b off N c S F _ (T.bel hB0) hv, .inr (h.resolve_left (fun q => q hv))⟩
    · exact ⟨false, vcheck_no V _ b off N c S F _ (T.bel hB0) hN hv, .inl rfl⟩
  have hNl : (N : Int) ≤ 1000 := by omega
  clear h T
  cases ok with
  | false =>
    go_enter Try.func67, Try.ntmps67
    go_wp2_with fail
    refine hck.mono ?_
    rintro e w1 ⟨rfl, hb1⟩
    have rs1 := rs0.bel hb1
    have hB1 := bNext hB0 hb1 (by simp)
    clear bx0 rs0 hb1 hck hB0
    have r0 := rs1.c 0 _ rfl
    have r1 := rs1.c 1 _ rfl
    have r2 := rs1.f 0
    have r3 := rs1.f 1
    go_wp2_with fail
    refine bodyPost_ret (v := .tuple #[.agg #[.int .i64 0, .slice none 0 0], .int .i64 2]) (by simp [results, Try.results67, go_sem, r0, r1]) rfl ⟨rfl, ?_⟩
    exact (hB1.setCell (p := ⟨w.heap.size + 1, 0, none⟩) (by show _ ≤ w.heap.size + 1; omega) _).setCell (p := ⟨w.heap.size + 1, 1, none⟩) (by show _ ≤ w.heap.size + 1; omega) _
  | true =>
    by_cases k0 : k < 0
    · have kd : decide (k < 0) = true := by simpa using k0
      go_enter Try.func67, Try.ntmps67
      go_wp2_with fail
      refine hck.mono ?_
      rintro e w1 ⟨rfl, hb1⟩
      have rs1 := rs0.bel hb1
      have hB1 := bNext hB0 hb1 (by simp)
      clear bx0 rs0 hb1 hck hB0
      have r0 := rs1.c 0 _ rfl
      have r1 := rs1.c 1 _ rfl
      have r2 := rs1.f 0
      have r3 := rs1.f 1
      go_wp2_with fail
      refine bodyPost_ret (v := .tuple #[.agg #[.int .i64 0, .slice none 0 0], .int .i64 2]) (by simp [results, Try.results67, go_sem, r0, r1]) rfl ⟨rfl, ?_⟩
      exact (hB1.setCell (p := ⟨w.heap.size + 1, 0, none⟩) (by show _ ≤ w.heap.size + 1; omega) _).setCell (p := ⟨w.heap.size + 1, 1, none⟩) (by show _ ≤ w.heap.size + 1; omega) _
    · by_cases k1 : (N : Int) ≤ k
      · have kd : decide (k < 0) = false := by simpa using k0
        have ke : decide ((N : Int) ≤ k) = true := by simpa using k1
        go_enter Try.func67, Try.ntmps67
        go_wp2_with fail
        refine hck.mono ?_
        rintro e w1 ⟨rfl, hb1⟩
        have rs1 := rs0.bel hb1
        have bx1 := bx0.bel hb1
        have hB1 := bNext hB0 hb1 (by simp)
        clear bx0 rs0 hb1 hck hB0
        have p1 := bx1.c 1 _ rfl
        have r0 := rs1.c 0 _ rfl
        have r1 := rs1.c 1 _ rfl
        have r2 := rs1.f 0
        have r3 := rs1.f 1
        go_wp2_with fail
        refine bodyPost_ret (v := .tuple #[.agg #[.int .i64 0, .slice none 0 0], .int .i64 2]) (by simp [results, Try.results67, go_sem, r0, r1]) rfl ⟨rfl, ?_⟩
        exact (hB1.setCell (p := ⟨w.heap.size + 1, 0, none⟩) (by show _ ≤ w.heap.size + 1; omega) _).setCell (p := ⟨w.heap.size + 1, 1, none⟩) (by show _ ≤ w.heap.size + 1; omega) _
      · have kd : decide (k < 0) = false := by simpa using k0
        have ke : decide ((N : Int) ≤ k) = false := by simpa using k1
        obtain rfl : cost = 0 := by rcases hok with h | h | h | h; exact absurd h (by simp); exact absurd h k0; exact absurd h k1; exact h
        clear hok
        go_enter Try.func67, Try.ntmps67
        go_wp2_with fail
        refine hck.mono ?_
        rintro e w1 ⟨rfl, hb1⟩
        have rs1 := rs0.bel hb1
        have bx1 := bx0.bel hb1
        have hB1 := bNext hB0 hb1 (by simp)
        clear bx0 rs0 hb1 hck hB0
        have p1 := bx1.c 1 _ rfl
        have r0 := rs1.c 0 _ rfl
        have r1 := rs1.c 1 _ rfl
        have r2 := rs1.f 0
        have r3 := rs1.f 1
        go_wp2_with fail
        refine bodyPost_ret (v := .tuple #[.agg #[.int .i64 0, .slice none 0 0], .int .i64 2]) (by simp [results, Try.results67, go_sem, r0, r1]) rfl ⟨rfl, ?_⟩
        exact (hB1.setCell (p := ⟨w.heap.size + 1, 0, none⟩) (by show _ ≤ w.heap.size + 1; omega) _).setCell (p := ⟨w.heap.size + 1, 1, none⟩) (by show _ ≤ w.heap.size + 1; omega) _

set_option maxRecDepth 100000 in
theorem vtagx_c (g : Nat) (eg : ∀ args w, (callFunc g args).run Try.prog w = .ok (.enter g args) w) (lb : Array Value) (V : Int) (k : Int) (N : Nat) (cost st : Int) (a : Option Addr) (b off c : Nat) (S F : Nat → Int) (w : World) (T : TagsAt w a b off N S F) (hN : N ≤ 1000)
    (hc : cost = 0 ∨ (1 ≤ cost ∧ cost ≤ 138378240000)) (hs : VOk V N S F → 0 ≤ k → k < (N : Int) → 0 ≤ st)
    (hcall : ∀ (W : World) (j : Nat), k = (j : Int) → j < N → Below w.heap.size w W → Calls Try.prog g (#[.agg #[.int .i64 (S j), .int .i64 (F j)]] ++ lb) W fun e w' => e = .returned (.int .i64 st) ∧ Below W.heap.size W w') :
    Calls Try.prog 67 #[.agg #[.int .i64 V, .slice a N c], .int .i64 k, .int .i64 cost, .func (.func g) #[] lb] w (VirX (tagR V N S F k cost st) w) := by
  unfold tagR
  by_cases hok : tagOk V N S F k cost st
  · rw [if_pos hok]
    obtain ⟨h1, h2, h3, h4, h5⟩ := hok
    obtain ⟨j, rfl⟩ : ∃ j : Nat, k = (j : Int) := ⟨k.toNat, by omega⟩
    have hst := hs h1 h2 h3
    rw [Int.toNat_natCast]
    exact vtag_ok g eg lb V j N cost st a b off c S F w T h1 (by omega) (by omega) (by omega) hst h5 (fun W hW => hcall W j rfl (by omega) hW)
  · rw [if_neg hok]
    by_cases hbad : ¬ VOk V N S F ∨ k < 0 ∨ (N : Int) ≤ k ∨ cost = 0
    · exact (vtag_no g lb V k N cost a b off c S F w T hN hbad).mono fun e w' h => virX_no S F 2 h
    · have h1 : VOk V N S F := Classical.byContradiction fun q => hbad (.inl q)
      have h2 : 0 ≤ k := by omega
      have h3 : k < (N : Int) := by omega
      have h4 : cost ≠ 0 := by omega
      have hst := hs h1 h2 h3
      have h5 : 1152921504606846976 - cost < st := by
        refine Classical.byContradiction fun q => hok ⟨h1, h2, h3, h4, by omega⟩
      obtain ⟨j, rfl⟩ : ∃ j : Nat, k = (j : Int) := ⟨k.toNat, by omega⟩
      exact (vtag_far g eg lb V j N cost st a b off c S F w T h1 (by omega) (by omega) (by omega) hst h5 (fun W hW => hcall W j rfl (by omega) hW)).mono fun e w' h => virX_no S F 2 h
end Go.Proofs.Ytkefkophlhcbiaa
