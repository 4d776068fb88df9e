/- Virtual time: Pick, refused or not. -/
import Derived.Test.YtkefkophlhcbiaaV7
namespace Go.Proofs.Ytkefkophlhcbiaa
open Go.ChangeShapes Go.WideShapes Go.ChangeAt Go.RowKit
set_option linter.unusedVariables false
set_option linter.unusedSimpArgs false
open BigFrame Vr Pk Fq

namespace Vr
def pickOk (V : Int) (N : Nat) (S F : Nat → Int) (n : Nat) (R : Nat → Bool) : Prop := VOk V N S F ∧ n = N ∧ 0 ≤ leastK S R N
open Classical in
noncomputable def pickR (V : Int) (N : Nat) (S F : Nat → Int) (n : Nat) (R : Nat → Bool) : PR :=
  if pickOk V N S F n R then ⟨max V (S (leastK S R N).toNat), N, S, F, leastK F (fun i => R i && decide (S i ≤ max V (S (leastK S R N).toNat))) N, true⟩ else ⟨0, 0, S, F, 0, false⟩
end Vr

set_option maxRecDepth 100000 in
set_option maxHeartbeats 4000000 in
theorem vpick_no (V : Int) (a ar : Option Addr) (b off N c rb ro n cr : Nat) (S F : Nat → Int) (R : Nat → Bool) (w : World) (T : TagsAt w a b off N S F) (hN : N ≤ 1000) (BR : BoolsAt w ar rb ro n R) (h : ¬ VOk V N S F ∨ n ≠ N ∨ leastK S R N < 0) :
    Calls Try.prog 49 #[.agg #[.int .i64 V, .slice a N c], .slice ar n cr] w fun e w' => e = .returned (.tuple #[.agg #[.int .i64 0, .slice none 0 0], .int .i64 0, .bool false]) ∧ Below w.heap.size w w' := by
  have hB0 : Below w.heap.size w (((w.alloc (.cells #[.int .i64 V, .slice a N c] 96)).alloc (.cells #[.slice ar n cr] 112)).alloc (.cells #[.int .i64 0, .slice none 0 0] 96)) := (((Below.refl _ _).alloc (Nat.le_refl _) _).alloc (by simp) _).alloc (by simp <;> omega) _
  have bx0 : Blk (((w.alloc (.cells #[.int .i64 V, .slice a N c] 96)).alloc (.cells #[.slice ar n cr] 112)).alloc (.cells #[.int .i64 0, .slice none 0 0] 96)) w.heap.size [.int .i64 V, .slice a N c] := ⟨fun i x hx => by
    rcases i with _ | _ | i
    · simp at hx; subst hx; go_simp
    · simp at hx; subst hx; go_simp
    · simp at hx, fun o => by go_simp, by simp <;> omega⟩
  have rx0 : Blk (((w.alloc (.cells #[.int .i64 V, .slice a N c] 96)).alloc (.cells #[.slice ar n cr] 112)).alloc (.cells #[.int .i64 0, .slice none 0 0] 96)) (w.heap.size + 1) [.slice ar n cr] := ⟨fun i x hx => by
    rcases i with _ | i
    · simp at hx; subst hx; go_simp
    · simp at hx, fun o => by go_simp, by simp <;> omega⟩
  have rs0 : Blk (((w.alloc (.cells #[.int .i64 V, .slice a N c] 96)).alloc (.cells #[.slice ar n cr] 112)).alloc (.cells #[.int .i64 0, .slice none 0 0] 96)) (w.heap.size + 2) [.int .i64 0, .slice none 0 0] := ⟨fun i x hx => by
    rcases i with _ | _ | i
    · simp at hx; subst hx; go_simp
    · simp at hx; subst hx; go_simp
    · simp at hx, fun o => by go_simp, by simp <;> omega⟩
  by_cases hv : VOk V N S F
  · have hck := vcheck_ok V _ b off N c S F _ (T.bel hB0) hv
    by_cases hnN : n = N
    · subst hnN
      have hneg : leastK S R n = -1 := by have := leastK_lt S R n; rcases h with h | h | h; exact absurd hv h; exact absurd rfl h; omega
      clear hv h
      replace T := Lib.hid T
      replace BR := Lib.hid BR
      replace hneg := Lib.hid hneg
      go_enter Try.func49, Try.ntmps49
      go_wp2_with fail
      refine hck.mono ?_
      rintro e w1 ⟨rfl, hb1⟩
      have bx1 := bx0.bel hb1
      have rx1 := rx0.bel hb1
      have rs1 := rs0.bel hb1
      have hB1 := bNext hB0 hb1 (by simp)
      clear bx0 rx0 rs0 hb1 hck hB0
      have p0 := bx1.c 0 _ rfl
      have p1 := bx1.c 1 _ rfl
      have p2 := rx1.c 0 _ rfl
      have hl1 := vleast_c 62 63 (fun _ _ => by rfl) (fun _ _ => by rfl) #[.pointer (some ⟨w.heap.size + 1, 0, none⟩)] S R _ b off n c w.heap.size S F w1 (T.out.bel hB1) (by omega) p1 (fun W i hi hW => vofs_c _ _ W) (fun W i hi hW => vmay3_c ar rb ro n cr i (w.heap.size + 1) R W hi (by omega) ((BR.out.bel hB1).bel hW) (cellB hW p2))
      rw [hneg.out] at hl1
      go_wp2_with fail
      refine hl1.mono ?_
      rintro e w2 ⟨rfl, hb2⟩
      replace rs1 := rs1.bel hb2
      replace hB1 := bNext hB1 hb2 (Nat.le_refl _)
      clear bx1 rx1 p0 p1 p2 hl1 hb2
      have r0 := rs1.c 0 _ rfl
      have r1 := rs1.c 1 _ rfl
      have r2 := rs1.f 0
      have r3 := rs1.f 1
      go_wp2_with fail
      refine bodyPost_ret (v := .tuple #[.agg #[.int .i64 0, .slice none 0 0], .int .i64 0, .bool false]) (by simp [results, Try.results49, go_sem, r0, r1]) rfl ⟨rfl, ?_⟩
      exact (hB1.setCell (p := ⟨w.heap.size + 2, 0, none⟩) (by show _ ≤ w.heap.size + 2; omega) _).setCell (p := ⟨w.heap.size + 2, 1, none⟩) (by show _ ≤ w.heap.size + 2; omega) _
    · have hnd : (n == N) = false := by simpa using hnN
      have hne : decide ((n : Int) = (N : Int)) = false := by simp; omega
      clear hv h T BR
      go_enter Try.func49, Try.ntmps49
      go_wp2_with fail
      refine hck.mono ?_
      rintro e w1 ⟨rfl, hb1⟩
      have bx1 := bx0.bel hb1
      have rx1 := rx0.bel hb1
      have rs1 := rs0.bel hb1
      have hB1 := bNext hB0 hb1 (by simp)
      clear bx0 rx0 rs0 hb1 hck hB0
      have p0 := bx1.c 0 _ rfl
      have p1 := bx1.c 1 _ rfl
      have p2 := rx1.c 0 _ rfl
      have r0 := rs1.c 0 _ rfl
      have r1 := rs1.c 1 _ rfl
      have r2 := rs1.f 0
      have r3 := rs1.f 1
      go_wp2_with fail
      refine bodyPost_ret (v := .tuple #[.agg #[.int .i64 0, .slice none 0 0], .int .i64 0, .bool false]) (by simp [results, Try.results49, go_sem, r0, r1]) rfl ⟨rfl, ?_⟩
      exact (hB1.setCell (p := ⟨w.heap.size + 2, 0, none⟩) (by show _ ≤ w.heap.size + 2; omega) _).setCell (p := ⟨w.heap.size + 2, 1, none⟩) (by show _ ≤ w.heap.size + 2; omega) _
  · have hck := vcheck_no V _ b off N c S F _ (T.bel hB0) hN hv
    clear hv h T BR
    go_enter Try.func49, Try.ntmps49
    go_wp2_with fail
    refine hck.mono ?_
    rintro e w1 ⟨rfl, hb1⟩
    have bx1 := bx0.bel hb1
    have rx1 := rx0.bel hb1
    have rs1 := rs0.bel hb1
    have hB1 := bNext hB0 hb1 (by simp)
    clear bx0 rx0 rs0 hb1 hck hB0
    have p0 := bx1.c 0 _ rfl
    have p1 := bx1.c 1 _ rfl
    have p2 := rx1.c 0 _ rfl
    have r0 := rs1.c 0 _ rfl
    have r1 := rs1.c 1 _ rfl
    have r2 := rs1.f 0
    have r3 := rs1.f 1
    go_wp2_with fail
    refine bodyPost_ret (v := .tuple #[.agg #[.int .i64 0, .slice none 0 0], .int .i64 0, .bool false]) (by simp [results, Try.results49, go_sem, r0, r1]) rfl ⟨rfl, ?_⟩
    exact (hB1.setCell (p := ⟨w.heap.size + 2, 0, none⟩) (by show _ ≤ w.heap.size + 2; omega) _).setCell (p := ⟨w.heap.size + 2, 1, none⟩) (by show _ ≤ w.heap.size + 2; omega) _

theorem vpick_c (V : Int) (a ar : Option Addr) (b off N c rb ro n cr : Nat) (S F : Nat → Int) (R : Nat → Bool) (w : World) (T : TagsAt w a b off N S F) (hN : N ≤ 1000) (BR : BoolsAt w ar rb ro n R) :
    Calls Try.prog 49 #[.agg #[.int .i64 V, .slice a N c], .slice ar n cr] w (PickP (pickR V N S F n R) w) := by
  unfold pickR
  by_cases hok : pickOk V N S F n R
  · rw [if_pos hok]
    obtain ⟨h1, rfl, h3⟩ := hok
    have hlt := leastK_lt S R n
    obtain ⟨k, hk⟩ : ∃ k : Nat, leastK S R n = (k : Int) := ⟨(leastK S R n).toNat, by omega⟩
    rw [hk, Int.toNat_natCast]
    exact vpick_ok V a ar b off n c rb ro cr k S F R w T h1 BR hk (by omega)
  · rw [if_neg hok]
    refine (vpick_no V a ar b off N c rb ro n cr S F R w T hN BR ?_).mono fun e w' h => pickP_no S F h
    by_cases h1 : VOk V N S F
    · by_cases h2 : n = N
      · exact .inr (.inr (Classical.byContradiction fun q => hok ⟨h1, h2, by omega⟩))
      · exact .inr (.inl h2)
    · exact .inl h1
end Go.Proofs.Ytkefkophlhcbiaa
