/- Are two packets the same? (both answers) -/
import Derived.Test.YthahlfabcjnkhaaQ9
import Derived.Test.YthahlfabcjnkhaaPkBack
namespace Go.Proofs.Ythahlfabcjnkhaa
open Go.ChangeShapes Go.WideShapes Go.ChangeAt Go.RowKit
set_option linter.unusedVariables false
set_option linter.unusedSimpArgs false
open Pk BigFrame Fq

namespace Fq
/-- A load in memory. -/
def LoadAt (w : World) (a : Option Addr) (n cap : Nat) (f : Nat → Nat) : Prop := n ≤ cap ∧ cap ≤ 9223372036854775807 ∧ (0 < n → ∃ b off, a = some ⟨b, off, none⟩ ∧ b < w.heap.size ∧ BytesAt w b off n f)
theorem LoadAt.below {w u : World} {a : Option Addr} {n cap : Nat} {f : Nat → Nat} (h : LoadAt w a n cap f) (k : Below w.heap.size w u) : LoadAt u a n cap f :=
  ⟨h.1, h.2.1, fun hp => by
    obtain ⟨b, off, h1, h2, h3⟩ := h.2.2 hp
    exact ⟨b, off, h1, by have := k.size; omega, fun i hi => ⟨(k.cell (p := ⟨b, off + i, none⟩) h2).trans (h3 i hi).1, (h3 i hi).2⟩⟩⟩
/-- The same bytes? -/
def eqL (n1 : Nat) (f1 : Nat → Nat) (n2 : Nat) (f2 : Nat → Nat) : Bool := decide (n1 = n2 ∧ ∀ i, i < n1 → f1 i = f2 i)
theorem bstr_eq {n1 n2 : Nat} {f1 f2 : Nat → Nat} (h1 : ∀ i, i < n1 → f1 i < 256) (h2 : ∀ i, i < n2 → f2 i < 256) : bstr n1 f1 = bstr n2 f2 ↔ (n1 = n2 ∧ ∀ i, i < n1 → f1 i = f2 i) := by
  constructor
  · intro h
    have hs : (bstr n1 f1).size = (bstr n2 f2).size := by rw [h]
    unfold bstr at hs
    rw [strOfNums_size, strOfNums_size] at hs
    simp at hs
    refine ⟨hs, fun i hi => ?_⟩
    have hd : (bstr n1 f1).data.toList = (bstr n2 f2).data.toList := by rw [h]
    unfold bstr at hd
    rw [strOfNums_data, strOfNums_data] at hd
    have h3 := congrArg (fun l => l[i]?) hd
    simp [hi, show i < n2 by omega] at h3
    have h4 := congrArg UInt8.toNat h3
    simp at h4
    have := h1 i hi
    have := h2 i (by omega)
    omega
  · rintro ⟨rfl, h⟩
    unfold bstr
    congr 2
    exact List.map_congr_left (fun i hi => h i (by simpa using hi))
end Fq

set_option maxRecDepth 100000 in
set_option maxHeartbeats 2000000 in
theorem equal_c (a1 : Option Addr) (n1 c1 : Nat) (f1 : Nat → Nat) (a2 : Option Addr) (n2 c2 : Nat) (f2 : Nat → Nat) (w : World) (h1 : LoadAt w a1 n1 c1 f1) (h2 : LoadAt w a2 n2 c2 f2) :
    Calls Try.prog 119 #[.slice a1 n1 c1, .slice a2 n2 c2] w fun e w' => e = .returned (.bool (eqL n1 f1 n2 f2)) ∧ Below w.heap.size w w' := by
  have b1 : (n1 : Int) ≤ 9223372036854775807 := by have := h1.1; have := h1.2.1; omega
  by_cases hn : n1 = n2
  · subst hn
    go_enter Try.func119, Try.ntmps119
    go_wp2_with fail
    go_loopw [13] (fun i wr => ∃ k : Nat, k ≤ n1 ∧ i = .int .i64 (k : Nat) ∧ (∀ j, j < k → f1 j = f2 j) ∧ Below w.heap.size w wr) (fun i _ => n1 - (intOf i).toNat)
    case atStart => exact ⟨0, by omega, rfl, fun j hj => absurd hj (by omega), Below.refl _ _⟩
    case round =>
      obtain ⟨k, hk, rfl, hsame, hB⟩ := hrel
      by_cases hlt : k < n1
      · have hlt' : (k : Int) < (n1 : Int) := by omega
        obtain ⟨g1, o1, rfl, _, e1⟩ := (h1.below hB).2.2 (by omega)
        obtain ⟨g2, o2, rfl, _, e2⟩ := (h2.below hB).2.2 (by omega)
        have x1 := (e1 k hlt).1
        have x2 := (e2 k hlt).1
        clear e1 e2
        replace hsame := Lib.hid hsame
        by_cases hf : f1 k = f2 k
        · have hf' := Lib.hid hf
          rw [hf] at x1
          clear hf
          go_wp2_with fail
          go_big_quiet (fail)
          go_wp2_with fail
          go_roundw
          case rel => exact ⟨k + 1, by omega, by simp, fun j hj => by
            by_cases hjk : j = k
            · subst hjk; exact hf'.out
            · exact hsame.out j (by omega), bDrew hB nq⟩
          case measure => simp [intOf]; omega
        · have hE : eqL n1 f1 n1 f2 = false := by unfold eqL; exact decide_eq_false (fun hh => hf (hh.2 k hlt))
          have hfb : (((f1 k : Nat) : Int) != ((f2 k : Nat) : Int)) = true := by simp; omega
          replace hE := Lib.hid hE
          go_wp2_with fail
          go_big_quiet (fail)
          go_wp2_with fail
          go_ret
          exact ⟨by rw [hE.out]; rfl, bDrew hB nq⟩
      · obtain rfl : k = n1 := by omega
        have hE : eqL k f1 k f2 = true := by unfold eqL; exact decide_eq_true ⟨rfl, hsame⟩
        replace hE := Lib.hid hE
        clear hsame
        go_wp2_with fail
        go_ret
        exact ⟨by rw [hE.out]; rfl, hB⟩
  · have hE : eqL n1 f1 n2 f2 = false := by unfold eqL; exact decide_eq_false (fun hh => hn hh.1)
    have hnb : (((n1 : Nat) : Int) != ((n2 : Nat) : Int)) = true := by simp; omega
    rw [hE]
    clear hE
    go_enter Try.func119, Try.ntmps119
    go_wp2_with fail
    go_ret
    exact ⟨rfl, Below.refl _ _⟩
end Go.Proofs.Ythahlfabcjnkhaa
