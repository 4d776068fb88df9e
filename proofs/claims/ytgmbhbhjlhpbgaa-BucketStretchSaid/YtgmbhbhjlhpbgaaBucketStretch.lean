/- The walk of the statement BucketStretch of layer 16 (bucket): it ends in 'true', and nothing that lay there is written. -/
import Derived.Test.YtgmbhbhjlhpbgaaBucketCap
import Derived.Test.YtgmbhbhjlhpbgaaOpen
namespace Go.Proofs.Ytgmbhbhjlhpbgaa
open Go.ChangeShapes Go.WideShapes Go.ChangeAt Go.RowKit
set_option linter.unusedVariables false
set_option linter.unusedSimpArgs false
attribute [local go_sem] max_fold min_fold
open Bk

namespace Bk
/-- What holds ahead of each round: bucket and what is out are at most the burst; what was taken and the bucket are at most burst and rate. -/
structure StInv (r bu b out ticks taken : Int) (counts : Bool) (i : Nat) : Prop where
  b0 : 0 ≤ b
  o0 : 0 ≤ out
  bo : b + 1000 * out ≤ 1000 * bu
  t0 : 0 ≤ ticks
  t1 : ticks ≤ 1073741824 * i
  k0 : 0 ≤ taken
  kt : 1000 * taken + b ≤ 1000 * bu + r * ticks
  cz : counts = false → ticks = 0 ∧ taken = 0

theorem mul_ticks {r t : Int} {i : Nat} (h0 : 0 ≤ r) (h1 : r ≤ 1000000) (t0 : 0 ≤ t) (t1 : t ≤ 1073741824 * i) (hi : i ≤ 101) : 0 ≤ r * t ∧ r * t ≤ 108447924224000000 :=
  ⟨Int.mul_nonneg h0 t0, by have := Int.mul_le_mul h1 (show t ≤ 108447924224 by omega) t0 (by omega); omega⟩

/-- Behind a credit. -/
theorem StInv.credit {r bu b out ticks taken t : Int} {counts : Bool} {i : Nat} (h : StInv r bu b out ticks taken counts i) (hr : 0 ≤ r) (hr' : r ≤ 1000000) (hb : 0 ≤ bu) (hb' : bu ≤ 1000000) (ht : 0 ≤ t) (ht' : t ≤ 1073741824) :
    (counts = true → StInv r bu (credit b r bu out t) out (ticks + t) taken true (i + 1)) ∧ (∀ c', counts = false → StInv r bu (credit b r bu out t) out ticks taken c' (i + 1)) := by
  obtain ⟨b0, o0, bo, t0, t1, k0, kt, cz⟩ := h
  have hw : 0 ≤ Bk.credit b r bu out t ∧ (0 < Bk.credit b r bu out t → out ≤ bu ∧ Bk.credit b r bu out t + 1000 * out ≤ 1000 * bu) := cut_within _ _ _ hb hb' o0
  have hle : Bk.credit b r bu out t ≤ b + r * t := credit_le b0 (by omega) hr hr' ht (by omega)
  have hx : Bk.credit b r bu out t + 1000 * out ≤ 1000 * bu := by
    by_cases hp : 0 < Bk.credit b r bu out t
    · exact (hw.2 hp).2
    · have := hw.1; omega
  refine ⟨fun hc => ⟨hw.1, o0, hx, by omega, by omega, k0, ?_, fun h => by cases h⟩, fun c' hc => ⟨hw.1, o0, hx, t0, by omega, k0, ?_, fun _ => cz hc⟩⟩
  · rw [Int.mul_add]; omega
  · obtain ⟨e1, e2⟩ := cz hc
    rw [e1, e2]; omega

/-- Behind a take. -/
theorem StInv.take {r bu b out ticks taken s : Int} {counts : Bool} {i : Nat} (h : StInv r bu b out ticks taken counts i) (h0 : 0 ≤ s) (h1 : s ≤ whole b) :
    (counts = true → StInv r bu (b - 1000 * s) (out + s) ticks (taken + s) true i) ∧ (counts = false → StInv r bu (b - 1000 * s) (out + s) ticks taken false i) := by
  obtain ⟨b0, o0, bo, t0, t1, k0, kt, cz⟩ := h
  have hs : 1000 * s ≤ b := by unfold whole at h1; omega
  exact ⟨fun hc => ⟨by omega, by omega, by omega, t0, t1, by omega, by omega, fun h => by cases h⟩, fun hc => ⟨by omega, by omega, by omega, t0, t1, k0, by omega, fun _ => cz hc⟩⟩

theorem StInv.spend {r bu b out ticks taken : Int} {counts : Bool} {i : Nat} (h : StInv r bu b out ticks taken counts i) (s : Int) :
    StInv r bu b (out - min (max s 0) out) ticks taken counts i := by
  obtain ⟨b0, o0, bo, t0, t1, k0, kt, cz⟩ := h
  exact ⟨b0, by omega, by omega, t0, t1, k0, kt, cz⟩
end Bk

/-- The numbers of row i of a slice of moves that lies at b, off. -/
def MoveAt (w : World) (b off : Nat) (f : Nat → Nat → Int) (i : Nat) : Prop :=
  w.cell? ⟨b, off + i * 3, none⟩ = some (.int .i64 (f i 0)) ∧ w.cell? ⟨b, off + i * 3 + 1, none⟩ = some (.int .i64 (f i 1)) ∧ w.cell? ⟨b, off + i * 3 + 2, none⟩ = some (.int .i64 (f i 2)) ∧
    (Lit.int .i64 (f i 0)).wf = true ∧ (Lit.int .i64 (f i 1)).wf = true ∧ (Lit.int .i64 (f i 2)).wf = true

set_option maxRecDepth 100000 in
set_option maxHeartbeats 4000000 in
theorem stretch_good (w0 : World) (a0 a1 a2 a4 : Int) (b : Nat) (off len cap : Nat) (f : Nat → Nat → Int) (hb : b < w0.heap.size) (hl : len ≤ 100) (hlc : len ≤ cap)
    (hm : mayB a1 a2 = true) (hf : ∀ i, i < len → MoveAt w0 b off f i) :
    Calls Try.prog 7 #[.int .i64 a0, .int .i64 a1, .int .i64 a2, .slice (some ⟨b, off, none⟩) len cap, .int .i64 a4] w0 fun e w' => e = .returned (.bool true) ∧ Below w0.heap.size w0 w' := by
  obtain ⟨b1, b2, b3, b4⟩ := may_bounds hm
  have HF := Lib.hid hf
  clear hf
  have hl' : ((len : Int) ≤ 100) := by omega
  go_enter Try.func7, Try.ntmps7
  go_wp2_with (first | (go_at_call 32; refine (may_c _ _ _).mono ?_; rintro e w' ⟨rfl, rfl⟩) | (go_at_call 36; refine (cut_c _ _ _ _).mono ?_; rintro e w' ⟨rfl, rfl⟩))
  go_loopw [0, 11, 12, 13, 14, 35] (fun xb xo xt xk xc i wr => ∃ (k : Nat) (vb vo vt vk : Int) (c : Bool), k ≤ len ∧ i = .int .i64 k ∧ xb = .int .i64 vb ∧ xo = .int .i64 vo ∧ xt = .int .i64 vt ∧ xk = .int .i64 vk ∧ xc = .bool c ∧ StInv a1 a2 vb vo vt vk c k ∧ Below w0.heap.size w0 wr) (fun _ _ _ _ _ i _ => len - (intOf i).toNat)
  case atStart =>
    have hw := cut_within a0 a2 0 b3 b4 (by omega)
    refine ⟨0, _, _, _, _, _, by omega, rfl, rfl, rfl, rfl, rfl, rfl, ⟨hw.1, by omega, ?_, by omega, by omega, by omega, ?_, fun _ => ⟨rfl, rfl⟩⟩, Below.refl _ _⟩
    · by_cases hp : 0 < cut a0 a2 0
      · have := (hw.2 hp).2; omega
      · have := hw.1; omega
    · by_cases hp : 0 < cut a0 a2 0
      · have := (hw.2 hp).2; omega
      · have := hw.1; omega
  case round =>
    obtain ⟨k, vb, vo, vt, vk, c, hk, rfl, rfl, rfl, rfl, rfl, rfl, hI, hB⟩ := hrel
    by_cases hlt : k < len
    · obtain ⟨c0, c1, c2, g0, g1, g2⟩ := HF.out k hlt
      replace c0 := (hB.cell (p := ⟨b, _, none⟩) hb).trans c0
      replace c1 := (hB.cell (p := ⟨b, _, none⟩) hb).trans c1
      replace c2 := (hB.cell (p := ⟨b, _, none⟩) hb).trans c2
      have hg0 := bounds_i64 g0
      have hg1 := bounds_i64 g1
      have hg2 := bounds_i64 g2
      clear g0 g1 g2
      have ht0 : 0 ≤ min (max (f k 0) 0) 1073741824 := by omega
      have ht1 : min (max (f k 0) 0) 1073741824 ≤ 1073741824 := by omega
      obtain ⟨hC1, hC2⟩ := hI.credit b1 b2 b3 b4 ht0 ht1
      have hsz := hB.size
      cases c with
      | true =>
        have hJ := hC1 rfl
        clear hC1 hC2
        have hx1 : Bk.credit vb a1 a2 vo (min (max (f k 0) 0) 1073741824) ≤ 9223372036854775807 := by have := hJ.bo; have := hJ.o0; omega
        have hx0 : -9223372036854775808 ≤ Bk.credit vb a1 a2 vo (min (max (f k 0) 0) 1073741824) := by have := hJ.b0; omega
        have q1 : 0 ≤ vt + min (max (f k 0) 0) 1073741824 := hJ.t0
        have q2 : vt + min (max (f k 0) 0) 1073741824 ≤ 108447924224 := by have := hJ.t1; omega
        obtain ⟨q4, q5⟩ := mul_ticks b1 b2 hJ.t0 hJ.t1 (by omega)
        have q6 := hI.o0
        have q7 : vo ≤ 1000000 := by have := hI.bo; have := hI.b0; omega
        have q8 := hJ.k0
        have q9 : 1000 * vk ≤ 1000 * a2 + a1 * (vt + min (max (f k 0) 0) 1073741824) := by have := hJ.kt; have := hJ.b0; omega
        by_cases ct : 0 ≤ f k 1 ∧ f k 1 ≤ whole (Bk.credit vb a1 a2 vo (min (max (f k 0) 0) 1073741824))
        · obtain ⟨ct1, ct2⟩ := ct
          have hT := (hJ.take ct1 ct2).1 rfl
          have p0 : 0 ≤ vo + f k 1 := hT.o0
          have p1 : vo + f k 1 ≤ 1000000 := by have := hT.bo; have := hT.b0; omega
          have p3 : 1000 * (vk + f k 1) ≤ 1000 * a2 + a1 * (vt + min (max (f k 0) 0) 1073741824) := by have := hT.kt; have := hT.b0; omega
          have hS := hT.spend (f k 2)
          have p4 : 0 ≤ vo + f k 1 - min (max (f k 2) 0) (vo + f k 1) := hS.o0
          have p5 : vo + f k 1 - min (max (f k 2) 0) (vo + f k 1) ≤ 1000000 := by omega
          have p6 : 0 ≤ vk + f k 1 := hT.k0
          clear hI hT hJ
          go_wp2_with (first | (go_at_call 27; refine (credit_c _ _ _ _ _ _).mono ?_; rintro e w1 ⟨rfl, hb1⟩; have d1 := hb1.cell (p := ⟨wr.heap.size, 1, none⟩) (by simp); have d2 := hb1.cell (p := ⟨wr.heap.size, 2, none⟩) (by simp)) | (go_at_call 25; refine (take_ok _ _ _ ct1 ct2 hx0 hx1).mono ?_; rintro e w' ⟨rfl, rfl⟩))
          go_roundw
          case rel => exact ⟨k + 1, _, _, _, _, _, by omega, by go_num, rfl, rfl, rfl, rfl, rfl, hS, belowNext (hB.alloc hsz _) hb1 (Nat.le_refl _)⟩
          case measure => simp [intOf]; omega
        · have hn : f k 1 < 0 ∨ whole (Bk.credit vb a1 a2 vo (min (max (f k 0) 0) 1073741824)) < f k 1 := by omega
          replace hn := Lib.hid hn
          clear ct
          have hS := hJ.spend (f k 2)
          have p4 : 0 ≤ vo - min (max (f k 2) 0) vo := hS.o0
          have p5 : vo - min (max (f k 2) 0) vo ≤ 1000000 := by omega
          clear hI hJ
          go_wp2_with (first | (go_at_call 27; refine (credit_c _ _ _ _ _ _).mono ?_; rintro e w1 ⟨rfl, hb1⟩; have d1 := hb1.cell (p := ⟨wr.heap.size, 1, none⟩) (by simp); have d2 := hb1.cell (p := ⟨wr.heap.size, 2, none⟩) (by simp)) | (go_at_call 25; refine (take_no _ _ _ hn.out hx1).mono ?_; rintro e w' ⟨rfl, rfl⟩))
          go_roundw
          case rel => exact ⟨k + 1, _, _, _, _, _, by omega, by go_num, rfl, rfl, rfl, rfl, rfl, hS, belowNext (hB.alloc hsz _) hb1 (Nat.le_refl _)⟩
          case measure => simp [intOf]; omega
      | false =>
        by_cases hfrom : a4 ≤ (k : Int)
        · have hJ := hC2 true rfl
          clear hC1 hC2
          have hx1 : Bk.credit vb a1 a2 vo (min (max (f k 0) 0) 1073741824) ≤ 9223372036854775807 := by have := hJ.bo; have := hJ.o0; omega
          have hx0 : -9223372036854775808 ≤ Bk.credit vb a1 a2 vo (min (max (f k 0) 0) 1073741824) := by have := hJ.b0; omega
          have q1 : 0 ≤ vt := hJ.t0
          have q2 : vt ≤ 108447924224 := by have := hJ.t1; omega
          obtain ⟨q4, q5⟩ := mul_ticks b1 b2 hJ.t0 hJ.t1 (by omega)
          have q6 := hI.o0
          have q7 : vo ≤ 1000000 := by have := hI.bo; have := hI.b0; omega
          have q8 := hJ.k0
          have q9 : 1000 * vk ≤ 1000 * a2 + a1 * (vt) := by have := hJ.kt; have := hJ.b0; omega
          by_cases ct : 0 ≤ f k 1 ∧ f k 1 ≤ whole (Bk.credit vb a1 a2 vo (min (max (f k 0) 0) 1073741824))
          · obtain ⟨ct1, ct2⟩ := ct
            have hT := (hJ.take ct1 ct2).1 rfl
            have p0 : 0 ≤ vo + f k 1 := hT.o0
            have p1 : vo + f k 1 ≤ 1000000 := by have := hT.bo; have := hT.b0; omega
            have p3 : 1000 * (vk + f k 1) ≤ 1000 * a2 + a1 * (vt) := by have := hT.kt; have := hT.b0; omega
            have hS := hT.spend (f k 2)
            have p4 : 0 ≤ vo + f k 1 - min (max (f k 2) 0) (vo + f k 1) := hS.o0
            have p5 : vo + f k 1 - min (max (f k 2) 0) (vo + f k 1) ≤ 1000000 := by omega
            have p6 : 0 ≤ vk + f k 1 := hT.k0
            clear hI hT hJ
            go_wp2_with (first | (go_at_call 27; refine (credit_c _ _ _ _ _ _).mono ?_; rintro e w1 ⟨rfl, hb1⟩; have d1 := hb1.cell (p := ⟨wr.heap.size, 1, none⟩) (by simp); have d2 := hb1.cell (p := ⟨wr.heap.size, 2, none⟩) (by simp)) | (go_at_call 25; refine (take_ok _ _ _ ct1 ct2 hx0 hx1).mono ?_; rintro e w' ⟨rfl, rfl⟩))
            go_roundw
            case rel => exact ⟨k + 1, _, _, _, _, _, by omega, by go_num, rfl, rfl, rfl, rfl, rfl, hS, belowNext (hB.alloc hsz _) hb1 (Nat.le_refl _)⟩
            case measure => simp [intOf]; omega
          · have hn : f k 1 < 0 ∨ whole (Bk.credit vb a1 a2 vo (min (max (f k 0) 0) 1073741824)) < f k 1 := by omega
            replace hn := Lib.hid hn
            clear ct
            have hS := hJ.spend (f k 2)
            have p4 : 0 ≤ vo - min (max (f k 2) 0) vo := hS.o0
            have p5 : vo - min (max (f k 2) 0) vo ≤ 1000000 := by omega
            clear hI hJ
            go_wp2_with (first | (go_at_call 27; refine (credit_c _ _ _ _ _ _).mono ?_; rintro e w1 ⟨rfl, hb1⟩; have d1 := hb1.cell (p := ⟨wr.heap.size, 1, none⟩) (by simp); have d2 := hb1.cell (p := ⟨wr.heap.size, 2, none⟩) (by simp)) | (go_at_call 25; refine (take_no _ _ _ hn.out hx1).mono ?_; rintro e w' ⟨rfl, rfl⟩))
            go_roundw
            case rel => exact ⟨k + 1, _, _, _, _, _, by omega, by go_num, rfl, rfl, rfl, rfl, rfl, hS, belowNext (hB.alloc hsz _) hb1 (Nat.le_refl _)⟩
            case measure => simp [intOf]; omega
        · have hJ := hC2 false rfl
          clear hC1 hC2
          have hx1 : Bk.credit vb a1 a2 vo (min (max (f k 0) 0) 1073741824) ≤ 9223372036854775807 := by have := hJ.bo; have := hJ.o0; omega
          have hx0 : -9223372036854775808 ≤ Bk.credit vb a1 a2 vo (min (max (f k 0) 0) 1073741824) := by have := hJ.b0; omega
          have q1 : 0 ≤ vt := hJ.t0
          have q2 : vt ≤ 108447924224 := by have := hJ.t1; omega
          obtain ⟨q4, q5⟩ := mul_ticks b1 b2 hJ.t0 hJ.t1 (by omega)
          have q6 := hI.o0
          have q7 : vo ≤ 1000000 := by have := hI.bo; have := hI.b0; omega
          have q8 := hJ.k0
          have q9 : 1000 * vk ≤ 1000 * a2 + a1 * (vt) := by have := hJ.kt; have := hJ.b0; omega
          by_cases ct : 0 ≤ f k 1 ∧ f k 1 ≤ whole (Bk.credit vb a1 a2 vo (min (max (f k 0) 0) 1073741824))
          · obtain ⟨ct1, ct2⟩ := ct
            have hT := (hJ.take ct1 ct2).2 rfl
            have p0 : 0 ≤ vo + f k 1 := hT.o0
            have p1 : vo + f k 1 ≤ 1000000 := by have := hT.bo; have := hT.b0; omega
            have p3 : 1000 * (vk) ≤ 1000 * a2 + a1 * (vt) := by have := hT.kt; have := hT.b0; omega
            have hS := hT.spend (f k 2)
            have p4 : 0 ≤ vo + f k 1 - min (max (f k 2) 0) (vo + f k 1) := hS.o0
            have p5 : vo + f k 1 - min (max (f k 2) 0) (vo + f k 1) ≤ 1000000 := by omega
            have p6 : 0 ≤ vk := hT.k0
            clear hI hT hJ
            go_wp2_with (first | (go_at_call 27; refine (credit_c _ _ _ _ _ _).mono ?_; rintro e w1 ⟨rfl, hb1⟩; have d1 := hb1.cell (p := ⟨wr.heap.size, 1, none⟩) (by simp); have d2 := hb1.cell (p := ⟨wr.heap.size, 2, none⟩) (by simp)) | (go_at_call 25; refine (take_ok _ _ _ ct1 ct2 hx0 hx1).mono ?_; rintro e w' ⟨rfl, rfl⟩))
            go_roundw
            case rel => exact ⟨k + 1, _, _, _, _, _, by omega, by go_num, rfl, rfl, rfl, rfl, rfl, hS, belowNext (hB.alloc hsz _) hb1 (Nat.le_refl _)⟩
            case measure => simp [intOf]; omega
          · have hn : f k 1 < 0 ∨ whole (Bk.credit vb a1 a2 vo (min (max (f k 0) 0) 1073741824)) < f k 1 := by omega
            replace hn := Lib.hid hn
            clear ct
            have hS := hJ.spend (f k 2)
            have p4 : 0 ≤ vo - min (max (f k 2) 0) vo := hS.o0
            have p5 : vo - min (max (f k 2) 0) vo ≤ 1000000 := by omega
            clear hI hJ
            go_wp2_with (first | (go_at_call 27; refine (credit_c _ _ _ _ _ _).mono ?_; rintro e w1 ⟨rfl, hb1⟩; have d1 := hb1.cell (p := ⟨wr.heap.size, 1, none⟩) (by simp); have d2 := hb1.cell (p := ⟨wr.heap.size, 2, none⟩) (by simp)) | (go_at_call 25; refine (take_no _ _ _ hn.out hx1).mono ?_; rintro e w' ⟨rfl, rfl⟩))
            go_roundw
            case rel => exact ⟨k + 1, _, _, _, _, _, by omega, by go_num, rfl, rfl, rfl, rfl, rfl, hS, belowNext (hB.alloc hsz _) hb1 (Nat.le_refl _)⟩
            case measure => simp [intOf]; omega
    · obtain rfl : k = len := by omega
      clear hI
      go_wp2_with (first | (go_at_call 31; refine (wakes16_c _).mono ?_; rintro e w3 ⟨rfl, hb3⟩))
      go_ret
      exact ⟨rfl, belowNext hB hb3 (Nat.le_refl _)⟩

theorem stretch_bad (w : World) (a0 a1 a2 a4 : Int) (a : Option Addr) (len cap : Nat) (hl : len ≤ 9223372036854775807) (h : mayB a1 a2 = false ∨ 100 < len) :
    Calls Try.prog 7 #[.int .i64 a0, .int .i64 a1, .int .i64 a2, .slice a len cap, .int .i64 a4] w fun e w' => e = .returned (.bool true) ∧ Below w.heap.size w w' := by
  by_cases hm : mayB a1 a2 = false
  · clear h
    go_enter Try.func7, Try.ntmps7
    go_wp2_with (first | (go_at_call 32; refine (may_c _ _ _).mono ?_; rintro e w' ⟨rfl, rfl⟩) | (go_at_call 31; refine (wakes16_c _).mono ?_; rintro e w3 ⟨rfl, hb3⟩))
    go_ret
    exact ⟨rfl, hb3⟩
  · have hm' : mayB a1 a2 = true := by simpa using hm
    have hl' : (100 : Int) < (len : Int) := by have := h.resolve_left hm; omega
    clear h hm
    go_enter Try.func7, Try.ntmps7
    go_wp2_with (first | (go_at_call 32; refine (may_c _ _ _).mono ?_; rintro e w' ⟨rfl, rfl⟩) | (go_at_call 31; refine (wakes16_c _).mono ?_; rintro e w3 ⟨rfl, hb3⟩))
    go_ret
    exact ⟨rfl, hb3⟩

set_option maxRecDepth 100000 in
theorem stretch_nil (w : World) (a0 a1 a2 a4 : Int) (a : Option Addr) (cap : Nat) (hm : mayB a1 a2 = true) :
    Calls Try.prog 7 #[.int .i64 a0, .int .i64 a1, .int .i64 a2, .slice a 0 cap, .int .i64 a4] w fun e w' => e = .returned (.bool true) ∧ Below w.heap.size w w' := by
  go_enter Try.func7, Try.ntmps7
  go_wp2_with (first | (go_at_call 32; refine (may_c _ _ _).mono ?_; rintro e w' ⟨rfl, rfl⟩) | (go_at_call 36; refine (cut_c _ _ _ _).mono ?_; rintro e w' ⟨rfl, rfl⟩))
  go_loop [35] (fun i => i = .int .i64 0) (fun i => 0)
  case atStart => rfl
  case round =>
    subst hrel
    go_wp2_with (first | (go_at_call 31; refine (wakes16_c _).mono ?_; rintro e w3 ⟨rfl, hb3⟩))
    go_ret
    exact ⟨rfl, hb3⟩

abbrev XT_LMove := Nat → Nat → Int
def Is_LMove (w : World) (v : Value) (f : XT_LMove) : Prop :=
  ∃ a len cap, v = .slice a len cap ∧ len ≤ cap ∧ cap ≤ 9223372036854775807 ∧ (0 < len → ∃ b off, a = some ⟨b, off, none⟩ ∧ b < w.heap.size ∧ ∀ i, i < len → MoveAt w b off f i)

theorem open_LMove {H : Type} {enc : TypeId × Value → H} {w : World} {r : Reach} {b0 : Nat} {v : Value} {d : DataW H} {p : List MemPlace} (hv : Value.okWide Try.prog w r b0 44 v) (h : DataW.Trod enc Try.prog w 0 (fun _ => true) true 44 v d p) :
    ∃ f, Is_LMove w v f := by
  obtain ⟨a, len, cap, rfl, hl, hm, hrow⟩ := open_rows Try.underlying44 Try.underlying46 (by kernel_rfl) (by kernel_rfl) hv h
  by_cases hp : 0 < len
  · obtain ⟨b, off, V, rfl, hb, hc⟩ := hrow hp (by simp)
    refine ⟨fun i j => intOf (V i j), _, len, cap, rfl, hl, by unfold maxLen at hm; exact hm, fun _ => ⟨b, off, rfl, hb, fun i hi => ?_⟩⟩
    have c0 := hc i (by omega) 0 _ rfl
    have c1 := hc i (by omega) 1 _ rfl
    have c2 := hc i (by omega) 2 _ rfl
    obtain ⟨c0, n0, y0, t0⟩ := c0
    obtain ⟨c1, n1, y1, t1⟩ := c1
    obtain ⟨c2, n2, y2, t2⟩ := c2
    obtain ⟨e0, f0⟩ := trod_int' Try.underlying3 t0
    obtain ⟨e1, f1⟩ := trod_int' Try.underlying3 t1
    obtain ⟨e2, f2⟩ := trod_int' Try.underlying3 t2
    rw [e0] at c0
    rw [e1] at c1
    rw [e2] at c2
    exact ⟨c0, c1, c2, f0, f1, f2⟩
  · exact ⟨fun _ _ => 0, a, len, cap, rfl, hl, by unfold maxLen at hm; exact hm, fun h => absurd h hp⟩

theorem bucketStretch_walk (w : World) (a0 : Int) (a1 : Int) (a2 : Int) (v3 : Value) (a3 : XT_LMove) (a4 : Int) (w0 : (Lit.int .i64 a0).wf = true) (w1 : (Lit.int .i64 a1).wf = true) (w2 : (Lit.int .i64 a2).wf = true) (w3 : Is_LMove w v3 a3) (w4 : (Lit.int .i64 a4).wf = true) :
    Calls Try.prog 7 #[.int .i64 a0, .int .i64 a1, .int .i64 a2, v3, .int .i64 a4] w fun e w' => e = .returned (.bool true) ∧ Below w.heap.size w w' := by
  obtain ⟨a, len, cap, rfl, hl, hm, hrow⟩ := w3
  by_cases h : mayB a1 a2 = false ∨ 100 < len
  · exact stretch_bad w a0 a1 a2 a4 a len cap (by omega) h
  · have hm' : mayB a1 a2 = true := by
      cases hh : mayB a1 a2 with
      | true => rfl
      | false => exact absurd (.inl hh) h
    have hl' : len ≤ 100 := Nat.le_of_not_lt fun hh => h (.inr hh)
    by_cases hp : 0 < len
    · obtain ⟨b, off, rfl, hb, hf⟩ := hrow hp
      exact stretch_good w a0 a1 a2 a4 b off len cap a3 hb hl' hl hm' hf
    · obtain rfl : len = 0 := by omega
      exact stretch_nil w a0 a1 a2 a4 a cap hm'
end Go.Proofs.Ytgmbhbhjlhpbgaa
