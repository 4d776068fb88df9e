/- The scheduler: what is told of a flow's head, in one. -/
import Derived.Test.YtkefkophlhcbiaaF11
import Derived.Test.YtkefkophlhcbiaaF12
namespace Go.Proofs.Ytkefkophlhcbiaa
open Go.ChangeShapes Go.WideShapes Go.ChangeAt Go.RowKit Go.Maps
set_option linter.unusedVariables false
set_option linter.unusedSimpArgs false
open BigFrame Pk Fq Vr Fa

namespace Fa
/-- A flow's cost is at most this. -/
def CM : Int := 138378240000
/-- The first m of one row, the others of another. -/
def mix (m : Nat) (A B : Nat → Int) : Nat → Int := fun i => if i < m then A i else B i
def mixb (m : Nat) (A B : Nat → Bool) : Nat → Bool := fun i => if i < m then A i else B i
theorem mix_zero (A B : Nat → Int) : mix 0 A B = B := funext fun i => by simp [mix]
theorem mixb_zero (A B : Nat → Bool) : mixb 0 A B = B := funext fun i => by simp [mixb]
theorem mix_succ (m : Nat) (A B : Nat → Int) : up (mix m A B) m (A m) = mix (m + 1) A B := funext fun i => by
  unfold up mix
  by_cases e : i = m
  · subst e; simp
  · rw [if_neg e]
    by_cases e2 : i < m
    · rw [if_pos e2, if_pos (by omega)]
    · rw [if_neg e2, if_neg (by omega)]
theorem mixb_succ (m : Nat) (A B : Nat → Bool) : upb (mixb m A B) m (A m) = mixb (m + 1) A B := funext fun i => by
  unfold upb mixb
  by_cases e : i = m
  · subst e; simp
  · rw [if_neg e]
    by_cases e2 : i < m
    · rw [if_pos e2, if_pos (by omega)]
    · rw [if_neg e2, if_neg (by omega)]
theorem mix_at (m : Nat) (A B : Nat → Int) : mix m A B m = B m := by simp [mix]
theorem mixb_at (m : Nat) (A B : Nat → Bool) : mixb m A B m = B m := by simp [mixb]
theorem mix_lt {m i : Nat} (A B : Nat → Int) (h : i < m) : mix m A B i = A i := by simp [mix, h]
theorem mixb_lt {m i : Nat} (A B : Nat → Bool) (h : i < m) : mixb m A B i = A i := by simp [mixb, h]
/-- What is laid into a flow's tags. -/
def S1 (V ALL : Int) (W Z : Nat → Int) (D : Nat → Bool) (S F h : Nat → Int) : Nat → Int := fun i => hrS V (S i) (F i) (Z i) (h i) (costI (h i) (W i) ALL) (D i)
def F1 (V ALL : Int) (W Z : Nat → Int) (D : Nat → Bool) (S F h : Nat → Int) : Nat → Int := fun i => hrF V (S i) (F i) (Z i) (h i) (costI (h i) (W i) ALL) (D i)
theorem cost_pos {n w all : Int} (h1 : 1 ≤ n) (h2 : n ≤ 1500) (h3 : 1 ≤ w) (h4 : w ≤ 16) (h5 : w ≤ all) (h6 : all ≤ 128) : 1 ≤ costI n w all ∧ costI n w all ≤ CM := by
  have h := costI_ok h1 h2 h3 h4 h5 h6
  rcases costI_bd n w all with e | e
  · rw [h] at e
    have hq : 1 ≤ 720720 / w := by
      have : 720720 / (16 : Int) ≤ 720720 / w := by
        have hw : w = 1 ∨ w = 2 ∨ w = 3 ∨ w = 4 ∨ w = 5 ∨ w = 6 ∨ w = 7 ∨ w = 8 ∨ w = 9 ∨ w = 10 ∨ w = 11 ∨ w = 12 ∨ w = 13 ∨ w = 14 ∨ w = 15 ∨ w = 16 := by omega
        rcases hw with rfl | rfl | rfl | rfl | rfl | rfl | rfl | rfl | rfl | rfl | rfl | rfl | rfl | rfl | rfl | rfl <;> decide
      omega
    have hp : 0 < n * all * (720720 / w) := Int.mul_pos (Int.mul_pos (by omega) (by omega)) (by omega)
    omega
  · exact e
/-- What is told stays in its bounds. -/
theorem hr_bd {V s f z n c : Int} {d : Bool} (hs : 0 ≤ s) (hf : s ≤ f) (hc : n = 0 ∨ 1 ≤ c) (hV : 0 ≤ V) : 0 ≤ hrS V s f z n c d ∧ hrS V s f z n c d ≤ hrF V s f z n c d := by
  unfold hrS hrF hrF1
  cases d <;> simp <;> (repeat' split) <;> omega
theorem hr_up {V s f z n c M : Int} {d : Bool} (hf : s ≤ f) (hc : c ≤ CM) (hV : V ≤ M) (hM : f ≤ M) (hc0 : 0 ≤ c) : hrF V s f z n c d ≤ M + CM := by
  unfold CM at *
  unfold hrF hrF1
  cases d <;> simp <;> (repeat' split) <;> omega
end Fa

set_option maxHeartbeats 1000000 in
theorem hear_c {w : World} {f lb cl tb ct N : Nat} {ALL V : Int} {W Z : Nat → Int} {D : Nat → Bool} {S F : Nat → Int} (h : FD w f lb cl tb ct N ALL V W Z D S F) (k : Nat) (hk : k < N) (n : Int)
    (hn0 : 0 ≤ n) (hn1 : n ≤ 1500) (hz0 : 0 ≤ Z k) (hz1 : D k = true → 0 < Z k) (hv : VOk V N S F) (hF : F k ≤ 1000000000000000000) (hV : V ≤ 1000000000000000000) (hw1 : 1 ≤ W k) (hw2 : W k ≤ 16) (hw3 : W k ≤ ALL) (hw4 : ALL ≤ 128) :
    Calls Try.prog 48 #[.pointer (some ⟨f, 0, none⟩), .int .i64 (k : Nat), .int .i64 n] w
      (HearQ tb f lb cl N ALL V W (up Z k n) (upb D k false) (up S k (hrS V (S k) (F k) (Z k) n (costI n (W k) ALL) (D k))) (up F k (hrF V (S k) (F k) (Z k) n (costI n (W k) ALL) (D k))) [f, lb] w) := by
  have hS := (hv.2.2.2 k hk)
  by_cases hn : n = 0
  · subst hn
    by_cases hz : 0 < Z k
    · cases hd : D k with
      | true =>
        have := hear_b h k hk 0 (Z k) true rfl hd hz
        simpa [hrS, hrF, hrF1, up_same] using this
      | false =>
        have := hear_ca h k hk 0 (Z k) false rfl hd hz
        have hz2 : ¬ Z k = 0 := by omega
        simpa [hrS, hrF, hrF1, up_same, hz, hz2] using this
    · have := hear_a h k hk 0 (Z k) (D k) rfl rfl hz
      simpa [hrS, hrF, hrF1, up_same, hz] using this
  · have hc := cost_pos (n := n) (w := W k) (all := ALL) (by omega) hn1 hw1 hw2 hw3 hw4
    unfold CM at hc
    have hk0 : (0 : Int) ≤ (k : Int) ∧ (k : Int) < (N : Int) := by omega
    cases hd : D k with
    | true =>
      have hz := hz1 hd
      have := hear_nb h k hk n (Z k) true rfl hd hz hn ⟨hv, hk0.1, hk0.2, by omega, by omega⟩
      simpa [hrS, hrF, hrF1, hn] using this
    | false =>
      by_cases hz : 0 < Z k
      · by_cases he : Z k = n
        · have := hear_s h k hk n (Z k) false rfl hd hz (by omega)
          rw [he] at this
          simpa [hrS, hrF, hrF1, hn, he, up_same] using this
        · have hv2 : VOk V N S (up F k (S k)) := ⟨hv.1, hv.2.1, hv.2.2.1, fun i hi => by
            have := hv.2.2.2 i hi
            unfold up
            split
            · rename_i e; subst e; omega
            · exact this⟩
          have := hear_cw h k hk n (Z k) false rfl hd hz hn he ⟨hv2, hk0.1, hk0.2, by omega, by omega⟩
          simpa [hrS, hrF, hrF1, hn, he, hz] using this
      · have he : ¬ Z k = n := by omega
        have := hear_w h k hk n (Z k) false rfl hd hz hn he ⟨hv, hk0.1, hk0.2, by omega, by omega⟩
        simpa [hrS, hrF, hrF1, hn, he, hz] using this
end Go.Proofs.Ytkefkophlhcbiaa
