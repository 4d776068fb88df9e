/- What layer 23 says of a packet without a load. -/
import Derived.Test.YthahlfabcjnkhaaPk6
import Derived.Laws.BytesArg
namespace Go.Proofs.Ythahlfabcjnkhaa
open Go.ChangeShapes Go.WideShapes Go.ChangeAt Go.RowKit
set_option linter.unusedVariables false
set_option linter.unusedSimpArgs false
open Pk BigFrame

namespace Pk
theorem own_belowP {base : Nat} {w w' : World} {e : TypeId} {size : Nat} {v : Value} {n : Nat} {xs : List Value} (h : w.ownsRow base e size v n xs) (k : Below w.heap.size w w') : w'.ownsRow base e size v n xs := by
  refine ⟨h.1, ?_⟩
  rcases h.2 with hh | ⟨g, cap, cur, h1, h2, h3, h4⟩
  · exact .inl hh
  · exact .inr ⟨g, cap, cur, h1, h2, (k.block g (Array.getElem?_eq_some_iff.1 h3).1).trans h3, h4⟩
theorem conv_row {W : World} {base n c : Nat} {a : Option Addr} {l : List Nat} (hown : W.ownsRow base 5 1 (.slice a n c) n (bvals l)) :
    (convert 23 9 (.slice a n c)).run Try.prog W = .ok (.string (strOfNums (l.map fun x : Nat => (x : Int)))) W := by
  have hlen : l.length = n := by have := hown.1; rw [bvals_len] at this; omega
  rcases hown.2 with ⟨hh, hn⟩ | ⟨g, cap, cur, hh, _⟩
  · cases hh
    obtain rfl : l = [] := List.eq_nil_of_length_eq_zero hlen
    exact run_convert_bytes_nil W 23 5 Try.underlying23 Try.underlying5 _ _ _ Try.underlying9
  · cases hh
    refine run_convert_bytes_arg W 23 5 Try.underlying23 Try.underlying5 g 0 n c _ (by simp [hlen]) (fun i hi => ?_) _ Try.underlying9
    rw [Nat.zero_add, hown.cellAt i (by omega), bvals_at _ _ (by omega)]
    simp [List.getD, hlen, hi]
def L0 : List Nat := [105, 1, 0, 0, 0, 0, 150, 254]
theorem pk0 : pkL 1 0 0 (pkC 1 0 0 (fun _ => 0)) (fun _ => 0) = L0 := by decide
theorem str0 : strOfNums (L0.map fun x : Nat => (x : Int)) = { data := #[105, 1, 0, 0, 0, 0, 150, 254] } := by rfl
def T3 (i : Nat) : Int := if i = 0 then 2 else 1
end Pk

set_option maxRecDepth 100000 in
set_option maxHeartbeats 4000000 in
theorem wakes23_c (w : World) : Calls Try.prog 20 #[] w fun e w' => e = .returned (.bool true) ∧ Below w.heap.size w w' := by
  obtain ⟨i0, hi0, hz0, hz1, hz2⟩ := info_parts info_u8
  have hb0 := build_ok 0 1 0 none 0 0 0 0 (fun _ => 0) w (by omega) (by omega) (by omega) (by omega) (fun h => absurd h (by omega))
  rw [pk0] at hb0
  go_enter Try.func20, Try.ntmps20
  go_wp2_with fail
  refine hb0.mono ?_
  rintro e w1 ⟨g, c, rfl, hc1, hc2, hown, hg, hgl, hB1⟩
  clear hb0
  simp only [Nat.add_zero] at hown hc1 ⊢
  have hby : BytesAt w1 g 0 8 (fun i => L0.getD i 0) := fun i hi => by
    refine ⟨?_, ?_⟩
    · rw [Nat.zero_add, hown.cellAt i (by omega)]
      exact bvals_at _ i (by simpa [L0] using hi)
    · have : i = 0 ∨ i = 1 ∨ i = 2 ∨ i = 3 ∨ i = 4 ∨ i = 5 ∨ i = 6 ∨ i = 7 := by omega
      rcases this with rfl | rfl | rfl | rfl | rfl | rfl | rfl | rfl <;> decide
  have hp := parse_ok g 0 8 c _ w1 (by omega) (by omega) hc1 hc2 hby hgl (by decide) (by decide) (by decide) (by decide) (by decide) (by decide) (by decide)
  go_wp2_with fail
  refine hp.mono ?_
  rintro e w2 ⟨v, rfl, _, hv, hB2⟩
  obtain rfl := hv trivial
  rw [show L0.getD 1 0 = 1 from rfl, show L0.getD 2 0 = 0 from rfl]
  clear hp hby
  have hown2 := own_belowP hown hB2
  have hBt := bNext hB1 hB2 (Nat.le_refl _)
  have hb2 := (Below.refl w2.heap.size w2).alloc (Nat.le_refl _) (.cells #[.int .i64 0, .int .i64 1, .int .i64 0, .slice none 0 0] 25)
  have hp1 : (w2.alloc (.cells #[.int .i64 0, .int .i64 1, .int .i64 0, .slice none 0 0] 25)).cell? ⟨w2.heap.size, 1, none⟩ = some (.int .i64 1) := by go_simp
  go_wp2_with (at_make; refine wpList_make_full _ rfl _ _ 23 rfl _ 5 i0 _ 1 Try.underlying23 hi0 hz0 hz1 .i64 .i64 _ _ 7 rfl rfl rfl rfl (by rw [hz2]; omega) (by unfold maxLen; omega) (Nat.le_refl _) ?_; intro w3 hown3 hgrow3)
  refine (parse_short _ 7 7 _ (by omega)).mono ?_
  rintro e w4 ⟨rfl, hb4⟩
  have hb3 : Below w2.heap.size w2 w3 := hb2.grown hgrow3 (by simp) (fun k hk => by cases hk)
  have hb24 := bNext hb3 hb4 (Nat.le_refl _)
  have hp4 : w4.cell? ⟨w2.heap.size, 1, none⟩ = some (.int .i64 1) := ((hb4.cell (p := ⟨w2.heap.size, 1, none⟩) (by have := hgrow3.size; simp at this; simp only; omega)).trans (hgrow3.cell hp1 (by simp)))
  have hs4 : w2.heap.size < w4.heap.size := World.block_lt_of_cell? _ _ hp4
  clear hown3 hgrow3 hb4 hb3 hb2 hp1
  go_wp2_with fail
  have hb5 : Below w4.heap.size w4 ((w4.alloc (.cells #[.int .i64 0, .int .i64 0, .int .i64 0, .slice none 0 0] 25)).alloc (.cells #[.int .i64 2, .int .i64 0, .int .i64 0, .int .i64 1, .int .i64 0, .int .i64 0, .int .i64 1, .int .i64 0, .int .i64 0] 32)) := ((Below.refl _ _).alloc (Nat.le_refl _) _).alloc (by simp) _
  have hfr : ∀ i, i < 3 → ((w4.alloc (.cells #[.int .i64 0, .int .i64 0, .int .i64 0, .slice none 0 0] 25)).alloc (.cells #[.int .i64 2, .int .i64 0, .int .i64 0, .int .i64 1, .int .i64 0, .int .i64 0, .int .i64 1, .int .i64 0, .int .i64 0] 32)).cell? ⟨w4.heap.size + 1, 0 + i * 3, none⟩ = some (.int .i64 (T3 i)) := fun i hi => by
    have : i = 0 ∨ i = 1 ∨ i = 2 := by omega
    rcases this with rfl | rfl | rfl <;> go_simp <;> rfl
  refine (flow_c T3 0 1 3 _ _ 3 3 (w4.heap.size + 1) 0 _ (by omega) (fun _ => by simp) (fun _ => rfl) hfr (by omega)).mono ?_
  rintro e w5 ⟨rfl, hb6⟩
  rw [show flowI T3 3 1 3 = 2 by decide, show flowE T3 3 1 3 = 0 by decide]
  have hb46 := bNext hb5 hb6 (Nat.le_refl _)
  have hp5 := (hb46.cell (p := ⟨w2.heap.size, 1, none⟩) hs4).trans hp4
  have hb25 := bNext hb24 hb46 (Nat.le_refl _)
  have hown5 := own_belowP hown2 hb25
  have kc := conv_row hown5
  rw [str0] at kc
  have hBF := bNext hBt hb25 (Nat.le_refl _)
  clear hfr hb5 hb6 hb46 hp4 hs4 hb24 hown5 hown2 hown
  go_wp2_with fail
  go_ret
  exact ⟨rfl, hBF⟩
end Go.Proofs.Ythahlfabcjnkhaa
