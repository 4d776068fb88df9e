/- The walk of the statement StampNever of layer 20 (stamp), and its plain law. -/
import Derived.Test.YtnbgilgnkedojaaStampTells
import Derived.Test.YtnbgilgnkedojaaStampCredits
import Derived.Deep.AppendLies
namespace Go.Proofs.Ytnbgilgnkedojaa
open Go.ChangeShapes Go.WideShapes Go.ChangeAt Go.RowKit
set_option linter.unusedVariables false
set_option linter.unusedSimpArgs false
attribute [local go_sem] max_fold min_fold
open Ck

namespace Nv
/-- What holds of the stamps and the true ticks so far, the last stamp and the ticks now. -/
structure NGood (xs ts : List Int) (n : Nat) (x t : Int) : Prop where
  lx : xs.length = n
  lt : ts.length = n
  x0 : 0 ≤ x
  xl : x ≤ 100000000
  t0 : 0 ≤ t
  tl : t ≤ 100000000
  bd : ∀ i, i < n → 0 ≤ xs.getD i 0 ∧ xs.getD i 0 ≤ x ∧ x - xs.getD i 0 ≤ t - ts.getD i 0 ∧ 0 ≤ ts.getD i 0
  pr : ∀ i j, j < i → i < n → xs.getD j 0 ≤ xs.getD i 0 ∧ xs.getD i 0 - xs.getD j 0 ≤ ts.getD i 0 - ts.getD j 0
theorem getD_low {xs : List Int} {i : Nat} {y : Int} (h : i < xs.length) : (xs ++ [y]).getD i 0 = xs.getD i 0 := by
  simp [List.getD, List.getElem?_append_left h]
theorem getD_top {xs : List Int} {n : Nat} {y : Int} (h : xs.length = n) : (xs ++ [y]).getD n 0 = y := by
  subst h; simp [List.getD]
theorem NGood.nil : NGood [] [] 0 0 0 := ⟨rfl, rfl, by omega, by omega, by omega, by omega, fun i h => by omega, fun i j _ h => by omega⟩
theorem NGood.step {xs ts : List Int} {n : Nat} {x t x' t' : Int} (h : NGood xs ts n x t) (h1 : x ≤ x') (h2 : x' - x ≤ t' - t) (hx : x' ≤ 100000000) (ht : t' ≤ 100000000) : NGood (xs ++ [x']) (ts ++ [t']) (n + 1) x' t' := by
  obtain ⟨lx, lt, x0, xl, t0, tl, bd, pr⟩ := h
  refine ⟨by simp [lx], by simp [lt], by omega, by omega, by omega, by omega, ?_, ?_⟩
  · intro i hi
    by_cases hn : i = n
    · subst hn; rw [getD_top lx, getD_top lt]; omega
    · rw [getD_low (by omega), getD_low (by omega)]; have := bd i (by omega); omega
  · intro i j hj hi
    by_cases hn : i = n
    · subst hn; rw [getD_top lx, getD_top lt, getD_low (by omega), getD_low (by omega)]; have := bd j (by omega); omega
    · rw [getD_low (by omega), getD_low (by omega), getD_low (by omega), getD_low (by omega)]; exact pr i j hj (by omega)
theorem sure_zero (r : Int) : (0 : Int) = sure 0 r := by
  unfold sure
  rw [show min (max (0 : Int) 0) 1125899906842624 = 0 by omega]
  simp
theorem sure_flat {m r : Int} (h0 : 0 ≤ m) (h1 : m ≤ 1125899906842624) (r0 : 0 ≤ r) (r1 : r ≤ 200) : sure m r = m / (1000 + r) := by
  unfold sure
  rw [show min (max m 0) 1125899906842624 = m by omega, show min (max r 0) 200 = r by omega]
theorem mb2 {t m r : Int} (I : Inv t m r) (h : t ≤ 100000000) : 0 ≤ m ∧ m ≤ 120000000000 := by
  have := Int.mul_le_mul h (show 1000 + r ≤ 1200 by have := I.r1; omega) (by have := I.r0; omega) (by omega)
  have := I.m1
  have := I.mb
  omega
theorem sure_step {t m r d wish : Int} (I : Inv t m r) (d0 : 0 ≤ d) (hd : t + d ≤ 100000000) :
    sure m r ≤ sure (m + adv r d wish) r ∧ sure (m + adv r d wish) r - sure m r ≤ (t + d) - t := by
  have J := I.step d0 (by omega) wish
  have r0 := I.r0
  have r1 := I.r1
  have a1 := mb2 I (by omega)
  have a2 := mb2 J hd
  rw [sure_flat a1.1 (by omega) r0 r1, sure_flat a2.1 (by omega) r0 r1]
  have b := mul_b d0 (by have := I.t0; omega) r0 r1
  have a := adv_b (wish := wish) b.2.1
  refine ⟨Int.ediv_le_ediv (by omega) (by omega), ?_⟩
  have h1 : (m + d * (1000 + r)) / (1000 + r) = m / (1000 + r) + d := Int.add_mul_ediv_right _ _ (by omega)
  have h2 : (m + adv r d wish) / (1000 + r) ≤ (m + d * (1000 + r)) / (1000 + r) := Int.ediv_le_ediv (by omega) (by omega)
  omega
theorem sure_top {t m r : Int} (I : Inv t m r) (hd : t ≤ 100000000) : sure m r ≤ t := by
  have r0 := I.r0
  have r1 := I.r1
  have a1 := mb2 I hd
  rw [sure_flat a1.1 (by omega) r0 r1]
  have h := I.m1
  have h1 : (t * (1000 + r)) / (1000 + r) = t := Int.mul_ediv_cancel _ (by omega)
  have h2 : m / (1000 + r) ≤ (t * (1000 + r)) / (1000 + r) := Int.ediv_le_ediv (by omega) h
  omega
theorem tmod_b (x : Int) : -100000 < x.tmod 100000 ∧ x.tmod 100000 < 100000 := by
  refine ⟨?_, Int.tmod_lt_of_pos _ (by omega)⟩
  have := Int.tmod_lt_of_pos (-x) (show (0 : Int) < 100000 by omega)
  rw [Int.neg_tmod] at this
  omega
theorem tmod2_b (x : Int) : 0 ≤ (x.tmod 100000 + 100000).tmod 100000 ∧ (x.tmod 100000 + 100000).tmod 100000 < 100000 := by
  have := tmod_b x
  exact ⟨Int.tmod_nonneg _ (by omega), Int.tmod_lt_of_pos _ (by omega)⟩
theorem own_only {b base : Nat} {w w' : World} {e : TypeId} {size : Nat} {v : Value} {n : Nat} {xs : List Value} (h : w.ownsRow base e size v n xs) (k : Only b w w') (hb : b < base) : w'.ownsRow base e size v n xs := by
  refine h.kept (row := some b) ⟨k.os, k.tape, k.output, k.size, fun i hi hn => k.block i hi (fun e => hn (by rw [e]))⟩ ?_
  cases ho : v.ownBlock with
  | none => exact .inl rfl
  | some g => exact .inr (fun e => by have := (h.lt g ho).1; injection e; omega)
theorem own_below {base : Nat} {w w' : World} {e : TypeId} {size : Nat} {v : Value} {n : Nat} {xs : List Value} (h : w.ownsRow base e size v n xs) (k : Below w.heap.size w w') : w'.ownsRow base e size v n xs := by
  refine h.kept (row := none) ⟨k.os, k.tape, k.output, k.size, fun i hi _ => k.block i hi⟩ ?_
  cases ho : v.ownBlock with
  | none => exact .inl rfl
  | some g => exact .inr (by simp)
theorem At.belowB {w w' : World} {b B : Nat} {t m r : Int} (h : Ck.At w b t m r) (k : Below B w w') (hb : b < B) : Ck.At w' b t m r :=
  ⟨(k.cell hb).trans h.c0, (k.cell hb).trans h.c1, (k.cell hb).trans h.c2, (k.frozen hb).trans h.f0, (k.frozen hb).trans h.f1⟩
theorem Sp.belowB {w w' : World} {b B : Nat} {r bg l : Int} (h : Sp.At w b r bg l) (k : Below B w w') (hb : b < B) : Sp.At w' b r bg l :=
  ⟨(k.cell hb).trans h.c0, (k.cell hb).trans h.c1, (k.cell hb).trans h.c2, (k.frozen hb).trans h.f2⟩
end Nv
open Nv

theorem info3 : (Try.prog.info? 3).map (fun i => (i.zero, i.size, i.bytes)) = some (some (.int .i64 0), 1, 8) := by kernel_rfl

theorem credit_q (last x : Int) (w : World) (h1 : last ≤ x) (h0 : 0 ≤ last) (h2 : x ≤ 100000000) :
    Calls Try.prog 60 #[.int .i64 3, .int .i64 last, entV 3 0 x 0 (.slice none 0 0)] w fun e w' => e = .returned (.int .i64 (x - last)) ∧ Below w.heap.size w w' :=
  (credit_ok 3 last 3 0 x 0 (.slice none 0 0) w rfl h1 (by omega) (by omega) (by omega) (by omega)).mono fun _ _ hh => ⟨by rw [hh.1]; exact ret_int (by unfold wrap64; omega), hh.2⟩

theorem step_q (b : Nat) (t m r ticks wish : Int) (w : World) (h : Ck.At w b t m r) (I : Ck.Inv t m r) (h0 : 0 ≤ ticks) (h1 : ticks < 100000) (h2 : t ≤ 10000000) :
    Calls Try.prog 51 #[.pointer (some ⟨b, 0, none⟩), .int .i64 ticks, .int .i64 wish] w fun e w' => e = .returned (.int .i64 0) ∧ ∃ t' m', Ck.At w' b t' m' r ∧ Ck.Inv t' m' r ∧ t ≤ t' ∧ t' ≤ t + 100000 ∧ 0 ≤ m' ∧ m' ≤ 120000000000 ∧ sure m r ≤ sure m' r ∧ sure m' r - sure m r ≤ t' - t ∧ sure m' r ≤ t' ∧ Only b w w' := by
  have J := I.step h0 (show ticks ≤ 1099511627776 - t by omega) wish
  have S := sure_step I h0 (show t + ticks ≤ 100000000 by omega) (wish := wish)
  have M := mb2 J (show t + ticks ≤ 100000000 by omega)
  have T := sure_top J (show t + ticks ≤ 100000000 by omega)
  exact (step_ok b t m r ticks wish w h I h0 (by omega)).mono fun _ _ hh => ⟨hh.1, _, _, hh.2.1, J, by omega, by omega, M.1, M.2, S.1, S.2, T, hh.2.2⟩

theorem at_q (b : Nat) (r l now : Int) (w : World) (h : Sp.At w b r 0 l) (h0 : 0 ≤ now) (h1 : now ≤ 120000000000) (hl : l ≤ sure now r) :
    Calls Try.prog 39 #[.pointer (some ⟨b, 0, none⟩), .int .i64 now] w fun e w' => e = .returned (.tuple #[.int .i64 (sure now r), .int .i64 0]) ∧ Sp.At w' b r 0 (sure now r) ∧ Only b w w' := by
  have hk := at_ok b r 0 l now w h (by omega) h0 (by omega)
  have e : max l (sure (now - 0) r) = sure now r := by rw [Int.sub_zero]; omega
  rw [e] at hk
  exact hk
theorem apart {a b : Option Nat} (h : ∀ g, a = some g → b = some g → False) : b = none ∨ b ≠ a := by
  cases b with
  | none => exact .inl rfl
  | some g => exact .inr fun e => h g e.symm rfl
theorem new_apart {a b : Option Nat} {g1 H B S : Nat} (hne : ∀ g, a = some g → b = some g → False) (hat : a = some g1 ∨ g1 = H) (hlt : ∀ k, b = some k → B ≤ k ∧ k < S) (hS : S ≤ H) : b ≠ some g1 := by
  intro hb
  rcases hat with h | h
  · exact hne _ h hb
  · have := (hlt _ hb).2; omega
theorem cell_xs {w : World} {base g n cap : Nat} {e : TypeId} {xs : List Int} (h : w.ownsRow base e 1 (.slice (some ⟨g, 0, none⟩) n cap) n (xs.map (Value.int .i64))) (hl : xs.length = n) (j : Nat) (hj : j < n) : w.cell? ⟨g, j, none⟩ = some (.int .i64 (xs.getD j 0)) := by
  rw [h.cellAt j (by omega)]
  have : j < xs.length := by omega
  simp [List.getD, this]
theorem rows_of {w : World} {base g1 g2 n c1 c2 : Nat} {e : TypeId} {xs ts : List Int} {x t : Int} (hu : w.ownsRow base e 1 (.slice (some ⟨g1, 0, none⟩) n c1) n (xs.map (Value.int .i64))) (hv : w.ownsRow base e 1 (.slice (some ⟨g2, 0, none⟩) n c2) n (ts.map (Value.int .i64))) (G : NGood xs ts n x t) :
    ∃ F H : Nat → Int, (∀ j, j < n → w.cell? ⟨g1, j, none⟩ = some (.int .i64 (F j)) ∧ w.cell? ⟨g2, j, none⟩ = some (.int .i64 (H j)) ∧ 0 ≤ F j ∧ F j ≤ 100000000 ∧ 0 ≤ H j ∧ H j ≤ 100000000) ∧ ∀ i j, j < i → i < n → F j ≤ F i ∧ F i - F j ≤ H i - H j := by
  refine ⟨fun j => xs.getD j 0, fun j => ts.getD j 0, fun j hj => ⟨cell_xs hu G.lx j hj, cell_xs hv G.lt j hj, ?_⟩, G.pr⟩
  have := G.bd j hj
  have := G.xl
  have := G.tl
  show 0 ≤ xs.getD j 0 ∧ xs.getD j 0 ≤ 100000000 ∧ 0 ≤ ts.getD j 0 ∧ ts.getD j 0 ≤ 100000000
  omega
end Go.Proofs.Ytnbgilgnkedojaa
