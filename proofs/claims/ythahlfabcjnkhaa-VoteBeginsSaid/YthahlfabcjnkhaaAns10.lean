/- The three asks of the law's own 'wakes' of layer 10. -/
import Derived.Test.YthahlfabcjnkhaaAsk10
namespace Go.Proofs.Ythahlfabcjnkhaa
open Go.ChangeShapes Go.WideShapes Go.ChangeAt Go.RowKit
set_option linter.unusedVariables false
set_option linter.unusedSimpArgs false
open Rw Vt R10

def tm5 (i : Nat) : Int := if i < 2 then 1 else 2
def rr (a : Option Addr) (c : Nat) : R := ⟨0, 0, a, 5, c, fun i => ent (tm5 i)⟩
theorem rr_wf (a : Option Addr) (c : Nat) : RWf (rr a c) := by
  refine ⟨by simp [rr], by simp [rr], by simp [rr], by simp [rr], by simp [rr], fun i _ => ?_⟩
  by_cases h : i < 2 <;> simp [rr, EWf, ent, tm5, h]
theorem rr_chk (a : Option Addr) (c : Nat) : chkB (rr a c) = true := by
  unfold chkB
  rw [decide_eq_true_eq]
  refine ⟨by simp [rr, headP], fun i hi => ?_⟩
  have hi' : i < 5 := hi
  have : i = 0 ∨ i = 1 ∨ i = 2 ∨ i = 3 ∨ i = 4 := by omega
  rcases this with rfl | rfl | rfl | rfl | rfl <;> simp [rr, mayB, ent, tm5, tb]
theorem rr_lastT (a : Option Addr) (c : Nat) : lastT (rr a c) = 2 := by simp [rr, lastT, tb, ent, tm5]
theorem rr_lastI (a : Option Addr) (c : Nat) : lastI (rr a c) = 5 := by simp [rr, lastI]
theorem argP10 (t i l : Int) (h : 1 ≤ t) : argP 1 (askMsg t i l) := by
  refine ⟨rfl, by decide, by show nodeB 2 = true; decide, by show (2 : Int) ≠ 1; decide, h⟩

/-- A block that was made ahead of a call reads behind it as it was made. -/
theorem keepNew {X w3 : World} {k : Nat} {cs : Array Value} {t : TypeId} (hb : Below X.heap.size X w3) (h : X.heap[k]? = some (.cells cs t (0, 0))) :
    (∀ o, w3.cell? ⟨k, o, none⟩ = cs[o]?) ∧ (∀ o, w3.frozen? ⟨k, o, none⟩ = false) ∧ w3.heap[k]? = some (.cells cs t (0, 0)) := by
  have hk : k < X.heap.size := by
    rcases Nat.lt_or_ge k X.heap.size with h' | h'
    · exact h'
    · rw [Array.getElem?_eq_none h'] at h; cases h
  have h3 := (hb.block k hk).trans h
  exact ⟨fun o => cell_of_row w3 k o cs t (0, 0) h3, fun o => by simp [World.frozen?, h3], h3⟩
theorem new0 (w : World) (o : Obj) : (w.alloc o).heap[w.heap.size]? = some o := heap_alloc_new w o
theorem new1 (w : World) (o o' : Obj) : ((w.alloc o).alloc o').heap[w.heap.size]? = some o := (Below.heap_alloc (w.alloc o) o' _ (by simp)).trans (heap_alloc_new w o)
theorem new2 (w : World) (o o' : Obj) : ((w.alloc o).alloc o').heap[w.heap.size + 1]? = some o' := by
  have h := heap_alloc_new (w.alloc o) o'
  simpa using h
theorem new3 {w : World} {k : Nat} {x : Obj} (h : w.heap[k]? = some x) (o : Obj) : (w.alloc o).heap[k]? = some x := by
  have hk : k < w.heap.size := by
    rcases Nat.lt_or_ge k w.heap.size with h' | h'
    · exact h'
    · rw [Array.getElem?_eq_none h'] at h; cases h
  exact (Below.heap_alloc w o k hk).trans h

theorem keepNew3 {X w3 : World} {k : Nat} {a0 a1 a2 : Value} {t : TypeId} (hb : Below X.heap.size X w3) (h : X.heap[k]? = some (.cells #[a0, a1, a2] t (0, 0))) :
    w3.cell? ⟨k, 0, none⟩ = some a0 ∧ w3.cell? ⟨k, 1, none⟩ = some a1 ∧ w3.cell? ⟨k, 2, none⟩ = some a2 ∧ (∀ q, (w3.alloc q).cell? ⟨k, 0, none⟩ = some a0) ∧ (∀ q, (w3.alloc q).cell? ⟨k, 1, none⟩ = some a1) ∧ (∀ q, (w3.alloc q).cell? ⟨k, 2, none⟩ = some a2) ∧ (∀ o, w3.frozen? ⟨k, o, none⟩ = false) ∧ (∀ q o, (w3.alloc q).frozen? ⟨k, o, none⟩ = false) ∧ ¬ k = w3.heap.size ∧ ¬ w3.heap.size = k ∧ w3.heap[k]? = some (.cells #[a0, a1, a2] t (0, 0)) := by
  obtain ⟨h1, h2, h3⟩ := keepNew hb h
  have hk : k < w3.heap.size := by
    rcases Nat.lt_or_ge k w3.heap.size with h' | h'
    · exact h'
    · rw [Array.getElem?_eq_none h'] at h3; cases h3
  have g : ∀ q o, (w3.alloc q).cell? ⟨k, o, none⟩ = w3.cell? ⟨k, o, none⟩ := fun q o => ((Below.refl w3.heap.size w3).alloc (Nat.le_refl _) q).cell (p := ⟨k, o, none⟩) hk
  exact ⟨(h1 0).trans rfl, (h1 1).trans rfl, (h1 2).trans rfl, fun q => (g q 0).trans ((h1 0).trans rfl), fun q => (g q 1).trans ((h1 1).trans rfl), fun q => (g q 2).trans ((h1 2).trans rfl), h2, fun q o => by simp [World.frozen?, new3 h3 q], by omega, by omega, h3⟩

theorem keepNew14 {X w3 : World} {k : Nat} {a0 a1 a2 a3 a4 a5 a6 a7 a8 a9 a10 a11 a12 a13 : Value} {t : TypeId} (hb : Below X.heap.size X w3) (h : X.heap[k]? = some (.cells #[a0, a1, a2, a3, a4, a5, a6, a7, a8, a9, a10, a11, a12, a13] t (0, 0))) :
    w3.cell? ⟨k, 0, none⟩ = some a0 ∧ w3.cell? ⟨k, 1, none⟩ = some a1 ∧ w3.cell? ⟨k, 2, none⟩ = some a2 ∧ w3.cell? ⟨k, 3, none⟩ = some a3 ∧ w3.cell? ⟨k, 4, none⟩ = some a4 ∧ w3.cell? ⟨k, 5, none⟩ = some a5 ∧ w3.cell? ⟨k, 6, none⟩ = some a6 ∧ w3.cell? ⟨k, 7, none⟩ = some a7 ∧ w3.cell? ⟨k, 8, none⟩ = some a8 ∧ w3.cell? ⟨k, 9, none⟩ = some a9 ∧ w3.cell? ⟨k, 10, none⟩ = some a10 ∧ w3.cell? ⟨k, 11, none⟩ = some a11 ∧ w3.cell? ⟨k, 12, none⟩ = some a12 ∧ w3.cell? ⟨k, 13, none⟩ = some a13 ∧ (∀ q, (w3.alloc q).cell? ⟨k, 0, none⟩ = some a0) ∧ (∀ q, (w3.alloc q).cell? ⟨k, 1, none⟩ = some a1) ∧ (∀ q, (w3.alloc q).cell? ⟨k, 2, none⟩ = some a2) ∧ (∀ q, (w3.alloc q).cell? ⟨k, 3, none⟩ = some a3) ∧ (∀ q, (w3.alloc q).cell? ⟨k, 4, none⟩ = some a4) ∧ (∀ q, (w3.alloc q).cell? ⟨k, 5, none⟩ = some a5) ∧ (∀ q, (w3.alloc q).cell? ⟨k, 6, none⟩ = some a6) ∧ (∀ q, (w3.alloc q).cell? ⟨k, 7, none⟩ = some a7) ∧ (∀ q, (w3.alloc q).cell? ⟨k, 8, none⟩ = some a8) ∧ (∀ q, (w3.alloc q).cell? ⟨k, 9, none⟩ = some a9) ∧ (∀ q, (w3.alloc q).cell? ⟨k, 10, none⟩ = some a10) ∧ (∀ q, (w3.alloc q).cell? ⟨k, 11, none⟩ = some a11) ∧ (∀ q, (w3.alloc q).cell? ⟨k, 12, none⟩ = some a12) ∧ (∀ q, (w3.alloc q).cell? ⟨k, 13, none⟩ = some a13) ∧ (∀ o, w3.frozen? ⟨k, o, none⟩ = false) ∧ (∀ q o, (w3.alloc q).frozen? ⟨k, o, none⟩ = false) ∧ ¬ k = w3.heap.size ∧ ¬ w3.heap.size = k ∧ w3.heap[k]? = some (.cells #[a0, a1, a2, a3, a4, a5, a6, a7, a8, a9, a10, a11, a12, a13] t (0, 0)) := by
  obtain ⟨h1, h2, h3⟩ := keepNew hb h
  have hk : k < w3.heap.size := by
    rcases Nat.lt_or_ge k w3.heap.size with h' | h'
    · exact h'
    · rw [Array.getElem?_eq_none h'] at h3; cases h3
  have g : ∀ q o, (w3.alloc q).cell? ⟨k, o, none⟩ = w3.cell? ⟨k, o, none⟩ := fun q o => ((Below.refl w3.heap.size w3).alloc (Nat.le_refl _) q).cell (p := ⟨k, o, none⟩) hk
  exact ⟨(h1 0).trans rfl, (h1 1).trans rfl, (h1 2).trans rfl, (h1 3).trans rfl, (h1 4).trans rfl, (h1 5).trans rfl, (h1 6).trans rfl, (h1 7).trans rfl, (h1 8).trans rfl, (h1 9).trans rfl, (h1 10).trans rfl, (h1 11).trans rfl, (h1 12).trans rfl, (h1 13).trans rfl, fun q => (g q 0).trans ((h1 0).trans rfl), fun q => (g q 1).trans ((h1 1).trans rfl), fun q => (g q 2).trans ((h1 2).trans rfl), fun q => (g q 3).trans ((h1 3).trans rfl), fun q => (g q 4).trans ((h1 4).trans rfl), fun q => (g q 5).trans ((h1 5).trans rfl), fun q => (g q 6).trans ((h1 6).trans rfl), fun q => (g q 7).trans ((h1 7).trans rfl), fun q => (g q 8).trans ((h1 8).trans rfl), fun q => (g q 9).trans ((h1 9).trans rfl), fun q => (g q 10).trans ((h1 10).trans rfl), fun q => (g q 11).trans ((h1 11).trans rfl), fun q => (g q 12).trans ((h1 12).trans rfl), fun q => (g q 13).trans ((h1 13).trans rfl), h2, fun q o => by simp [World.frozen?, new3 h3 q], by omega, by omega, h3⟩


theorem ans1 (a : Option Addr) (c : Nat) (w : World) (hr : RAt w (rr a c)) :
    Calls Try.prog 34 #[.agg #[.int .i64 3, .int .i64 0, .int .i64 0], .agg #[.int .i64 0, .int .i64 0, .slice a 5 c], .int .i64 1, (askMsg 3 5 2).val] w fun e w' => e = .returned (.tuple #[.agg #[.int .i64 3, .int .i64 2, .int .i64 0], .agg #[.int .i8 2, .int .i64 1, .int .i64 2, .int .i64 3, .int .i64 0, .int .i64 0, .int .i64 0, .bool true, .slice none 0 0, .int .i64 0, .int .i64 0, .int .u8 0, .slice none 0 0, .slice none 0 0], .int .i64 0]) ∧ Below w.heap.size w w' :=
  answer_ok 3 0 0 (rr a c) 1 (askMsg 3 5 2) w (rr_wf a c) hr (rr_chk a c) (argP10 3 5 2 (by omega)) true (by
    simp [yesB, askB, newerB, rr_chk, rr_lastT, rr_lastI, riseT, riseV, askMsg])
theorem ans2 (a : Option Addr) (c : Nat) (w : World) (hr : RAt w (rr a c)) :
    Calls Try.prog 34 #[.agg #[.int .i64 3, .int .i64 0, .int .i64 0], .agg #[.int .i64 0, .int .i64 0, .slice a 5 c], .int .i64 1, (askMsg 3 9 1).val] w fun e w' => e = .returned (.tuple #[.agg #[.int .i64 3, .int .i64 0, .int .i64 0], .agg #[.int .i8 2, .int .i64 1, .int .i64 2, .int .i64 3, .int .i64 0, .int .i64 0, .int .i64 0, .bool false, .slice none 0 0, .int .i64 0, .int .i64 0, .int .u8 0, .slice none 0 0, .slice none 0 0], .int .i64 0]) ∧ Below w.heap.size w w' :=
  answer_ok 3 0 0 (rr a c) 1 (askMsg 3 9 1) w (rr_wf a c) hr (rr_chk a c) (argP10 3 9 1 (by omega)) false (by
    simp [yesB, askB, newerB, rr_chk, rr_lastT, rr_lastI, riseT, riseV, askMsg])
theorem ans3 (a : Option Addr) (c : Nat) (w : World) (hr : RAt w (rr a c)) :
    Calls Try.prog 34 #[.agg #[.int .i64 3, .int .i64 1, .int .i64 0], .agg #[.int .i64 0, .int .i64 0, .slice a 5 c], .int .i64 1, (askMsg 4 5 2).val] w fun e w' => e = .returned (.tuple #[.agg #[.int .i64 4, .int .i64 2, .int .i64 0], .agg #[.int .i8 2, .int .i64 1, .int .i64 2, .int .i64 4, .int .i64 0, .int .i64 0, .int .i64 0, .bool true, .slice none 0 0, .int .i64 0, .int .i64 0, .int .u8 0, .slice none 0 0, .slice none 0 0], .int .i64 0]) ∧ Below w.heap.size w w' :=
  answer_ok 3 1 0 (rr a c) 1 (askMsg 4 5 2) w (rr_wf a c) hr (rr_chk a c) (argP10 4 5 2 (by omega)) true (by
    simp [yesB, askB, newerB, rr_chk, rr_lastT, rr_lastI, riseT, riseV, askMsg]; try omega)
end Go.Proofs.Ythahlfabcjnkhaa
