/- The reference's desk: Over. -/
import Derived.Test.YtifohibpcngakaaD11
namespace Go.Proofs.Ytifohibpcngakaa
open Go.ChangeShapes Go.WideShapes Go.ChangeAt Go.RowKit Go.Maps
set_option linter.unusedVariables false
set_option linter.unusedSimpArgs false
open BigFrame Bs Gr
attribute [local go_sem] Bs.max_fold Bs.min_fold

namespace Gr
theorem perm_sorted : ∀ {l k : List Int}, l.Perm k → l.Pairwise (· ≤ ·) → k.Pairwise (· ≤ ·) → l = k
  | [], k, h, _, _ => (List.perm_nil.1 h.symm).symm
  | x :: l, [], h, _, _ => absurd (List.perm_nil.1 h) (by simp)
  | x :: l, y :: k, h, h1, h2 => by
    obtain ⟨a1, a2⟩ := List.pairwise_cons.1 h1
    obtain ⟨b1, b2⟩ := List.pairwise_cons.1 h2
    have hx : x ∈ y :: k := h.subset (by simp)
    have hy : y ∈ x :: l := h.symm.subset (by simp)
    have e : x = y := by
      rcases List.mem_cons.1 hx with e | e
      · exact e
      · rcases List.mem_cons.1 hy with e2 | e2
        · exact e2.symm
        · have := b1 x e; have := a1 y e2; omega
    subst e
    rw [perm_sorted (List.Perm.cons_inv h) a2 b2]
theorem srt_sorted (l : List Int) : (srt l).Pairwise (· ≤ ·) := by
  unfold srt
  have := List.pairwise_mergeSort (le := fun x y : Int => decide (x ≤ y)) (fun a b c h1 h2 => by simp at *; omega) (fun a b => by simp; omega) l
  exact this.imp (fun h => by simpa using h)
theorem srt_perm (l : List Int) : (srt l).Perm l := by unfold srt; exact List.mergeSort_perm l _
theorem srt_ins {l A C : List Int} {x : Int} (h : A ++ C = srt l) (hC : ∀ c ∈ C, x < c) (hA : ∀ a ∈ A, a ≤ x) : A ++ x :: C = srt (l ++ [x]) := by
  refine perm_sorted ?_ ?_ (srt_sorted _)
  · refine List.Perm.trans ?_ (srt_perm _).symm
    refine List.perm_middle.trans ?_
    rw [h]
    exact ((srt_perm l).cons x).trans (List.perm_append_singleton x l).symm
  · have hs := srt_sorted l
    rw [← h] at hs
    obtain ⟨s1, s2, s3⟩ := List.pairwise_append.1 hs
    refine List.pairwise_append.2 ⟨s1, List.pairwise_cons.2 ⟨fun c hc => by have := hC c hc; omega, s2⟩, fun a ha b hb => ?_⟩
    rcases List.mem_cons.1 hb with rfl | hb
    · exact hA a ha
    · exact s3 a ha b hb
theorem heap_set' {w : World} {g o : Nat} {cs : Array Value} {t : TypeId} {v : Value} (h : w.heap[g]? = some (.cells cs t (0, 0))) : (w.setCell ⟨g, o, none⟩ v).heap[g]? = some (.cells (cs.setIfInBounds o v) t (0, 0)) := by
  unfold World.setCell
  simp [Array.getElem?_modify, h]
theorem OwnI.set {w : World} {B g n c : Nat} {l : List Int} (h : OwnI w B (.slice (some ⟨g, 0, none⟩) n c) l) {i : Nat} (hi : i < l.length) (x : Int) : OwnI (w.setCell ⟨g, i, none⟩ (.int .i64 x)) B (.slice (some ⟨g, 0, none⟩) n c) (l.set i x) := by
  unfold OwnI at *
  rw [List.length_set]
  refine ⟨by simp [iV], ?_⟩
  rcases h.2 with ⟨e, _⟩ | ⟨g', cap, cur, e, h1, h2, h3, h4, h5, h6⟩
  · cases e
  · cases e
    refine .inr ⟨g, c, cur.setIfInBounds i (.int .i64 x), rfl, h1, heap_set' h2, h3, h4, by simpa using h5, ?_⟩
    unfold iV at *
    rw [List.map_set, ← h6, Array.toList_setIfInBounds, List.take_set]
theorem OwnI.fro {w : World} {B g n c : Nat} {l : List Int} (h : OwnI w B (.slice (some ⟨g, 0, none⟩) n c) l) (o : Nat) : w.frozen? ⟨g, o, none⟩ = false := by
  rcases h.2 with ⟨e, _⟩ | ⟨g', cap, cur, e, h1, h2, _⟩
  · cases e
  · cases e
    unfold World.frozen?
    simp [h2]
theorem get_mid {A C : List Int} {x : Int} : (A ++ x :: C).getD A.length 0 = x := by simp [List.getD]
theorem get_last {A C : List Int} {x y : Int} : (A ++ [y] ++ x :: C).getD A.length 0 = y := by simp [List.getD]
theorem set_swap {A C : List Int} {x y : Int} : (((A ++ [y]) ++ x :: C).set (A.length + 1) y).set A.length x = A ++ x :: y :: C := by
  have e1 : (A ++ [y]) ++ x :: C = A ++ (y :: x :: C) := by simp
  rw [e1, List.set_append_right _ _ (by omega), List.set_append_right _ _ (by omega)]
  simp
/-- What a lease's time is. -/
theorem lk_at {Q : List (Int × Int)} {i : Nat} {k : Int} (hn : (Q.map Prod.fst).Nodup) (hi : i < Q.length) (he : (Q.map Prod.fst).getD i 0 = k) : lk Q k = some ((Q.map Prod.snd).getD i 0) := by
  induction Q generalizing i with
  | nil => simp at hi
  | cons p Q ih =>
    simp only [List.map_cons, List.nodup_cons] at hn
    cases i with
    | zero =>
      have e : p.1 = k := by simpa [List.getD] using he
      unfold lk
      simp [List.getD, e]
    | succ i =>
      have hi' : i < Q.length := by simpa using hi
      have he' : (Q.map Prod.fst).getD i 0 = k := by simpa [List.getD] using he
      have hne : p.1 ≠ k := fun h => hn.1 (by
        have : k ∈ Q.map Prod.fst := by
          rw [← he']
          simp [List.getD, hi']
          exact ⟨Q[i].2, List.getElem_mem hi'⟩
        rwa [h])
      have := ih hn.2 hi' he'
      unfold lk at this ⊢
      rw [List.find?_cons, show (p.1 == k) = false by simpa using hne]
      simpa [List.getD] using this
end Gr
end Go.Proofs.Ytifohibpcngakaa
