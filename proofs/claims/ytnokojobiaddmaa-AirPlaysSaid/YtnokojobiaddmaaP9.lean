/- The air: one message is taken out of a row. -/
import Derived.Test.YtnokojobiaddmaaP8
namespace Go.Proofs.Ytnokojobiaddmaa
open Go.ChangeShapes Go.WideShapes Go.ChangeAt Go.RowKit Go.Maps
set_option linter.unusedVariables false
set_option linter.unusedSimpArgs false
open BigFrame Bs Am Ar

namespace Ar
/-- A row of cells laid into a block. -/
def layA (cur : Array Value) : Nat → List Value → Array Value
  | _, [] => cur
  | o, v :: r => layA (cur.setIfInBounds o v) (o + 1) r
theorem layA_size : ∀ (vs : List Value) (cur : Array Value) (o : Nat), (layA cur o vs).size = cur.size
  | [], _, _ => rfl
  | v :: r, cur, o => by unfold layA; rw [layA_size r]; simp
theorem layA_get : ∀ (vs : List Value) (cur : Array Value) (o i : Nat), o + vs.length ≤ cur.size → (layA cur o vs)[i]? = if o ≤ i ∧ i < o + vs.length then vs[i - o]? else cur[i]?
  | [], cur, o, i, _ => by rw [if_neg (fun q => by simp at q; omega)]; rfl
  | v :: r, cur, o, i, h => by
    unfold layA
    simp only [List.length_cons] at h ⊢
    rw [layA_get r _ (o + 1) i (by simp; omega)]
    by_cases h1 : o + 1 ≤ i ∧ i < o + 1 + r.length
    · rw [if_pos h1, if_pos (by omega), show i - o = (i - (o + 1)) + 1 by omega, List.getElem?_cons_succ]
    · rw [if_neg h1]
      by_cases h2 : i = o
      · subst h2
        rw [if_pos (by omega), Nat.sub_self]
        simp [Array.getElem?_setIfInBounds, show i < cur.size by omega]
      · rw [if_neg (by omega), Array.getElem?_setIfInBounds_ne (by omega)]
theorem heap_setCells {g : Nat} {t : TypeId} : ∀ (vs : List Value) (w : World) (o : Nat) (cur : Array Value), w.heap[g]? = some (.cells cur t (0, 0)) → (w.setCells g o vs).heap[g]? = some (.cells (layA cur o vs) t (0, 0))
  | [], _, _, _, h => h
  | v :: r, w, o, cur, h => heap_setCells r _ (o + 1) _ (heap_set h)
theorem setCells_size {g : Nat} : ∀ (vs : List Value) (w : World) (o : Nat), (w.setCells g o vs).heap.size = w.heap.size
  | [], _, _ => rfl
  | v :: r, w, o => by
    show ((w.setCell ⟨g, o, none⟩ v).setCells g (o + 1) r).heap.size = _
    rw [setCells_size r]; simp
theorem setCells_grown {g : Nat} (vs : List Value) (w : World) (o : Nat) : w.grownBy (w.setCells g o vs) (some g) := by
  induction vs generalizing w o with
  | nil => exact ⟨rfl, rfl, rfl, Nat.le_refl _, fun _ _ _ => rfl⟩
  | cons v r ih =>
    have h := ih (w.setCell ⟨g, o, none⟩ v) (o + 1)
    refine ⟨h.os, h.tape, h.output, Nat.le_of_eq (setCells_size (v :: r) w o).symm, fun i hi hne => ?_⟩
    exact (h.block i (by simpa using hi) hne).trans (Below.heap_setCell w ⟨g, o, none⟩ v i (fun e => hne (by rw [e])))
theorem run_clear_any (w : World) (t e ty : TypeId) (z : Value) (zc : List Value) (ht : Try.prog.underlying t = some (.slice e)) (hv : ∀ w, (zeroValue e).run Try.prog w = .ok z w) (hz : z.cells = zc.toArray) (h1 : ∀ u ∈ zc, u.oneCell' = true) (b o n c : Nat) (hn : 0 < n)
    (hc : ∀ j, j < n * zc.length → (w.cell? ⟨b, o + j, none⟩).isSome = true) (hf : ∀ j, j < n * zc.length → w.frozen? ⟨b, o + j, none⟩ = false) :
    ∃ vs : List Value, vs.length = n * zc.length ∧ (Builtin.clear_ #[t] ty #[.slice (some ⟨b, o, none⟩) n c]).run Try.prog w = .ok (.tuple #[]) (w.setCells b o vs) := by
  refine ⟨(Builtin.zeroCells z.cells n).toList, ?_, ?_⟩
  · rw [hz]; simp [Builtin.zeroCells]
  · have hl : (Builtin.zeroCells z.cells n).toList.length = n * zc.length := by rw [hz]; simp [Builtin.zeroCells]
    have hst := run_storeCells_cells (P := Try.prog) b o (Builtin.zeroCells z.cells n).toList 0 w (by rw [hl]; simpa using hc) (by rw [hl]; simpa using hf) (by
      intro v hv'
      have hm : v ∈ zc := by
        rw [hz] at hv'
        unfold Builtin.zeroCells at hv'
        rw [Array.toList_map] at hv'
        obtain ⟨i, hi, hiv⟩ := List.mem_map.1 hv'
        have hi2 : i < n * zc.length := by simpa using hi
        have hpos : 0 < zc.length := by
          rcases Nat.eq_zero_or_pos zc.length with q | q
          · rw [q] at hi2; omega
          · exact q
        have hlt : i % zc.length < zc.length := Nat.mod_lt _ hpos
        rw [← hiv]
        simp [hlt]
      exact h1 v hm)
    simp only [Nat.add_zero] at hst
    obtain ⟨m, rfl⟩ : ∃ m, n = m + 1 := ⟨n - 1, by omega⟩
    simp [Builtin.clear_, run_underlying ht, hv, hst]
theorem wp_append_room {P : Program} {o : Oper} {a : Act} {w : World} {K : Act → World → Prop} {Q : Exit → Act → World → Prop}
    (hg : o.guard = none) (s x : Operand) (t : TypeId) (hop : o.op = Op.call { callee := Callee.builtin Builtin.append, args := #[s, x], argTypes := #[t, t] })
    (e : TypeId) (i : TypeInfo) (size : Nat) (h1 : P.underlying t = some (.slice e)) (h2 : P.info? e = some i) (h4 : i.size = size)
    (b off n cap : Nat) (hs : a.eval s = .slice (some ⟨b, off, none⟩) n cap)
    (ad : Addr) (m c : Nat) (news : List Value) (hx : a.eval x = .slice (some ad) m c) (hn : news.length = m * size) (hc : ∀ j u, news[j]? = some u → w.cell? (ad.add j) = some u) (h1c : ∀ u ∈ news, u.oneCell' = true)
    (hroom : n + m ≤ cap) (hspare : ∀ j, j < news.length → (w.cell? ⟨b, off + n * size + j, none⟩).isSome = true ∧ w.frozen? ⟨b, off + n * size + j, none⟩ = false)
    (hK : K (a.put o.dst (.slice (some ⟨b, off, none⟩) (n + m) cap)) (w.setCells b (off + n * size) news)) : Oper.wp P o a w K Q := by
  have h := step_append_room (ops := #[]) (Q := Q) (E := True) hg s x t hop e i size h1 h2 h4 b off n cap hs ad m c news hx hn hc h1c hroom hspare hK
  rwa [if_pos (by simp [Region.wanted, hg])] at h
end Ar
end Go.Proofs.Ytnokojobiaddmaa
