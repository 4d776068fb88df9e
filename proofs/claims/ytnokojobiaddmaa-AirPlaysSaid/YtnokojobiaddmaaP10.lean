/- The air: one message is taken out of a row: the walk. -/
import Derived.Test.YtnokojobiaddmaaP9
namespace Go.Proofs.Ytnokojobiaddmaa
open Go.ChangeShapes Go.WideShapes Go.ChangeAt Go.RowKit Go.Maps
set_option linter.unusedVariables false
set_option linter.unusedSimpArgs false
open BigFrame Bs Am Ar

namespace Ar
def DelP (base : Nat) (l : List RM) (q cap k : Nat) (w : World) (e : Ending) (w' : World) : Prop :=
  e = .returned (.slice (some ⟨q, 0, none⟩) (l.length - 1) cap) ∧ w'.ownsRow base 34 14 (.slice (some ⟨q, 0, none⟩) (l.length - 1) cap) (l.length - 1) (rowM (l.eraseIdx k)) ∧ w.grownBy w' (some q)
theorem row_split (l : List RM) (k : Nat) (hk : k < l.length) : rowM l = rowM (l.take k) ++ (cellsM (l.getD k rm0) ++ rowM (l.drop (k + 1))) := by
  have h : l = l.take k ++ (l.getD k rm0 :: l.drop (k + 1)) := by
    have h1 := (List.take_append_drop k l).symm
    rw [List.drop_eq_getElem_cons hk] at h1
    simp only [List.getD, List.getElem?_eq_getElem hk, Option.getD_some]
    exact h1
  rw [← rowM_cons, ← rowM_app, ← h]
theorem erase_row (l : List RM) (k : Nat) : rowM (l.eraseIdx k) = rowM (l.take k) ++ rowM (l.drop (k + 1)) := by
  rw [List.eraseIdx_eq_take_drop_succ, rowM_app]
theorem take_get {cur : Array Value} {m : Nat} {xs : List Value} (h : cur.toList.take m = xs) (i : Nat) (hi : i < m) : cur[i]? = xs[i]? := by
  rw [← h, List.getElem?_take_of_lt hi, Array.getElem?_toList]
/-- What is left in the block. -/
theorem del_row {cur : Array Value} {l : List RM} {k cap : Nat} (hk : k < l.length) (hcap : l.length ≤ cap) (hs : cur.size = cap * 14) (ht : cur.toList.take (l.length * 14) = rowM l) (vs : List Value) (hvs : vs.length = 14) :
    (layA (layA cur (k * 14) (rowM (l.drop (k + 1)))) ((l.length - 1) * 14) vs).toList.take ((l.length - 1) * 14) = rowM (l.eraseIdx k) := by
  have hlen : (rowM (l.drop (k + 1))).length = (l.length - (k + 1)) * 14 := by rw [rowM_len, List.length_drop]
  have hlt : (rowM (l.take k)).length = k * 14 := by rw [rowM_len, List.length_take, Nat.min_eq_left (by omega)]
  apply List.ext_getElem?
  intro i
  by_cases hi : i < (l.length - 1) * 14
  · rw [List.getElem?_take_of_lt hi, Array.getElem?_toList, layA_get _ _ _ _ (by rw [layA_size, hvs, hs]; omega), if_neg (by omega), layA_get _ _ _ _ (by rw [hlen, hs]; omega), hlen, erase_row]
    by_cases h2 : i < k * 14
    · rw [if_neg (by omega), List.getElem?_append_left (by omega), take_get ht i (by omega), row_split l k hk, List.getElem?_append_left (by omega)]
    · rw [if_pos (by omega), List.getElem?_append_right (by omega), hlt]
  · rw [List.getElem?_eq_none (by rw [List.length_take]; omega), List.getElem?_eq_none (by rw [erase_row, List.length_append, hlt, hlen]; omega)]
theorem del_src {cur : Array Value} {l : List RM} {k : Nat} (hk : k < l.length) (ht : cur.toList.take (l.length * 14) = rowM l) (t : Nat) (u : Value) (h : (rowM (l.drop (k + 1)))[t]? = some u) : cur[(k + 1) * 14 + t]? = some u := by
  have hlen : (rowM (l.drop (k + 1))).length = (l.length - (k + 1)) * 14 := by rw [rowM_len, List.length_drop]
  have hlt : (rowM (l.take k)).length = k * 14 := by rw [rowM_len, List.length_take, Nat.min_eq_left (by omega)]
  have ht2 := (List.getElem?_eq_some_iff.1 h).1
  rw [take_get ht _ (by omega), row_split l k hk, List.getElem?_append_right (by omega), hlt, List.getElem?_append_right (by rw [cellsM_len]; omega), cellsM_len, show (k + 1) * 14 + t - k * 14 - 14 = t by omega, h]
theorem rowM_one (l : List RM) : ∀ u ∈ rowM l, u.oneCell' = true := by
  intro u hu
  unfold rowM at hu
  obtain ⟨m, _, hm⟩ := List.mem_flatMap.1 hu
  exact cellsM_one m u hm
theorem zero_msg (w : World) : (zeroValue 34).run Try.prog w = .ok (.agg #[.int .i8 0, .int .i64 0, .int .i64 0, .int .i64 0, .int .i64 0, .int .i64 0, .int .i64 0, .bool false, .slice none 0 0, .int .i64 0, .int .i64 0, .int .u8 0, .slice none 0 0, .slice none 0 0]) w := by rfl
end Ar

set_option maxRecDepth 100000 in
set_option maxHeartbeats 4000000 in
theorem delete_one {base : Nat} (l : List RM) (q cap k : Nat) (w : World) (hown : w.ownsRow base 34 14 (.slice (some ⟨q, 0, none⟩) l.length cap) l.length (rowM l)) (hk : k < l.length) (hl : l.length ≤ 1024) :
    Calls Try.prog 23 #[.slice (some ⟨q, 0, none⟩) l.length cap, .int .i64 (k : Nat), .int .i64 ((k : Int) + 1)] w (DelP base l q cap k w) := by
  obtain ⟨i0, hi0, hz0, hz1, hz2⟩ := info_parts info_msg
  obtain ⟨cur, hbq, hg, hcap, hcm, hcs, htk⟩ : ∃ cur, base ≤ q ∧ w.heap[q]? = some (.cells cur 34 (0, 0)) ∧ l.length ≤ cap ∧ cap ≤ maxLen ∧ cur.size = cap * 14 ∧ cur.toList.take (l.length * 14) = rowM l := by
    rcases hown.2 with ⟨h, _⟩ | ⟨q', cap', cur, h, h1, h2, h3, h4, h5, h6⟩
    · cases h
    · cases h; exact ⟨cur, h1, h2, h3, h4, h5, h6⟩
  unfold maxLen at hcm
  obtain ⟨p, hp⟩ : ∃ p, l.length = p + 1 := ⟨l.length - 1, by omega⟩
  obtain ⟨j, hj⟩ : ∃ j, j = k + 1 := ⟨_, rfl⟩
  have ej : (k : Int) + 1 = (j : Int) := by omega
  have hnew : (rowM (l.drop (k + 1))).length = (p + 1 - j) * 14 := by rw [rowM_len, List.length_drop]; congr 1; omega
  have hkj : (k : Int) ≤ (j : Int) := by omega
  have hjz : (0 : Int) ≤ (j : Int) := by omega
  have hjp : (j : Int) ≤ (p : Int) + 1 := by omega
  have hjc : (j : Int) ≤ (cap : Int) := by omega
  have hkc : (k : Int) ≤ (cap : Int) := by omega
  have hkjn : ¬ k = j := by omega
  have hkz : (0 : Int) ≤ (k : Int) := by omega
  have hkp : (k : Int) ≤ (p : Int) := by omega
  have hpc : (p : Int) + 1 ≤ (cap : Int) := by omega
  have hcmi : (cap : Int) ≤ 9223372036854775807 := by omega
  have hsum : k + (p + 1 - j) = p := by omega
  have hne : ¬ cap = p := by omega
  obtain ⟨vs, hvs, hclr⟩ : ∃ vs : List Value, vs.length = 14 ∧ ∀ ty, (Builtin.clear_ #[49] ty #[.slice (some ⟨q, p * 14, none⟩) 1 (cap - p)]).run Try.prog (w.drew.setCells q (0 + k * 14) (rowM (l.drop (k + 1)))) = .ok (.tuple #[]) ((w.drew.setCells q (0 + k * 14) (rowM (l.drop (k + 1)))).setCells q (p * 14) vs) := by
    have hg2 : (w.drew.setCells q (0 + k * 14) (rowM (l.drop (k + 1)))).heap[q]? = some (.cells (layA cur (0 + k * 14) (rowM (l.drop (k + 1)))) 34 (0, 0)) := heap_setCells _ _ _ _ hg
    have hc : ∀ j, j < 1 * 14 → ((w.drew.setCells q (0 + k * 14) (rowM (l.drop (k + 1)))).cell? ⟨q, p * 14 + j, none⟩).isSome = true := fun j hj => by
      have hlt : p * 14 + j < (layA cur (0 + k * 14) (rowM (l.drop (k + 1)))).size := by rw [layA_size, hcs]; omega
      rw [heap_cell hg2 (Array.getElem?_eq_getElem hlt)]; rfl
    obtain ⟨vs, h1, h2⟩ := run_clear_any (w.drew.setCells q (0 + k * 14) (rowM (l.drop (k + 1)))) 49 34 3 (.agg #[.int .i8 0, .int .i64 0, .int .i64 0, .int .i64 0, .int .i64 0, .int .i64 0, .int .i64 0, .bool false, .slice none 0 0, .int .i64 0, .int .i64 0, .int .u8 0, .slice none 0 0, .slice none 0 0]) [.int .i8 0, .int .i64 0, .int .i64 0, .int .i64 0, .int .i64 0, .int .i64 0, .int .i64 0, .bool false, .slice none 0 0, .int .i64 0, .int .i64 0, .int .u8 0, .slice none 0 0, .slice none 0 0] Try.underlying49 zero_msg rfl (cellsM_one rm0) q (p * 14) 1 (cap - p) (by omega) hc (fun j hj => heap_frozen hg2 _)
    exact ⟨vs, h1, fun ty => h2⟩
  obtain ⟨A, hA, hsrc⟩ : ∃ A : Addr, (if cap = j then some (⟨q, 0, none⟩ : Addr) else some ⟨q, j * 14, none⟩) = some A ∧ ∀ t u, (rowM (l.drop (k + 1)))[t]? = some u → w.drew.cell? (A.add t) = some u := by
    by_cases hcc : cap = j
    · refine ⟨⟨q, 0, none⟩, by rw [if_pos hcc], fun t u h => ?_⟩
      have := (List.getElem?_eq_some_iff.1 h).1
      omega
    · refine ⟨⟨q, j * 14, none⟩, by rw [if_neg hcc], fun t u h => ?_⟩
      rw [Addr.add_lit, hj]
      exact heap_cell (w := w) hg (del_src hk htk t u h)
  have hspare : ∀ j, j < (rowM (l.drop (k + 1))).length → (w.drew.cell? ⟨q, 0 + k * 14 + j, none⟩).isSome = true ∧ w.drew.frozen? ⟨q, 0 + k * 14 + j, none⟩ = false := fun j hj => by
    have hlt : 0 + k * 14 + j < cur.size := by rw [hcs]; omega
    exact ⟨by rw [show w.drew.cell? ⟨q, 0 + k * 14 + j, none⟩ = some cur[0 + k * 14 + j] from heap_cell (w := w) hg (Array.getElem?_eq_getElem hlt)]; rfl, heap_frozen (w := w) hg _⟩
  obtain ⟨W1, hW1⟩ : ∃ W1, W1 = w.drew.setCells q (0 + k * 14) (rowM (l.drop (k + 1))) := ⟨_, rfl⟩
  rw [← hW1] at hclr
  have hend : (W1.setCells q (p * 14) vs).ownsRow base 34 14 (.slice (some ⟨q, 0, none⟩) p cap) p (rowM (l.eraseIdx k)) ∧ w.grownBy (W1.setCells q (p * 14) vs) (some q) := by
    refine ⟨⟨?_, .inr ⟨q, cap, layA (layA cur (0 + k * 14) (rowM (l.drop (k + 1)))) (p * 14) vs, rfl, hbq, ?_, by omega, by unfold maxLen; omega, by rw [layA_size, layA_size, hcs], ?_⟩⟩, ?_⟩
    · rw [rowM_len, List.length_eraseIdx_of_lt hk, hp]; congr 1
    · rw [hW1]; exact heap_setCells _ _ _ _ (heap_setCells _ _ _ _ hg)
    · have := del_row hk hcap hcs htk vs hvs
      rw [hp, show p + 1 - 1 = p by omega] at this
      rw [Nat.zero_add]
      exact this
    · have g1 := setCells_grown (g := q) (rowM (l.drop (k + 1))) w.drew (0 + k * 14)
      have g2 := setCells_grown (g := q) vs W1 (p * 14)
      rw [← hW1] at g1
      exact ⟨g2.os.trans g1.os, g2.tape.trans g1.tape, g2.output.trans g1.output, Nat.le_trans g1.size g2.size, fun i hi hne => (g2.block i (Nat.lt_of_lt_of_le (show i < w.drew.heap.size from hi) g1.size) hne).trans (g1.block i hi hne)⟩
  have hDel : DelP base l q cap k w (.returned (.slice (some ⟨q, 0, none⟩) p cap)) (W1.setCells q (p * 14) vs) := by
    refine ⟨by rw [hp]; rfl, ?_, hend.2⟩
    rw [hp, show p + 1 - 1 = p by omega]
    exact hend.1
  rw [hp]
  clear hend hown hg htk hcs hp hl hk
  replace hDel := Lib.hid hDel
  replace hW1 := Lib.hid hW1
  replace hsrc := Lib.hid hsrc
  replace hspare := Lib.hid hspare
  replace hnew := Lib.hid hnew
  replace hj := Lib.hid hj
  replace hsum := Lib.hid hsum
  rw [ej]
  replace ej := Lib.hid ej
  go_enter Try.func23, Try.ntmps23
  go_upto_region 5 with fail
  refine wp_region_noPanic ?_
  refine Stg.wp_region_L [6] (Bs.SB w) (by kernel_rfl) (fun _ => (Below.refl _ _).drew) (fun hHeld => ?_)
  refine Stg.wpAnyL_start (n' := 8) (l' := #[false, false, false, false, false, false, false, false]) (by kernel_rfl) (by kernel_rfl) ?_
  refine Stg.wpAnyL_free (i := 0) (v := ?_) 0 rfl (by kernel_rfl) (by kernel_rfl) (by kernel_rfl) (by kernel_rfl) (by kernel_rfl) (fun _ _ _ h => h) (Or.inl ⟨by kernel_rfl, ?_⟩) (by assumption) ?_
  rotate_left
  · intro u _
    try simp only [List.getElem_toArray, List.getElem_cons_succ, List.getElem_cons_zero]
    go_simp
    try with_reducible rfl
  try simp only [Act.put, List.setIfInBounds_toArray, List.set_cons_zero, List.set_cons_succ]
  refine Stg.wpAnyL_free (i := 1) (v := ?_) 0 rfl (by kernel_rfl) (by kernel_rfl) (by kernel_rfl) (by kernel_rfl) (by kernel_rfl) (fun _ _ _ h => h) (Or.inl ⟨by kernel_rfl, ?_⟩) (by assumption) ?_
  rotate_left
  · intro u _
    try simp only [List.getElem_toArray, List.getElem_cons_succ, List.getElem_cons_zero]
    go_simp
    try with_reducible rfl
  try simp only [Act.put, List.setIfInBounds_toArray, List.set_cons_zero, List.set_cons_succ]
  refine Stg.wpAnyL_free (i := 2) (v := ?_) 0 rfl (by kernel_rfl) (by kernel_rfl) (by kernel_rfl) (by kernel_rfl) (by kernel_rfl) (fun _ _ _ h => h) (Or.inl ⟨by kernel_rfl, ?_⟩) (by assumption) ?_
  rotate_left
  · intro u _
    try simp only [List.getElem_toArray, List.getElem_cons_succ, List.getElem_cons_zero]
    go_simp
    try with_reducible rfl
  try simp only [Act.put, List.setIfInBounds_toArray, List.set_cons_zero, List.set_cons_succ]
  refine Stg.wpAnyL_start (n' := 5) (l' := #[true, true, true, false, false, false, false, false]) (by kernel_rfl) (by kernel_rfl) ?_
  refine Stg.wpAnyL_free (i := 3) (v := ?_) 0 rfl (by kernel_rfl) (by kernel_rfl) (by kernel_rfl) (by kernel_rfl) (by kernel_rfl) (fun _ _ _ h => h) (Or.inl ⟨by kernel_rfl, ?_⟩) (by assumption) ?_
  rotate_left
  · intro u _
    try simp only [List.getElem_toArray, List.getElem_cons_succ, List.getElem_cons_zero]
    go_simp
    try with_reducible rfl
  try simp only [Act.put, List.setIfInBounds_toArray, List.set_cons_zero, List.set_cons_succ]
  refine Stg.wpAnyL_free (i := 4) (v := ?_) 0 rfl (by kernel_rfl) (by kernel_rfl) (by kernel_rfl) (by kernel_rfl) (by kernel_rfl) (fun _ _ _ h => h) (Or.inl ⟨by kernel_rfl, ?_⟩) (by assumption) ?_
  rotate_left
  · intro u _
    try simp only [List.getElem_toArray, List.getElem_cons_succ, List.getElem_cons_zero]
    go_simp
    try with_reducible rfl
  try simp only [Act.put, List.setIfInBounds_toArray, List.set_cons_zero, List.set_cons_succ]
  refine Stg.wpAnyL_free (i := 5) (v := ?_) 0 rfl (by kernel_rfl) (by kernel_rfl) (by kernel_rfl) (by kernel_rfl) (by kernel_rfl) (fun _ _ _ h => h) (Or.inl ⟨by kernel_rfl, ?_⟩) (by assumption) ?_
  rotate_left
  · intro u _
    try simp only [List.getElem_toArray, List.getElem_cons_succ, List.getElem_cons_zero]
    go_simp
    try with_reducible rfl
  try simp only [Act.put, List.setIfInBounds_toArray, List.set_cons_zero, List.set_cons_succ]
  refine Stg.wpAnyL_start (n' := 2) (l' := #[true, true, true, true, true, true, false, false]) (by kernel_rfl) (by kernel_rfl) ?_
  refine Stg.wpAnyL_one (i := 6) 1 rfl (by kernel_rfl) (by kernel_rfl) (fun K hK => ?_)
  try simp only [List.getElem_toArray, List.getElem_cons_succ, List.getElem_cons_zero]
  rw [if_pos (by rfl)]
  refine wp_append_room rfl (.tmp 22) (.tmp 25) 49 rfl 34 i0 14 Try.underlying49 hi0 hz1 q 0 k cap (by rfl) A (p + 1 - j) (cap - j) (rowM (l.drop (k + 1))) (by rfl) hnew.out hsrc.out (rowM_one _) (by have := hsum.out; omega) hspare.out ?_
  rw [← hW1.out, hsum.out]
  refine hK.out _ _ ?_ (fun hHeld1 => ?_)
  · exact fun h => absurd h (by decide)
  clear hK K
  try simp only [Act.put, List.setIfInBounds_toArray, List.set_cons_zero, List.set_cons_succ]
  refine Stg.wpAnyL_free (i := 7) (v := ?_) 1 rfl (by kernel_rfl) (by kernel_rfl) (by kernel_rfl) (by kernel_rfl) (by kernel_rfl) (fun _ _ _ h => h) (Or.inl ⟨by kernel_rfl, ?_⟩) (by assumption) ?_
  rotate_left
  · intro u _
    try simp only [List.getElem_toArray, List.getElem_cons_succ, List.getElem_cons_zero]
    go_simp
    try with_reducible rfl
  try simp only [Act.put, List.setIfInBounds_toArray, List.set_cons_zero, List.set_cons_succ]
  refine Stg.wpAnyL_done (by kernel_rfl) ?_ _
  try simp only [List.getElem_toArray, List.getElem_cons_succ, List.getElem_cons_zero]
  try simp only [Act.put, List.setIfInBounds_toArray, List.set_cons_zero, List.set_cons_succ]
  refine NoPanic.normal ?_
  go_wp2_with fail
  go_ret
  exact hDel.out
end Go.Proofs.Ytnokojobiaddmaa
