/- Rows by what they say: Add. -/
import Derived.Test.YtbiodlhiilmgkaaCt8
import Derived.ArgAppend
namespace Go.Proofs.Ytbiodlhiilmgkaa
open Go.ChangeShapes Go.WideShapes Go.ChangeAt Go.RowKit
set_option linter.unusedVariables false
set_option linter.unusedSimpArgs false
open BigFrame Bs Rw Ct

namespace Ct
/-- 'append(s[:n:n], l...)': nothing, or a new slice of both. -/
theorem run_append_full {w : World} {a a2 : Option Addr} {n m c2 : Nat} {l l2 : List En} (h1 : LAt w a n n l) (h2 : LAt w a2 m c2 l2) (hn : n + m ≤ 1000000) (ty : TypeId) :
    ∃ a' c' w', (Builtin.append_ #[22, 22] ty #[.slice a n n, .slice a2 m c2]).run Try.prog w = .ok (.slice a' (n + m) c') w' ∧ LAt w' a' (n + m) c' (l ++ l2) ∧ Below w.heap.size w w' := by
  obtain ⟨i0, hi0, hz0, hz1, hz2⟩ := info_parts info_entry
  have ht := Try.underlying22
  by_cases hm : m = 0
  · subst hm
    have e : l2 = [] := List.eq_nil_of_length_eq_zero h2.len.symm
    subst e
    have hf := run_firstCells_some (P := Try.prog) w i0.size 0
    have hr : (Builtin.append_ #[22, 22] ty #[.slice a n n, .slice a2 0 c2]).run Try.prog w = .ok (.slice a n n) w := by
      cases a with
      | none =>
        have hn0 : n = 0 := by
          obtain ⟨es, q1, _⟩ := h1
          rcases Nat.eq_zero_or_pos n with h0 | h0
          · exact h0
          · obtain ⟨b, o, hh, _⟩ := q1.row h0; cases hh
        subst hn0
        cases a2 with
        | none => simp [Builtin.append_, run_underlying ht, sizeOf, typeInfo, hi0, Builtin.lenOf, Builtin.firstCells]
        | some ad =>
          have hc := hf ad 0 c2 [] (by simp) (by intro j u h; simp at h)
          simp [Builtin.append_, run_underlying ht, sizeOf, typeInfo, hi0, Builtin.lenOf, hc]
      | some b =>
        cases a2 with
        | none => simp [Builtin.append_, run_underlying ht, sizeOf, typeInfo, hi0, Builtin.lenOf, Builtin.firstCells, storeCells]
        | some ad =>
          have hc := hf ad 0 c2 [] (by simp) (by intro j u h; simp at h)
          simp [Builtin.append_, run_underlying ht, sizeOf, typeInfo, hi0, Builtin.lenOf, storeCells, hc]
    exact ⟨a, n, w, hr, by simpa using h1, Below.refl _ _⟩
  · obtain ⟨es1, q1, p1⟩ := h1
    obtain ⟨es2, q2, p2⟩ := h2
    obtain ⟨b2, o2, rfl, hb2, hc2⟩ := q2.cells (by omega)
    have hl2 : (rowE es2).length = m * 5 := by rw [rowE_len, q2.len]
    have hnews : ∀ j u, (rowE es2)[j]? = some u → w.cell? ((⟨b2, o2, none⟩ : Addr).add j) = some u := fun j u hu => by rw [Addr.add_lit]; exact hc2 j u hu
    have key : ∃ v' w', (Builtin.append_ #[22, 22] ty #[.slice a n n, .slice (some ⟨b2, o2, none⟩) m c2]).run Try.prog w = .ok v' w' ∧ w'.ownsRow w.heap.size 39 5 v' (n + m) (rowE es1 ++ rowE es2) ∧ w.grownBy w' none := by
      by_cases h0 : n = 0
      · subst h0
        have e : es1 = [] := List.eq_nil_of_length_eq_zero q1.len.symm
        subst e
        cases a with
        | none =>
          obtain ⟨v', w', hrun, r1, r2, _⟩ := run_append_own (P := Try.prog) w w.heap.size 22 ty 39 i0 _ 5 56 ht hi0 hz0 hz1 hz2 (by rfl) (by omega) (.slice none 0 0) 0 [] (World.ownsRow_nil w _ _ _) ⟨b2, o2, none⟩ m c2 (rowE es2) hl2 hnews (rowE_one _) (by unfold maxLen; omega) (by omega) (Nat.le_refl _)
          exact ⟨v', w', hrun, r1, r2⟩
        | some b =>
          exact run_append_arg_grows (P := Try.prog) w 22 ty 39 i0 _ 5 56 ht hi0 hz0 hz1 hz2 (by rfl) (by omega) b 0 0 [] (by simp) (by intro j u h; simp at h) ⟨b2, o2, none⟩ m c2 (rowE es2) hl2 hnews (by omega) (by unfold maxLen; omega) (by omega)
      · obtain ⟨b1, o1, rfl, hb1, hc1⟩ := q1.cells (by omega)
        exact run_append_arg_grows (P := Try.prog) w 22 ty 39 i0 _ 5 56 ht hi0 hz0 hz1 hz2 (by rfl) (by omega) ⟨b1, o1, none⟩ n n (rowE es1) (by rw [rowE_len, q1.len]) (fun j u hu => by rw [Addr.add_lit]; exact hc1 j u hu) ⟨b2, o2, none⟩ m c2 (rowE es2) hl2 hnews (by omega) (by unfold maxLen; omega) (by omega)
    obtain ⟨v', w', hrun, r1, r2⟩ := key
    rw [← rowE_app] at r1
    obtain ⟨a', c', rfl, hE⟩ := EsAt.of_own r1
    have hB : Below w.heap.size w w' := (Below.refl _ _).grown r2 (Nat.le_refl _) (fun q hq => by cases hq)
    exact ⟨a', c', w', hrun, ⟨_, hE, (p1.bel hB).app (p2.bel hB)⟩, hB⟩
theorem wp_append_full {o : Oper} {a : Act} {w : World} {K : Act → World → Prop} {Q : Exit → Act → World → Prop} (s x : Operand)
    (hop : o.op = .call { callee := .builtin .append, args := #[s, x], argTypes := #[22, 22] })
    {A A2 : Option Addr} {n m c2 : Nat} {l l2 : List En} (hs : a.eval s = .slice A n n) (hx : a.eval x = .slice A2 m c2) (h1 : LAt w A n n l) (h2 : LAt w A2 m c2 l2) (hn : n + m ≤ 1000000)
    (hK : ∀ a' c' w', LAt w' a' (n + m) c' (l ++ l2) → Below w.heap.size w w' → K (a.put o.dst (.slice a' (n + m) c')) w') : Oper.wp Try.prog o a w K Q := by
  obtain ⟨a', c', w', hr, q1, q2⟩ := run_append_full h1 h2 hn o.type
  unfold Oper.wp execOp
  simp only [hop, resolve, invoke, builtin, Sem.run_bind, Sem.run_pure, Result.andThen_ok, List.map_toArray, List.map_cons, List.map_nil, hs, hx, hr]
  exact hK a' c' w' q1 q2
theorem Sml.app {l m : List En} (h : Sml l) (k : Sml m) (hn : (l ++ m).length ≤ 5000) : Sml (l ++ m) := ⟨hn, fun y hy => (List.mem_append.1 hy).elim (h.2 y) (k.2 y)⟩
end Ct
attribute [local go_sem ↓] sliced_cut

set_option maxRecDepth 100000 in
set_option maxHeartbeats 4000000 in
/-- **The program's 'Add'.** -/
theorem add_c (b t : Int) (a a2 : Option Addr) (n c m c2 : Nat) (l l2 : List En) (w : World) (h : LAt w a n c l) (h2 : LAt w a2 m c2 l2) (hw : Wfl l) (hw2 : Wfl l2) (hb : I64 b) (ht : I64 t) (hs2 : Sml l2) :
    Calls Try.prog 17 #[.agg #[.int .i64 b, .int .i64 t, .slice a n c], .slice a2 m c2] w (RowsP w (addR b t l l2)) := by
  have hB0 : Below w.heap.size w ((w.alloc (.cells #[.int .i64 b, .int .i64 t, .slice a n c] 24)).alloc (.cells #[.int .i64 0, .int .i64 0, .slice none 0 0] 24)) := ((Below.refl _ _).alloc (Nat.le_refl _) _).alloc (by simp) _
  have bx := Lib.hid ((blk_new w [.int .i64 b, .int .i64 t, .slice a n c] 24).bel ((Below.refl _ _).alloc (Nat.le_refl _) (.cells #[.int .i64 0, .int .i64 0, .slice none 0 0] 24)))
  have rs := blk_new (w.alloc (.cells #[.int .i64 b, .int .i64 t, .slice a n c] 24)) [.int .i64 0, .int .i64 0, .slice none 0 0] 24
  rw [World.size_alloc] at rs
  replace rs := Lib.hid rs
  have hck := Lib.hid (check_l b t a n c l _ (h.bel hB0) hw hb ht)
  replace hB0 := Lib.hid hB0
  cases hc : chk b t l with
  | false =>
    have hm := Lib.hid (show addR b t l l2 = ⟨0, 0, [], 90⟩ by unfold addR; rw [hc]; rfl)
    rw [hc] at hck
    clear hc h h2
    go_enter Try.func17, Try.ntmps17
    go_wp2_with fail
    refine hck.out.mono ?_
    rintro e w1 ⟨rfl, hb1⟩
    have rs1 := rs.out.bel hb1
    have hB1 := bNext hB0.out hb1 (Nat.le_refl _)
    have r0 := rs1.c 0 _ rfl
    have r1 := rs1.c 1 _ rfl
    have r2 := rs1.c 2 _ rfl
    have rf := rs1.f 0
    have rf1 := rs1.f 1
    have rf2 := rs1.f 2
    have rs4 := blk_set3 rs1 (.int .i64 0) (.int .i64 0) (.slice none 0 0)
    have s0 := Lib.hid (rs4.c 0 _ rfl)
    have s1 := Lib.hid (rs4.c 1 _ rfl)
    have s2 := Lib.hid (rs4.c 2 _ rfl)
    have hB4 := Lib.hid (below_set3 hB1 (show w.heap.size ≤ w.heap.size + 1 by omega) (.int .i64 0) (.int .i64 0) (.slice none 0 0))
    clear rs1 hB1 rs4 hb1 hck bx rs hB0
    go_wp2_with fail
    refine bodyPost_ret (v := .tuple #[.agg #[.int .i64 0, .int .i64 0, .slice none 0 0], .int .i64 90]) (by simp [results, Try.results17, go_sem, s0.out, s1.out, s2.out]) rfl ?_
    rw [hm.out]
    exact ⟨_, _, _, rfl, LAt.nil _ _ _ (by omega), Far.zero _ _, hB4.out⟩
  | true =>
    have hsm := chk_sml hc
    have hm := Lib.hid (show addR b t l l2 = madeR b t (l ++ l2) by unfold addR; rw [hc]; rfl)
    obtain ⟨g1, _⟩ := chk_iff.1 hc
    have hln := h.len
    have hle := h.le
    have hn5 : n ≤ 4096 := by omega
    have hnI : (n : Int) ≤ 4096 := by omega
    have hncI : (n : Int) ≤ (c : Int) := by omega
    have hm5 : m ≤ 5000 := by have := h2.len; have := hs2.1; omega
    have hmade := Lib.hid (fun u a' c' (hq : LAt u a' (n + m) c' (l ++ l2)) => made_c b t a n c a' (n + m) c' (l ++ l2) u hq (hw.app hw2) hb ht (fun hh => hsm.app hs2 (by omega)))
    have hL := Lib.hid (fun u (hu : Below w.heap.size w u) => (show LAt u (cutA a 0 n 5) n n l by
      have q := (h.bel hu).cut (Nat.zero_le n) (Nat.le_refl n) (Nat.le_refl n) hle
      rw [List.take_of_length_le (by omega), List.drop_zero, Nat.sub_zero] at q
      exact q))
    have hL2 := Lib.hid (fun u (hu : Below w.heap.size w u) => h2.bel hu)
    rw [hc] at hck
    clear hc h h2 g1 hsm hln hle
    go_enter Try.func17, Try.ntmps17
    go_wp2_with fail
    refine hck.out.mono ?_
    rintro e w1 ⟨rfl, hb1⟩
    have bx1 := bx.out.bel hb1
    have rs1 := Lib.hid (rs.out.bel hb1)
    have hB1 := Lib.hid (bNext hB0.out hb1 (Nat.le_refl _))
    have p0 := bx1.c 0 _ rfl
    have p1 := bx1.c 1 _ rfl
    have p2 := bx1.c 2 _ rfl
    clear bx1 hb1 hck bx rs hB0
    go_wp2_with fail
    refine wp_region_noPanic ?_
    refine Stg.wp_region_L [11] (Bs.SB w1) (by kernel_rfl) (fun _ => (Below.refl _ _).drew) (fun hHeld => ?_)
    refine Stg.wpAnyL_start (n' := 13) (l' := #[false, false, false, false, false, false, false, false, false, false, false, false, false]) (by kernel_rfl) (by kernel_rfl) ?_
    refine Stg.wpAnyL_take (i := 0) (v := ?_) [8, 9, 10, 11, 12] 0 rfl (by kernel_rfl) (by kernel_rfl) (by kernel_rfl) (by kernel_rfl) (by kernel_rfl) (fun _ _ _ h => h) (Or.inl ⟨by kernel_rfl, ?_⟩) (by assumption) ?_
    rotate_left
    · intro u hSu
      skip
      have sB := hSu rfl
      have y0 := cellB sB p0
      have y1 := cellB sB p1
      have y2 := cellB sB p2
      try simp only [List.getElem_toArray, List.getElem_cons_succ, List.getElem_cons_zero]
      go_simp
      try with_reducible rfl
    try simp only [Act.put, List.setIfInBounds_toArray, List.set_cons_zero, List.set_cons_succ]
    refine Stg.wpAnyL_free (i := 1) (v := ?_) 0 rfl (by kernel_rfl) (by kernel_rfl) (by kernel_rfl) (by kernel_rfl) (by kernel_rfl) (fun _ _ _ h => h) (Or.inl ⟨by kernel_rfl, ?_⟩) (by assumption) ?_
    rotate_left
    · intro u _
      try simp only [List.getElem_toArray, List.getElem_cons_succ, List.getElem_cons_zero]
      go_simp
      try with_reducible rfl
    try simp only [Act.put, List.setIfInBounds_toArray, List.set_cons_zero, List.set_cons_succ]
    refine Stg.wpAnyL_take (i := 2) (v := ?_) [5, 7, 8, 9, 10, 11, 12] 0 rfl (by kernel_rfl) (by kernel_rfl) (by kernel_rfl) (by kernel_rfl) (by kernel_rfl) (fun _ _ _ h => h) (Or.inl ⟨by kernel_rfl, ?_⟩) (by assumption) ?_
    rotate_left
    · intro u hSu
      skip
      have sB := hSu rfl
      have y0 := cellB sB p0
      have y1 := cellB sB p1
      have y2 := cellB sB p2
      try simp only [List.getElem_toArray, List.getElem_cons_succ, List.getElem_cons_zero]
      go_simp
      try with_reducible rfl
    try simp only [Act.put, List.setIfInBounds_toArray, List.set_cons_zero, List.set_cons_succ]
    refine Stg.wpAnyL_start (n' := 10) (l' := #[true, true, true, false, false, false, false, false, false, false, false, false, false]) (by kernel_rfl) (by kernel_rfl) ?_
    refine Stg.wpAnyL_free (i := 3) (v := ?_) 0 rfl (by kernel_rfl) (by kernel_rfl) (by kernel_rfl) (by kernel_rfl) (by kernel_rfl) (fun _ _ _ h => h) (Or.inl ⟨by kernel_rfl, ?_⟩) (by assumption) ?_
    rotate_left
    · intro u _
      try simp only [List.getElem_toArray, List.getElem_cons_succ, List.getElem_cons_zero]
      go_simp
      try with_reducible rfl
    try simp only [Act.put, List.setIfInBounds_toArray, List.set_cons_zero, List.set_cons_succ]
    refine Stg.wpAnyL_free (i := 4) (v := ?_) 0 rfl (by kernel_rfl) (by kernel_rfl) (by kernel_rfl) (by kernel_rfl) (by kernel_rfl) (fun _ _ _ h => h) (Or.inl ⟨by kernel_rfl, ?_⟩) (by assumption) ?_
    rotate_left
    · intro u _
      try simp only [List.getElem_toArray, List.getElem_cons_succ, List.getElem_cons_zero]
      go_simp
      try with_reducible rfl
    try simp only [Act.put, List.setIfInBounds_toArray, List.set_cons_zero, List.set_cons_succ]
    refine Stg.wpAnyL_free (i := 5) (v := ?_) 0 rfl (by kernel_rfl) (by kernel_rfl) (by kernel_rfl) (by kernel_rfl) (by kernel_rfl) (fun _ _ _ h => h) (Or.inl ⟨by kernel_rfl, ?_⟩) (by assumption) ?_
    rotate_left
    · intro u _
      try simp only [List.getElem_toArray, List.getElem_cons_succ, List.getElem_cons_zero]
      go_simp
      try with_reducible rfl
    try simp only [Act.put, List.setIfInBounds_toArray, List.set_cons_zero, List.set_cons_succ]
    refine Stg.wpAnyL_start (n' := 7) (l' := #[true, true, true, true, true, true, false, false, false, false, false, false, false]) (by kernel_rfl) (by kernel_rfl) ?_
    refine Stg.wpAnyL_free (i := 6) (v := ?_) 0 rfl (by kernel_rfl) (by kernel_rfl) (by kernel_rfl) (by kernel_rfl) (by kernel_rfl) (fun _ _ _ h => h) (Or.inl ⟨by kernel_rfl, ?_⟩) (by assumption) ?_
    rotate_left
    · intro u _
      try simp only [List.getElem_toArray, List.getElem_cons_succ, List.getElem_cons_zero]
      go_simp
      try with_reducible rfl
    try simp only [Act.put, List.setIfInBounds_toArray, List.set_cons_zero, List.set_cons_succ]
    refine Stg.wpAnyL_one (i := 7) 0 rfl (by kernel_rfl) (by kernel_rfl) (fun K hK => ?_)
    try simp only [List.getElem_toArray, List.getElem_cons_succ, List.getElem_cons_zero]
    rw [if_pos (by kernel_rfl)]
    refine wp_append_full (.tmp 19) (.tmp 20) rfl (by kernel_rfl) (by kernel_rfl) (hL.out _ (bNext hB1.out (hHeld rfl) (Nat.le_refl _))) (hL2.out _ (bNext hB1.out (hHeld rfl) (Nat.le_refl _))) (by omega) ?_
    intro a5 c5 w5 hL5 hb1
    refine hK.out _ _ ?_ (fun hHeld1 => ?_)
    · exact fun _ => bNext (hHeld rfl) hb1 (Nat.le_refl _)
    clear hK K
    try simp only [Act.put, List.setIfInBounds_toArray, List.set_cons_zero, List.set_cons_succ]
    refine Stg.wpAnyL_one (i := 8) 0 rfl (by kernel_rfl) (by kernel_rfl) (fun K hK => ?_)
    try simp only [List.getElem_toArray, List.getElem_cons_succ, List.getElem_cons_zero]
    go_simp
    refine (hmade.out _ _ _ hL5).mono ?_
    rintro e w6 ⟨a6, n6, c6, rfl, hL6, hF6, hb2⟩
    refine hK.out _ _ ?_ (fun hHeld2 => ?_)
    · exact fun _ => bNext (hHeld1 rfl) hb2 (Nat.le_refl _)
    clear hK K
    try simp only [Act.put, List.setIfInBounds_toArray, List.set_cons_zero, List.set_cons_succ]
    refine Stg.wpAnyL_start (n' := 4) (l' := #[true, true, true, true, true, true, true, true, true, false, false, false, false]) (by kernel_rfl) (by kernel_rfl) ?_
    refine Stg.wpAnyL_free (i := 9) (v := ?_) 0 rfl (by kernel_rfl) (by kernel_rfl) (by kernel_rfl) (by kernel_rfl) (by kernel_rfl) (fun _ _ _ h => h) (Or.inl ⟨by kernel_rfl, ?_⟩) (by assumption) ?_
    rotate_left
    · intro u _
      try simp only [List.getElem_toArray, List.getElem_cons_succ, List.getElem_cons_zero]
      go_simp
      try with_reducible rfl
    try simp only [Act.put, List.setIfInBounds_toArray, List.set_cons_zero, List.set_cons_succ]
    refine Stg.wpAnyL_free (i := 10) (v := ?_) 0 rfl (by kernel_rfl) (by kernel_rfl) (by kernel_rfl) (by kernel_rfl) (by kernel_rfl) (fun _ _ _ h => h) (Or.inl ⟨by kernel_rfl, ?_⟩) (by assumption) ?_
    rotate_left
    · intro u _
      try simp only [List.getElem_toArray, List.getElem_cons_succ, List.getElem_cons_zero]
      go_simp
      try with_reducible rfl
    try simp only [Act.put, List.setIfInBounds_toArray, List.set_cons_zero, List.set_cons_succ]
    refine Stg.wpAnyL_one (i := 11) 1 rfl (by kernel_rfl) (by kernel_rfl) (fun K hK => ?_)
    have rs6 := rs1.out.bel (hHeld2 rfl)
    have hB6 := bNext hB1.out (hHeld2 rfl) (Nat.le_refl _)
    have hFF := hF6.mono (show w.heap.size + 2 ≤ w5.heap.size by have := hb1.size; have := rs1.out.l; simp at *; omega)
    have r0 := rs6.c 0 _ rfl
    have r1 := rs6.c 1 _ rfl
    have r2 := rs6.c 2 _ rfl
    have rf := rs6.f 0
    have rf1 := rs6.f 1
    have rf2 := rs6.f 2
    have rs7 := blk_set3 rs6 (.int .i64 (madeR b t (l ++ l2)).b) (.int .i64 (madeR b t (l ++ l2)).t) (.slice a6 n6 c6)
    have s0 := Lib.hid (rs7.c 0 _ rfl)
    have s1 := Lib.hid (rs7.c 1 _ rfl)
    have s2 := Lib.hid (rs7.c 2 _ rfl)
    have hL7 := Lib.hid (hL6.set3 hFF (show w.heap.size + 1 < w.heap.size + 2 by omega) rs6 (.int .i64 (madeR b t (l ++ l2)).b) (.int .i64 (madeR b t (l ++ l2)).t) (.slice a6 n6 c6))
    have hB7 := Lib.hid (below_set3 hB6 (show w.heap.size ≤ w.heap.size + 1 by omega) (.int .i64 (madeR b t (l ++ l2)).b) (.int .i64 (madeR b t (l ++ l2)).t) (.slice a6 n6 c6))
    replace hFF := Lib.hid hFF
    clear rs6 hB6 rs7 hL6 hF6
    try simp only [List.getElem_toArray, List.getElem_cons_succ, List.getElem_cons_zero]
    go_simp
    refine hK.out _ _ ?_ (fun hHeld3 => ?_)
    · exact fun h => absurd h (by decide)
    clear hK K
    try simp only [Act.put, List.setIfInBounds_toArray, List.set_cons_zero, List.set_cons_succ]
    refine Stg.wpAnyL_start (n' := 1) (l' := #[true, true, true, true, true, true, true, true, true, true, true, true, false]) (by kernel_rfl) (by kernel_rfl) ?_
    refine Stg.wpAnyL_free (i := 12) (v := ?_) 1 rfl (by kernel_rfl) (by kernel_rfl) (by kernel_rfl) (by kernel_rfl) (by kernel_rfl) (fun _ _ _ h => h) (Or.inl ⟨by kernel_rfl, ?_⟩) (by assumption) ?_
    rotate_left
    · intro u _
      try simp only [List.getElem_toArray, List.getElem_cons_succ, List.getElem_cons_zero]
      go_simp
      try with_reducible rfl
    try simp only [Act.put, List.setIfInBounds_toArray, List.set_cons_zero, List.set_cons_succ]
    refine Stg.wpAnyL_done (by kernel_rfl) ?_ _
    try simp only [List.getElem_toArray, List.getElem_cons_succ, List.getElem_cons_zero]
    try simp only [Act.put, List.setIfInBounds_toArray, List.set_cons_zero, List.set_cons_succ]
    refine NoPanic.normal ?_
    go_wp2_with fail
    refine bodyPost_ret (v := .tuple #[.agg #[.int .i64 (madeR b t (l ++ l2)).b, .int .i64 (madeR b t (l ++ l2)).t, .slice a6 n6 c6], .int .i64 (madeR b t (l ++ l2)).e]) (by simp [results, Try.results17, go_sem, s0.out, s1.out, s2.out]) rfl ?_
    rw [hm.out]
    exact ⟨_, _, _, rfl, hL7.out, hFF.out.mono (by omega), hB7.out⟩
end Go.Proofs.Ytbiodlhiilmgkaa
