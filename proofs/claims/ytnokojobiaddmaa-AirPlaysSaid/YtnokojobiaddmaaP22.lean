/- The document: Lose. -/
import Derived.Test.YtnokojobiaddmaaP21
namespace Go.Proofs.Ytnokojobiaddmaa
open Go.ChangeShapes Go.WideShapes Go.ChangeAt Go.RowKit Go.Maps
set_option linter.unusedVariables false
set_option linter.unusedSimpArgs false
open BigFrame Bs By Am Ar

namespace Ar
def RLoseP (m g base : Nat) (lv : Value) (l : List RM) (cv : Value) (ps : List (Int × Int)) (w : World) (e : Ending) (w' : World) : Prop :=
  ∃ lv', e = .returned (.int .i64 0) ∧ RF m w' g base lv' l cv ps ∧ Fx [g] lv lv' w w'
/-- The document's rows while a new row is laid. -/
theorem RF.setRow0 {m : Nat} {w : World} {g base base' : Nat} {lv lv' cv : Value} {l l' : List RM} {ps : List (Int × Int)} (h : RF m w g base lv l cv ps) (hown : w.ownsRow base' 34 14 lv' l'.length (rowM l')) (hb : base ≤ base') :
    RF m (w.setCell ⟨g, 0, none⟩ lv') g base lv' l' cv ps := by
  refine ⟨⟨?_, ?_, h.ra.h1, by have := h.ra.h6; simpa using this⟩, ?_, h.ge⟩
  · exact heap_set (o := 0) (v := lv') h.ra.hg
  · exact ownsRow_setCell_below (own_mono hown hb) (a := ⟨g, 0, none⟩) h.ra.h1 _
  · exact ownsRow_setCell_below h.k (a := ⟨g, 0, none⟩) h.ra.h1 _
end Ar

set_option maxRecDepth 100000 in
set_option maxHeartbeats 8000000 in
theorem rlose_ok {m : Nat} {w : World} {g base : Nat} {lv cv : Value} {l : List RM} {ps : List (Int × Int)} (h : RF m w g base lv l cv ps) (k : Nat) (hk : k < l.length) (hn : l.length ≤ 1024) :
    Calls Try.prog 30 #[.pointer (some ⟨g, 0, none⟩), .int .i64 (k : Nat)] w (RLoseP m g base lv (l.eraseIdx k) cv ps w) := by
  obtain ⟨i0, hi0, hz0, hz1, hz2⟩ := info_parts info_msg
  obtain ⟨q, cap, rfl, _⟩ := h.ra.own.form (by omega)
  obtain ⟨cur, hbq, hgq, hcap, hcm, hcs, htk⟩ : ∃ cur, base ≤ q ∧ w.heap[q]? = some (.cells cur 34 (0, 0)) ∧ l.length ≤ cap ∧ cap ≤ maxLen ∧ cur.size = cap * 14 ∧ cur.toList.take (l.length * 14) = rowM l := by
    obtain ⟨cur, h1, h2, h3, h4, h5, h6, _⟩ := own_parts h.ra.own
    exact ⟨cur, h1, h2, h3, h4, h5, h6⟩
  unfold maxLen at hcm
  obtain ⟨A, hA, hsrc⟩ : ∃ A : Addr, (if cap = k + 1 then some (⟨q, 0, none⟩ : Addr) else some ⟨q, (k + 1) * 14, none⟩) = some A ∧ ∀ t u, (rowM (l.drop (k + 1)))[t]? = some u → w.cell? (A.add t) = some u := by
    by_cases hcc : cap = k + 1
    · refine ⟨⟨q, 0, none⟩, by rw [if_pos hcc], fun t u h => ?_⟩
      have := (List.getElem?_eq_some_iff.1 h).1
      rw [rowM_len, List.length_drop] at this
      omega
    · refine ⟨⟨q, (k + 1) * 14, none⟩, by rw [if_neg hcc], fun t u h => ?_⟩
      rw [Addr.add_lit]
      exact heap_cell (w := w) hgq (del_src hk htk t u h)
  have hsr0 : ∀ t u, (rowM (l.take k))[t]? = some u → w.cell? ((⟨q, 0, none⟩ : Addr).add t) = some u := fun t u hu => by
    have ht : t < k * 14 := by have := (List.getElem?_eq_some_iff.1 hu).1; rw [rowM_len, List.length_take] at this; omega
    rw [Addr.add_lit, Nat.zero_add]
    refine heap_cell (w := w) hgq ?_
    rw [take_get htk t (by omega), row_split l k hk, List.getElem?_append_left (by rw [rowM_len, List.length_take]; omega)]
    exact hu
  have hl1 : (rowM (l.take k)).length = k * 14 := by rw [rowM_len, List.length_take]; congr 1; omega
  have hl2 : (rowM (l.drop (k + 1))).length = (l.length - (k + 1)) * 14 := by rw [rowM_len, List.length_drop]
  have c0 := h.ra.c0
  have cf := h.ra.f 0
  have hg := h.ra.lt
  have hkz : (0 : Int) ≤ (k : Int) := by omega
  have hkn : (k : Int) < (l.length : Int) := by omega
  have hkn1 : (k : Int) + 1 ≤ (l.length : Int) := by omega
  have hkc : (k : Int) ≤ (cap : Int) := by omega
  have hkc1 : (k : Int) + 1 ≤ (cap : Int) := by omega
  have hlc : (l.length : Int) ≤ (cap : Int) := by omega
  have hlz : (l.length : Int) ≤ 1024 := by omega
  have hcmi : (cap : Int) ≤ 9223372036854775807 := by omega
  have hke : k + (l.length - (k + 1)) = l.length - 1 := by omega
  have hbs := h.ra.h6
  replace h := Lib.hid h
  replace hsrc := Lib.hid hsrc
  replace hsr0 := Lib.hid hsr0
  replace hl1 := Lib.hid hl1
  replace hl2 := Lib.hid hl2
  replace hke := Lib.hid hke
  clear hgq htk hcs hcm
  go_enter Try.func30, Try.ntmps30
  go_wp2_with (first | (at_builtin; refine wpList_append_src rfl _ _ 49 (by rfl) w.heap.size 34 i0 _ 14 160 Try.underlying49 hi0 hz0 hz1 hz2 (by rfl) (by omega) (.slice none 0 0) 0 [] (by rfl) (World.ownsRow_nil _ _ _ _) (some ⟨q, 0, none⟩) k cap (rowM (l.take k)) (by rfl) hl1.out (fun _ => ⟨_, rfl, hsr0.out⟩) (rowM_one _) (by unfold maxLen; omega) (by omega) (Nat.le_refl _) ?_; intro v1 w1 hown1 hgrow1 hat1; rw [Nat.zero_add, List.nil_append] at hown1; obtain ⟨a1, cap1, rfl⟩ := own_shape hown1; have hB1 := (Below.refl w.heap.size w).grown hgrow1 (Nat.le_refl _) (fun q hq => by cases hq); have c1 := cellB hB1 c0; have hs1 := hB1.size; have hsrc1 := Lib.hid (fun t u hu => (hB1.cell (World.block_lt_of_cell? _ _ (hsrc.out t u hu))).trans (hsrc.out t u hu)); replace hB1 := Lib.hid hB1; clear hsr0 hgrow1 hat1) | (at_builtin; refine wpList_append_src rfl _ _ 49 (by rfl) w.heap.size 34 i0 _ 14 160 Try.underlying49 hi0 hz0 hz1 hz2 (by rfl) (by omega) _ k _ (by rfl) hown1 (some A) (l.length - (k + 1)) (cap - (k + 1)) (rowM (l.drop (k + 1))) (by rfl) hl2.out (fun _ => ⟨_, rfl, hsrc1.out⟩) (rowM_one _) (by unfold maxLen; omega) (by omega) hs1 ?_; intro v2 w2 hown2 hgrow2 hat2; rw [hke.out] at hown2; obtain ⟨a2, cap2, rfl⟩ := own_shape hown2; have hB2 := hB1.out.grown hgrow2 hs1 (fun q hq => (hown1.lt q hq).1); have c2 := cellB hB2 c0; have cf2 := (hB2.frozen (p := ⟨g, 0, none⟩) hg).trans cf))
  have hR2 := (h.out.bel hB2).setRow0 (l' := l.eraseIdx k) (by rw [List.length_eraseIdx_of_lt hk, erase_row]; exact hown2) hbs
  have hfx : Fx [g] (.slice (some ⟨q, 0, none⟩) l.length cap) (.slice a2 (l.length - 1) cap2) w (w2.setCell ⟨g, 0, none⟩ (.slice a2 (l.length - 1) cap2)) :=
    ⟨(hB2.mono (Nat.zero_le _)).setCell (Nat.zero_le _) _, fun b hb h1 h3 => (Below.heap_setCell w2 ⟨g, 0, none⟩ _ b (fun e => h1 (by simp [e]))).trans (hB2.block b hb), fun b hb h3 e => by have := (hown2.lt b e).1; omega⟩
  go_ret
  exact ⟨_, rfl, hR2, hfx⟩

theorem rlose_no {m : Nat} {w : World} {g base : Nat} {lv cv : Value} {l : List RM} {ps : List (Int × Int)} (h : RF m w g base lv l cv ps) (k : Int) (hk : k < 0 ∨ (l.length : Int) ≤ k) :
    Calls Try.prog 30 #[.pointer (some ⟨g, 0, none⟩), .int .i64 k] w fun e w' => e = .returned (.int .i64 4) ∧ w = w' := by
  have c0 := h.ra.c0
  obtain ⟨a, cap, rfl⟩ := own_shape h.ra.own
  obtain ⟨N, hN⟩ : ∃ N, l.length = N := ⟨_, rfl⟩
  rw [hN] at c0 hk
  clear h hN
  by_cases hneg : k < 0
  all_goals
    have hge : 0 ≤ k → (N : Int) ≤ k := fun _ => by omega
    try (have hge2 : (N : Int) ≤ k := by omega)
    clear hk hge
    go_enter Try.func30, Try.ntmps30
    go_wp2_with fail
    go_ret
    exact ⟨rfl, rfl⟩
end Go.Proofs.Ytnokojobiaddmaa
