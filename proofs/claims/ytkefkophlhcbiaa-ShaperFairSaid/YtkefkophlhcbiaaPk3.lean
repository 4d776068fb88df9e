/- The contract of packet.Flow: two ranges over packet.of. -/
import Derived.Test.YtkefkophlhcbiaaPk2
namespace Go.Proofs.Ytkefkophlhcbiaa
open Go.ChangeShapes Go.WideShapes Go.ChangeAt Go.RowKit Go.Shelf
set_option linter.unusedVariables false
set_option linter.unusedSimpArgs false
attribute [local go_sem] Oper.semAt_some
open Pk BigFrame

namespace Pk
theorem ofs_pre {T : Nat → Int} {t : Int} {k N : Nat} (h : k ≤ N) : ofs T t k <+: ofs T t N := by
  induction N with
  | zero => rw [show k = 0 by omega]; exact List.prefix_refl _
  | succ N ih =>
    by_cases hk : k = N + 1
    · subst hk; exact List.prefix_refl _
    · refine (ih (by omega)).trans ?_
      by_cases g : T N = t
      · rw [ofs_in g]; exact List.prefix_append _ _
      · rw [ofs_out g]; exact List.prefix_refl _
/-- Whose a packet is. -/
def flowI (T : Nat → Int) (N : Nat) (t C : Int) : Int := if (ofs T t N).length = 0 then 0 else if C < 0 then 0 else (((ofs T t N).getD (C.toNat % (ofs T t N).length) 0 : Nat) : Int)
def flowE (T : Nat → Int) (N : Nat) (t C : Int) : Int := if (ofs T t N).length = 0 then 161 else if C < 0 then 2 else 0
theorem mem_ofs {T : Nat → Int} {t : Int} {N x : Nat} : x ∈ ofs T t N ↔ x < N ∧ T x = t := by
  induction N with
  | zero => simp [ofs]
  | succ N ih =>
    unfold ofs
    split
    · rename_i h
      rw [List.mem_append, ih, List.mem_singleton]
      constructor
      · rintro (⟨h1, h2⟩ | rfl)
        · exact ⟨by omega, h2⟩
        · exact ⟨by omega, h⟩
      · rintro ⟨h1, h2⟩
        by_cases hx : x = N
        · exact .inr hx
        · exact .inl ⟨by omega, h2⟩
    · rename_i h
      rw [ih]
      constructor
      · rintro ⟨h1, h2⟩; exact ⟨by omega, h2⟩
      · rintro ⟨h1, h2⟩
        refine ⟨?_, h2⟩
        by_cases hx : x = N
        · subst hx; exact absurd h2 h
        · omega
theorem ofs_at {T : Nat → Int} {t : Int} {k N q x : Nat} {p : List Nat} (hk : k < N) (hp : p ++ [x] = ofs T t (k + 1)) (hq : p.length = q) : (ofs T t N).getD q 0 = x := by
  obtain ⟨r, hr⟩ := ofs_pre (T := T) (t := t) (show k + 1 ≤ N by omega)
  rw [← hr, ← hp]
  simp [List.getD, ← hq]
theorem lt_of_heap {W : World} {D : Nat} {o : Obj} (h : W.heap[D]? = some o) : D < W.heap.size := (Array.getElem?_eq_some_iff.1 h).1
theorem heap_setCell {W : World} {D : Nat} {o : Obj} (a : Addr) (v : Value) (h : W.heap[D]? = some o) (ho : o.isCells = false) : (W.setCell a v).heap[D]? = some o := (KeepsOthers.setCell _ _ _).same D _ h ho
end Pk

set_option maxRecDepth 100000 in
set_option maxHeartbeats 4000000 in
theorem flow_c (T : Nat → Int) (num t C : Int) (ld : Value) (a : Option Addr) (N cap rb off : Nat) (w : World) (hN : N ≤ 9223372036854775807) (h0 : 0 < N → rb < w.heap.size) (ha : 0 < N → a = some ⟨rb, off, none⟩) (hr : ∀ i, i < N → w.cell? ⟨rb, off + i * 3, none⟩ = some (.int .i64 (T i))) (hC : C ≤ 9223372036854775807) :
    Calls Try.prog 27 #[.slice a N cap, .agg #[.int .i64 num, .int .i64 t, .int .i64 C, ld]] w fun e w' => e = .returned (.tuple #[.int .i64 (flowI T N t C), .int .i64 (flowE T N t C)]) ∧ Below w.heap.size w w' := by
  obtain ⟨rb', off', hrb, ha', hr'⟩ : ∃ rb' off', rb' < w.heap.size + 1 ∧ (0 < N → a = some ⟨rb', off', none⟩ ∧ rb' < w.heap.size) ∧ (∀ i, i < N → w.cell? ⟨rb', off' + i * 3, none⟩ = some (.int .i64 (T i))) := by
    by_cases hN0 : N = 0
    · exact ⟨w.heap.size, 0, by omega, fun h => absurd h (by omega), fun i hi => absurd hi (by omega)⟩
    · exact ⟨rb, off, by have := h0 (by omega); omega, fun h => ⟨ha h, h0 h⟩, hr⟩
  clear ha hr h0
  refine (callsIn_wide (n := 6)).1 ?_
  refine callsIn_of_wp_marks Try.func27 rfl trivial ?_ rfl
  simp only [Try.ntmps27, List.size_toArray, List.length_cons, List.length_nil, Nat.reduceAdd, Nat.reduceSub, Array.replicate_succ, Array.replicate_zero, List.push_toArray, List.append_toArray, List.nil_append, List.cons_append]
  gi_wp2_with (refine ⟨trivial, ?_⟩; gi_at_call 41; refine (callsIn_wide.2 (of_c _ _ _ _ _)).mono ?_; rintro e w' ⟨rfl, rfl⟩)
  have hB0 : Below w.heap.size w ((((((w.alloc (.cells #[.int .i64 num, .int .i64 t, .int .i64 C, ld] 38)).alloc (.cells #[.int .i64 0] 3)).alloc (.cells #[.int .i64 0] 28)).alloc (.cells #[.int .i64 0] 3)).alloc (.cells #[.slice a N cap] 22)).alloc (.cells #[.int .i64 t] 3)) := (((((Below.refl _ w).alloc (Nat.le_refl _) _).alloc (by simp) _).alloc (by simp; omega) _).alloc (by simp; omega) _ |>.alloc (by simp; omega) _).alloc (by simp; omega) _
  have hI0 : (((((((w.alloc (.cells #[.int .i64 num, .int .i64 t, .int .i64 C, ld] 38)).alloc (.cells #[.int .i64 0] 3)).alloc (.cells #[.int .i64 0] 28)).alloc (.cells #[.int .i64 0] 3)).alloc (.cells #[.slice a N cap] 22)).alloc (.cells #[.int .i64 t] 3)).cell? ⟨w.heap.size, 1, none⟩ = some (.int .i64 t) ∧ ((((((w.alloc (.cells #[.int .i64 num, .int .i64 t, .int .i64 C, ld] 38)).alloc (.cells #[.int .i64 0] 3)).alloc (.cells #[.int .i64 0] 28)).alloc (.cells #[.int .i64 0] 3)).alloc (.cells #[.slice a N cap] 22)).alloc (.cells #[.int .i64 t] 3)).cell? ⟨w.heap.size, 2, none⟩ = some (.int .i64 C) ∧ ((((((w.alloc (.cells #[.int .i64 num, .int .i64 t, .int .i64 C, ld] 38)).alloc (.cells #[.int .i64 0] 3)).alloc (.cells #[.int .i64 0] 28)).alloc (.cells #[.int .i64 0] 3)).alloc (.cells #[.slice a N cap] 22)).alloc (.cells #[.int .i64 t] 3)).cell? ⟨w.heap.size + 1, 0, none⟩ = some (.int .i64 0) ∧ ((((((w.alloc (.cells #[.int .i64 num, .int .i64 t, .int .i64 C, ld] 38)).alloc (.cells #[.int .i64 0] 3)).alloc (.cells #[.int .i64 0] 28)).alloc (.cells #[.int .i64 0] 3)).alloc (.cells #[.slice a N cap] 22)).alloc (.cells #[.int .i64 t] 3)).frozen? ⟨w.heap.size + 1, 0, none⟩ = false ∧ ((((((w.alloc (.cells #[.int .i64 num, .int .i64 t, .int .i64 C, ld] 38)).alloc (.cells #[.int .i64 0] 3)).alloc (.cells #[.int .i64 0] 28)).alloc (.cells #[.int .i64 0] 3)).alloc (.cells #[.slice a N cap] 22)).alloc (.cells #[.int .i64 t] 3)).cell? ⟨w.heap.size + 1 + 1, 0, none⟩ = some (.int .i64 0) ∧ ((((((w.alloc (.cells #[.int .i64 num, .int .i64 t, .int .i64 C, ld] 38)).alloc (.cells #[.int .i64 0] 3)).alloc (.cells #[.int .i64 0] 28)).alloc (.cells #[.int .i64 0] 3)).alloc (.cells #[.slice a N cap] 22)).alloc (.cells #[.int .i64 t] 3)).frozen? ⟨w.heap.size + 1 + 1, 0, none⟩ = false ∧ ((((((w.alloc (.cells #[.int .i64 num, .int .i64 t, .int .i64 C, ld] 38)).alloc (.cells #[.int .i64 0] 3)).alloc (.cells #[.int .i64 0] 28)).alloc (.cells #[.int .i64 0] 3)).alloc (.cells #[.slice a N cap] 22)).alloc (.cells #[.int .i64 t] 3)).cell? ⟨w.heap.size + 1 + 1 + 1, 0, none⟩ = some (.int .i64 (([] : List Nat).length : Nat)) ∧ ((((((w.alloc (.cells #[.int .i64 num, .int .i64 t, .int .i64 C, ld] 38)).alloc (.cells #[.int .i64 0] 3)).alloc (.cells #[.int .i64 0] 28)).alloc (.cells #[.int .i64 0] 3)).alloc (.cells #[.slice a N cap] 22)).alloc (.cells #[.int .i64 t] 3)).frozen? ⟨w.heap.size + 1 + 1 + 1, 0, none⟩ = false) := ⟨by go_simp, by go_simp, by go_simp, by go_simp, by go_simp, by go_simp, by go_simp, by go_simp⟩
  have hS0 : ((((((w.alloc (.cells #[.int .i64 num, .int .i64 t, .int .i64 C, ld] 38)).alloc (.cells #[.int .i64 0] 3)).alloc (.cells #[.int .i64 0] 28)).alloc (.cells #[.int .i64 0] 3)).alloc (.cells #[.slice a N cap] 22)).alloc (.cells #[.int .i64 t] 3)).cell? ⟨w.heap.size + 1 + 1 + 1 + 1, 0, none⟩ = some (.slice a N cap) := by go_simp
  have hS1 : ((((((w.alloc (.cells #[.int .i64 num, .int .i64 t, .int .i64 C, ld] 38)).alloc (.cells #[.int .i64 0] 3)).alloc (.cells #[.int .i64 0] 28)).alloc (.cells #[.int .i64 0] 3)).alloc (.cells #[.slice a N cap] 22)).alloc (.cells #[.int .i64 t] 3)).cell? ⟨w.heap.size + 1 + 1 + 1 + 1 + 1, 0, none⟩ = some (.int .i64 t) := by go_simp
  have hZ0 : ((((((w.alloc (.cells #[.int .i64 num, .int .i64 t, .int .i64 C, ld] 38)).alloc (.cells #[.int .i64 0] 3)).alloc (.cells #[.int .i64 0] 28)).alloc (.cells #[.int .i64 0] 3)).alloc (.cells #[.slice a N cap] 22)).alloc (.cells #[.int .i64 t] 3)).heap.size = w.heap.size + 1 + 1 + 1 + 1 + 1 + 1 := by simp
  generalize ((((((w.alloc (.cells #[.int .i64 num, .int .i64 t, .int .i64 C, ld] 38)).alloc (.cells #[.int .i64 0] 3)).alloc (.cells #[.int .i64 0] 28)).alloc (.cells #[.int .i64 0] 3)).alloc (.cells #[.slice a N cap] 22)).alloc (.cells #[.int .i64 t] 3)) = W0 at hB0 hI0 hS0 hS1 hZ0 ⊢
  refine wpIn_rangeFunc_ownG rfl (by omega) (gf := 53) (lb := #[.pointer (some ⟨w.heap.size + 1 + 1 + 1 + 1, 0, none⟩), .pointer (some ⟨w.heap.size + 1 + 1 + 1 + 1 + 1, 0, none⟩)]) rfl trivial (enters_of Try.func53 (by kernel_rfl) rfl)
    (of_stops T t a N cap rb' off' (6 - 1) (by omega) (w.heap.size + 1 + 1 + 1 + 1) (w.heap.size + 1 + 1 + 1 + 1 + 1) W0 hN (by omega) (by omega) (by omega) hS0 hS1 (fun h => (ha' h).1) (fun i hi => (hB0.cell (p := ⟨rb', off' + i * 3, none⟩) (ha' (by omega)).2).trans (hr' i hi))) keepF_t (keepF_b (by omega) (by omega) (by omega)) (Below.refl _ _) (fun _ => rfl)
    (fun pre W => (W.cell? ⟨w.heap.size, 1, none⟩ = some (.int .i64 t) ∧ W.cell? ⟨w.heap.size, 2, none⟩ = some (.int .i64 C) ∧ W.cell? ⟨w.heap.size + 1, 0, none⟩ = some (.int .i64 0) ∧ W.frozen? ⟨w.heap.size + 1, 0, none⟩ = false ∧ W.cell? ⟨w.heap.size + 1 + 1, 0, none⟩ = some (.int .i64 0) ∧ W.frozen? ⟨w.heap.size + 1 + 1, 0, none⟩ = false ∧ W.cell? ⟨w.heap.size + 1 + 1 + 1, 0, none⟩ = some (.int .i64 (pre.length : Nat)) ∧ W.frozen? ⟨w.heap.size + 1 + 1 + 1, 0, none⟩ = false) ∧ Below w.heap.size w W)
    (fun _ _ _ => False)
    (OwnFrom.and (Own.from (fun st A B row h hg hr => ⟨cell_kept h.1 hg hr, cell_kept h.2.1 hg hr, cell_kept h.2.2.1 hg hr, (frozen_kept h.2.2.1 hg hr).trans h.2.2.2.1, cell_kept h.2.2.2.2.1 hg hr, (frozen_kept h.2.2.2.2.1 hg hr).trans h.2.2.2.2.2.1, cell_kept h.2.2.2.2.2.2.1 hg hr, (frozen_kept h.2.2.2.2.2.2.1 hg hr).trans h.2.2.2.2.2.2.2⟩) _) (ownFrom_below (Nat.le_refl _) (by omega)))
    (fun _ _ _ _ _ hs _ _ => hs)
    ⟨hI0, hB0⟩
    (fun x => { tmps := #[.slice a N cap, .agg #[.int .i64 num, .int .i64 t, .int .i64 C, ld], undef, .pointer (some ⟨w.heap.size, 0, none⟩), .pointer (some ⟨w.heap.size + 1, 0, none⟩), .pointer (some ⟨w.heap.size + 1 + 1, 0, none⟩), .pointer (some ⟨w.heap.size + 1 + 1 + 1, 0, none⟩), undef, undef, .slice a N cap, .pointer (some ⟨w.heap.size, 1, none⟩), .int .i64 t, .func (.func 53) #[] #[.pointer (some ⟨w.heap.size + 1 + 1 + 1 + 1, 0, none⟩), .pointer (some ⟨w.heap.size + 1 + 1 + 1 + 1 + 1, 0, none⟩)], .int .i64 (x : Int), undef, undef, undef, undef, undef, undef, undef, undef, undef, undef, undef, undef, undef, undef, undef, undef, undef, undef, undef, undef, undef, undef, undef], defers := [] }) ?assign ?body ?done ?stop
  case assign =>
    intro l x W K hK
    gi_wp2
    exact hK
  case body =>
    rintro l pre x W ⟨⟨i1, i2, i3, i4, i5, i6, i7, i8⟩, hB⟩ hlen
    have hlen' : ((pre.length : Nat) : Int) < 9223372036854775807 := by omega
    gi_wp2
    exact ⟨(KeepsOthers.setCell _ _ _).from _, ⟨World.cell?_setCell_other _ _ _ _ (by simp), World.cell?_setCell_other _ _ _ _ (by simp), fun o => World.cell?_setCell_other _ _ _ _ (by simp <;> omega)⟩, ⟨by go_simp, by go_simp, by go_simp, by go_simp, by go_simp, by go_simp, (World.cell?_setCell_same _ _ _ i7).trans (by simp), by go_simp⟩, hB.setCell (p := ⟨w.heap.size + 1 + 1 + 1, 0, none⟩) (by simp only; omega) _⟩
  case done =>
    rintro D ys W hD rfl ⟨⟨i1, i2, i3, i4, i5, i6, i7, i8⟩, hB⟩ hK
    obtain ⟨c, hc⟩ : ∃ c, (ofs T t N).length = c := ⟨_, rfl⟩
    have hcN : c ≤ N := by rw [← hc]; exact ofs_len T t N
    rw [hc] at i7
    by_cases h0 : c = 0
    · subst h0
      have hI : flowI T N t C = 0 := by unfold flowI; rw [if_pos hc]
      have hE : flowE T N t C = 161 := by unfold flowE; rw [if_pos hc]
      replace hI := Lib.hid hI
      replace hE := Lib.hid hE
      gi_wp2
      have hK' := heap_setCell ⟨w.heap.size + 1 + 1, 0, none⟩ (.int .i64 161) (heap_setCell ⟨w.heap.size + 1, 0, none⟩ (.int .i64 0) hK rfl) rfl
      have hr0 : ((W.setCell ⟨w.heap.size + 1, 0, none⟩ (.int .i64 0)).setCell ⟨w.heap.size + 1 + 1, 0, none⟩ (.int .i64 161)).cell? ⟨w.heap.size + 1, 0, none⟩ = some (.int .i64 0) := by go_simp
      have hr1 : ((W.setCell ⟨w.heap.size + 1, 0, none⟩ (.int .i64 0)).setCell ⟨w.heap.size + 1 + 1, 0, none⟩ (.int .i64 161)).cell? ⟨w.heap.size + 1 + 1, 0, none⟩ = some (.int .i64 161) := by go_simp
      have hB' := ((hB.setCell (p := ⟨w.heap.size + 1, 0, none⟩) (by simp only; omega) (.int .i64 0)).setCell (p := ⟨w.heap.size + 1 + 1, 0, none⟩) (by simp only; omega) (.int .i64 161))
      generalize ((W.setCell ⟨w.heap.size + 1, 0, none⟩ (.int .i64 0)).setCell ⟨w.heap.size + 1 + 1, 0, none⟩ (.int .i64 161)) = W9 at hK' hr0 hr1 hB' ⊢
      refine ⟨by simp, .inl ⟨_, _, rfl, run_takeDeferred hK', ?_⟩⟩
      have hc5 := cell_kept hr0 (grownBy_putObj' _ D (.deferred none)) (fun r e => by cases e; exact ⟨_, hK', rfl⟩)
      have hc6 := cell_kept hr1 (grownBy_putObj' _ D (.deferred none)) (fun r e => by cases e; exact ⟨_, hK', rfl⟩)
      refine ⟨.tuple #[.int .i64 0, .int .i64 161], ?_, by rw [hI.out, hE.out], hB'.trans (belowK_b (w := w) (Nat.le_refl _) _ D _ _ (by omega) hK' rfl rfl)⟩
      simp [results, Try.results27, go_sem, hc5, hc6]
    · by_cases hC0 : C < 0
      · have hI : flowI T N t C = 0 := by unfold flowI; rw [if_neg (by omega), if_pos hC0]
        have hE : flowE T N t C = 2 := by unfold flowE; rw [if_neg (by omega), if_pos hC0]
        replace hI := Lib.hid hI
        replace hE := Lib.hid hE
        gi_wp2
        have hK' := heap_setCell ⟨w.heap.size + 1 + 1, 0, none⟩ (.int .i64 2) (heap_setCell ⟨w.heap.size + 1, 0, none⟩ (.int .i64 0) hK rfl) rfl
        have hr0 : ((W.setCell ⟨w.heap.size + 1, 0, none⟩ (.int .i64 0)).setCell ⟨w.heap.size + 1 + 1, 0, none⟩ (.int .i64 2)).cell? ⟨w.heap.size + 1, 0, none⟩ = some (.int .i64 0) := by go_simp
        have hr1 : ((W.setCell ⟨w.heap.size + 1, 0, none⟩ (.int .i64 0)).setCell ⟨w.heap.size + 1 + 1, 0, none⟩ (.int .i64 2)).cell? ⟨w.heap.size + 1 + 1, 0, none⟩ = some (.int .i64 2) := by go_simp
        have hB' := ((hB.setCell (p := ⟨w.heap.size + 1, 0, none⟩) (by simp only; omega) (.int .i64 0)).setCell (p := ⟨w.heap.size + 1 + 1, 0, none⟩) (by simp only; omega) (.int .i64 2))
        generalize ((W.setCell ⟨w.heap.size + 1, 0, none⟩ (.int .i64 0)).setCell ⟨w.heap.size + 1 + 1, 0, none⟩ (.int .i64 2)) = W9 at hK' hr0 hr1 hB' ⊢
        refine ⟨by simp, .inl ⟨_, _, rfl, run_takeDeferred hK', ?_⟩⟩
        have hc5 := cell_kept hr0 (grownBy_putObj' _ D (.deferred none)) (fun r e => by cases e; exact ⟨_, hK', rfl⟩)
        have hc6 := cell_kept hr1 (grownBy_putObj' _ D (.deferred none)) (fun r e => by cases e; exact ⟨_, hK', rfl⟩)
        refine ⟨.tuple #[.int .i64 0, .int .i64 2], ?_, by rw [hI.out, hE.out], hB'.trans (belowK_b (w := w) (Nat.le_refl _) _ D _ _ (by omega) hK' rfl rfl)⟩
        simp [results, Try.results27, go_sem, hc5, hc6]
      · have hI : flowI T N t C = (((ofs T t N).getD (C.toNat % c) 0 : Nat) : Int) := by unfold flowI; rw [hc, if_neg (by omega), if_neg hC0]
        have hE : flowE T N t C = 0 := by unfold flowE; rw [if_neg (by omega), if_neg hC0]
        replace hI := Lib.hid hI
        replace hE := Lib.hid hE
        have hz : w.heap.size + 1 + 1 + 1 < W.heap.size := World.block_lt_of_cell? _ _ i7
        obtain ⟨q, hq⟩ : ∃ q, C.toNat % c = q := ⟨_, rfl⟩
        have hqc : q < c := by rw [← hq]; exact Nat.mod_lt _ (by omega)
        have hqi : C % (c : Int) = (q : Nat) := by rw [← hq]; have : C = (C.toNat : Int) := by omega
                                                   rw [Int.natCast_emod, ← this]
        rw [hq] at hI
        have hDz := lt_of_heap hK
        have hN0 : 0 < N := by omega
        obtain ⟨ha1, ha2⟩ := ha' hN0
        replace ha1 := Lib.hid ha1
        have hl1 : (W.alloc (.cells #[.int .i64 (q : Nat)] 3)).cell? ⟨w.heap.size, 1, none⟩ = some (.int .i64 t) := (((Below.refl _ W).alloc (Nat.le_refl _) _).cell (p := ⟨w.heap.size, 1, none⟩) (by simp only; omega)).trans i1
        clear hq hI0 hB0 hS0 hS1 ha'
        gi_wp2_with (refine ⟨trivial, ?_⟩; gi_at_call 41; refine (callsIn_wide.2 (of_c _ _ _ _ _)).mono ?_; rintro e w' ⟨rfl, rfl⟩)
        have hB2 : Below w.heap.size w (((W.alloc (.cells #[.int .i64 (q : Nat)] 3)).alloc (.cells #[.slice a N cap] 22)).alloc (.cells #[.int .i64 t] 3)) := ((hB.alloc (by omega) _).alloc (by simp; omega) _).alloc (by simp; omega) _
        have hBn : Below W.heap.size W (((W.alloc (.cells #[.int .i64 (q : Nat)] 3)).alloc (.cells #[.slice a N cap] 22)).alloc (.cells #[.int .i64 t] 3)) := (((Below.refl _ W).alloc (Nat.le_refl _) _).alloc (by simp) _).alloc (by simp; omega) _
        have hI2 : ((((W.alloc (.cells #[.int .i64 (q : Nat)] 3)).alloc (.cells #[.slice a N cap] 22)).alloc (.cells #[.int .i64 t] 3)).cell? ⟨w.heap.size + 1, 0, none⟩ = some (.int .i64 0) ∧ (((W.alloc (.cells #[.int .i64 (q : Nat)] 3)).alloc (.cells #[.slice a N cap] 22)).alloc (.cells #[.int .i64 t] 3)).frozen? ⟨w.heap.size + 1, 0, none⟩ = false ∧ (((W.alloc (.cells #[.int .i64 (q : Nat)] 3)).alloc (.cells #[.slice a N cap] 22)).alloc (.cells #[.int .i64 t] 3)).cell? ⟨w.heap.size + 1 + 1, 0, none⟩ = some (.int .i64 0) ∧ (((W.alloc (.cells #[.int .i64 (q : Nat)] 3)).alloc (.cells #[.slice a N cap] 22)).alloc (.cells #[.int .i64 t] 3)).frozen? ⟨w.heap.size + 1 + 1, 0, none⟩ = false ∧ (((W.alloc (.cells #[.int .i64 (q : Nat)] 3)).alloc (.cells #[.slice a N cap] 22)).alloc (.cells #[.int .i64 t] 3)).cell? ⟨W.heap.size, 0, none⟩ = some (.int .i64 (q - ([] : List Nat).length : Nat)) ∧ (((W.alloc (.cells #[.int .i64 (q : Nat)] 3)).alloc (.cells #[.slice a N cap] 22)).alloc (.cells #[.int .i64 t] 3)).frozen? ⟨W.heap.size, 0, none⟩ = false) := ⟨(hBn.cell (p := ⟨w.heap.size + 1, 0, none⟩) (by simp only; omega)).trans i3, (hBn.frozen (p := ⟨w.heap.size + 1, 0, none⟩) (by simp only; omega)).trans i4, (hBn.cell (p := ⟨w.heap.size + 1 + 1, 0, none⟩) (by simp only; omega)).trans i5, (hBn.frozen (p := ⟨w.heap.size + 1 + 1, 0, none⟩) (by simp only; omega)).trans i6, by go_simp, by go_simp⟩
        have hS2 : (((W.alloc (.cells #[.int .i64 (q : Nat)] 3)).alloc (.cells #[.slice a N cap] 22)).alloc (.cells #[.int .i64 t] 3)).cell? ⟨W.heap.size + 1, 0, none⟩ = some (.slice a N cap) := by go_simp
        have hS3 : (((W.alloc (.cells #[.int .i64 (q : Nat)] 3)).alloc (.cells #[.slice a N cap] 22)).alloc (.cells #[.int .i64 t] 3)).cell? ⟨W.heap.size + 1 + 1, 0, none⟩ = some (.int .i64 t) := by go_simp
        have hK2 : (((W.alloc (.cells #[.int .i64 (q : Nat)] 3)).alloc (.cells #[.slice a N cap] 22)).alloc (.cells #[.int .i64 t] 3)).heap[D]? = some (.deferred (some [])) := by
          rw [Below.heap_alloc _ _ _ (by simp; omega), Below.heap_alloc _ _ _ (by simp; omega), Below.heap_alloc _ _ _ (by omega)]
          exact hK
        have hZ2 : (((W.alloc (.cells #[.int .i64 (q : Nat)] 3)).alloc (.cells #[.slice a N cap] 22)).alloc (.cells #[.int .i64 t] 3)).heap.size = W.heap.size + 1 + 1 + 1 := by simp
        generalize (((W.alloc (.cells #[.int .i64 (q : Nat)] 3)).alloc (.cells #[.slice a N cap] 22)).alloc (.cells #[.int .i64 t] 3)) = W2 at hB2 hI2 hS2 hS3 hK2 hZ2 ⊢
        have hOI : OwnFrom W2.heap.size (fun (pre : List Nat) (V : World) => ((V.cell? ⟨w.heap.size + 1, 0, none⟩ = some (.int .i64 0) ∧ V.frozen? ⟨w.heap.size + 1, 0, none⟩ = false ∧ V.cell? ⟨w.heap.size + 1 + 1, 0, none⟩ = some (.int .i64 0) ∧ V.frozen? ⟨w.heap.size + 1 + 1, 0, none⟩ = false ∧ V.cell? ⟨W.heap.size, 0, none⟩ = some (.int .i64 (q - pre.length : Nat)) ∧ V.frozen? ⟨W.heap.size, 0, none⟩ = false) ∧ pre.length ≤ q) ∧ Below w.heap.size w V ∧ V.heap[D]? = some (.deferred (some []))) :=
          (OwnFrom.and (Own.from (fun st A B row h hg hr => ⟨⟨cell_kept h.1.1 hg hr, (frozen_kept h.1.1 hg hr).trans h.1.2.1, cell_kept h.1.2.2.1 hg hr, (frozen_kept h.1.2.2.1 hg hr).trans h.1.2.2.2.1, cell_kept h.1.2.2.2.2.1 hg hr, (frozen_kept h.1.2.2.2.2.1 hg hr).trans h.1.2.2.2.2.2⟩, h.2⟩) _) (OwnFrom.and (ownFrom_below (Nat.le_refl _) (by omega)) (fun st A B row h hg hr => (hg.block D (lt_of_heap h) (fun e => by have := (hr D e.symm).1; omega)).trans h)))
        have hOX : ∀ cc : Code, OwnFrom W2.heap.size ((fun (cc : Code) (pre : List Nat) (V : World) => (cc = .ret ∧ ∃ p x, pre = p ++ [x] ∧ p.length = q ∧ V.cell? ⟨w.heap.size + 1, 0, none⟩ = some (.int .i64 (x : Nat)) ∧ V.cell? ⟨w.heap.size + 1 + 1, 0, none⟩ = some (.int .i64 0)) ∧ Below w.heap.size w V ∧ V.heap[D]? = some (.deferred (some []))) cc) := (fun cc => OwnFrom.and (Own.from (fun st A B row hh hg hr => ⟨hh.1, by obtain ⟨p, x, g1, g2, g3, g4⟩ := hh.2; exact ⟨p, x, g1, g2, cell_kept g3 hg hr, cell_kept g4 hg hr⟩⟩) _) (OwnFrom.and (ownFrom_below (Nat.le_refl _) (by omega)) (fun st A B row h hg hr => (hg.block D (lt_of_heap h) (fun e => by have := (hr D e.symm).1; omega)).trans h)))
        refine wpIn_rangeFunc_ownG rfl (by omega) (gf := 53) (lb := #[.pointer (some ⟨W.heap.size + 1, 0, none⟩), .pointer (some ⟨W.heap.size + 1 + 1, 0, none⟩)]) rfl trivial (enters_of Try.func53 (by kernel_rfl) rfl)
          (of_stops T t a N cap rb' off' (6 - 1) (by omega) (W.heap.size + 1) (W.heap.size + 1 + 1) W2 hN (by omega) (by omega) (by omega) hS2 hS3 (fun h => ha1.out) (fun i hi => (hB2.cell (p := ⟨rb', off' + i * 3, none⟩) ha2).trans (hr' i hi))) keepF_t (keepF_b (by omega) (by omega) (by omega)) (Below.refl _ _) (fun _ => rfl)
          (fun pre V => ((V.cell? ⟨w.heap.size + 1, 0, none⟩ = some (.int .i64 0) ∧ V.frozen? ⟨w.heap.size + 1, 0, none⟩ = false ∧ V.cell? ⟨w.heap.size + 1 + 1, 0, none⟩ = some (.int .i64 0) ∧ V.frozen? ⟨w.heap.size + 1 + 1, 0, none⟩ = false ∧ V.cell? ⟨W.heap.size, 0, none⟩ = some (.int .i64 (q - pre.length : Nat)) ∧ V.frozen? ⟨W.heap.size, 0, none⟩ = false) ∧ pre.length ≤ q) ∧ Below w.heap.size w V ∧ V.heap[D]? = some (.deferred (some [])))
          (fun cc pre V => (cc = .ret ∧ ∃ p x, pre = p ++ [x] ∧ p.length = q ∧ V.cell? ⟨w.heap.size + 1, 0, none⟩ = some (.int .i64 (x : Nat)) ∧ V.cell? ⟨w.heap.size + 1 + 1, 0, none⟩ = some (.int .i64 0)) ∧ Below w.heap.size w V ∧ V.heap[D]? = some (.deferred (some [])))
          hOI hOX
          ⟨⟨hI2, by simp⟩, hB2, hK2⟩
          (fun x => { tmps := #[.slice a N cap, .agg #[.int .i64 num, .int .i64 t, .int .i64 C, ld], undef, .pointer (some ⟨w.heap.size, 0, none⟩), .pointer (some ⟨w.heap.size + 1, 0, none⟩), .pointer (some ⟨w.heap.size + 1 + 1, 0, none⟩), .pointer (some ⟨w.heap.size + 1 + 1 + 1, 0, none⟩), .pointer (some ⟨W.heap.size, 0, none⟩), .int .i64 (x : Int), .slice a N cap, .pointer (some ⟨w.heap.size, 1, none⟩), .int .i64 t, .func (.func 53) #[] #[.pointer (some ⟨w.heap.size + 1 + 1 + 1 + 1, 0, none⟩), .pointer (some ⟨w.heap.size + 1 + 1 + 1 + 1 + 1, 0, none⟩)], undef, undef, undef, .bool false, .int .i64 (c : Int), .bool false, .bool false, .pointer (some ⟨w.heap.size, 2, none⟩), .int .i64 C, .bool false, .pointer (some ⟨w.heap.size, 2, none⟩), .int .i64 C, .int .i64 (c : Int), .int .i64 (q : Int), .slice a N cap, .pointer (some ⟨w.heap.size, 1, none⟩), .int .i64 t, .func (.func 53) #[] #[.pointer (some ⟨W.heap.size + 1, 0, none⟩), .pointer (some ⟨W.heap.size + 1 + 1, 0, none⟩)], .int .i64 (x : Int), undef, undef, undef, undef, undef], defers := [] }) ?assign2 ?body2 ?done2 ?stop2
        case assign2 =>
          intro l x V K hK
          gi_wp2
          exact hK
        case body2 =>
          rintro l pre x V ⟨⟨⟨j1, j2, j3, j4, j5, j6⟩, hle⟩, hBV, hKV⟩ hlen
          by_cases hpq : pre.length = q
          · rw [hpq, Nat.sub_self] at j5
            gi_wp2
            exact ⟨((KeepsOthers.setCell _ _ _).from _).trans ((KeepsOthers.setCell _ _ _).from _), ⟨rfl, pre, x, rfl, hpq, by go_simp, by go_simp⟩, (hBV.setCell (p := ⟨w.heap.size + 1, 0, none⟩) (by simp only; omega) _).setCell (p := ⟨w.heap.size + 1 + 1, 0, none⟩) (by simp only; omega) _, heap_setCell _ _ (heap_setCell _ _ hKV rfl) rfl⟩
          · obtain ⟨m, hm⟩ : ∃ m, q - pre.length = m + 1 := ⟨q - pre.length - 1, by omega⟩
            rw [hm, Int.natCast_add, Int.natCast_one] at j5
            have hlt : (m : Int) + 1 ≤ 9223372036854775807 := by omega
            have hne : (((m : Int) + 1) == 0) = false := by simp; omega
            have hq2 := Lib.hid (show q - (pre.length + 1) = m by omega)
            have hq3 := Lib.hid (show pre.length + 1 ≤ q by omega)
            have hzz := Lib.hid hz
            clear hm hpq hle hqi hlen hqc hc hcN h0 hC0 hN0 hN hDz hz hC
            gi_wp2
            have hz := hzz.out
            exact ⟨(KeepsOthers.setCell _ _ _).from _, ⟨World.cell?_setCell_other _ _ _ _ (by simp), World.cell?_setCell_other _ _ _ _ (by simp), fun o => World.cell?_setCell_other _ _ _ _ (by simp <;> omega)⟩, ⟨⟨by go_simp, by go_simp, by go_simp, by go_simp, (World.cell?_setCell_same _ _ _ j5).trans (by simp [hq2.out]), by go_simp⟩, by simpa using hq3.out⟩, hBV.setCell (p := ⟨W.heap.size, 0, none⟩) (by simp only; omega) _, heap_setCell _ _ hKV rfl⟩
        case done2 =>
          rintro D2 ys V hD2 rfl ⟨⟨_, hle⟩, _⟩ _
          omega
        case stop2 =>
          rintro D2 cc pre V hD2 ⟨k, hk, hTk, hp⟩ ⟨⟨rfl, p, x, rfl, hpl, g1, g2⟩, hBV, hKV⟩ hKV2
          have hx := ofs_at hk hp hpl
          rw [hx] at hI
          gi_wp2
          have hDD : D ≠ D2 := by omega
          refine ⟨by simp, .inl ⟨_, _, rfl, run_takeDeferred hKV2, ?_⟩⟩
          have hKV' : (V.putObj D2 (.deferred none)).heap[D]? = some (.deferred (some [])) := ((grownBy_putObj' V D2 (.deferred none)).block D (lt_of_heap hKV) (fun e => by cases e; exact hDD rfl)).trans hKV
          have hc5 := cell_kept g1 (grownBy_putObj' _ D2 (.deferred none)) (fun r e => by cases e; exact ⟨_, hKV2, rfl⟩)
          have hc6 := cell_kept g2 (grownBy_putObj' _ D2 (.deferred none)) (fun r e => by cases e; exact ⟨_, hKV2, rfl⟩)
          have hB' := hBV.trans (belowK_b (w := w) (Nat.le_refl _) _ D2 _ (.deferred none) (by omega) hKV2 rfl rfl)
          generalize V.putObj D2 (.deferred none) = V9 at hKV' hc5 hc6 hB' ⊢
          refine ⟨by simp, .inl ⟨_, _, rfl, run_takeDeferred hKV', ?_⟩⟩
          have hc7 := cell_kept hc5 (grownBy_putObj' _ D (.deferred none)) (fun r e => by cases e; exact ⟨_, hKV', rfl⟩)
          have hc8 := cell_kept hc6 (grownBy_putObj' _ D (.deferred none)) (fun r e => by cases e; exact ⟨_, hKV', rfl⟩)
          refine ⟨.tuple #[.int .i64 (x : Nat), .int .i64 0], ?_, by rw [hI.out, hE.out], hB'.trans (belowK_b (w := w) (Nat.le_refl _) _ D _ _ (by omega) hKV' rfl rfl)⟩
          simp [results, Try.results27, go_sem, hc7, hc8]
  case stop =>
    rintro D c pre W _ _ h _
    exact h.elim
end Go.Proofs.Ytkefkophlhcbiaa
