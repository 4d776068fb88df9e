/- The shaper: what the law hands to be judged. -/
import Derived.Test.YtkefkophlhcbiaaS13
namespace Go.Proofs.Ytkefkophlhcbiaa
open Go.ChangeShapes Go.WideShapes Go.ChangeAt Go.RowKit Go.Deep
set_option linter.unusedVariables false
set_option linter.unusedSimpArgs false
open BigFrame Pk Sh Fa Fq Jw
open By (Byt RowG blkO)
open Fp (Pt PQ PqP)
open Bs (IntRows cellB)

namespace Sh
theorem own_cells {w : World} {B : Nat} {e : TypeId} {size m : Nat} {a : Option Addr} {n c : Nat} {vs : List Value} (h : w.ownsRow B e size (.slice a n c) m vs) (hm : 0 < m) : ∃ g, a = some ⟨g, 0, none⟩ ∧ g < w.heap.size ∧ ∀ i x, vs[i]? = some x → w.cell? ⟨g, i, none⟩ = some x := by
  obtain ⟨g, cap, e1, _, hl⟩ := h.form hm
  injection e1 with e1 e2 e3
  subst e1 e2 e3
  refine ⟨g, rfl, hl, fun i x hx => ?_⟩
  have hi := (List.getElem?_eq_some_iff.1 hx).1
  rw [h.cellAt i (by have := h.1; omega)]
  exact hx
def slA : Value → Option Addr
  | .slice a _ _ => a
  | _ => none
def slC : Value → Nat
  | .slice _ _ c => c
  | _ => 0
theorem recS (I : Ids) (ins : List Iv) (out : List (Nat × Pt)) (i : Nat) (kp : Nat × Pt) (h : out[i]? = some kp) (j : Nat) (hj : j < 6) : ([.int .i64 0, .int .i64 0, .int .i64 kp.2.t, .int .i64 (kp.1 : Nat), .int .i64 (8 + (kp.2.d.length : Int)), .int .i64 kp.2.x] : List Value)[j]? = some (.int .i64 ((recJ I ins out).S i j)) := by
  have : j = 0 ∨ j = 1 ∨ j = 2 ∨ j = 3 ∨ j = 4 ∨ j = 5 := by omega
  rcases this with rfl | rfl | rfl | rfl | rfl | rfl <;> simp [recJ, h]
theorem LA.jat {I : Ids} {w0 w : World} {k tk : Nat} {a7 a8 a9 : Option Addr} {n7 n8 n9 c7 c8 c9 : Nat} {G : Gs} {ins : List Iv} {out : List (Nat × Pt)} {vs : List Value} {kd : Nat → Nat} (h : LA I w0 w k tk (.slice a7 n7 c7) (.slice a9 n9 c9) (.slice a8 n8 c8) G ins out vs kd)
    {af : Option Addr} {fb fo N : Nat} {X : Nat → Nat → Int} (hF : IntRows w0 af fb fo N 3 X) (hIN : I.N = N) (hIT : I.T = fun i => X i 0) (hk : k ≤ 120) (hN : N ≤ 60) :
    ∃ ob oo A L C A2 L2 C2, JAt w (recJ I ins out) a7 af a9 a8 fb fo ob oo A L C A2 L2 C2 := by
  have hFw := hF.bel h.l.bel
  have hil := h.n.2
  have hol : out.length ≤ 120 := by have := h.i.c; have := h.i.n; omega
  have hvl : vs.length = out.length := by have := h.l.b.1; omega
  obtain ⟨ob, hob⟩ : ∃ ob, 0 < out.length → a9 = some ⟨ob, 0, none⟩ ∧ ob < w.heap.size ∧ ∀ i x, (sentC out)[i]? = some x → w.cell? ⟨ob, i, none⟩ = some x := by
    by_cases hp : 0 < out.length
    · obtain ⟨g, h1, h2, h3⟩ := own_cells h.l.o hp
      exact ⟨g, fun _ => ⟨h1, h2, h3⟩⟩
    · exact ⟨0, fun q => absurd q hp⟩
  refine ⟨ob, 0, fun i => (ins.getD i iv0).a, fun i => (ins.getD i iv0).n, fun i => (ins.getD i iv0).c, fun i => slA (vs.getD i undef), fun i => ((out.map fun kp => bldD kp.2).getD i []).length, fun i => slC (vs.getD i undef), ⟨?_, ?_⟩, ⟨?_, ?_⟩, fun hn => ?_, fun q hq => ?_, fun hn => ?_, fun q j hq hj => ?_, ⟨?_, ?_, ?_, ?_⟩, ⟨fun q hq => ?_, fun q hq => ?_⟩⟩
  · intro hp
    obtain ⟨g, h1, h2, h3⟩ := own_cells h.l.i hp
    refine ⟨g, 0, h1, h2, fun i hi => ?_⟩
    rw [Nat.zero_add]
    refine h3 i _ ?_
    have hi' : i < ins.length := hi
    unfold ivC
    rw [List.getElem?_map, List.getElem?_eq_getElem hi', List.getD_eq_getElem?_getD, List.getElem?_eq_getElem hi']
    rfl
  · intro i hi
    have hi' : i < ins.length := hi
    have e : ins.getD i iv0 = ins[i] := by rw [List.getD_eq_getElem?_getD, List.getElem?_eq_getElem hi']; rfl
    show Byt w (ins.getD i iv0).a (ins.getD i iv0).n (ins.getD i iv0).c (ins.getD i iv0).d
    rw [e]
    exact (h.x _ (List.getElem_mem hi')).1.bel h.l.bel
  · intro hp
    have hp' : 0 < out.length := hp
    obtain ⟨g, h1, h2, h3⟩ := own_cells h.l.b hp'
    refine ⟨g, 0, h1, h2, fun i hi => ?_⟩
    have hi' : i < out.length := hi
    obtain ⟨g2, c2, e1, _⟩ := h.l.y i _ (List.getElem?_eq_getElem hi')
    have ev : vs.getD i undef = .slice (some ⟨g2, 0, none⟩) (8 + (out[i]).2.d.length) c2 := by rw [List.getD_eq_getElem?_getD, e1]; rfl
    have el : ((out.map fun kp => bldD kp.2).getD i []).length = 8 + (out[i]).2.d.length := by
      rw [List.getD_eq_getElem?_getD, List.getElem?_map, List.getElem?_eq_getElem hi']
      exact bldD_len _
    rw [Nat.zero_add, ev, el]
    exact h3 i _ e1
  · intro i hi
    have hi' : i < out.length := hi
    obtain ⟨g2, c2, e1, e2, _⟩ := h.l.y i _ (List.getElem?_eq_getElem hi')
    have ev : vs.getD i undef = .slice (some ⟨g2, 0, none⟩) (8 + (out[i]).2.d.length) c2 := by rw [List.getD_eq_getElem?_getD, e1]; rfl
    have ed : (out.map fun kp => bldD kp.2).getD i [] = bldD (out[i]).2 := by
      rw [List.getD_eq_getElem?_getD, List.getElem?_map, List.getElem?_eq_getElem hi']
      rfl
    show Byt w (slA (vs.getD i undef)) ((out.map fun kp => bldD kp.2).getD i []).length (slC (vs.getD i undef)) ((out.map fun kp => bldD kp.2).getD i [])
    rw [ev, ed, bldD_len]
    exact e2
  · have hn' : 0 < I.N := hn
    exact ⟨hFw.ha (by omega), hFw.hb (by omega)⟩
  · have hq' : q < I.N := hq
    have := hFw.c0 q (by omega) (by omega)
    rw [this]
    show some (Value.int .i64 (X q 0)) = some (.int .i64 (I.T q))
    rw [hIT]
  · exact ⟨(hob hn).1, (hob hn).2.1⟩
  · have hq' : q < out.length := hq
    rw [Nat.zero_add]
    refine (hob (by omega)).2.2 _ _ ?_
    rw [sentC_at out q _ (List.getElem?_eq_getElem hq') j hj]
    exact recS I ins out q _ (List.getElem?_eq_getElem hq') j hj
  · show ins.length ≤ 200; omega
  · show out.length ≤ 200; omega
  · show out.length ≤ 200; omega
  · show I.N ≤ 200; omega
  · have hq' : q < ins.length := hq
    have e : ins.getD q iv0 = ins[q] := by rw [List.getD_eq_getElem?_getD, List.getElem?_eq_getElem hq']; rfl
    show (ins.getD q iv0).n ≤ 60000
    rw [e]
    have := (h.x _ (List.getElem_mem hq')).2
    omega
  · have hq' : q < out.length := hq
    have ed : (out.map fun kp => bldD kp.2).getD q [] = bldD (out[q]).2 := by
      rw [List.getD_eq_getElem?_getD, List.getElem?_map, List.getElem?_eq_getElem hq']
      rfl
    show ((out.map fun kp => bldD kp.2).getD q []).length ≤ 60000
    rw [ed, bldD_len]
    obtain ⟨_, j, iv, _, _, hg, _, _, _, _, hd⟩ := h.i.o _ (List.getElem_mem hq')
    rw [hd, List.length_drop]
    have := hg.2.1
    omega
theorem LA.whole {I : Ids} {w0 w : World} {k tk : Nat} {vi vo vb : Value} {G : Gs} {ins : List Iv} {out : List (Nat × Pt)} {vs : List Value} {kd : Nat → Nat} (h : LA I w0 w k tk vi vo vb G ins out vs kd) : (recJ I ins out).whole :=
  h.i.whole (fun iv hiv => (h.x iv hiv).1.lt)
end Sh
end Go.Proofs.Ytkefkophlhcbiaa
