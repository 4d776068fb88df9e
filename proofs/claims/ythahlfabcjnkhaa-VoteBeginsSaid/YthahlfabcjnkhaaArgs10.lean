/- How arguments of the types api.Rows and api.Message are opened. -/
import Derived.Test.YthahlfabcjnkhaaOpen3
import Derived.Test.YthahlfabcjnkhaaHard10
namespace Go.Proofs.Ythahlfabcjnkhaa
open Go.ChangeShapes Go.WideShapes Go.ChangeAt Go.RowKit
set_option linter.unusedVariables false
set_option linter.unusedSimpArgs false
open Rw Vt

abbrev XT_Rows := Rw.R
def Is_Rows (w : World) (v : Value) (x : XT_Rows) : Prop := v = x.val ∧ RWf x ∧ RAt w x
abbrev XT_Message := Msg
def MWf (m : Msg) : Prop := (Lit.int .i64 m.frm).wf = true ∧ (Lit.int .i64 m.term).wf = true ∧ (Lit.int .i64 m.index).wf = true ∧ (Lit.int .i64 m.last).wf = true
def Is_Message (w : World) (v : Value) (x : XT_Message) : Prop := v = x.val ∧ MWf x
def sla : Value → Option Addr
  | .slice a _ _ => a
  | _ => none
def sll : Value → Nat
  | .slice _ l _ => l
  | _ => 0
def slc : Value → Nat
  | .slice _ _ c => c
  | _ => 0
section
variable {H : Type} {enc : TypeId × Value → H} {w : World}
theorem len5 {l : List Value} (h : l.length = 5) : ∃ x0 x1 x2 x3 x4, l = [x0, x1, x2, x3, x4] := by
  match l, h with
  | [x0, x1, x2, x3, x4], _ => exact ⟨_, _, _, _, _, rfl⟩
set_option maxRecDepth 100000 in
theorem open_entry {n : Nat} {l : List Value} {z : DataW H × List MemPlace} (hl : l.length = 5) (h : DataW.trod enc Try.prog w 0 (fun _ => true) true n 135 l = some z) :
    ∃ x : Ent, EWf x ∧ l = [.int .i64 x.term, .int .i8 x.kind, .int .i64 x.stamp, .int .u8 x.set, .slice x.da x.dl x.dc] := by
  obtain ⟨_, m, hf⟩ := trod_fields Try.underlying135 h
  obtain ⟨x0, x1, x2, x3, x4, rfl⟩ := len5 hl
  have k0 : Try.prog.cellsOf 3 = 1 := by kernel_rfl
  have k1 : Try.prog.cellsOf 57 = 1 := by kernel_rfl
  have k3 : Try.prog.cellsOf 5 = 1 := by kernel_rfl
  have k4 : Try.prog.cellsOf 23 = 1 := by kernel_rfl
  obtain ⟨y0, t0⟩ := hf 0 _ rfl
  obtain ⟨y1, t1⟩ := hf 1 _ rfl
  obtain ⟨y2, t2⟩ := hf 2 _ rfl
  obtain ⟨y3, t3⟩ := hf 3 _ rfl
  obtain ⟨y4, t4⟩ := hf 4 _ rfl
  simp only [k0, k1, k3, k4, List.drop_zero, List.drop_succ_cons, List.take_succ_cons, List.take_zero, List.getElem_toArray, List.getElem_cons_zero, List.getElem_cons_succ] at t0 t1 t2 t3 t4
  obtain ⟨e0, f0⟩ := trod_int' Try.underlying3 t0
  obtain ⟨e1, f1⟩ := trod_int' Try.underlying57 t1
  obtain ⟨e2, f2⟩ := trod_int' Try.underlying3 t2
  obtain ⟨e3, f3⟩ := trod_int' Try.underlying5 t3
  obtain ⟨a, dl, dc, rfl, hd, hdc⟩ := trod_slice' Try.underlying23 t4
  refine ⟨⟨intOf x0, intOf x1, intOf x2, intOf x3, a, dl, dc⟩, ?_, ?_⟩
  · have g0 := i64_in f0
    have g2 := i64_in f2
    exact ⟨g0.1, g0.2, g2.1, g2.2, by simp only; omega⟩
  · rw [← e0, ← e1, ← e2, ← e3]

theorem len3 {l : List Value} (h : l.length = 3) : ∃ x0 x1 x2, l = [x0, x1, x2] := by
  match l, h with
  | [x0, x1, x2], _ => exact ⟨_, _, _, rfl⟩
set_option maxRecDepth 100000 in
theorem open_Rows {r : Reach} {b0 : Nat} {v : Value} {d : DataW H} {p : List MemPlace} (hv : Value.okWide Try.prog w r b0 56 v) (h : DataW.Trod enc Try.prog w 0 (fun _ => true) true 56 v d p) : ∃ x, Is_Rows w v x := by
  obtain ⟨cs, rfl, hsz, m, hf⟩ := open_struct Try.underlying56 hv h
  rw [show Try.prog.cellsOf 56 = 3 by kernel_rfl] at hsz
  obtain ⟨x0, x1, x2, rfl⟩ := len3 hsz
  have k0 : Try.prog.cellsOf 3 = 1 := by kernel_rfl
  have k2 : Try.prog.cellsOf 54 = 1 := by kernel_rfl
  have k5 : Try.prog.cellsOf 135 = 5 := by kernel_rfl
  obtain ⟨y0, t0⟩ := hf 0 _ rfl
  obtain ⟨y1, t1⟩ := hf 1 _ rfl
  obtain ⟨y2, t2⟩ := hf 2 _ rfl
  simp only [k0, k2, List.drop_zero, List.drop_succ_cons, List.take_succ_cons, List.take_zero, List.getElem_toArray, List.getElem_cons_zero, List.getElem_cons_succ] at t0 t1 t2
  obtain ⟨e0, f0⟩ := trod_int' Try.underlying3 t0
  obtain ⟨e1, f1⟩ := trod_int' Try.underlying3 t1
  obtain ⟨a, len, cap, rfl, hl, hm, hrow⟩ := open_rowsN Try.underlying54 t2 (by rw [k5]; omega)
  rw [k5] at hrow
  have g0 := i64_in f0
  have g1 := i64_in f1
  unfold maxLen at hm
  by_cases hp : 0 < len
  · obtain ⟨b, off, V, n, rfl, hb, hV⟩ := hrow hp
    have hE : ∀ i, ∃ x : Ent, i < cap → EWf x ∧ V i = [.int .i64 x.term, .int .i8 x.kind, .int .i64 x.stamp, .int .u8 x.set, .slice x.da x.dl x.dc] := fun i => by
      by_cases hi : i < cap
      · obtain ⟨q1, _, z, q3⟩ := hV i hi
        obtain ⟨x, q4, q5⟩ := open_entry q1 q3
        exact ⟨x, fun _ => ⟨q4, q5⟩⟩
      · exact ⟨⟨0, 0, 0, 0, none, 0, 0⟩, fun h => absurd h hi⟩
    obtain ⟨e, he⟩ := Classical.axiomOfChoice hE
    refine ⟨⟨intOf x0, intOf x1, some ⟨b, off, none⟩, len, cap, e⟩, ?_, ⟨g0.1, g0.2, g1.1, g1.2, by simp only; omega, fun i hi => (he i (by simp only at hi; omega)).1⟩, fun _ => ⟨b, off, rfl, hb, fun i hi => ?_⟩⟩
    · show Value.agg #[x0, x1, .slice (some ⟨b, off, none⟩) len cap] = .agg #[.int .i64 (intOf x0), .int .i64 (intOf x1), .slice (some ⟨b, off, none⟩) len cap]
      rw [← e0, ← e1]
    · have hi' : i < cap := by simp only at hi; omega
      obtain ⟨_, q2, _⟩ := hV i hi'
      have q5 := (he i hi').2
      rw [q5] at q2
      have at' : ∀ j v, ([Value.int .i64 (e i).term, .int .i8 (e i).kind, .int .i64 (e i).stamp, .int .u8 (e i).set, .slice (e i).da (e i).dl (e i).dc] : List Value)[j]? = some v → w.cell? ⟨b, off + i * 5 + j, none⟩ = some v := fun j v h => by rw [Nat.add_assoc]; exact q2 j v h
      exact ⟨at' 0 _ rfl, at' 1 _ rfl, at' 2 _ rfl, at' 3 _ rfl, at' 4 _ rfl⟩
  · refine ⟨⟨intOf x0, intOf x1, a, len, cap, fun _ => ⟨0, 0, 0, 0, none, 0, 0⟩⟩, ?_, ⟨g0.1, g0.2, g1.1, g1.2, by simp only; omega, fun i hi => by simp only at hi; omega⟩, fun hp' => absurd hp' hp⟩
    show Value.agg #[x0, x1, .slice a len cap] = .agg #[.int .i64 (intOf x0), .int .i64 (intOf x1), .slice a len cap]
    rw [← e0, ← e1]

theorem len14 {l : List Value} (h : l.length = 14) : ∃ x0 x1 x2 x3 x4 x5 x6 x7 x8 x9 x10 x11 x12 x13, l = [x0, x1, x2, x3, x4, x5, x6, x7, x8, x9, x10, x11, x12, x13] := by
  match l, h with
  | [x0, x1, x2, x3, x4, x5, x6, x7, x8, x9, x10, x11, x12, x13], _ => exact ⟨_, _, _, _, _, _, _, _, _, _, _, _, _, _, rfl⟩
set_option maxRecDepth 100000 in
set_option maxHeartbeats 1600000 in
theorem open_msg {n : Nat} {l : List Value} {z : DataW H × List MemPlace} (hl : l.length = 14) (h : DataW.trod enc Try.prog w 0 (fun _ => true) true n 61 l = some z) :
    ∃ x : Msg, MWf x ∧ x.val = .agg l.toArray ∧ ∃ a len cap a2 l2 c2 a3 l3 c3, x.ents = .slice a len cap ∧ x.sdata = .slice a2 l2 c2 ∧ x.data = .slice a3 l3 c3 := by
  obtain ⟨_, m, hf⟩ := trod_fields Try.underlying61 h
  obtain ⟨x0, x1, x2, x3, x4, x5, x6, x7, x8, x9, x10, x11, x12, x13, rfl⟩ := len14 hl
  have k0 : Try.prog.cellsOf 3 = 1 := by kernel_rfl
  have k1 : Try.prog.cellsOf 57 = 1 := by kernel_rfl
  have k2 : Try.prog.cellsOf 4 = 1 := by kernel_rfl
  have k3 : Try.prog.cellsOf 5 = 1 := by kernel_rfl
  have k4 : Try.prog.cellsOf 23 = 1 := by kernel_rfl
  have k5 : Try.prog.cellsOf 54 = 1 := by kernel_rfl
  have k6 : Try.prog.cellsOf 59 = 4 := by kernel_rfl
  obtain ⟨y0, t0⟩ := hf 0 _ rfl
  obtain ⟨y1, t1⟩ := hf 1 _ rfl
  obtain ⟨y2, t2⟩ := hf 2 _ rfl
  obtain ⟨y3, t3⟩ := hf 3 _ rfl
  obtain ⟨y4, t4⟩ := hf 4 _ rfl
  obtain ⟨y5, t5⟩ := hf 5 _ rfl
  obtain ⟨y6, t6⟩ := hf 6 _ rfl
  obtain ⟨y7, t7⟩ := hf 7 _ rfl
  obtain ⟨y8, t8⟩ := hf 8 _ rfl
  obtain ⟨y9, t9⟩ := hf 9 _ rfl
  obtain ⟨y10, t10⟩ := hf 10 _ rfl
  simp only [k0, k1, k2, k3, k4, k5, k6, List.drop_zero, List.drop_succ_cons, List.take_succ_cons, List.take_zero, List.getElem_toArray, List.getElem_cons_zero, List.getElem_cons_succ] at t0 t1 t2 t3 t4 t5 t6 t7 t8 t9 t10
  obtain ⟨_, m2, hg⟩ := trod_fields Try.underlying59 t9
  obtain ⟨z0, s0⟩ := hg 0 _ rfl
  obtain ⟨z1, s1⟩ := hg 1 _ rfl
  obtain ⟨z2, s2⟩ := hg 2 _ rfl
  obtain ⟨z3, s3⟩ := hg 3 _ rfl
  simp only [k0, k1, k2, k3, k4, k5, k6, List.drop_zero, List.drop_succ_cons, List.take_succ_cons, List.take_zero, List.getElem_toArray, List.getElem_cons_zero, List.getElem_cons_succ] at s0 s1 s2 s3
  obtain ⟨e0, f0⟩ := trod_int' Try.underlying57 t0
  obtain ⟨e1, f1⟩ := trod_int' Try.underlying3 t1
  obtain ⟨e2, f2⟩ := trod_int' Try.underlying3 t2
  obtain ⟨e3, f3⟩ := trod_int' Try.underlying3 t3
  obtain ⟨e4, f4⟩ := trod_int' Try.underlying3 t4
  obtain ⟨e5, f5⟩ := trod_int' Try.underlying3 t5
  obtain ⟨e6, f6⟩ := trod_int' Try.underlying3 t6
  obtain ⟨b7, rfl⟩ := trod_bool' Try.underlying4 t7
  obtain ⟨a, len, cap, rfl, _, _⟩ := trod_slice' Try.underlying54 t8
  obtain ⟨e9, f9⟩ := trod_int' Try.underlying3 s0
  obtain ⟨e10, f10⟩ := trod_int' Try.underlying3 s1
  obtain ⟨e11, f11⟩ := trod_int' Try.underlying5 s2
  obtain ⟨a2, l2, c2, rfl, _, _⟩ := trod_slice' Try.underlying23 s3
  obtain ⟨a3, l3, c3, rfl, _, _⟩ := trod_slice' Try.underlying23 t10
  refine ⟨⟨intOf x0, intOf x1, intOf x2, intOf x3, intOf x4, intOf x5, intOf x6, b7, .slice a len cap, intOf x9, intOf x10, intOf x11, .slice a2 l2 c2, .slice a3 l3 c3⟩, ⟨f1, f3, f4, f5⟩, ?_, ⟨_, _, _, _, _, _, _, _, _, rfl, rfl, rfl⟩⟩
  show Value.agg #[.int .i8 (intOf x0), .int .i64 (intOf x1), .int .i64 (intOf x2), .int .i64 (intOf x3), .int .i64 (intOf x4), .int .i64 (intOf x5), .int .i64 (intOf x6), .bool b7, .slice a len cap, .int .i64 (intOf x9), .int .i64 (intOf x10), .int .u8 (intOf x11), .slice a2 l2 c2, .slice a3 l3 c3] = .agg #[x0, x1, x2, x3, x4, x5, x6, .bool b7, .slice a len cap, x9, x10, x11, .slice a2 l2 c2, .slice a3 l3 c3]
  rw [← e0, ← e1, ← e2, ← e3, ← e4, ← e5, ← e6, ← e9, ← e10, ← e11]
set_option maxRecDepth 100000 in
theorem open_Message {r : Reach} {b0 : Nat} {v : Value} {d : DataW H} {p : List MemPlace} (hv : Value.okWide Try.prog w r b0 61 v) (h : DataW.Trod enc Try.prog w 0 (fun _ => true) true 61 v d p) : ∃ x, Is_Message w v x := by
  have h' := h
  obtain ⟨cs, rfl, hsz, _⟩ := open_struct Try.underlying61 hv h
  rw [show Try.prog.cellsOf 61 = 14 by kernel_rfl] at hsz
  obtain ⟨fuel, hf⟩ := h'
  obtain ⟨x, h1, h2, _⟩ := open_msg (l := cs) hsz hf
  exact ⟨x, h2.symm, h1⟩
end
end Go.Proofs.Ythahlfabcjnkhaa
