/- The walk of ConfLatest. -/
import Derived.Test.YtgmbhbhjlhpbgaaFree12b
import Derived.Test.YtgmbhbhjlhpbgaaConf9
import Derived.Test.YtgmbhbhjlhpbgaaOpen3
import Derived.Deep.RegionHeld3
namespace Go.Proofs.Ytgmbhbhjlhpbgaa
open Go.ChangeShapes Go.WideShapes Go.ChangeAt Go.RowKit
set_option linter.unusedVariables false
set_option linter.unusedSimpArgs false
open Rw Lt

abbrev XT_Rows := Rw.R
def Is_Rows (w : World) (v : Value) (x : XT_Rows) : Prop := v = x.val ∧ RWf x ∧ RAt w x
section
variable {H : Type} {enc : TypeId × Value → H} {w : World}
theorem len5 {l : List Value} (h : l.length = 5) : ∃ x0 x1 x2 x3 x4, l = [x0, x1, x2, x3, x4] := by
  match l, h with
  | [x0, x1, x2, x3, x4], _ => exact ⟨_, _, _, _, _, rfl⟩
set_option maxRecDepth 100000 in
theorem open_entry {n : Nat} {l : List Value} {z : DataW H × List MemPlace} (hl : l.length = 5) (h : DataW.trod enc Try.prog w 0 (fun _ => true) true n 72 l = some z) :
    ∃ x : Ent, EWf x ∧ l = [.int .i64 x.term, .int .i8 x.kind, .int .i64 x.stamp, .int .u8 x.set, .slice x.da x.dl x.dc] := by
  obtain ⟨_, m, hf⟩ := trod_fields Try.underlying72 h
  obtain ⟨x0, x1, x2, x3, x4, rfl⟩ := len5 hl
  have k0 : Try.prog.cellsOf 3 = 1 := by kernel_rfl
  have k1 : Try.prog.cellsOf 69 = 1 := by kernel_rfl
  have k3 : Try.prog.cellsOf 5 = 1 := by kernel_rfl
  have k4 : Try.prog.cellsOf 70 = 1 := by kernel_rfl
  obtain ⟨y0, t0⟩ := hf 0 _ rfl
  obtain ⟨y1, t1⟩ := hf 1 _ rfl
  obtain ⟨y2, t2⟩ := hf 2 _ rfl
  obtain ⟨y3, t3⟩ := hf 3 _ rfl
  obtain ⟨y4, t4⟩ := hf 4 _ rfl
  simp only [k0, k1, k3, k4, List.drop_zero, List.drop_succ_cons, List.take_succ_cons, List.take_zero, List.getElem_toArray, List.getElem_cons_zero, List.getElem_cons_succ] at t0 t1 t2 t3 t4
  obtain ⟨e0, f0⟩ := trod_int' Try.underlying3 t0
  obtain ⟨e1, f1⟩ := trod_int' Try.underlying69 t1
  obtain ⟨e2, f2⟩ := trod_int' Try.underlying3 t2
  obtain ⟨e3, f3⟩ := trod_int' Try.underlying5 t3
  obtain ⟨a, dl, dc, rfl, hd, hdc⟩ := trod_slice' Try.underlying70 t4
  refine ⟨⟨intOf x0, intOf x1, intOf x2, intOf x3, a, dl, dc⟩, ?_, ?_⟩
  · have g0 := i64_in f0
    have g2 := i64_in f2
    exact ⟨g0.1, g0.2, g2.1, g2.2, by simp only; omega⟩
  · rw [← e0, ← e1, ← e2, ← e3]

theorem len3 {l : List Value} (h : l.length = 3) : ∃ x0 x1 x2, l = [x0, x1, x2] := by
  match l, h with
  | [x0, x1, x2], _ => exact ⟨_, _, _, rfl⟩
set_option maxRecDepth 100000 in
theorem open_Rows {r : Reach} {b0 : Nat} {v : Value} {d : DataW H} {p : List MemPlace} (hv : Value.okWide Try.prog w r b0 54 v) (h : DataW.Trod enc Try.prog w 0 (fun _ => true) true 54 v d p) : ∃ x, Is_Rows w v x := by
  obtain ⟨cs, rfl, hsz, m, hf⟩ := open_struct Try.underlying54 hv h
  rw [show Try.prog.cellsOf 54 = 3 by kernel_rfl] at hsz
  obtain ⟨x0, x1, x2, rfl⟩ := len3 hsz
  have k0 : Try.prog.cellsOf 3 = 1 := by kernel_rfl
  have k2 : Try.prog.cellsOf 52 = 1 := by kernel_rfl
  have k5 : Try.prog.cellsOf 72 = 5 := by kernel_rfl
  obtain ⟨y0, t0⟩ := hf 0 _ rfl
  obtain ⟨y1, t1⟩ := hf 1 _ rfl
  obtain ⟨y2, t2⟩ := hf 2 _ rfl
  simp only [k0, k2, List.drop_zero, List.drop_succ_cons, List.take_succ_cons, List.take_zero, List.getElem_toArray, List.getElem_cons_zero, List.getElem_cons_succ] at t0 t1 t2
  obtain ⟨e0, f0⟩ := trod_int' Try.underlying3 t0
  obtain ⟨e1, f1⟩ := trod_int' Try.underlying3 t1
  obtain ⟨a, len, cap, rfl, hl, hm, hrow⟩ := open_rowsN Try.underlying52 t2 (by rw [k5]; omega)
  rw [k5] at hrow
  have g0 := i64_in f0
  have g1 := i64_in f1
  unfold maxLen at hm
  by_cases hp : 0 < len
  · obtain ⟨b, off, V, n, rfl, hb, hV⟩ := hrow hp
    have hE : ∀ i, ∃ x : Ent, i < cap → EWf x ∧ V i = [.int .i64 x.term, .int .i8 x.kind, .int .i64 x.stamp, .int .u8 x.set, .slice x.da x.dl x.dc] := fun i => by
      by_cases hi : i < cap
      · obtain ⟨q1, _, z, q3⟩ := hV i hi
        obtain ⟨x, q4, q5⟩ := open_entry q1 q3
        exact ⟨x, fun _ => ⟨q4, q5⟩⟩
      · exact ⟨⟨0, 0, 0, 0, none, 0, 0⟩, fun h => absurd h hi⟩
    obtain ⟨e, he⟩ := Classical.axiomOfChoice hE
    refine ⟨⟨intOf x0, intOf x1, some ⟨b, off, none⟩, len, cap, e⟩, ?_, ⟨g0.1, g0.2, g1.1, g1.2, by simp only; omega, fun i hi => (he i (by simp only at hi; omega)).1⟩, fun _ => ⟨b, off, rfl, hb, fun i hi => ?_⟩⟩
    · show Value.agg #[x0, x1, .slice (some ⟨b, off, none⟩) len cap] = .agg #[.int .i64 (intOf x0), .int .i64 (intOf x1), .slice (some ⟨b, off, none⟩) len cap]
      rw [← e0, ← e1]
    · have hi' : i < cap := by simp only at hi; omega
      obtain ⟨_, q2, _⟩ := hV i hi'
      have q5 := (he i hi').2
      rw [q5] at q2
      have at' : ∀ j v, ([Value.int .i64 (e i).term, .int .i8 (e i).kind, .int .i64 (e i).stamp, .int .u8 (e i).set, .slice (e i).da (e i).dl (e i).dc] : List Value)[j]? = some v → w.cell? ⟨b, off + i * 5 + j, none⟩ = some v := fun j v h => by rw [Nat.add_assoc]; exact q2 j v h
      exact ⟨at' 0 _ rfl, at' 1 _ rfl, at' 2 _ rfl, at' 3 _ rfl, at' 4 _ rfl⟩
  · refine ⟨⟨intOf x0, intOf x1, a, len, cap, fun _ => ⟨0, 0, 0, 0, none, 0, 0⟩⟩, ?_, ⟨g0.1, g0.2, g1.1, g1.2, by simp only; omega, fun i hi => by simp only at hi; omega⟩, fun hp' => absurd hp' hp⟩
    show Value.agg #[x0, x1, .slice a len cap] = .agg #[.int .i64 (intOf x0), .int .i64 (intOf x1), .slice a len cap]
    rw [← e0, ← e1]
end

theorem conj3_below {w u u' : World} {b : Nat} {v0 v1 v2 : Value} (h : u.cell? ⟨b, 0, none⟩ = some v0 ∧ u.cell? ⟨b, 1, none⟩ = some v1 ∧ u.cell? ⟨b, 2, none⟩ = some v2 ∧ Below w.heap.size w u) (k : Below u.heap.size u u') :
    u'.cell? ⟨b, 0, none⟩ = some v0 ∧ u'.cell? ⟨b, 1, none⟩ = some v1 ∧ u'.cell? ⟨b, 2, none⟩ = some v2 ∧ Below w.heap.size w u' := by
  have hl : b < u.heap.size := block_lt_of_cell h.1
  exact ⟨(k.cell (p := ⟨b, _, none⟩) hl).trans h.1, (k.cell (p := ⟨b, _, none⟩) hl).trans h.2.1, (k.cell (p := ⟨b, _, none⟩) hl).trans h.2.2.1, h.2.2.2.trans (k.mono h.2.2.2.size)⟩
theorem conj3_out {w u : World} {b : Nat} {v0 v1 v2 : Value} (h : u.cell? ⟨b, 0, none⟩ = some v0 ∧ u.cell? ⟨b, 1, none⟩ = some v1 ∧ u.cell? ⟨b, 2, none⟩ = some v2 ∧ Below w.heap.size w u) : Below w.heap.size w u := h.2.2.2
theorem conj3_drew {w u : World} {b : Nat} {v0 v1 v2 : Value} (h : u.cell? ⟨b, 0, none⟩ = some v0 ∧ u.cell? ⟨b, 1, none⟩ = some v1 ∧ u.cell? ⟨b, 2, none⟩ = some v2 ∧ Below w.heap.size w u) :
    u.drew.cell? ⟨b, 0, none⟩ = some v0 ∧ u.drew.cell? ⟨b, 1, none⟩ = some v1 ∧ u.drew.cell? ⟨b, 2, none⟩ = some v2 ∧ Below w.heap.size w u.drew := ⟨h.1, h.2.1, h.2.2.1, h.2.2.2.drew⟩

theorem Great_c (r : Rw.R) (w : World) (hw : RWf r) (hr : RAt w r) : Calls Try.prog 44 #[r.val] w fun e w' => (∃ b, e = .returned (.bool b)) ∧ Below w.heap.size w w' := by
  have hb0 := (Below.refl w.heap.size w).alloc (Nat.le_refl _) (.cells #[.int .i64 r.base, .int .i64 r.term, .slice r.a r.n r.cap] 54)
  have lc := long_c _ r hw (hr.below hb0)
  have LC : ∃ b, Calls Try.prog 59 #[.slice r.a r.n r.cap] (w.alloc (.cells #[.int .i64 r.base, .int .i64 r.term, .slice r.a r.n r.cap] 54)) fun e w' => (∃ b, e = .returned (.bool b)) ∧ (w.alloc (.cells #[.int .i64 r.base, .int .i64 r.term, .slice r.a r.n r.cap] 54)) = w' := ⟨true, lc⟩
  clear lc
  obtain ⟨_, lc⟩ := LC
  unfold R.val
  go_enter Try.func44, Try.ntmps44
  go_wp2_with fail
  refine lc.mono ?_
  rintro e w1 ⟨⟨b, rfl⟩, rfl⟩
  go_wp2
  go_ret
  exact ⟨⟨b, rfl⟩, hb0⟩

set_option maxRecDepth 100000 in
set_option maxHeartbeats 3200000 in
theorem latest_h (w : World) (r : Rw.R) (s : Int) (term commit : Int) (hw : RWf r) (hr : RAt w r) :
    Calls Try.prog 12 #[r.val, .int .u8 s, .int .i64 term, .int .i64 commit] w fun e w' => e = .returned (.bool true) ∧ Below w.heap.size w w' := by
  obtain ⟨x0, x1, x2⟩ := box_cells w (.int .i64 r.base) (.int .i64 r.term) (.slice r.a r.n r.cap) 54
  have hb0 := (Below.refl w.heap.size w).alloc (Nat.le_refl _) (.cells #[.int .i64 r.base, .int .i64 r.term, .slice r.a r.n r.cap] 54)
  have HR := Lib.hid hr
  have HW := Lib.hid hw
  clear hr hw
  have c1 := fun u hu => latest_c r s u HW.out hu
  have c2 := fun u hu => rlatest_c r s u HW.out hu
  obtain ⟨A, hA⟩ : ∃ x, (latV r s).1 = x := ⟨_, rfl⟩
  obtain ⟨B, hB⟩ : ∃ x, (latV r s).2 = x := ⟨_, rfl⟩
  obtain ⟨E, hE⟩ : ∃ x, chkE r = x := ⟨_, rfl⟩
  rw [hA, hB, hE] at c1 c2
  have c3 := fun u hu => free_c r s term commit u HW.out hu
  have c4 := fun u hu => rfree_c r s term commit u HW.out hu
  obtain ⟨F, hF⟩ : ∃ x, freeE r s term commit = x := ⟨_, rfl⟩
  rw [hF] at c3 c4
  have gc := fun u hu => Great_c r u HW.out hu
  clear hA hB hE hF
  unfold R.val at c1 c2 c3 c4 gc ⊢
  go_enter Try.func12, Try.ntmps12
  go_wp2_with fail
  refine (gc _ (HR.out.below hb0)).mono ?_
  rintro e w1 ⟨⟨g, rfl⟩, hb1⟩
  have y0 := (hb1.cell (p := ⟨w.heap.size, 0, none⟩) (by simp)).trans x0
  have y1 := (hb1.cell (p := ⟨w.heap.size, 1, none⟩) (by simp)).trans x1
  have y2 := (hb1.cell (p := ⟨w.heap.size, 2, none⟩) (by simp)).trans x2
  have hB1 := belowNext hb0 hb1 (Nat.le_refl _)
  clear x0 x1 x2 hb1
  cases g with
  | true =>
    go_wp2_with fail
    refine (wakes12_c _).mono ?_
    rintro e w2 ⟨rfl, hb2⟩
    go_wp2
    go_ret
    exact ⟨rfl, belowNext hB1 hb2 (Nat.le_refl _)⟩
  | false =>
    have j1 := (⟨y0, y1, y2, hB1⟩ : _ ∧ _ ∧ _ ∧ _)
    go_wp2_with fail
    refine (c1 _ (HR.out.below hB1)).mono ?_
    rintro e w2 ⟨rfl, hb2⟩
    obtain ⟨z0, z1, z2, hB2⟩ := conj3_below j1 hb2
    clear j1 y0 y1 y2 hB1 hb2
    have j2 := (⟨z0, z1, z2, hB2⟩ : _ ∧ _ ∧ _ ∧ _)
    go_wp2_with fail
    refine (c2 _ (HR.out.below hB2)).mono ?_
    rintro e w3 ⟨rfl, hb3⟩
    have j3 := conj3_drew (conj3_below j2 hb3)
    clear j2 z0 z1 z2 hB2 hb3 c1 c2 gc
    go_wp2_with fail
    go_region_held3 (fun u => u.cell? ⟨w.heap.size, 0, none⟩ = some (.int .i64 r.base) ∧ u.cell? ⟨w.heap.size, 1, none⟩ = some (.int .i64 r.term) ∧ u.cell? ⟨w.heap.size, 2, none⟩ = some (.slice r.a r.n r.cap) ∧ Below w.heap.size w u) (first | assumption | exact conj3_below (by assumption) (by assumption))
      (first
        | (go_at_call 47; refine (c3 _ (HR.out.below (conj3_out (by assumption)))).mono ?_; rintro e w4 ⟨rfl, hb4⟩)
        | (go_at_call 48; refine (c4 _ (HR.out.below (conj3_out (by assumption)))).mono ?_; rintro e w4 ⟨rfl, hb4⟩)
        | (go_at_call 24; refine (wakes12_c _).mono ?_; rintro e w4 ⟨rfl, hb4⟩))
    all_goals
      go_wp2
      go_ret
      exact ⟨rfl, conj3_out (by assumption)⟩

theorem confLatest_walk (w : World) (v0 : Value) (a0 : XT_Rows) (a1 a2 a3 : Int) (w0 : Is_Rows w v0 a0) (w1 : (Lit.int .u8 a1).wf = true) (w2 : (Lit.int .i64 a2).wf = true) (w3 : (Lit.int .i64 a3).wf = true) :
    Calls Try.prog 12 #[v0, .int .u8 a1, .int .i64 a2, .int .i64 a3] w fun e w' => e = .returned (.bool true) ∧ Below w.heap.size w w' := by
  obtain ⟨rfl, hw, hr⟩ := w0
  exact latest_h w a0 a1 a2 a3 hw hr
end Go.Proofs.Ytgmbhbhjlhpbgaa
