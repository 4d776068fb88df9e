/- What AgentNil says. -/
import Derived.Test.YtldknmcnmhdgfaaG16
import Derived.Test.YtldknmcnmhdgfaaOpen3
namespace Go.Proofs.Ytldknmcnmhdgfaa
open Go.ChangeShapes Go.WideShapes Go.ChangeAt Go.RowKit Go.Deep
set_option linter.unusedVariables false
set_option linter.unusedSimpArgs false
open BigFrame Bs Ag

structure XT_Act where
  f0 : Int
  f1 : Int
  f2 : Int
  f3 : Int
  f4 : Int
  f5 : Int
  f6 : Int
  f7 : Int
  f8 : Int
  f9 : Int
  f10 : Int
def Is_Act (w : World) (v : Value) (x : XT_Act) : Prop := v = .agg #[.int .i64 x.f0, .int .i64 x.f1, .int .i64 x.f2, .int .i64 x.f3, .int .i64 x.f4, .int .i64 x.f5, .int .i64 x.f6, .int .i64 x.f7, .int .i64 x.f8, .int .i64 x.f9, .int .i64 x.f10]
theorem len_Act {l : List Value} (h : l.length = 11) : ∃ x0 x1 x2 x3 x4 x5 x6 x7 x8 x9 x10, l = [x0, x1, x2, x3, x4, x5, x6, x7, x8, x9, x10] := by
  match l, h with
  | [x0, x1, x2, x3, x4, x5, x6, x7, x8, x9, x10], _ => exact ⟨_, _, _, _, _, _, _, _, _, _, _, rfl⟩
section
variable {H : Type} {enc : TypeId × Value → H} {w : World}
set_option maxRecDepth 100000 in
set_option maxHeartbeats 1600000 in
theorem open_Act {r : Reach} {b0 : Nat} {v : Value} {d : DataW H} {p : List MemPlace} (hv : Value.okWide Try.prog w r b0 48 v) (h : DataW.Trod enc Try.prog w 0 (fun _ => true) true 48 v d p) : ∃ x, Is_Act w v x := by
  have h' := h
  obtain ⟨cs, rfl, hl, _⟩ := open_struct Try.underlying48 hv h
  rw [show Try.prog.cellsOf 48 = 11 by kernel_rfl] at hl
  obtain ⟨fuel, h2⟩ := h'
  obtain ⟨_, m, hf⟩ := trod_fields Try.underlying48 (show DataW.trod enc Try.prog w 0 (fun _ => true) true fuel 48 cs = some _ from h2)
  obtain ⟨x0, x1, x2, x3, x4, x5, x6, x7, x8, x9, x10, rfl⟩ := len_Act hl
  have k0 : Try.prog.cellsOf 22 = 1 := by kernel_rfl
  have k1 : Try.prog.cellsOf 3 = 1 := by kernel_rfl
  have k2 : Try.prog.cellsOf 24 = 5 := by kernel_rfl
  obtain ⟨yt0, t0⟩ := hf 0 _ rfl
  obtain ⟨yt1, t1⟩ := hf 1 _ rfl
  obtain ⟨yt2, t2⟩ := hf 2 _ rfl
  obtain ⟨yt3, t3⟩ := hf 3 _ rfl
  obtain ⟨yt4, t4⟩ := hf 4 _ rfl
  obtain ⟨yt5, t5⟩ := hf 5 _ rfl
  obtain ⟨yt6, t6⟩ := hf 6 _ rfl
  simp only [k0, k1, k2, List.drop_zero, List.drop_succ_cons, List.take_succ_cons, List.take_zero, List.getElem_toArray, List.getElem_cons_zero, List.getElem_cons_succ] at t0 t1 t2 t3 t4 t5 t6
  obtain ⟨_, mt5, hft5⟩ := trod_fields Try.underlying24 t5
  obtain ⟨yt7, t7⟩ := hft5 0 _ rfl
  obtain ⟨yt8, t8⟩ := hft5 1 _ rfl
  obtain ⟨yt9, t9⟩ := hft5 2 _ rfl
  obtain ⟨yt10, t10⟩ := hft5 3 _ rfl
  obtain ⟨yt11, t11⟩ := hft5 4 _ rfl
  simp only [k0, k1, k2, List.drop_zero, List.drop_succ_cons, List.take_succ_cons, List.take_zero, List.getElem_toArray, List.getElem_cons_zero, List.getElem_cons_succ] at t7 t8 t9 t10 t11
  obtain ⟨e0, _⟩ := trod_int' Try.underlying3 t0
  obtain ⟨e1, _⟩ := trod_int' Try.underlying3 t1
  obtain ⟨e2, _⟩ := trod_int' Try.underlying3 t2
  obtain ⟨e3, _⟩ := trod_int' Try.underlying3 t3
  obtain ⟨e4, _⟩ := trod_int' Try.underlying3 t4
  obtain ⟨e5, _⟩ := trod_int' Try.underlying22 t7
  obtain ⟨e6, _⟩ := trod_int' Try.underlying3 t8
  obtain ⟨e7, _⟩ := trod_int' Try.underlying3 t9
  obtain ⟨e8, _⟩ := trod_int' Try.underlying3 t10
  obtain ⟨e9, _⟩ := trod_int' Try.underlying3 t11
  obtain ⟨e10, _⟩ := trod_int' Try.underlying3 t6
  refine ⟨⟨intOf x0, intOf x1, intOf x2, intOf x3, intOf x4, intOf x5, intOf x6, intOf x7, intOf x8, intOf x9, intOf x10⟩, ?_⟩
  show Value.agg #[x0, x1, x2, x3, x4, x5, x6, x7, x8, x9, x10] = .agg #[.int .i64 (intOf x0), .int .i64 (intOf x1), .int .i64 (intOf x2), .int .i64 (intOf x3), .int .i64 (intOf x4), .int .i64 (intOf x5), .int .i64 (intOf x6), .int .i64 (intOf x7), .int .i64 (intOf x8), .int .i64 (intOf x9), .int .i64 (intOf x10)]
  rw [← e0, ← e1, ← e2, ← e3, ← e4, ← e5, ← e6, ← e7, ← e8, ← e9, ← e10]
end

set_option maxRecDepth 100000 in
set_option maxHeartbeats 40000000 in
theorem agentNil_some (w : World) (f0 f1 f2 f3 f4 f5 f6 f7 f8 f9 f10 : Int) : Calls Try.prog 6 #[.agg #[.int .i64 f0, .int .i64 f1, .int .i64 f2, .int .i64 f3, .int .i64 f4, .int .i64 f5, .int .i64 f6, .int .i64 f7, .int .i64 f8, .int .i64 f9, .int .i64 f10]] w fun e w' => e = .returned (.bool true) ∧ Below w.heap.size w w' := by
  have xb := Lib.hid (blk_new w [.int .i64 f0, .int .i64 f1, .int .i64 f2, .int .i64 f3, .int .i64 f4, .int .i64 f5, .int .i64 f6, .int .i64 f7, .int .i64 f8, .int .i64 f9, .int .i64 f10] 48)
  have hB := Lib.hid ((Below.refl w.heap.size w).alloc (Nat.le_refl _) (.cells #[.int .i64 f0, .int .i64 f1, .int .i64 f2, .int .i64 f3, .int .i64 f4, .int .i64 f5, .int .i64 f6, .int .i64 f7, .int .i64 f8, .int .i64 f9, .int .i64 f10] 48))
  go_enter Try.func6, Try.ntmps6
  go_upto_region 1 with fail
  generalize w.alloc (.cells #[.int .i64 f0, .int .i64 f1, .int .i64 f2, .int .i64 f3, .int .i64 f4, .int .i64 f5, .int .i64 f6, .int .i64 f7, .int .i64 f8, .int .i64 f9, .int .i64 f10] 48) = W at xb hB ⊢
  generalize hwb : w.heap.size = wb at xb hB ⊢
  replace hwb := Lib.hid hwb
  have c1 := xb.out.c 1 _ rfl
  have c2 := xb.out.c 2 _ rfl
  have c3 := xb.out.c 3 _ rfl
  have c4 := xb.out.c 4 _ rfl
  have c5 := xb.out.c 5 _ rfl
  have c6 := xb.out.c 6 _ rfl
  have c7 := xb.out.c 7 _ rfl
  have c8 := xb.out.c 8 _ rfl
  have c9 := xb.out.c 9 _ rfl
  have c10 := xb.out.c 10 _ rfl
  go_wp2_with fail
  refine (ask_nil _ _ _ _).mono ?_
  rintro e w1 ⟨rfl, hb⟩
  replace hB := Lib.hid (bNext hB.out hb (by have := hB.out.size; have := hwb.out; omega))
  replace xb := Lib.hid (xb.out.bel hb)
  clear hb c1 c2 c3 c4 c5 c6 c7 c8 c9 c10
  have c1 := xb.out.c 1 _ rfl
  have c2 := xb.out.c 2 _ rfl
  have c3 := xb.out.c 3 _ rfl
  have c4 := xb.out.c 4 _ rfl
  have c5 := xb.out.c 5 _ rfl
  have c6 := xb.out.c 6 _ rfl
  have c7 := xb.out.c 7 _ rfl
  have c8 := xb.out.c 8 _ rfl
  have c9 := xb.out.c 9 _ rfl
  have c10 := xb.out.c 10 _ rfl
  have hb := (Below.refl w1.heap.size w1).alloc (Nat.le_refl _) (.cells #[.int .i8 0, .int .i64 0, .int .i64 0, .int .i64 0, .int .i64 0, .int .i64 0, .int .i64 0, .int .i64 0, .int .i64 0, .int .i64 0, .int .i64 0, .bool false, .slice none 0 0] 31)
  replace hB := Lib.hid (bNext hB.out hb (by have := hB.out.size; have := hwb.out; omega))
  replace xb := Lib.hid (xb.out.bel hb)
  clear hb c1 c2 c3 c4 c5 c6 c7 c8 c9 c10
  go_upto_region 3 with fail
  generalize w1.alloc (.cells #[.int .i8 0, .int .i64 0, .int .i64 0, .int .i64 0, .int .i64 0, .int .i64 0, .int .i64 0, .int .i64 0, .int .i64 0, .int .i64 0, .int .i64 0, .bool false, .slice none 0 0] 31) = W1 at hB xb ⊢
  have c1 := xb.out.c 1 _ rfl
  have c2 := xb.out.c 2 _ rfl
  have c3 := xb.out.c 3 _ rfl
  have c4 := xb.out.c 4 _ rfl
  have c5 := xb.out.c 5 _ rfl
  have c6 := xb.out.c 6 _ rfl
  have c7 := xb.out.c 7 _ rfl
  have c8 := xb.out.c 8 _ rfl
  have c9 := xb.out.c 9 _ rfl
  have c10 := xb.out.c 10 _ rfl
  go_wp2_with fail
  refine (again_nil _).mono ?_
  rintro e w2 ⟨rfl, hb⟩
  replace hB := Lib.hid (bNext hB.out hb (by have := hB.out.size; have := hwb.out; omega))
  replace xb := Lib.hid (xb.out.bel hb)
  clear hb c1 c2 c3 c4 c5 c6 c7 c8 c9 c10
  have c1 := xb.out.c 1 _ rfl
  have c2 := xb.out.c 2 _ rfl
  have c3 := xb.out.c 3 _ rfl
  have c4 := xb.out.c 4 _ rfl
  have c5 := xb.out.c 5 _ rfl
  have c6 := xb.out.c 6 _ rfl
  have c7 := xb.out.c 7 _ rfl
  have c8 := xb.out.c 8 _ rfl
  have c9 := xb.out.c 9 _ rfl
  have c10 := xb.out.c 10 _ rfl
  have hb := (Below.refl w2.heap.size w2).alloc (Nat.le_refl _) (.cells #[.int .i8 0, .int .i64 0, .int .i64 0, .int .i64 0, .int .i64 0, .int .i64 0, .int .i64 0, .int .i64 0, .int .i64 0, .int .i64 0, .int .i64 0, .bool false, .slice none 0 0] 31)
  replace hB := Lib.hid (bNext hB.out hb (by have := hB.out.size; have := hwb.out; omega))
  replace xb := Lib.hid (xb.out.bel hb)
  clear hb
  have c1 := xb.out.c 1 _ rfl
  have c2 := xb.out.c 2 _ rfl
  have c3 := xb.out.c 3 _ rfl
  have c4 := xb.out.c 4 _ rfl
  have c5 := xb.out.c 5 _ rfl
  have c6 := xb.out.c 6 _ rfl
  have c7 := xb.out.c 7 _ rfl
  have c8 := xb.out.c 8 _ rfl
  have c9 := xb.out.c 9 _ rfl
  have c10 := xb.out.c 10 _ rfl
  go_wp2_with fail
  refine (giveup_nil _).mono ?_
  rintro e w3 ⟨rfl, rfl⟩
  go_wp2_with fail
  refine (told_nil _ _ _ _ _ _ _ _ _).mono ?_
  rintro e w4 ⟨rfl, hb⟩
  replace hB := Lib.hid (bNext hB.out hb (by have := hB.out.size; have := hwb.out; omega))
  replace xb := Lib.hid (xb.out.bel hb)
  clear hb c1 c2 c3 c4 c5 c6 c7 c8 c9 c10
  have c1 := xb.out.c 1 _ rfl
  have c2 := xb.out.c 2 _ rfl
  have c3 := xb.out.c 3 _ rfl
  have c4 := xb.out.c 4 _ rfl
  have c5 := xb.out.c 5 _ rfl
  have c6 := xb.out.c 6 _ rfl
  have c7 := xb.out.c 7 _ rfl
  have c8 := xb.out.c 8 _ rfl
  have c9 := xb.out.c 9 _ rfl
  have c10 := xb.out.c 10 _ rfl
  go_wp2_with fail
  refine (spend_nil _ _ _ _).mono ?_
  rintro e w5 ⟨rfl, rfl⟩
  go_wp2_with fail
  refine (tokens_nil _ _ _).mono ?_
  rintro e w6 ⟨rfl, rfl⟩
  go_wp2_with fail
  refine (reports_nil _ _).mono ?_
  rintro e w7 ⟨rfl, rfl⟩
  go_wp2_with fail
  refine (close_nil _ _ _).mono ?_
  rintro e w8 ⟨rfl, hb⟩
  replace hB := Lib.hid (bNext hB.out hb (by have := hB.out.size; have := hwb.out; omega))
  replace xb := Lib.hid (xb.out.bel hb)
  clear hb c1 c2 c3 c4 c5 c6 c7 c8 c9 c10
  have c1 := xb.out.c 1 _ rfl
  have c2 := xb.out.c 2 _ rfl
  have c3 := xb.out.c 3 _ rfl
  have c4 := xb.out.c 4 _ rfl
  have c5 := xb.out.c 5 _ rfl
  have c6 := xb.out.c 6 _ rfl
  have c7 := xb.out.c 7 _ rfl
  have c8 := xb.out.c 8 _ rfl
  have c9 := xb.out.c 9 _ rfl
  have c10 := xb.out.c 10 _ rfl
  go_wp2_with fail
  refine (held_nil _ _).mono ?_
  rintro e w9 ⟨rfl, rfl⟩
  go_wp2_with fail
  refine (wakes22_c _).mono ?_
  rintro e w10 ⟨rfl, hb⟩
  replace hB := Lib.hid (bNext hB.out hb (by have := hB.out.size; have := hwb.out; omega))
  clear hb c1 c2 c3 c4 c5 c6 c7 c8 c9 c10 xb
  go_wp2_with fail
  go_ret
  exact ⟨rfl, hwb.out.symm ▸ hB.out⟩

set_option maxRecDepth 100000 in
theorem agentNil_walk (w : World) (v0 : Value) (a0 : XT_Act) (w0 : Is_Act w v0 a0) : Calls Try.prog 6 #[v0] w fun e w' => e = .returned (.bool true) ∧ Below w.heap.size w w' := by
  unfold Is_Act at w0
  subst w0
  exact agentNil_some w _ _ _ _ _ _ _ _ _ _ _
end Go.Proofs.Ytldknmcnmhdgfaa
