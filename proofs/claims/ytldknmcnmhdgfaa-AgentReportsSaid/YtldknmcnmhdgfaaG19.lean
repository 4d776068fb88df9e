/- Leases: what AgentRestart says. -/
import Derived.Test.YtldknmcnmhdgfaaG18
import Derived.Test.YtldknmcnmhdgfaaOpen3
namespace Go.Proofs.Ytldknmcnmhdgfaa
open Go.ChangeShapes Go.WideShapes Go.ChangeAt Go.RowKit Go.Deep
set_option linter.unusedVariables false
set_option linter.unusedSimpArgs false
open BigFrame Bs Ag

structure XT_Answer where
  f0 : Int
  f1 : Int
  f2 : Int
  f3 : Int
  f4 : Int
def Is_Answer (w : World) (v : Value) (x : XT_Answer) : Prop := v = .agg #[.int .i64 x.f0, .int .i64 x.f1, .int .i64 x.f2, .int .i64 x.f3, .int .i64 x.f4]
theorem len_Answer {l : List Value} (h : l.length = 5) : ∃ x0 x1 x2 x3 x4, l = [x0, x1, x2, x3, x4] := by
  match l, h with
  | [x0, x1, x2, x3, x4], _ => exact ⟨_, _, _, _, _, rfl⟩
section
variable {H : Type} {enc : TypeId × Value → H} {w : World}
set_option maxRecDepth 100000 in
set_option maxHeartbeats 1600000 in
theorem open_Answer {r : Reach} {b0 : Nat} {v : Value} {d : DataW H} {p : List MemPlace} (hv : Value.okWide Try.prog w r b0 24 v) (h : DataW.Trod enc Try.prog w 0 (fun _ => true) true 24 v d p) : ∃ x, Is_Answer w v x := by
  have h' := h
  obtain ⟨cs, rfl, hl, _⟩ := open_struct Try.underlying24 hv h
  rw [show Try.prog.cellsOf 24 = 5 by kernel_rfl] at hl
  obtain ⟨fuel, h2⟩ := h'
  obtain ⟨_, m, hf⟩ := trod_fields Try.underlying24 (show DataW.trod enc Try.prog w 0 (fun _ => true) true fuel 24 cs = some _ from h2)
  obtain ⟨x0, x1, x2, x3, x4, rfl⟩ := len_Answer hl
  have k0 : Try.prog.cellsOf 22 = 1 := by kernel_rfl
  have k1 : Try.prog.cellsOf 3 = 1 := by kernel_rfl
  obtain ⟨yt0, t0⟩ := hf 0 _ rfl
  obtain ⟨yt1, t1⟩ := hf 1 _ rfl
  obtain ⟨yt2, t2⟩ := hf 2 _ rfl
  obtain ⟨yt3, t3⟩ := hf 3 _ rfl
  obtain ⟨yt4, t4⟩ := hf 4 _ rfl
  simp only [k0, k1, List.drop_zero, List.drop_succ_cons, List.take_succ_cons, List.take_zero, List.getElem_toArray, List.getElem_cons_zero, List.getElem_cons_succ] at t0 t1 t2 t3 t4
  obtain ⟨e0, _⟩ := trod_int' Try.underlying22 t0
  obtain ⟨e1, _⟩ := trod_int' Try.underlying3 t1
  obtain ⟨e2, _⟩ := trod_int' Try.underlying3 t2
  obtain ⟨e3, _⟩ := trod_int' Try.underlying3 t3
  obtain ⟨e4, _⟩ := trod_int' Try.underlying3 t4
  refine ⟨⟨intOf x0, intOf x1, intOf x2, intOf x3, intOf x4⟩, ?_⟩
  show Value.agg #[x0, x1, x2, x3, x4] = .agg #[.int .i64 (intOf x0), .int .i64 (intOf x1), .int .i64 (intOf x2), .int .i64 (intOf x3), .int .i64 (intOf x4)]
  rw [← e0, ← e1, ← e2, ← e3, ← e4]
end

namespace Ag
theorem mod_ex (a M : Int) (h : 0 < M) (h2 : M ≤ 1099511627776) : ∃ F : Int, (0 ≤ F ∧ F < M) ∧ (wrap64 (a.tmod M + M)).tmod M = F := by
  have h1 : a.tmod M < M := Int.tmod_lt_of_pos a h
  have h3 : -M < a.tmod M := Int.lt_tmod_of_pos a h
  have e : wrap64 (a.tmod M + M) = a.tmod M + M := by unfold wrap64; omega
  rw [e]
  have h4 : (a.tmod M + M).tmod M < M := Int.tmod_lt_of_pos _ h
  have h5 : 0 ≤ (a.tmod M + M).tmod M := Int.tmod_nonneg _ (by omega)
  exact ⟨_, ⟨h5, h4⟩, rfl⟩
theorem mod1_ex (a M : Int) (h : 0 < M) (h2 : M ≤ 1099511627776) : ∃ F : Int, (1 ≤ F ∧ F ≤ M) ∧ wrap64 (1 + (wrap64 (a.tmod M + M)).tmod M) = F := by
  obtain ⟨F, ⟨h1, h3⟩, e⟩ := mod_ex a M h h2
  rw [e]
  exact ⟨1 + F, by omega, by unfold wrap64; omega⟩
theorem later_ex (a E : Int) (h : 1 ≤ E ∧ E ≤ 1000) : ∃ F : Int, (E < F ∧ F ≤ 2000) ∧ wrap64 (wrap64 (E + 1) + (wrap64 (a.tmod 1000 + 1000)).tmod 1000) = F := by
  obtain ⟨F, ⟨h1, h3⟩, e⟩ := mod_ex a 1000 (by omega) (by omega)
  rw [e]
  exact ⟨E + 1 + F, by omega, by unfold wrap64; omega⟩
theorem mm_sub {B : Nat} {l k : List Nat} (h : ∀ x, x ∈ k → x ∈ l) : ∀ i, mm B k i → mm B l i := fun i hi => hi.elim .inl (fun q => .inr (h i q))
end Ag
set_option maxRecDepth 100000 in
set_option maxHeartbeats 40000000 in
theorem agentRestart_some (w : World) (a0 a1 a2 a3 f0 f1 f2 f3 f4 a5 : Int) : Calls Try.prog 3 #[.int .i64 a0, .int .i64 a1, .int .i64 a2, .int .i64 a3, .agg #[.int .i64 f0, .int .i64 f1, .int .i64 f2, .int .i64 f3, .int .i64 f4], .int .i64 a5] w fun e w' => e = .returned (.bool true) ∧ Below w.heap.size w w' := by
  have xb := Lib.hid (blk_new w [.int .i64 f0, .int .i64 f1, .int .i64 f2, .int .i64 f3, .int .i64 f4] 24)
  have hB := Lib.hid ((Below.refl w.heap.size w).alloc (Nat.le_refl _) (.cells #[.int .i64 f0, .int .i64 f1, .int .i64 f2, .int .i64 f3, .int .i64 f4] 24))
  have hW := Lib.hid (show (w.alloc (.cells #[.int .i64 f0, .int .i64 f1, .int .i64 f2, .int .i64 f3, .int .i64 f4] 24)).heap.size = w.heap.size + 1 by simp)
  obtain ⟨SH, ⟨S1, S2⟩, hS⟩ := mod1_ex a0 8 (by omega) (by omega)
  obtain ⟨EP, ⟨E1, E2⟩, hE⟩ := mod1_ex a1 1000 (by omega) (by omega)
  obtain ⟨LA, ⟨L1, L2⟩, hL⟩ := later_ex a2 EP (by omega)
  obtain ⟨NO, ⟨N1, N2⟩, hN⟩ := mod_ex a5 1099511627776 (by omega) (by omega)
  replace hS := Lib.hid hS
  replace hE := Lib.hid hE
  replace hL := Lib.hid hL
  replace hN := Lib.hid hN
  go_enter Try.func3, Try.ntmps3
  go_upto_region 5 with fail
  rw [hS.out, hE.out, hL.out, hN.out]
  clear hS hE hL hN
  generalize w.alloc (.cells #[.int .i64 f0, .int .i64 f1, .int .i64 f2, .int .i64 f3, .int .i64 f4] 24) = W at xb hB hW ⊢
  generalize hwb : w.heap.size = B at xb hB hW ⊢
  replace hwb := Lib.hid hwb
  have hn1 := Lib.hid (newF (mm (B + 1) []) W SH EP 10 (mm_nil (by rw [hW.out]; omega)) ⟨S1, S2⟩ E1 (by omega))
  go_wp2_with fail
  refine hn1.out.mono ?_
  rintro e w1 ⟨a, rfl, h1, ha, hb⟩
  rw [hW.out] at ha
  replace ha := Lib.hid ha
  have k1 := Lib.hid (Kp.of (m := mm (B + 1) []) hb)
  have hn2 := Lib.hid (newF (mm (B + 1) []) w1 SH LA 10 h1.mw ⟨S1, S2⟩ (by omega) (by omega))
  replace h1 := Lib.hid h1
  clear hn1 hb
  go_wp2_with fail
  refine hn2.out.mono ?_
  rintro e w2 ⟨b, rfl, h2, hb1, hb⟩
  have hab : b ≠ a := by have := h1.out.b.l; omega
  have hb0 := Lib.hid (Nat.le_trans ha.out (Nat.le_trans (Nat.le_of_lt h1.out.b.l) hb1))
  have k2 := Lib.hid (k1.out.trans (Kp.of hb))
  have hk := Lib.hid (askF (h1.out.bel hb) 1 9 NO (by omega) (by omega) (by omega) N1)
  replace h2 := Lib.hid h2
  replace hab := Lib.hid hab
  clear hn2 hb hb1 h1 k1 ha
  go_wp2_with fail
  refine hk.out.mono ?_
  rintro e w3 ⟨rfl, _, o3⟩
  have h3 := o3.agE h2.out hab.out
  have k3 := k2.out.trans o3.b
  have hb := (Below.refl w3.heap.size w3).alloc (Nat.le_refl _) (.cells #[.int .i8 4, .int .i64 0, .int .i64 1, .int .i64 1, .int .i64 0, .int .i64 0, .int .i64 SH, .int .i64 EP, .int .i64 0, .int .i64 9, .int .i64 0, .bool false, .slice none 0 0] 31)
  have cb := Lib.hid (blk_new w3 [.int .i8 4, .int .i64 0, .int .i64 1, .int .i64 1, .int .i64 0, .int .i64 0, .int .i64 SH, .int .i64 EP, .int .i64 0, .int .i64 9, .int .i64 0, .bool false, .slice none 0 0] 31)
  have h4 := Lib.hid (h3.bel hb)
  have k4 := Lib.hid (k3.trans (Kp.of hb))
  have lb := Lib.hid h3.b.l
  have lw := Lib.hid (Nat.le_trans (Nat.le_of_eq hW.out.symm) k3.size)
  clear hk o3 h3 k3 hb h2 k2 hab
  go_upto_region 10 with fail
  generalize w3.alloc (.cells #[.int .i8 4, .int .i64 0, .int .i64 1, .int .i64 1, .int .i64 0, .int .i64 0, .int .i64 SH, .int .i64 EP, .int .i64 0, .int .i64 9, .int .i64 0, .bool false, .slice none 0 0] 31) = W4 at cb h4 k4 ⊢
  generalize w3.heap.size = c at cb lb lw ⊢
  have hm4 : ∀ i, mm (B + 1) [c] i → i < W4.heap.size := mm_one (by have := lw.out; have := cb.out.l; omega) cb.out.l
  have h5 : AgE (mm (B + 1) [c]) W4 b (fr SH 10 LA 0) none 0 := h4.out.re (mm_not hb0.out (by have := lb.out; simp; omega)) hm4
  have c7 := cb.out.c 7 _ rfl
  have c2 := cb.out.c 2 _ rfl
  have ht := Lib.hid (staleF h5 EP 1 NO 0 0 0 1 9 N1)
  clear h4 h5 hm4 lb
  go_wp2_with fail
  refine ht.out.mono ?_
  rintro e w5 ⟨rfl, h6, k5⟩
  have cb5 := Lib.hid (k5.blk cb.out (.inr (by simp)))
  have k6 := Lib.hid (k4.out.trans (k5.sub (mm_sub (by simp))))
  have htk := Lib.hid (tokF h6 1 NO (Int.le_refl _))
  clear ht h6 k5 cb k4 c7 c2
  go_wp2_with fail
  refine htk.out.mono ?_
  rintro e w6 ⟨rfl, h7, k7⟩
  have cb6 := Lib.hid (k7.blk cb5.out (.inr (by simp)))
  have k8 := Lib.hid (k6.out.trans (k7.sub (mm_sub (by simp))))
  have hk := Lib.hid (askF h7 1 9 NO (by omega) (by omega) (by omega) (Int.le_refl _))
  clear htk h7 k7 cb5 k6
  go_wp2_with fail
  refine hk.out.mono ?_
  rintro e w7 ⟨rfl, h8, o8⟩
  have cb7 := o8.b.blk cb6.out (.inr (by simp))
  have k9 := k8.out.trans (o8.b.sub (mm_sub (by simp)))
  have hb := (Below.refl w7.heap.size w7).alloc (Nat.le_refl _) (.cells #[.int .i8 4, .int .i64 0, .int .i64 1, .int .i64 1, .int .i64 0, .int .i64 0, .int .i64 SH, .int .i64 LA, .int .i64 0, .int .i64 9, .int .i64 0, .bool false, .slice none 0 0] 31)
  have db := Lib.hid (blk_new w7 [.int .i8 4, .int .i64 0, .int .i64 1, .int .i64 1, .int .i64 0, .int .i64 0, .int .i64 SH, .int .i64 LA, .int .i64 0, .int .i64 9, .int .i64 0, .bool false, .slice none 0 0] 31)
  have h9 := Lib.hid (h8.bel hb)
  have k10 := Lib.hid (k9.trans (Kp.of hb))
  have cb8 := Lib.hid (cb7.bel hb)
  have lb := Lib.hid h8.b.l
  have lc := Lib.hid cb7.l
  clear hk o8 h8 k9 hb cb6 k8 cb7
  go_upto_region 13 with fail
  generalize w7.alloc (.cells #[.int .i8 4, .int .i64 0, .int .i64 1, .int .i64 1, .int .i64 0, .int .i64 0, .int .i64 SH, .int .i64 LA, .int .i64 0, .int .i64 9, .int .i64 0, .bool false, .slice none 0 0] 31) = W9 at db h9 k10 cb8 ⊢
  generalize w7.heap.size = dd at db lb lc ⊢
  have hm9 : ∀ i, mm (B + 1) [c, dd] i → i < W9.heap.size := mm_two (by have := lw.out; have := cb8.out.l; omega) cb8.out.l db.out.l
  obtain ⟨z1, z2⟩ := mm_ge h9.out.ma
  have h10 : AgE (mm (B + 1) [c, dd]) W9 b (as_ SH 10 LA 1 9 NO NO true) none 0 := h9.out.re (mm_not z1 (by have := lb.out; simp at z2 ⊢; omega)) hm9
  have c7 := cb8.out.c 7 _ rfl
  have c2 := cb8.out.c 2 _ rfl
  have d7 := db.out.c 7 _ rfl
  have d2 := db.out.c 2 _ rfl
  have ht := Lib.hid (staleA h10 EP 1 NO 0 0 0 1 9 (Int.le_refl _) (by omega))
  clear h9 h10 hm9 lb lc z1 z2
  go_wp2_with fail
  refine ht.out.mono ?_
  rintro e w10 ⟨rfl, h11, k11⟩
  have cb9 := Lib.hid (k11.blk cb8.out (.inr (by simp)))
  have db9 := Lib.hid (k11.blk db.out (.inr (by simp)))
  have k12 := Lib.hid (k10.out.trans (k11.sub (mm_sub (by simp))))
  have xb12 := Lib.hid (k12.out.blk xb.out (.inl (by omega)))
  clear ht k11 k10 cb8 db c7 c2 d7 d2
  have hfin : ∀ u, AgE (mm (B + 1) [c, dd]) u b (as_ SH 10 LA 1 9 NO NO true) none 0 → Calls Try.prog 10 #[.pointer (some ⟨b, 0, none⟩), .int .i64 1, .int .i64 NO] u (TokQ none 0 (mm (B + 1) [c, dd]) b (as_ SH 10 LA 1 9 NO NO true) u 0) := fun u h => tokA h 1 NO (Int.le_refl _)
  replace hfin := Lib.hid hfin
  have d2 := db9.out.c 2 _ rfl
  by_cases hnum : a3 = 1
  · subst hnum
    go_upto_region 17 with fail
    clear d2
    have htk := Lib.hid (hfin.out _ h11)
    clear h11 hfin
    go_wp2_with fail
    refine htk.out.mono ?_
    rintro e u1 ⟨rfl, g1, q1⟩
    have ht := Lib.hid (toldA g1 NO 1 9 (Int.le_refl _) (by omega) (by omega) (by omega) (by omega) (by omega))
    have db11 := q1.blk db9.out (.inr (by simp))
    have q2 := Lib.hid (k12.out.trans (q1.sub (mm_sub (by simp))))
    have d2 := db11.c 2 _ rfl
    clear htk g1 q1 db11 db9 cb9 k12
    go_wp2_with fail
    refine ht.out.mono ?_
    rintro e u2 ⟨q, g, cq, rfl, g2, q3⟩
    have q4 := Lib.hid (q2.out.trans (q3.sub (mm_sub (by simp))))
    have htk : Calls Try.prog 10 #[.pointer (some ⟨b, 0, none⟩), .int .i64 1, .int .i64 NO] u2 fun e w' => e = .returned (.int .i64 9) ∧ AgL (mm (B + 1) [c, dd]) w' b (as_ SH 10 LA 1 9 NO NO false) q g cq _ ∧ Kp (mm (B + 1) [c, dd]) u2 w' := tokL g2 NO (Int.le_refl _) (by show ¬ NO + 1000 * 10 ≤ NO; omega) (by show (0 : Int) ≤ 9 ∧ (9 : Int) ≤ 1000000; omega)
    replace htk := Lib.hid htk
    clear ht g2 q3 d2 q2
    go_wp2_with fail
    refine htk.out.mono ?_
    rintro e u3 ⟨rfl, _, q5⟩
    have q6 := Lib.hid (q4.out.trans (q5.sub (mm_sub (by simp))))
    clear htk q5 q4
    go_wp2_with fail
    refine (wakes22_c _).mono ?_
    rintro e u4 ⟨rfl, hb⟩
    have hF := Lib.hid ((hB.out.trans (q6.out.bel (fun i hi => .inl (by omega)) (by rw [hW.out]; omega))).trans (hb.mono (Nat.le_trans (by rw [hW.out]; omega) q6.out.size)))
    clear hb q6
    go_wp2_with fail
    go_ret
    exact ⟨rfl, hwb.out.symm ▸ hF.out⟩
  · have x0 := xb12.out.c 0 _ rfl
    have x1 := xb12.out.c 1 _ rfl
    have x2 := xb12.out.c 2 _ rfl
    have x3 := xb12.out.c 3 _ rfl
    have x4 := xb12.out.c 4 _ rfl
    have ht := Lib.hid (staleA h11 LA a3 NO f0 f1 f2 f3 f4 (Int.le_refl _) (by omega))
    clear h11
    go_wp2_with fail
    refine ht.out.mono ?_
    rintro e w11 ⟨rfl, h12, k13⟩
    have cb10 := Lib.hid (k13.blk cb9.out (.inr (by simp)))
    have db10 := Lib.hid (k13.blk db9.out (.inr (by simp)))
    have k14 := Lib.hid (k12.out.trans (k13.sub (mm_sub (by simp))))
    clear ht k13 x0 x1 x2 x3 x4 d2 cb9 db9 k12 xb12
    have htk := Lib.hid (hfin.out _ h12)
    clear h12 hfin
    go_wp2_with fail
    refine htk.out.mono ?_
    rintro e u1 ⟨rfl, g1, q1⟩
    have ht := Lib.hid (toldA g1 NO 1 9 (Int.le_refl _) (by omega) (by omega) (by omega) (by omega) (by omega))
    have db11 := q1.blk db10.out (.inr (by simp))
    have q2 := Lib.hid (k14.out.trans (q1.sub (mm_sub (by simp))))
    have d2 := db11.c 2 _ rfl
    clear htk g1 q1 db11 db10 cb10 k14
    go_wp2_with fail
    refine ht.out.mono ?_
    rintro e u2 ⟨q, g, cq, rfl, g2, q3⟩
    have q4 := Lib.hid (q2.out.trans (q3.sub (mm_sub (by simp))))
    have htk : Calls Try.prog 10 #[.pointer (some ⟨b, 0, none⟩), .int .i64 1, .int .i64 NO] u2 fun e w' => e = .returned (.int .i64 9) ∧ AgL (mm (B + 1) [c, dd]) w' b (as_ SH 10 LA 1 9 NO NO false) q g cq _ ∧ Kp (mm (B + 1) [c, dd]) u2 w' := tokL g2 NO (Int.le_refl _) (by show ¬ NO + 1000 * 10 ≤ NO; omega) (by show (0 : Int) ≤ 9 ∧ (9 : Int) ≤ 1000000; omega)
    replace htk := Lib.hid htk
    clear ht g2 q3 d2 q2
    go_wp2_with fail
    refine htk.out.mono ?_
    rintro e u3 ⟨rfl, _, q5⟩
    have q6 := Lib.hid (q4.out.trans (q5.sub (mm_sub (by simp))))
    clear htk q5 q4
    go_wp2_with fail
    refine (wakes22_c _).mono ?_
    rintro e u4 ⟨rfl, hb⟩
    have hF := Lib.hid ((hB.out.trans (q6.out.bel (fun i hi => .inl (by omega)) (by rw [hW.out]; omega))).trans (hb.mono (Nat.le_trans (by rw [hW.out]; omega) q6.out.size)))
    clear hb q6
    go_wp2_with fail
    go_ret
    exact ⟨rfl, hwb.out.symm ▸ hF.out⟩

set_option maxRecDepth 100000 in
theorem agentRestart_walk (w : World) (a0 a1 a2 a3 : Int) (v4 : Value) (a4 : XT_Answer) (a5 : Int) (w0 : (Lit.int .i64 a0).wf = true) (w1 : (Lit.int .i64 a1).wf = true) (w2 : (Lit.int .i64 a2).wf = true) (w3 : (Lit.int .i64 a3).wf = true) (w4 : Is_Answer w v4 a4) (w5 : (Lit.int .i64 a5).wf = true) :
    Calls Try.prog 3 #[.int .i64 a0, .int .i64 a1, .int .i64 a2, .int .i64 a3, v4, .int .i64 a5] w fun e w' => e = .returned (.bool true) ∧ Below w.heap.size w w' := by
  unfold Is_Answer at w4
  subst w4
  exact agentRestart_some w _ _ _ _ _ _ _ _ _ _
end Go.Proofs.Ytldknmcnmhdgfaa
