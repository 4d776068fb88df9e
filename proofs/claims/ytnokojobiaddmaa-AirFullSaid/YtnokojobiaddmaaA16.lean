/- The air: it holds so many messages, and no more. -/
import Derived.Test.YtnokojobiaddmaaA15
import Derived.Test.YtnokojobiaddmaaOpen3
namespace Go.Proofs.Ytnokojobiaddmaa
open Go.ChangeShapes Go.WideShapes Go.ChangeAt Go.RowKit Go.Maps
set_option linter.unusedVariables false
set_option linter.unusedSimpArgs false
open BigFrame Bs Ar

structure XT_Message where
  k : Int
  fr : Int
  to : Int
  te : Int
  ix : Int
  la : Int
  co : Int
  ok : Bool
  a1 : Option Addr
  l1 : Nat
  c1 : Nat
  si : Int
  st : Int
  su : Int
  a2 : Option Addr
  l2 : Nat
  c2 : Nat
  a3 : Option Addr
  l3 : Nat
  c3 : Nat
def Is_Message (w : World) (v : Value) (x : XT_Message) : Prop := v = .agg #[.int .i8 x.k, .int .i64 x.fr, .int .i64 x.to, .int .i64 x.te, .int .i64 x.ix, .int .i64 x.la, .int .i64 x.co, .bool x.ok, .slice x.a1 x.l1 x.c1, .int .i64 x.si, .int .i64 x.st, .int .u8 x.su, .slice x.a2 x.l2 x.c2, .slice x.a3 x.l3 x.c3]
theorem len14 {l : List Value} (h : l.length = 14) : ∃ x0 x1 x2 x3 x4 x5 x6 x7 x8 x9 x10 x11 x12 x13, l = [x0, x1, x2, x3, x4, x5, x6, x7, x8, x9, x10, x11, x12, x13] := by
  match l, h with
  | [x0, x1, x2, x3, x4, x5, x6, x7, x8, x9, x10, x11, x12, x13], _ => exact ⟨_, _, _, _, _, _, _, _, _, _, _, _, _, _, rfl⟩
section
variable {H : Type} {enc : TypeId × Value → H} {w : World}
set_option maxRecDepth 100000 in
set_option maxHeartbeats 1600000 in
theorem open_Message {r : Reach} {b0 : Nat} {v : Value} {d : DataW H} {p : List MemPlace} (hv : Value.okWide Try.prog w r b0 34 v) (h : DataW.Trod enc Try.prog w 0 (fun _ => true) true 34 v d p) : ∃ x, Is_Message w v x := by
  have h' := h
  obtain ⟨cs, rfl, hl, _⟩ := open_struct Try.underlying34 hv h
  rw [show Try.prog.cellsOf 34 = 14 by kernel_rfl] at hl
  obtain ⟨fuel, h2⟩ := h'
  obtain ⟨_, m, hf⟩ := trod_fields Try.underlying34 (show DataW.trod enc Try.prog w 0 (fun _ => true) true fuel 34 cs = some _ from h2)
  obtain ⟨x0, x1, x2, x3, x4, x5, x6, x7, x8, x9, x10, x11, x12, x13, rfl⟩ := len14 hl
  have k0 : Try.prog.cellsOf 3 = 1 := by kernel_rfl
  have k1 : Try.prog.cellsOf 28 = 1 := by kernel_rfl
  have k2 : Try.prog.cellsOf 4 = 1 := by kernel_rfl
  have k3 : Try.prog.cellsOf 5 = 1 := by kernel_rfl
  have k4 : Try.prog.cellsOf 30 = 1 := by kernel_rfl
  have k5 : Try.prog.cellsOf 29 = 1 := by kernel_rfl
  have k6 : Try.prog.cellsOf 32 = 4 := by kernel_rfl
  obtain ⟨y0, t0⟩ := hf 0 _ rfl
  obtain ⟨y1, t1⟩ := hf 1 _ rfl
  obtain ⟨y2, t2⟩ := hf 2 _ rfl
  obtain ⟨y3, t3⟩ := hf 3 _ rfl
  obtain ⟨y4, t4⟩ := hf 4 _ rfl
  obtain ⟨y5, t5⟩ := hf 5 _ rfl
  obtain ⟨y6, t6⟩ := hf 6 _ rfl
  obtain ⟨y7, t7⟩ := hf 7 _ rfl
  obtain ⟨y8, t8⟩ := hf 8 _ rfl
  obtain ⟨y9, t9⟩ := hf 9 _ rfl
  obtain ⟨y10, t10⟩ := hf 10 _ rfl
  simp only [k0, k1, k2, k3, k4, k5, k6, List.drop_zero, List.drop_succ_cons, List.take_succ_cons, List.take_zero, List.getElem_toArray, List.getElem_cons_zero, List.getElem_cons_succ] at t0 t1 t2 t3 t4 t5 t6 t7 t8 t9 t10
  obtain ⟨_, m2, hg⟩ := trod_fields Try.underlying32 t9
  obtain ⟨z0, s0⟩ := hg 0 _ rfl
  obtain ⟨z1, s1⟩ := hg 1 _ rfl
  obtain ⟨z2, s2⟩ := hg 2 _ rfl
  obtain ⟨z3, s3⟩ := hg 3 _ rfl
  simp only [k0, k1, k2, k3, k4, k5, k6, List.drop_zero, List.drop_succ_cons, List.take_succ_cons, List.take_zero, List.getElem_toArray, List.getElem_cons_zero, List.getElem_cons_succ] at s0 s1 s2 s3
  obtain ⟨e0, f0⟩ := trod_int' Try.underlying28 t0
  obtain ⟨e1, f1⟩ := trod_int' Try.underlying3 t1
  obtain ⟨e2, f2⟩ := trod_int' Try.underlying3 t2
  obtain ⟨e3, f3⟩ := trod_int' Try.underlying3 t3
  obtain ⟨e4, f4⟩ := trod_int' Try.underlying3 t4
  obtain ⟨e5, f5⟩ := trod_int' Try.underlying3 t5
  obtain ⟨e6, f6⟩ := trod_int' Try.underlying3 t6
  obtain ⟨b7, rfl⟩ := trod_bool' Try.underlying4 t7
  obtain ⟨a, len, cap, rfl, _, _⟩ := trod_slice' Try.underlying29 t8
  obtain ⟨e9, f9⟩ := trod_int' Try.underlying3 s0
  obtain ⟨e10, f10⟩ := trod_int' Try.underlying3 s1
  obtain ⟨e11, f11⟩ := trod_int' Try.underlying5 s2
  obtain ⟨a2, l2, c2, rfl, _, _⟩ := trod_slice' Try.underlying30 s3
  obtain ⟨a3, l3, c3, rfl, _, _⟩ := trod_slice' Try.underlying30 t10
  refine ⟨⟨intOf x0, intOf x1, intOf x2, intOf x3, intOf x4, intOf x5, intOf x6, b7, a, len, cap, intOf x9, intOf x10, intOf x11, a2, l2, c2, a3, l3, c3⟩, ?_⟩
  show Value.agg #[x0, x1, x2, x3, x4, x5, x6, .bool b7, .slice a len cap, x9, x10, x11, .slice a2 l2 c2, .slice a3 l3 c3] = .agg #[.int .i8 (intOf x0), .int .i64 (intOf x1), .int .i64 (intOf x2), .int .i64 (intOf x3), .int .i64 (intOf x4), .int .i64 (intOf x5), .int .i64 (intOf x6), .bool b7, .slice a len cap, .int .i64 (intOf x9), .int .i64 (intOf x10), .int .u8 (intOf x11), .slice a2 l2 c2, .slice a3 l3 c3]
  rw [← e0, ← e1, ← e2, ← e3, ← e4, ← e5, ← e6, ← e9, ← e10, ← e11]
end

namespace Ar
theorem k1024 (a : Int) : ∃ k : Nat, k < 1024 ∧ (wrap64 (a.tmod 1024 + 1024)).tmod 1024 = (k : Int) := by
  have h1 : a.tmod 1024 < 1024 := Int.tmod_lt_of_pos a (by omega)
  have h2 : -1024 < a.tmod 1024 := Int.lt_tmod_of_pos a (by omega)
  have e : wrap64 (a.tmod 1024 + 1024) = a.tmod 1024 + 1024 := by unfold wrap64; omega
  have h3 : (a.tmod 1024 + 1024).tmod 1024 < 1024 := Int.tmod_lt_of_pos _ (by omega)
  have h4 : 0 ≤ (a.tmod 1024 + 1024).tmod 1024 := Int.tmod_nonneg _ (by omega)
  rw [e]
  exact ⟨((a.tmod 1024 + 1024).tmod 1024).toNat, by omega, by omega⟩
def xf (x : XT_Message) : FM := ⟨x.k, 1, 255, x.te, x.ix, x.la, x.co, x.ok, x.si, x.st, x.su⟩
theorem getD_all {l : List FM} {x : FM} (h : ∀ y ∈ l, y = x) (i : Nat) (hi : i < l.length) : l.getD i fm0 = x := h _ (by simp only [List.getD, List.getElem?_eq_getElem hi, Option.getD_some]; exact List.getElem_mem hi)
end Ar

set_option maxRecDepth 100000 in
set_option maxHeartbeats 4000000 in
theorem airFull_walk (w : World) (v0 : Value) (x : XT_Message) (a1 : Int) (w0 : Is_Message w v0 x) (w1 : (Lit.int .i64 a1).wf = true) :
    Calls Try.prog 5 #[v0, .int .i64 a1] w fun e w' => e = .returned (.bool true) ∧ Below w.heap.size w w' := by
  unfold Is_Message at w0
  subst w0
  clear w1
  obtain ⟨k, hk, hke⟩ := k1024 a1
  have hal := (Below.refl w.heap.size w).alloc (Nat.le_refl _) (.cells #[.int .i8 x.k, .int .i64 x.fr, .int .i64 x.to, .int .i64 x.te, .int .i64 x.ix, .int .i64 x.la, .int .i64 x.co, .bool x.ok, .slice x.a1 x.l1 x.c1, .int .i64 x.si, .int .i64 x.st, .int .u8 x.su, .slice x.a2 x.l2 x.c2, .slice x.a3 x.l3 x.c3] 34)
  have hm : HB (w.alloc (.cells #[.int .i8 x.k, .int .i64 x.fr, .int .i64 x.to, .int .i64 x.te, .int .i64 x.ix, .int .i64 x.la, .int .i64 x.co, .bool x.ok, .slice x.a1 x.l1 x.c1, .int .i64 x.si, .int .i64 x.st, .int .u8 x.su, .slice x.a2 x.l2 x.c2, .slice x.a3 x.l3 x.c3] 34)) w.heap.size #[.int .i8 x.k, .int .i64 x.fr, .int .i64 x.to, .int .i64 x.te, .int .i64 x.ix, .int .i64 x.la, .int .i64 x.co, .bool x.ok, .slice x.a1 x.l1 x.c1, .int .i64 x.si, .int .i64 x.st, .int .u8 x.su, .slice x.a2 x.l2 x.c2, .slice x.a3 x.l3 x.c3] := HB.new w _
  have hnew := air_new (w.alloc (.cells #[.int .i8 x.k, .int .i64 x.fr, .int .i64 x.to, .int .i64 x.te, .int .i64 x.ix, .int .i64 x.la, .int .i64 x.co, .bool x.ok, .slice x.a1 x.l1 x.c1, .int .i64 x.si, .int .i64 x.st, .int .u8 x.su, .slice x.a2 x.l2 x.c2, .slice x.a3 x.l3 x.c3] 34))
  replace hke := Lib.hid hke
  go_enter Try.func5, Try.ntmps5
  go_upto_region 1 with fail
  replace hm : HB (w.alloc (.cells #[.int .i8 x.k, .int .i64 x.fr, .int .i64 x.to, .int .i64 x.te, .int .i64 x.ix, .int .i64 x.la, .int .i64 x.co, .bool x.ok, .slice x.a1 x.l1 x.c1, .int .i64 x.si, .int .i64 x.st, .int .u8 x.su, .slice x.a2 x.l2 x.c2, .slice x.a3 x.l3 x.c3] 34)) w.heap.size #[.int .i8 x.k, .int .i64 x.fr, .int .i64 x.to, .int .i64 x.te, .int .i64 x.ix, .int .i64 x.la, .int .i64 x.co, .bool x.ok, .slice x.a1 x.l1 x.c1, .int .i64 x.si, .int .i64 x.st, .int .u8 x.su, .slice x.a2 x.l2 x.c2, .slice x.a3 x.l3 x.c3] := hm
  generalize (w.alloc (.cells #[.int .i8 x.k, .int .i64 x.fr, .int .i64 x.to, .int .i64 x.te, .int .i64 x.ix, .int .i64 x.la, .int .i64 x.co, .bool x.ok, .slice x.a1 x.l1 x.c1, .int .i64 x.si, .int .i64 x.st, .int .u8 x.su, .slice x.a2 x.l2 x.c2, .slice x.a3 x.l3 x.c3] 34)) = W1 at hal hm hnew ⊢
  obtain ⟨pb, hpb⟩ : ∃ pb, w.heap.size = pb := ⟨_, rfl⟩
  rw [hpb] at hm hal ⊢
  replace hpb := Lib.hid hpb
  go_wp2_with fail
  refine hnew.mono ?_
  rintro e W2 ⟨g, bm, base, rfl, hA, hB⟩
  have hm2 := hm.bel hB
  have hpm := hm.lt
  have hgm := hA.h4
  have hbm := hA.h5
  have hpg : pb ≠ g := by omega
  have hpbm : pb ≠ bm := by omega
  have z1 := hm2.c 1 (.int .i64 x.fr) rfl
  have z2 := hm2.c 2 (.int .i64 x.to) rfl
  have z8 := hm2.c 8 (.slice x.a1 x.l1 x.c1) rfl
  have z12 := hm2.c 12 (.slice x.a2 x.l2 x.c2) rfl
  have z13 := hm2.c 13 (.slice x.a3 x.l3 x.c3) rfl
  have q1 := hm2.f 1
  have q2 := hm2.f 2
  have q8 := hm2.f 8
  have q12 := hm2.f 12
  have q13 := hm2.f 13
  clear hnew hm
  replace hm2 := Lib.hid hm2
  replace hA := Lib.hid hA
  replace hal := Lib.hid hal
  replace hB := Lib.hid hB
  go_upto_region 7 with fail
  have hm3 : HB ((((((W2.setCell ⟨pb, 1, none⟩ (.int .i64 1)).setCell ⟨pb, 2, none⟩ (.int .i64 255)).setCell ⟨pb, 8, none⟩ (.slice none 0 0)).setCell ⟨pb, 13, none⟩ (.slice none 0 0)).setCell ⟨pb, 12, none⟩ (.slice none 0 0))) pb #[.int .i8 x.k, .int .i64 1, .int .i64 255, .int .i64 x.te, .int .i64 x.ix, .int .i64 x.la, .int .i64 x.co, .bool x.ok, .slice none 0 0, .int .i64 x.si, .int .i64 x.st, .int .u8 x.su, .slice none 0 0, .slice none 0 0] := by
    have h1 : HB (W2.setCell ⟨pb, 1, none⟩ (.int .i64 1)) pb #[.int .i8 x.k, .int .i64 1, .int .i64 x.to, .int .i64 x.te, .int .i64 x.ix, .int .i64 x.la, .int .i64 x.co, .bool x.ok, .slice x.a1 x.l1 x.c1, .int .i64 x.si, .int .i64 x.st, .int .u8 x.su, .slice x.a2 x.l2 x.c2, .slice x.a3 x.l3 x.c3] := hm2.out.set 1 _
    have h2 : HB ((W2.setCell ⟨pb, 1, none⟩ (.int .i64 1)).setCell ⟨pb, 2, none⟩ (.int .i64 255)) pb #[.int .i8 x.k, .int .i64 1, .int .i64 255, .int .i64 x.te, .int .i64 x.ix, .int .i64 x.la, .int .i64 x.co, .bool x.ok, .slice x.a1 x.l1 x.c1, .int .i64 x.si, .int .i64 x.st, .int .u8 x.su, .slice x.a2 x.l2 x.c2, .slice x.a3 x.l3 x.c3] := h1.set 2 _
    have h3 : HB (((W2.setCell ⟨pb, 1, none⟩ (.int .i64 1)).setCell ⟨pb, 2, none⟩ (.int .i64 255)).setCell ⟨pb, 8, none⟩ (.slice none 0 0)) pb #[.int .i8 x.k, .int .i64 1, .int .i64 255, .int .i64 x.te, .int .i64 x.ix, .int .i64 x.la, .int .i64 x.co, .bool x.ok, .slice none 0 0, .int .i64 x.si, .int .i64 x.st, .int .u8 x.su, .slice x.a2 x.l2 x.c2, .slice x.a3 x.l3 x.c3] := h2.set 8 _
    have h4 : HB ((((W2.setCell ⟨pb, 1, none⟩ (.int .i64 1)).setCell ⟨pb, 2, none⟩ (.int .i64 255)).setCell ⟨pb, 8, none⟩ (.slice none 0 0)).setCell ⟨pb, 13, none⟩ (.slice none 0 0)) pb #[.int .i8 x.k, .int .i64 1, .int .i64 255, .int .i64 x.te, .int .i64 x.ix, .int .i64 x.la, .int .i64 x.co, .bool x.ok, .slice none 0 0, .int .i64 x.si, .int .i64 x.st, .int .u8 x.su, .slice x.a2 x.l2 x.c2, .slice none 0 0] := h3.set 13 _
    exact h4.set 12 _
  have hn0 : (Value.slice none 0 0).ownBlock ≠ some pb := by simp [Value.ownBlock]
  have hA3 := ((((hA.out.setO hpg.symm hpbm.symm hn0 1 (.int .i64 1)).setO hpg.symm hpbm.symm hn0 2 (.int .i64 255)).setO hpg.symm hpbm.symm hn0 8 (.slice none 0 0)).setO hpg.symm hpbm.symm hn0 13 (.slice none 0 0)).setO hpg.symm hpbm.symm hn0 12 (.slice none 0 0)
  have hB3 : Below pb w ((((((W2.setCell ⟨pb, 1, none⟩ (.int .i64 1)).setCell ⟨pb, 2, none⟩ (.int .i64 255)).setCell ⟨pb, 8, none⟩ (.slice none 0 0)).setCell ⟨pb, 13, none⟩ (.slice none 0 0)).setCell ⟨pb, 12, none⟩ (.slice none 0 0))) := (((((hal.out.trans (hB.out.mono (Nat.le_of_lt hpm))).setCell (p := ⟨pb, 1, none⟩) (Nat.le_refl _) _).setCell (p := ⟨pb, 2, none⟩) (Nat.le_refl _) _).setCell (p := ⟨pb, 8, none⟩) (Nat.le_refl _) _).setCell (p := ⟨pb, 13, none⟩) (Nat.le_refl _) _).setCell (p := ⟨pb, 12, none⟩) (Nat.le_refl _) _
  clear z1 z2 z8 z12 z13 q1 q2 q8 q12 q13 hm2 hA hal hB hgm hbm hn0
  generalize ((((((W2.setCell ⟨pb, 1, none⟩ (.int .i64 1)).setCell ⟨pb, 2, none⟩ (.int .i64 255)).setCell ⟨pb, 8, none⟩ (.slice none 0 0)).setCell ⟨pb, 13, none⟩ (.slice none 0 0)).setCell ⟨pb, 12, none⟩ (.slice none 0 0))) = W4 at hm3 hA3 hB3 ⊢
  obtain ⟨m, hmm⟩ : ∃ m, W1.heap.size = m := ⟨_, rfl⟩
  rw [hmm] at hA3 hpm
  clear hmm
  go_wp2_with fail
  go_loopw [6] (fun s6 wr => ∃ (j : Nat) (lv : Value) (l : List FM), s6 = .int .i64 (j : Nat) ∧ j ≤ 1024 ∧ l.length = j ∧ (∀ y ∈ l, y = xf x) ∧ AirAt m wr g base lv l bm 0 (fun _ _ => false) ∧ HB wr pb #[.int .i8 x.k, .int .i64 1, .int .i64 255, .int .i64 x.te, .int .i64 x.ix, .int .i64 x.la, .int .i64 x.co, .bool x.ok, .slice none 0 0, .int .i64 x.si, .int .i64 x.st, .int .u8 x.su, .slice none 0 0, .slice none 0 0] ∧ Below pb w wr) (fun s6 _ => (1024 - (intOf s6).toNat))
  case atStart => exact ⟨0, _, [], rfl, by omega, rfl, (fun y hy => by cases hy), hA3, hm3, hB3⟩
  case round =>
    obtain ⟨j, lv, l, rfl, hj, hl, hall, hA, hm, hB⟩ := hrel
    clear hA3 hm3 hB3
    have y0 := hm.c 0 (.int .i8 x.k) rfl
    have y1 := hm.c 1 (.int .i64 1) rfl
    have y2 := hm.c 2 (.int .i64 255) rfl
    have y3 := hm.c 3 (.int .i64 x.te) rfl
    have y4 := hm.c 4 (.int .i64 x.ix) rfl
    have y5 := hm.c 5 (.int .i64 x.la) rfl
    have y6 := hm.c 6 (.int .i64 x.co) rfl
    have y7 := hm.c 7 (.bool x.ok) rfl
    have y8 := hm.c 8 (.slice none 0 0) rfl
    have y9 := hm.c 9 (.int .i64 x.si) rfl
    have y10 := hm.c 10 (.int .i64 x.st) rfl
    have y11 := hm.c 11 (.int .u8 x.su) rfl
    have y12 := hm.c 12 (.slice none 0 0) rfl
    have y13 := hm.c 13 (.slice none 0 0) rfl
    replace hall := Lib.hid hall
    by_cases hlt : j < 1024
    · have hltz : (j : Int) < 1024 := by omega
      have hs := air_send_ok (xf x) hA (by show (1 : Int) ≤ 1 ∧ (1 : Int) ≤ 255; omega) (by show (1 : Int) ≤ 255 ∧ (255 : Int) ≤ 255; omega) (by omega)
      replace hA := Lib.hid hA
      replace hm := Lib.hid hm
      replace hl := Lib.hid hl
      go_wp2_with fail
      refine hs.mono ?_
      rintro e w3 ⟨lv2, rfl, hA2, hK⟩
      have hm2 : HB w3 pb #[.int .i8 x.k, .int .i64 1, .int .i64 255, .int .i64 x.te, .int .i64 x.ix, .int .i64 x.la, .int .i64 x.co, .bool x.ok, .slice none 0 0, .int .i64 x.si, .int .i64 x.st, .int .u8 x.su, .slice none 0 0, .slice none 0 0] := ⟨(hK.bel.block pb hpm).trans hm.out.h⟩
      have hB2 := hB.trans (hK.bel.mono (Nat.le_of_lt hpm))
      have hall2 : ∀ y ∈ l ++ [xf x], y = xf x := fun y hy => by
        rcases List.mem_append.1 hy with h | h
        · exact hall.out y h
        · simpa using h
      have hl2 : (l ++ [xf x]).length = j + 1 := by rw [List.length_append, hl.out]; rfl
      clear hs hK y0 y1 y2 y3 y4 y5 y6 y7 y8 y9 y10 y11 y12 y13
      replace hA2 := Lib.hid hA2
      replace hm2 := Lib.hid hm2
      replace hall2 := Lib.hid hall2
      replace hl2 := Lib.hid hl2
      go_wp2_with fail
      go_roundw
      case rel => exact ⟨j + 1, lv2, _, by go_num, by omega, hl2.out, hall2.out, hA2.out, hm2.out, hB2⟩
      case measure => simp [intOf]; omega
    · have hltz : ¬ (j : Int) < 1024 := by omega
      have hl' : l.length = 1024 := by omega
      have hpm2 : pb ≤ m := Nat.le_of_lt hpm
      have hs := air_send_full (xf x) hA (by show (1 : Int) ≤ 1 ∧ (1 : Int) ≤ 255; omega) (by show (1 : Int) ≤ 255 ∧ (255 : Int) ≤ 255; omega) hl'
      replace hA := Lib.hid hA
      replace hl := Lib.hid hl
      replace hl' := Lib.hid hl'
      have hke := hke.out
      clear hm hlt hj
      go_wp2_with fail
      refine hs.mono ?_
      rintro e w3 ⟨rfl, hb3⟩
      have hA3 := hA.out.bel hb3
      have hB3 := hB.trans (hb3.mono (Nat.le_trans hpm2 hA.out.below))
      have hs2 := air_double_full k hA3 (xf x) (by rw [hl'.out]; exact hk) (getD_all hall.out k (by rw [hl'.out]; exact hk)) hl'.out
      clear hs hb3 hB y0 y1 y2 y3 y4 y5 y6 y7 y8 y9 y10 y11 y12 y13
      replace hA3 := Lib.hid hA3
      go_wp2_with fail
      refine hs2.mono ?_
      rintro e w4 ⟨rfl, hb4⟩
      have hA4 := hA3.out.bel hb4
      have hB4 := hB3.trans (hb4.mono (Nat.le_trans hpm2 hA3.out.below))
      have hs3 := air_lose k hA4 (xf x) (by rw [hl'.out]; exact hk) (getD_all hall.out k (by rw [hl'.out]; exact hk)) (by rw [hl'.out]; exact Nat.le_refl _) (by show (Lit.int .i64 1).wf = true; decide) (by show (Lit.int .i64 255).wf = true; decide)
      have hel : (l.eraseIdx k).length = 1023 := by rw [List.length_eraseIdx_of_lt (by rw [hl'.out]; exact hk), hl'.out]
      have hea : ∀ y ∈ l.eraseIdx k, y = xf x := fun y hy => hall.out y (List.mem_of_mem_eraseIdx hy)
      obtain ⟨l2, hl2⟩ : ∃ l2, l.eraseIdx k = l2 := ⟨_, rfl⟩
      rw [hl2] at hel hea hs3
      clear hs2 hb4 hB3 hA3 hl2
      replace hA4 := Lib.hid hA4
      replace hel := Lib.hid hel
      replace hea := Lib.hid hea
      go_wp2_with fail
      refine hs3.mono ?_
      rintro e w5 ⟨lv5, rfl, hA5, hK5⟩
      have hB5 := hB4.trans (hK5.bel.mono hpm2)
      have hs4 := air_len hA5
      rw [hel.out] at hs4
      clear hs3 hK5 hB4 hA4
      replace hA5 := Lib.hid hA5
      go_wp2_with fail
      refine hs4.mono ?_
      rintro e w6 ⟨rfl, rfl⟩
      have hs5 := air_double 0 hA5.out (xf x) (by rw [hel.out]; omega) (getD_all hea.out 0 (by rw [hel.out]; omega)) (by rw [hel.out]; omega)
      have hfl : (l2 ++ [xf x]).length = 1024 := by rw [List.length_append, hel.out]; rfl
      have hfa : ∀ y ∈ l2 ++ [xf x], y.to = 255 := fun y hy => by
        rcases List.mem_append.1 hy with h | h
        · rw [hea.out y h]; rfl
        · rw [show y = xf x by simpa using h]; rfl
      obtain ⟨l3, hl3⟩ : ∃ l3, l2 ++ [xf x] = l3 := ⟨_, rfl⟩
      rw [hl3] at hfl hfa hs5
      clear hs4 hl3
      replace hfl := Lib.hid hfl
      replace hfa := Lib.hid hfa
      go_wp2_with fail
      refine hs5.mono ?_
      rintro e w7 ⟨lv7, rfl, hA7, hK7⟩
      have hB7 := hB5.trans (hK7.bel.mono hpm2)
      have hs6 := air_clear hA7 255 (by rw [hfl.out]; omega) (by rw [hfl.out]; exact Nat.le_refl _) hfa.out
      rw [hfl.out] at hs6
      clear hs5 hK7 hB5 hA5
      replace hA7 := Lib.hid hA7
      go_wp2_with fail
      refine hs6.mono ?_
      rintro e w8 ⟨lv8, rfl, hA8, hK8⟩
      have hB8 := hB7.trans (hK8.bel.mono hpm2)
      have hs7 := air_len hA8
      rw [show ((([] : List FM).length : Nat) : Int) = 0 from rfl] at hs7
      have hb8 := Nat.le_trans hpm2 hA8.below
      have hwk := wakes02_c w8
      clear hs6 hK8 hB7 hA7 hA8
      go_wp2_with fail
      refine hs7.mono ?_
      rintro e w9 ⟨rfl, rfl⟩
      go_wp2_with fail
      refine hwk.mono ?_
      rintro e wb ⟨rfl, hBb⟩
      go_wp2_with fail
      go_ret
      exact ⟨rfl, by rw [hpb.out]; exact hB8.trans (hBb.mono hb8)⟩
end Go.Proofs.Ytnokojobiaddmaa
