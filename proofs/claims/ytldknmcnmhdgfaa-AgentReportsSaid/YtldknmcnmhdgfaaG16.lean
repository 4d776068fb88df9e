/- Leases: what the document says of a lease of ten ticks. -/
import Derived.Test.YtldknmcnmhdgfaaG15
namespace Go.Proofs.Ytldknmcnmhdgfaa
open Go.ChangeShapes Go.WideShapes Go.ChangeAt Go.RowKit
set_option linter.unusedVariables false
set_option linter.unusedSimpArgs false
open BigFrame Bs Ag

namespace Ag
theorem AgE.re {m m2 : Nat → Prop} {w : World} {a : Nat} {A : St} {p : Option Addr} {c : Nat} (h : AgE m w a A p c) (h1 : ¬ m2 a) (h2 : ∀ b, m2 b → b < w.heap.size) : AgE m2 w a A p c := ⟨h.b, h1, h2, h.z⟩
theorem AgL.re {m m2 : Nat → Prop} {w : World} {a : Nat} {A : St} {q g c : Nat} {x : Ls} (h : AgL m w a A q g c x) (h1 : ¬ m2 a) (h2 : ¬ m2 q) (h3 : ¬ m2 g) (h4 : ∀ b, m2 b → b < w.heap.size) : AgL m2 w a A q g c x :=
  ⟨h.b, h.r, h.x, h1, h2, h3, h4, h.aq, h.ag, h.qg, h.c1, h.c2⟩
/-- Two blocks whose first cells differ are two. -/
theorem blk_ne {w : World} {b c : Nat} {x y : Value} {l k : List Value} (h : Blk w b (x :: l)) (h2 : Blk w c (y :: k)) (hne : x ≠ y) : b ≠ c := fun e => by
  subst e
  have h3 := h.c 0 _ rfl
  have h4 := h2.c 0 _ rfl
  rw [h3] at h4
  exact hne (by injection h4)
theorem Kp.bel {m : Nat → Prop} {w w' : World} (h : Kp m w w') {B : Nat} (hm : ∀ i, i < B → m i) (hB : B ≤ w.heap.size) : Below B w w' :=
  ⟨h.b.os, h.b.tape, h.b.output, h.b.size, fun k hk => h.k k (hm k hk) (Nat.lt_of_lt_of_le hk hB)⟩
/-- What was there, and some blocks more. -/
def mm (B : Nat) (l : List Nat) : Nat → Prop := fun b => b < B ∨ b ∈ l
theorem mm_not {B a : Nat} {l : List Nat} (h : B ≤ a) (h2 : a ∉ l) : ¬ mm B l a := fun h3 => h3.elim (fun h4 => by omega) h2
theorem mm_ge {B a : Nat} {l : List Nat} (h : ¬ mm B l a) : B ≤ a ∧ a ∉ l := ⟨Nat.le_of_not_lt fun h2 => h (.inl h2), fun h2 => h (.inr h2)⟩
theorem mm_one {B c s : Nat} (h : B ≤ s) (h2 : c < s) : ∀ b, mm B [c] b → b < s := fun b hb => hb.elim (fun h3 => by omega) (fun h3 => by have : b = c := by simpa using h3
                                                                                                                                          omega)
theorem mm_two {B c d s : Nat} (h : B ≤ s) (h2 : c < s) (h3 : d < s) : ∀ b, mm B [c, d] b → b < s := fun b hb => hb.elim (fun h3 => by omega) (fun h4 => by
  have : b = c ∨ b = d := by simpa using h4
  omega)
theorem mm_nil {B s : Nat} (h : B ≤ s) : ∀ b, mm B [] b → b < s := fun b hb => hb.elim (fun h3 => by omega) (fun h3 => by simp at h3)
theorem mm_lt {B : Nat} {l : List Nat} {i : Nat} (h : i < B) : mm B l i := .inl h
def A1 : St := { sh := 1, ti := 10, ep := 1, nu := 1, un := true, k := 4, cn := 1, ct := 3, cs := 1, ce := 1, cz := 60, se := 1000, no := 1000 }
theorem asked1 : asked (fresh 1 10 1) 3 60 1000 = A1 := by kernel_rfl
def X1 : Ls := { id := 7, ten := 3, left := 50, til := 11000, size := 50, told := 0 }
def X2 : Ls := { id := 7, ten := 3, left := 30, til := 11000, size := 50, told := 0 }
def X3 : Ls := { id := 7, ten := 3, left := 30, til := 11000, size := 50, told := 20 }
def A2 : St := { sh := 1, ti := 10, ep := 1, nu := 1, un := false, k := 4, cn := 1, ct := 3, cs := 1, ce := 1, cz := 60, se := 1000, no := 4000 }
def A3 : St := { sh := 1, ti := 10, ep := 1, nu := 1, un := false, k := 4, cn := 1, ct := 3, cs := 1, ce := 1, cz := 60, se := 1000, no := 10999 }
def A4 : St := { sh := 1, ti := 10, ep := 1, nu := 1, un := false, k := 4, cn := 1, ct := 3, cs := 1, ce := 1, cz := 60, se := 1000, no := 11000 }
def cmd1 : Array Value := #[.int .i8 4, .int .i64 0, .int .i64 1, .int .i64 3, .int .i64 0, .int .i64 0, .int .i64 1, .int .i64 1, .int .i64 0, .int .i64 60, .int .i64 0, .bool false, .slice none 0 0]
end Ag

set_option maxRecDepth 100000 in
set_option maxHeartbeats 40000000 in
theorem wakes22_c (w : World) : Calls Try.prog 11 #[] w fun e w' => e = .returned (.bool true) ∧ Below w.heap.size w w' := by
  have hnew := Lib.hid (new_c (mm w.heap.size []) w 1 1 10 (mm_nil (Nat.le_refl _)) (by omega) (by omega) (by omega))
  go_enter Try.func11, Try.ntmps11
  go_wp2_with fail
  refine hnew.out.mono ?_
  rintro e w1 ⟨a, rfl, h1, ha, hB1⟩
  have k1 := Kp.of (m := mm w.heap.size []) hB1
  have hask : Calls Try.prog 8 #[.pointer (some ⟨a, 0, none⟩), .int .i64 3, .int .i64 60, .int .i64 1000] w1 fun e w' => e = .returned (.tuple #[.agg #[.int .i8 4, .int .i64 0, .int .i64 1, .int .i64 3, .int .i64 0, .int .i64 0, .int .i64 1, .int .i64 1, .int .i64 0, .int .i64 60, .int .i64 0, .bool false, .slice none 0 0], .int .i64 0]) ∧ AgE (mm w.heap.size []) w' a A1 none 0 ∧ Kp (mm w.heap.size []) w1 w' := by
    refine (ask_c h1 rfl (by decide) 3 60 1000 (by omega) (by omega) (by omega)).mono ?_
    rw [asked1]
    rintro e w' ⟨he, h2, h3⟩
    exact ⟨he, h2, h3.b⟩
  replace hask := Lib.hid hask
  replace ha := Lib.hid ha
  replace k1 := Lib.hid k1
  clear hnew h1 hB1
  go_wp2_with fail
  refine hask.out.mono ?_
  rintro e w2 ⟨rfl, h2, k2⟩
  have k2' := k1.out.trans k2
  have hd := (Below.refl w2.heap.size w2).alloc (Nat.le_refl _) (.cells #[.int .i8 4, .int .i64 0, .int .i64 1, .int .i64 3, .int .i64 0, .int .i64 0, .int .i64 1, .int .i64 1, .int .i64 0, .int .i64 60, .int .i64 0, .bool false, .slice none 0 0] 31)
  have cb := blk_new w2 [.int .i8 4, .int .i64 0, .int .i64 1, .int .i64 3, .int .i64 0, .int .i64 0, .int .i64 1, .int .i64 1, .int .i64 0, .int .i64 60, .int .i64 0, .bool false, .slice none 0 0] 31
  have h3 := h2.bel hd
  have k3 := k2'.trans (Kp.of (m := mm w.heap.size []) hd)
  have la := h2.b.l
  have lw := k2'.size
  replace h3 := Lib.hid h3
  replace k3 := Lib.hid k3
  replace cb := Lib.hid cb
  replace la := Lib.hid la
  replace lw := Lib.hid lw
  clear hask k1 h2 k2 k2' hd
  go_upto_region 5 with fail
  generalize w2.alloc (.cells #[.int .i8 4, .int .i64 0, .int .i64 1, .int .i64 3, .int .i64 0, .int .i64 0, .int .i64 1, .int .i64 1, .int .i64 0, .int .i64 60, .int .i64 0, .bool false, .slice none 0 0] 31) = W3 at h3 k3 cb ⊢
  generalize w2.heap.size = c at cb la lw ⊢
  have cl := cb.out.l
  have hm4 : ∀ b, mm w.heap.size [c] b → b < W3.heap.size := mm_one (by have := lw.out; omega) cl
  have h4 : AgE (mm w.heap.size [c]) W3 a A1 none 0 := h3.out.re (mm_not ha.out (by have := la.out; simp; omega)) hm4
  have htold : Calls Try.prog 9 #[.pointer (some ⟨a, 0, none⟩), .int .i64 1, .int .i64 1, .agg #[.int .i64 0, .int .i64 0, .int .i64 0, .int .i64 7, .int .i64 50], .int .i64 4000] W3 (TellP (mm w.heap.size [c]) a A2 X1 W3) :=
    told_ok h4 rfl 4000 0 0 7 50 (by decide) (by decide) (by decide) (by decide) (by decide)
  replace htold := Lib.hid htold
  replace hm4 := Lib.hid hm4
  clear h4 cl h3 la
  go_wp2_with fail
  refine htold.out.mono ?_
  rintro e w4 ⟨q, g, cq, rfl, h5, k5⟩
  have htok : Calls Try.prog 10 #[.pointer (some ⟨a, 0, none⟩), .int .i64 3, .int .i64 10999] w4 fun e w' => e = .returned (.int .i64 50) ∧ AgL (mm w.heap.size [c]) w' a A3 q g cq X1 ∧ Kp (mm w.heap.size [c]) w4 w' :=
    tokens_L h5 10999 (by decide) (by decide)
  have cb5 := k5.blk cb.out (.inr (by simp))
  have k6 := k3.out.trans (k5.sub (fun i hi => .inl (hi.elim id (fun h => by simp at h))))
  replace htok := Lib.hid htok
  replace cb5 := Lib.hid cb5
  replace k6 := Lib.hid k6
  clear htold h5 k5 cb k3
  go_wp2_with fail
  refine htok.out.mono ?_
  rintro e w5 ⟨rfl, h6, k7⟩
  have hsp : Calls Try.prog 14 #[.pointer (some ⟨a, 0, none⟩), .int .i64 3, .int .i64 20, .int .i64 10999] w5 fun e w' => e = .returned (.int .i64 0) ∧ AgL (mm w.heap.size [c]) w' a A3 q g cq X2 ∧ Kp (mm w.heap.size [c]) w5 w' :=
    spend_ok h6 20 10999 (by decide) (by decide) (by decide) (by decide)
  have cb6 := k7.blk cb5.out (.inr (by simp))
  have k8 := k6.out.trans (k7.sub (fun i hi => .inl (hi.elim id (fun h => by simp at h))))
  replace hsp := Lib.hid hsp
  replace cb6 := Lib.hid cb6
  replace k8 := Lib.hid k8
  clear htok h6 k7 cb5 k6
  go_wp2_with fail
  refine hsp.out.mono ?_
  rintro e w6 ⟨rfl, h7, k9⟩
  have hre : Calls Try.prog 15 #[.pointer (some ⟨a, 0, none⟩), .int .i64 10999] w6 (RepL (mm w.heap.size [c]) a A3 X2 q g cq w6) :=
    reports_L h7 10999 (by decide) (by decide) (by decide)
  have cb7 := k9.blk cb6.out (.inr (by simp))
  have k10 := k8.out.trans (k9.sub (fun i hi => .inl (hi.elim id (fun h => by simp at h))))
  replace hre := Lib.hid hre
  replace cb7 := Lib.hid cb7
  replace k10 := Lib.hid k10
  clear hsp h7 k9 cb6 k8
  go_wp2_with fail
  refine hre.out.mono ?_
  rintro e w7 ⟨hr1, hr2, k11⟩
  rw [if_pos (by decide)] at hr1
  rw [if_neg (by decide)] at hr2
  obtain ⟨r, cr, rfl, rb, mr⟩ := hr1
  have h8 : AgL (mm w.heap.size [c]) w7 a A3 q g cq X3 := hr2
  have hrq : q ≠ r := blk_ne h8.r rb (by simp)
  have hrg : g ≠ r := blk_ne h8.x rb (by simp [X3])
  have hra : a ≠ r := blk_ne h8.b rb (by simp)
  have cb8 := k11.blk cb7.out (.inr (by simp))
  have k12 := k10.out.trans (k11.sub (fun i hi => .inl (hi.elim id (fun h => by simp at h))))
  have hm8 : ∀ b, mm w.heap.size [c, r] b → b < w7.heap.size := mm_two (k12.size) cb8.l rb.l
  obtain ⟨z1, z2⟩ := mm_ge h8.ma
  obtain ⟨z3, z4⟩ := mm_ge h8.mq
  obtain ⟨z5, z6⟩ := mm_ge h8.mg
  have h9 : AgL (mm w.heap.size [c, r]) w7 a A3 q g cq X3 := h8.re (mm_not z1 (by simp at z2 ⊢; exact ⟨z2, hra⟩)) (mm_not z3 (by simp at z4 ⊢; exact ⟨z4, hrq⟩)) (mm_not z5 (by simp at z6 ⊢; exact ⟨z6, hrg⟩)) hm8
  have hre2 : Calls Try.prog 15 #[.pointer (some ⟨a, 0, none⟩), .int .i64 10999] w7 (RepL (mm w.heap.size [c, r]) a A3 X3 q g cq w7) :=
    reports_L h9 10999 (by decide) (by decide) (by decide)
  replace hre2 := Lib.hid hre2
  replace cb8 := Lib.hid cb8
  replace rb := Lib.hid rb
  replace k12 := Lib.hid k12
  clear hre hr2 k11 h8 hrq hrg hra cb7 k10 hm8 z1 z2 z3 z4 z5 z6 h9 mr
  go_wp2_with fail
  refine hre2.out.mono ?_
  rintro e w8 ⟨hr1, hr2, k13⟩
  rw [if_neg (by decide)] at hr1
  rw [if_neg (by decide)] at hr2
  subst hr1
  have h10 : AgL (mm w.heap.size [c, r]) w8 a A3 q g cq X3 := hr2
  have hto2 : Calls Try.prog 10 #[.pointer (some ⟨a, 0, none⟩), .int .i64 3, .int .i64 11000] w8 (TokP (mm w.heap.size [c, r]) a A4 w8 0) := tokens_E 3 11000 (h10.at 11000 (by decide))
  have cb9 := k13.blk cb8.out (.inr (by simp))
  have rb9 := k13.blk rb.out (.inr (by simp))
  have k14 := k12.out.trans (k13.sub (fun i hi => .inl (hi.elim id (fun h => by simp at h))))
  replace hto2 := Lib.hid hto2
  replace cb9 := Lib.hid cb9
  replace rb9 := Lib.hid rb9
  replace k14 := Lib.hid k14
  clear hre2 hr2 k13 h10 cb8 rb k12
  go_wp2_with fail
  refine hto2.out.mono ?_
  rintro e w9 ⟨p, cp, rfl, h11, k15⟩
  have hst : Calls Try.prog 9 #[.pointer (some ⟨a, 0, none⟩), .int .i64 1, .int .i64 1, .agg #[.int .i64 0, .int .i64 0, .int .i64 0, .int .i64 0, .int .i64 0], .int .i64 11000] w9 (TokP (mm w.heap.size [c, r]) a A4 w9 150) :=
    told_stale 1 1 11000 0 0 0 0 0 (fun u hu => (h11.bel hu).at 11000) (fun h => by cases h)
  have cb10 := k15.blk cb9.out (.inr (by simp))
  have rb10 := k15.blk rb9.out (.inr (by simp))
  have k16 := k14.out.trans (k15.sub (fun i hi => .inl (hi.elim id (fun h => by simp at h))))
  replace hst := Lib.hid hst
  replace cb10 := Lib.hid cb10
  replace rb10 := Lib.hid rb10
  replace k16 := Lib.hid k16
  clear hto2 h11 k15 cb9 rb9 k14
  go_wp2_with fail
  refine hst.out.mono ?_
  rintro e w10 ⟨p2, cp2, rfl, h12, k17⟩
  have cb11 := k17.blk cb10.out (.inr (by simp))
  have rb11 := k17.blk rb10.out (.inr (by simp))
  have k18 := Lib.hid (k16.out.trans (k17.sub (fun i hi => .inl (hi.elim id (fun h => by simp at h)))))
  have c2 := cb11.c 2 _ rfl
  have c10 := rb11.c 10 _ rfl
  rw [show X2.size - X2.left = 20 from rfl] at c10
  clear hst h12 k17 cb10 rb10 k16 cb11 rb11
  go_wp2_with fail
  go_ret
  exact ⟨rfl, k18.out.bel (fun i hi => .inl hi) (Nat.le_refl _)⟩
end Go.Proofs.Ytldknmcnmhdgfaa
