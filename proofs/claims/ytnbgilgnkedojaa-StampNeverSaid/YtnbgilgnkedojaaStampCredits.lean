/- The walk of the statement StampCredits of layer 20 (stamp). -/
import Derived.Test.YtnbgilgnkedojaaStamp
import Derived.Test.YtnbgilgnkedojaaOpen2
namespace Go.Proofs.Ytnbgilgnkedojaa
open Go.ChangeShapes Go.WideShapes Go.ChangeAt Go.RowKit
set_option linter.unusedVariables false
set_option linter.unusedSimpArgs false
attribute [local go_sem] max_fold min_fold
open Ck

/-- An entry by value. -/
def entV (t k s st : Int) (d : Value) : Value := .agg #[.int .i64 t, .int .i8 k, .int .i64 s, .int .u8 st, d]
def creditI (term last t s : Int) : Int := if t = term ∧ last ≤ s then wrap64 (s - last) else 0

theorem credit_no (term last t k s st : Int) (d : Value) (w : World) (h : ¬ (t = term ∧ last ≤ s)) :
    Calls Try.prog 60 #[.int .i64 term, .int .i64 last, entV t k s st d] w fun e w' => e = .returned (.int .i64 0) ∧ Below w.heap.size w w' := by
  obtain ⟨q, hq⟩ : ∃ q, (t != term) = q := ⟨_, rfl⟩
  have hQ := Lib.hid (show t = term ↔ q = false by subst hq; exact bne_eq_false_iff_eq.symm)
  have HH := Lib.hid h
  clear h
  unfold entV
  cases q
  all_goals
    go_enter Try.func60, Try.ntmps60
    go_wp2
    all_goals first
      | (go_ret; exact ⟨rfl, (Below.refl _ _).alloc (Nat.le_refl _) _⟩)
      | exact (HH.out ⟨by have := hQ.out; simpa using this, by omega⟩).elim

theorem sub_wraps (s l : Int) : wrap64 (IntKind.u64.wrap (IntKind.u64.wrap s - IntKind.u64.wrap l)) = wrap64 (s - l) := by
  simp only [IntKind.wrap, IntKind.bits, IntKind.signed, wrap64]
  simp
theorem sub_u64 {s l : Int} (h0 : l ≤ s) (b0 : -9223372036854775808 ≤ l) (b1 : s ≤ 9223372036854775807) : IntKind.u64.wrap (IntKind.u64.wrap s - IntKind.u64.wrap l) = s - l := by
  simp only [IntKind.wrap, IntKind.bits, IntKind.signed]
  simp
  omega

theorem credit_ok (term last t k s st : Int) (d : Value) (w : World) (h1 : t = term) (h2 : last ≤ s) (b0 : -9223372036854775808 ≤ last) (b1 : last ≤ 9223372036854775807) (c0 : -9223372036854775808 ≤ s) (c1 : s ≤ 9223372036854775807) :
    Calls Try.prog 60 #[.int .i64 term, .int .i64 last, entV t k s st d] w fun e w' => e = .returned (.int .i64 (wrap64 (s - last))) ∧ Below w.heap.size w w' := by
  subst h1
  unfold entV
  go_enter Try.func60, Try.ntmps60
  go_wp2
  go_ret
  exact ⟨ret_int (sub_wraps s last), (Below.refl _ _).alloc (Nat.le_refl _) _⟩

theorem rcredit_no (term last t k s st : Int) (d : Value) (w : World) (h : ¬ (t = term ∧ last ≤ s)) :
    Calls Try.prog 61 #[.int .i64 term, .int .i64 last, entV t k s st d] w fun e w' => e = .returned (.int .i64 0) ∧ Below w.heap.size w w' := by
  obtain ⟨q, hq⟩ : ∃ q, (t != term) = q := ⟨_, rfl⟩
  have hQ := Lib.hid (show t = term ↔ q = false by subst hq; exact bne_eq_false_iff_eq.symm)
  have HH := Lib.hid h
  clear h
  unfold entV
  cases q
  all_goals
    go_enter Try.func61, Try.ntmps61
    go_wp2
    all_goals first
      | (go_ret; exact ⟨rfl, (Below.refl _ _).alloc (Nat.le_refl _) _⟩)
      | exact (HH.out ⟨by have := hQ.out; simpa using this, by omega⟩).elim

theorem rcredit_ok (term last t k s st : Int) (d : Value) (w : World) (h1 : t = term) (h2 : last ≤ s) :
    Calls Try.prog 61 #[.int .i64 term, .int .i64 last, entV t k s st d] w fun e w' => e = .returned (.int .i64 (wrap64 (s - last))) ∧ Below w.heap.size w w' := by
  subst h1
  unfold entV
  go_enter Try.func61, Try.ntmps61
  go_wp2
  go_ret
  exact ⟨rfl, (Below.refl _ _).alloc (Nat.le_refl _) _⟩

namespace Sp
def wait (t r bg now : Int) : Int := if bg < now then over t r - min (over t r) (now - bg) else over t r
theorem over_bd (t r : Int) : 0 ≤ over t r ∧ over t r ≤ 1400000000000000000 := by
  have h := over_b t r
  unfold over
  refine ⟨Int.ediv_nonneg (by omega) (by omega), ?_⟩
  have := Int.ediv_le_self (a := min (max t 0) 1099511627776 * (1000 * (1000 + min (max r 0) 200)) + (1000 - min (max r 0) 200 - 1)) (1000 - min (max r 0) 200) (by omega)
  omega
end Sp

theorem wait_c (t r bg now : Int) (w : World) (b0 : -9223372036854775808 ≤ bg) (b1 : now ≤ 9223372036854775807) :
    Calls Try.prog 62 #[.int .i64 t, .int .i64 r, .int .i64 bg, .int .i64 now] w fun e w' => e = .returned (.int .i64 (Sp.wait t r bg now)) ∧ Below w.heap.size w w' := by
  obtain ⟨o0, o1⟩ := Sp.over_bd t r
  by_cases h : bg < now
  · have hw := Lib.hid (show Sp.wait t r bg now = over t r - min (over t r) (now - bg) by unfold Sp.wait; rw [if_pos h])
    have hsub := sub_u64 (Int.le_of_lt h) b0 b1
    have q0 : 0 ≤ over t r - min (over t r) (now - bg) := by omega
    have q1 : over t r - min (over t r) (now - bg) ≤ 1400000000000000000 := by omega
    go_enter Try.func62, Try.ntmps62
    go_wp2_with (go_at_call 47; refine (over_c _ _ _).mono ?_; rintro e w1 ⟨rfl, hb1⟩)
    go_ret
    exact ⟨ret_int hw.out.symm, hb1⟩
  · have hw := Lib.hid (show Sp.wait t r bg now = over t r by unfold Sp.wait; rw [if_neg h])
    have q0 : min (over t r) 0 = 0 := by omega
    go_enter Try.func62, Try.ntmps62
    go_wp2_with (go_at_call 47; refine (over_c _ _ _).mono ?_; rintro e w1 ⟨rfl, hb1⟩)
    go_ret
    exact ⟨ret_int (by rw [hw.out]), hb1⟩

theorem rwait_c (t r bg now : Int) (w : World) (b0 : -9223372036854775808 ≤ bg) (b1 : now ≤ 9223372036854775807) :
    Calls Try.prog 63 #[.int .i64 t, .int .i64 r, .int .i64 bg, .int .i64 now] w fun e w' => e = .returned (.int .i64 (Sp.wait t r bg now)) ∧ w = w' := by
  obtain ⟨o0, o1⟩ := Sp.over_bd t r
  by_cases h : bg < now
  · have hw := Lib.hid (show Sp.wait t r bg now = over t r - min (over t r) (now - bg) by unfold Sp.wait; rw [if_pos h])
    have hsub := sub_u64 (Int.le_of_lt h) b0 b1
    by_cases h2 : over t r ≤ now - bg
    · go_enter Try.func63, Try.ntmps63
      go_wp2_with (go_at_call 48; refine (rover_c _ _ _).mono ?_; rintro e w1 ⟨rfl, rfl⟩)
      go_ret
      exact ⟨ret_int (by rw [hw.out]; omega), rfl⟩
    · go_enter Try.func63, Try.ntmps63
      go_wp2_with (go_at_call 48; refine (rover_c _ _ _).mono ?_; rintro e w1 ⟨rfl, rfl⟩)
      go_ret
      exact ⟨ret_int (by rw [hw.out]; omega), rfl⟩
  · have hw := Lib.hid (show Sp.wait t r bg now = over t r by unfold Sp.wait; rw [if_neg h])
    go_enter Try.func63, Try.ntmps63
    go_wp2_with (go_at_call 48; refine (rover_c _ _ _).mono ?_; rintro e w1 ⟨rfl, rfl⟩)
    go_ret
    exact ⟨ret_int hw.out.symm, rfl⟩

/-- What is told of an entry that came in. -/
structure XT_Entry where
  t : Int
  k : Int
  s : Int
  st : Int
  d : Value
def Is_Entry (w : World) (v : Value) (x : XT_Entry) : Prop := v = entV x.t x.k x.s x.st x.d ∧ (Lit.int .i64 x.s).wf = true
set_option maxRecDepth 100000 in
theorem open_Entry {H : Type} {enc : TypeId × Value → H} {w : World} {r : Reach} {b0 : Nat} {v : Value} {d : DataW H} {p : List MemPlace} (hv : Value.okWide Try.prog w r b0 97 v) (h : DataW.Trod enc Try.prog w 0 (fun _ => true) true 97 v d p) : ∃ x, Is_Entry w v x := by
  obtain ⟨cs, rfl, hsz, hf⟩ := open_agg Try.underlying97 (by kernel_rfl) (by kernel_rfl) hv h
  obtain ⟨u0, c0, n0, y0, t0⟩ := hf 0 _ rfl
  obtain ⟨u1, c1, n1, y1, t1⟩ := hf 1 _ rfl
  obtain ⟨u2, c2, n2, y2, t2⟩ := hf 2 _ rfl
  obtain ⟨u3, c3, n3, y3, t3⟩ := hf 3 _ rfl
  obtain ⟨u4, c4, n4, y4, t4⟩ := hf 4 _ rfl
  obtain ⟨e0, f0⟩ := trod_int' Try.underlying3 t0
  obtain ⟨e1, f1⟩ := trod_int' Try.underlying38 t1
  obtain ⟨e2, f2⟩ := trod_int' Try.underlying3 t2
  obtain ⟨e3, f3⟩ := trod_int' Try.underlying5 t3
  refine ⟨⟨intOf u0, intOf u1, intOf u2, intOf u3, u4⟩, ?_, f2⟩
  obtain ⟨l⟩ := cs
  have hl : l.length = 5 := by simpa using hsz
  match l, hl with
  | [x0, x1, x2, x3, x4], _ =>
    simp at c0 c1 c2 c3 c4
    subst c0; subst c1; subst c2; subst c3; subst c4
    show Value.agg #[x0, x1, x2, x3, x4] = .agg #[.int .i64 (intOf x0), .int .i8 (intOf x1), .int .i64 (intOf x2), .int .u8 (intOf x3), x4]
    rw [← e0, ← e1, ← e2, ← e3]

/-- The five cells of a boxed entry. -/
def E5 (w : World) (b : Nat) (x : XT_Entry) : Prop :=
  w.cell? ⟨b, 0, none⟩ = some (.int .i64 x.t) ∧ w.cell? ⟨b, 1, none⟩ = some (.int .i8 x.k) ∧ w.cell? ⟨b, 2, none⟩ = some (.int .i64 x.s) ∧ w.cell? ⟨b, 3, none⟩ = some (.int .u8 x.st) ∧ w.cell? ⟨b, 4, none⟩ = some x.d
theorem E5.below {w w' : World} {b : Nat} {x : XT_Entry} (h : E5 w b x) (k : Below w.heap.size w w') : E5 w' b x :=
  have hl : b < w.heap.size := cell_lt h.1
  ⟨(k.cell (p := ⟨b, _, none⟩) hl).trans h.1, (k.cell (p := ⟨b, _, none⟩) hl).trans h.2.1, (k.cell (p := ⟨b, _, none⟩) hl).trans h.2.2.1, (k.cell (p := ⟨b, _, none⟩) hl).trans h.2.2.2.1, (k.cell (p := ⟨b, _, none⟩) hl).trans h.2.2.2.2⟩

theorem stampCredits_walk (w : World) (a0 a1 : Int) (v2 : Value) (a2 : XT_Entry) (a3 a4 a5 a6 : Int) (w0 : (Lit.int .i64 a0).wf = true) (w1 : (Lit.int .i64 a1).wf = true) (w2 : Is_Entry w v2 a2) (w3 : (Lit.int .i64 a3).wf = true) (w4 : (Lit.int .i64 a4).wf = true) (w5 : (Lit.int .i64 a5).wf = true) (w6 : (Lit.int .i64 a6).wf = true) :
    Calls Try.prog 16 #[.int .i64 a0, .int .i64 a1, v2, .int .i64 a3, .int .i64 a4, .int .i64 a5, .int .i64 a6] w fun e w' => e = .returned (.bool true) ∧ Below w.heap.size w w' := by
  obtain ⟨rfl, ws⟩ := w2
  obtain ⟨s0, s1⟩ := bounds_i64 ws
  obtain ⟨l0, l1⟩ := bounds_i64 w1
  have g0 := (bounds_i64 w5).1
  have g1 := (bounds_i64 w6).2
  clear ws w0 w1 w3 w4 w5 w6
  have hb := ((Below.refl w.heap.size w).alloc (Nat.le_refl _) (.cells #[.int .i64 a2.t, .int .i8 a2.k, .int .i64 a2.s, .int .u8 a2.st, a2.d] 97)).drew
  have hE : E5 (w.alloc (.cells #[.int .i64 a2.t, .int .i8 a2.k, .int .i64 a2.s, .int .u8 a2.st, a2.d] 97)).drew w.heap.size a2 := ⟨by go_simp, by go_simp, by go_simp, by go_simp, by go_simp⟩
  unfold entV
  by_cases h : a2.t = a0 ∧ a1 ≤ a2.s
  · obtain ⟨h1, h2⟩ := h
    have H1 := Lib.hid h1
    clear h1
    go_enter Try.func16, Try.ntmps16
    go_wp2
    go_region_held3 (fun w' => w'.cell? ⟨w.heap.size, 0, none⟩ = some (.int .i64 a2.t) ∧ w'.cell? ⟨w.heap.size, 1, none⟩ = some (.int .i8 a2.k) ∧ w'.cell? ⟨w.heap.size, 2, none⟩ = some (.int .i64 a2.s) ∧ w'.cell? ⟨w.heap.size, 3, none⟩ = some (.int .u8 a2.st) ∧ w'.cell? ⟨w.heap.size, 4, none⟩ = some a2.d) (go_keep)
      (first
        | (go_at_call 60; refine (credit_ok a0 a1 a2.t a2.k a2.s a2.st a2.d _ H1.out h2 l0 l1 s0 s1).mono ?_; rintro e w1 ⟨rfl, hb1⟩; replace hE := hE.below hb1; obtain ⟨y0, y1, y2, y3, y4⟩ := hE; replace hE : E5 w1 w.heap.size a2 := ⟨y0, y1, y2, y3, y4⟩; replace hb := belowNext hb hb1 (Nat.le_refl _); clear hb1)
        | (go_at_call 61; refine (rcredit_ok a0 a1 a2.t a2.k a2.s a2.st a2.d _ H1.out h2).mono ?_; rintro e w1 ⟨rfl, hb1⟩; replace hE := hE.below hb1; obtain ⟨y0, y1, y2, y3, y4⟩ := hE; replace hE : E5 w1 w.heap.size a2 := ⟨y0, y1, y2, y3, y4⟩; replace hb := belowNext hb hb1 (Nat.le_refl _); clear hb1)
        | (go_at_call 62; refine (wait_c a3 a4 a5 a6 _ g0 g1).mono ?_; rintro e w1 ⟨rfl, hb1⟩; replace hE := hE.below hb1; obtain ⟨y0, y1, y2, y3, y4⟩ := hE; replace hE : E5 w1 w.heap.size a2 := ⟨y0, y1, y2, y3, y4⟩; replace hb := belowNext hb hb1 (Nat.le_refl _); clear hb1)
        | (go_at_call 63; refine (rwait_c a3 a4 a5 a6 _ g0 g1).mono ?_; rintro e w1 ⟨rfl, rfl⟩)
        | (go_at_call 36; refine (wakes20_c _).mono ?_; rintro e w1 ⟨rfl, hb1⟩; replace hE := hE.below hb1; obtain ⟨y0, y1, y2, y3, y4⟩ := hE; replace hE : E5 w1 w.heap.size a2 := ⟨y0, y1, y2, y3, y4⟩; replace hb := belowNext hb hb1 (Nat.le_refl _); clear hb1))
    all_goals
      go_wp2
      go_ret
      exact ⟨rfl, hb⟩
  · have HH := Lib.hid h
    clear h
    go_enter Try.func16, Try.ntmps16
    go_wp2
    go_region_held3 (fun w' => w'.cell? ⟨w.heap.size, 0, none⟩ = some (.int .i64 a2.t) ∧ w'.cell? ⟨w.heap.size, 1, none⟩ = some (.int .i8 a2.k) ∧ w'.cell? ⟨w.heap.size, 2, none⟩ = some (.int .i64 a2.s) ∧ w'.cell? ⟨w.heap.size, 3, none⟩ = some (.int .u8 a2.st) ∧ w'.cell? ⟨w.heap.size, 4, none⟩ = some a2.d) (go_keep)
      (first
        | (go_at_call 60; refine (credit_no a0 a1 a2.t a2.k a2.s a2.st a2.d _ HH.out).mono ?_; rintro e w1 ⟨rfl, hb1⟩; replace hE := hE.below hb1; obtain ⟨y0, y1, y2, y3, y4⟩ := hE; replace hE : E5 w1 w.heap.size a2 := ⟨y0, y1, y2, y3, y4⟩; replace hb := belowNext hb hb1 (Nat.le_refl _); clear hb1)
        | (go_at_call 61; refine (rcredit_no a0 a1 a2.t a2.k a2.s a2.st a2.d _ HH.out).mono ?_; rintro e w1 ⟨rfl, hb1⟩; replace hE := hE.below hb1; obtain ⟨y0, y1, y2, y3, y4⟩ := hE; replace hE : E5 w1 w.heap.size a2 := ⟨y0, y1, y2, y3, y4⟩; replace hb := belowNext hb hb1 (Nat.le_refl _); clear hb1)
        | (go_at_call 62; refine (wait_c a3 a4 a5 a6 _ g0 g1).mono ?_; rintro e w1 ⟨rfl, hb1⟩; replace hE := hE.below hb1; obtain ⟨y0, y1, y2, y3, y4⟩ := hE; replace hE : E5 w1 w.heap.size a2 := ⟨y0, y1, y2, y3, y4⟩; replace hb := belowNext hb hb1 (Nat.le_refl _); clear hb1)
        | (go_at_call 63; refine (rwait_c a3 a4 a5 a6 _ g0 g1).mono ?_; rintro e w1 ⟨rfl, rfl⟩)
        | (go_at_call 36; refine (wakes20_c _).mono ?_; rintro e w1 ⟨rfl, hb1⟩; replace hE := hE.below hb1; obtain ⟨y0, y1, y2, y3, y4⟩ := hE; replace hE : E5 w1 w.heap.size a2 := ⟨y0, y1, y2, y3, y4⟩; replace hb := belowNext hb hb1 (Nat.le_refl _); clear hb1))
    all_goals
      go_wp2
      go_ret
      exact ⟨rfl, hb⟩
end Go.Proofs.Ytnbgilgnkedojaa
