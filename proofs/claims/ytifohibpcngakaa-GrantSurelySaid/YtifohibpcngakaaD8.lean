/- When a lease is over: the clocks, the desk, what is known of both. -/
import Derived.Test.YtifohibpcngakaaD7
namespace Go.Proofs.Ytifohibpcngakaa
open Go.ChangeShapes Go.WideShapes Go.ChangeAt Go.RowKit Go.Maps
set_option linter.unusedVariables false
set_option linter.unusedSimpArgs false
open BigFrame Bs Gr

namespace Gr
open Ck
theorem at_blk {w w' : World} {b : Nat} {t m r : Int} (h : Ck.At w b t m r) (e : w'.heap[b]? = w.heap[b]?) : Ck.At w' b t m r :=
  ⟨(World.cell?_of_block e).trans h.c0, (World.cell?_of_block e).trans h.c1, (World.cell?_of_block e).trans h.c2, (World.frozen?_of_block e).trans h.f0, (World.frozen?_of_block e).trans h.f1⟩
theorem kp_only {m : Nat → Prop} {w w' : World} {b : Nat} (h : Only b w w') (hm : ¬ m b) : Kp m w w' :=
  ⟨⟨h.os, h.tape, h.output, h.size, fun k hk => absurd hk (Nat.not_lt_zero k)⟩, fun i hi hl => h.block i hl (fun e => hm (e ▸ hi))⟩
/-- A stretch of steps. -/
structure Str (ct cm vt vm r : Int) : Prop where
  t0 : 0 ≤ vt
  t1 : vt ≤ ct
  n0 : (ct - vt) * (1000 - r) ≤ cm - vm
  n1 : cm - vm ≤ (ct - vt) * (1000 + r)
theorem Str.step {ct cm vt vm r ticks : Int} (h : Str ct cm vt vm r) (I : Inv ct cm r) (h0 : 0 ≤ ticks) (h1 : ticks ≤ 1099511627776 - ct) (wish : Int) : Str (ct + ticks) (cm + adv r ticks wish) vt vm r := by
  obtain ⟨t0, t1, n0, n1⟩ := h
  have b := mul_b h0 (show ticks ≤ 1099511627776 by have := I.t0; omega) I.r0 I.r1
  have a := adv_b (wish := wish) b.2.1
  refine ⟨t0, by omega, ?_, ?_⟩
  · rw [show ct + ticks - vt = (ct - vt) + ticks by omega, Int.add_mul]; omega
  · rw [show ct + ticks - vt = (ct - vt) + ticks by omega, Int.add_mul]; omega
theorem Str.new {ct cm r : Int} (h : 0 ≤ ct) : Str ct cm ct cm r := ⟨h, Int.le_refl _, by simp, by simp⟩
theorem Str.inv {ct cm vt vm r : Int} (h : Str ct cm vt vm r) (I : Inv ct cm r) : Inv (ct - vt) (cm - vm) r :=
  ⟨I.r0, I.r1, by have := h.t1; omega, by have := h.t0; have := I.t1; omega, h.n0, h.n1⟩
theorem inv_zero {r : Int} (h0 : 0 ≤ r) (h1 : r ≤ 200) : Ck.Inv 0 0 r := ⟨h0, h1, by omega, by omega, by omega, by omega⟩
theorem over_law {ma mb ct r T : Int} (ha : Inv ct ma r) (hb : Inv ct mb r) (t0 : 0 ≤ T) (t1 : T ≤ 1099511627776) (h : over T r ≤ ma) : 1000 * T ≤ mb := by
  have r0 := ha.r0; have r1 := ha.r1
  unfold over at h
  rw [show min (max r 0) 200 = r by omega, show min (max T 0) 1099511627776 = T by omega] at h
  have hx := Int.mul_nonneg t0 (show 0 ≤ 1000 * (1000 + r) by omega)
  obtain ⟨x, hxx⟩ : ∃ x, T * (1000 * (1000 + r)) = x := ⟨_, rfl⟩
  rw [hxx] at h hx
  have h1 := Int.emod_add_mul_ediv (x + (1000 - r - 1)) (1000 - r)
  have h2 := Int.emod_lt_of_pos (x + (1000 - r - 1)) (show 0 < 1000 - r by omega)
  have h3 : (1000 - r) * ((x + (1000 - r - 1)) / (1000 - r)) ≤ (1000 - r) * ma := Int.mul_le_mul_of_nonneg_left h (by omega)
  have h4 : x ≤ (1000 - r) * ma := by omega
  have h5 : (1000 - r) * ma ≤ (1000 - r) * (ct * (1000 + r)) := Int.mul_le_mul_of_nonneg_left ha.m1 (by omega)
  have e1 : (1000 - r) * (ct * (1000 + r)) = (ct * (1000 - r)) * (1000 + r) := by
    rw [← Int.mul_assoc, Int.mul_comm (1000 - r) ct]
  have e2 : x = (T * 1000) * (1000 + r) := by rw [← hxx, Int.mul_assoc]
  have h6 : (T * 1000) * (1000 + r) ≤ (ct * (1000 - r)) * (1000 + r) := by omega
  have h7 := Int.le_of_mul_le_mul_right h6 (show 0 < 1000 + r by omega)
  have := hb.m0
  omega
/-- A step, taken or refused. -/
def tickT (t ticks : Int) : Int := if 0 ≤ ticks ∧ ticks ≤ 1099511627776 - t then t + ticks else t
def tickM (r t m ticks wish : Int) : Int := if 0 ≤ ticks ∧ ticks ≤ 1099511627776 - t then m + adv r ticks wish else m
def tickE (t ticks : Int) : Int := if 0 ≤ ticks ∧ ticks ≤ 1099511627776 - t then 0 else 2
def StepP (b : Nat) (t m r ticks wish : Int) (w : World) (e : Ending) (w' : World) : Prop :=
  e = .returned (.int .i64 (tickE t ticks)) ∧ Ck.At w' b (tickT t ticks) (tickM r t m ticks wish) r ∧ Only b w w'
theorem step_inv {t m r : Int} (I : Inv t m r) (ticks wish : Int) : Inv (tickT t ticks) (tickM r t m ticks wish) r ∧ m ≤ tickM r t m ticks wish ∧ ∀ vt vm, Str t m vt vm r → Str (tickT t ticks) (tickM r t m ticks wish) vt vm r := by
  unfold tickT tickM
  by_cases h : 0 ≤ ticks ∧ ticks ≤ 1099511627776 - t
  · rw [if_pos h, if_pos h]
    have b := mul_b h.1 (show ticks ≤ 1099511627776 by have := I.t0; omega) I.r0 I.r1
    have a := adv_b (wish := wish) b.2.1
    exact ⟨I.step h.1 h.2 wish, by omega, fun vt vm hs => hs.step I h.1 h.2 wish⟩
  · rw [if_neg h, if_neg h]
    exact ⟨I, Int.le_refl _, fun _ _ hs => hs⟩
def L7 : List Value := [.int .i64 7, .int .i64 0, .int .i64 0, .int .i64 0, .int .i64 0, .int .i64 0, .int .i64 0]
def S7 (lb : Nat) : List Value := [.int .i64 0, .int .i64 0, .int .i64 0, .slice none 0 0, .slice (some ⟨lb, 0, none⟩) 1 1, .slice none 0 0, .slice none 0 0]
theorem L7_lss {m : Nat → Prop} {w : World} {lb : Nat} (h : Blk w lb L7) (hm : m lb) : Lss m w (some ⟨lb, 0, none⟩) 1 (fun _ => 7) := fun _ => ⟨lb, 0, rfl, hm, h.l, fun i hi => by
  obtain rfl : i = 0 := by omega
  refine ⟨⟨h.c 0 _ rfl, fun j h1 h2 => ?_⟩, by decide⟩
  have : j = 1 ∨ j = 2 ∨ j = 3 ∨ j = 4 ∨ j = 5 ∨ j = 6 := by omega
  rcases this with rfl | rfl | rfl | rfl | rfl | rfl <;> exact h.c _ _ rfl⟩
theorem pk7 (P : Int → Bool) : pk P (fun _ => 7) 1 = if P 7 then [7] else [] := by
  unfold pk
  simp [List.range_succ, List.filter_cons]
/-- What is known of the desk ahead of round i ('told': what was told before it). -/
def Dsk (Q : List Nat) (B : Nat) (OV made told : Int) (own : Bool) (i ti : Int) (read ma : Int) (dv : Value) (wr : World) : Prop :=
  (dv = .pointer none ∧ (own = true → i = 0) ∧ (own = false → 0 ≤ made → i ≤ made)) ∨
  (∃ (d bm n : Nat) (EL NO : Int) (T : Int → Option Int), dv = .pointer (some ⟨d, 0, none⟩) ∧ 0 < i ∧ DK (mm B Q) wr d bm n OV EL NO T ∧ (0 ≤ EL ∧ EL ≤ ma ∧ 0 ≤ NO ∧ NO ≤ ma ∧ (n : Int) ≤ ti) ∧ (∀ k c, T k = some c → 0 ≤ c ∧ c ≤ ma) ∧
    (own = true → EL = 0 ∧ (ti ≤ told → T 7 = none) ∧ (0 ≤ made → told < ti → T 7 = some read)) ∧ (own = false → 0 ≤ made ∧ made < i ∧ EL = read ∧ T 7 = none))
/-- What is known ahead of round i. -/
structure Sv (w0 : World) (Q : List Nat) (B : Nat) (OV r ask made told : Int) (own : Bool) (ca cb lb sb : Nat) (i ti : Int) (dv : Value) (sent read t ma mb : Int) (wr : World) : Prop where
  k : Kp (mm B []) w0 wr
  a : Ck.At wr ca t ma r
  b : Ck.At wr cb t mb r
  l : Blk wr lb L7
  s : Blk wr sb (S7 lb)
  ia : Inv t ma r
  ib : Inv t mb r
  s0 : 0 ≤ sent
  s1 : sent ≤ mb
  r0 : 0 ≤ read
  r1 : read ≤ ma
  z : i = 0 → ma = 0
  g : 0 ≤ made → made < i → ∃ vt vmb, Str t ma vt read r ∧ Str t mb vt vmb r ∧ (0 ≤ ask → sent ≤ vmb)
  d : Dsk Q B OV made told own i ti read ma dv wr
  q : ca ∈ Q ∧ cb ∈ Q ∧ lb ∈ Q ∧ sb ∈ Q
  ne : ca ≠ cb ∧ lb ≠ ca ∧ lb ≠ cb ∧ sb ≠ ca ∧ sb ≠ cb ∧ B ≤ ca ∧ B ≤ cb
  w : ∀ b, mm B Q b → b < wr.heap.size
theorem Dsk.bel {Q : List Nat} {B : Nat} {OV made told : Int} {own : Bool} {i ti read ma : Int} {dv : Value} {w w' : World} (h : Dsk Q B OV made told own i ti read ma dv w) (k : Below w.heap.size w w') : Dsk Q B OV made told own i ti read ma dv w' := by
  rcases h with h | ⟨d, bm, n, EL, NO, T, e, hi, h, r⟩
  · exact .inl h
  · exact .inr ⟨d, bm, n, EL, NO, T, e, hi, h.bel k, r⟩
section
variable {w0 : World} {Q : List Nat} {B : Nat} {OV r ask made told : Int} {own : Bool} {ca cb lb sb : Nat} {i ti : Int} {dv : Value} {sent read t ma mb : Int} {w w' : World}
theorem Sv.bel (h : Sv w0 Q B OV r ask made told own ca cb lb sb i ti dv sent read t ma mb w) (k : Below w.heap.size w w') : Sv w0 Q B OV r ask made told own ca cb lb sb i ti dv sent read t ma mb w' :=
  ⟨h.k.trans (Kp.of k), h.a.below k, h.b.below k, h.l.bel k, h.s.bel k, h.ia, h.ib, h.s0, h.s1, h.r0, h.r1, h.z, h.g, h.d.bel k, h.q, h.ne, mwB h.w k.size⟩
/-- The desk turns, nothing else. -/
theorem Sv.desk {i2 ti2 read2 : Int} {dv2 : Value} (h : Sv w0 Q B OV r ask made told own ca cb lb sb i ti dv sent read t ma mb w) (k : Kp (mm B Q) w w') (hr : 0 ≤ read2 ∧ read2 ≤ ma) (hz : i2 = 0 → ma = 0)
    (hg : 0 ≤ made → made < i2 → ∃ vt vmb, Str t ma vt read2 r ∧ Str t mb vt vmb r ∧ (0 ≤ ask → sent ≤ vmb)) (hd : Dsk Q B OV made told own i2 ti2 read2 ma dv2 w') : Sv w0 Q B OV r ask made told own ca cb lb sb i2 ti2 dv2 sent read2 t ma mb w' :=
  ⟨h.k.trans (k.sub (mm_sub (by simp))), at_blk h.a (k.k ca (.inr h.q.1) h.a.lt), at_blk h.b (k.k cb (.inr h.q.2.1) h.b.lt), k.blk h.l (.inr h.q.2.2.1), k.blk h.s (.inr h.q.2.2.2), h.ia, h.ib, h.s0, h.s1, hr.1, hr.2, hz, hg, hd, h.q, h.ne, mwB h.w k.size⟩
/-- More, or fewer, blocks are minded. -/
theorem Sv.re {Q2 : List Nat} (h : Sv w0 Q B OV r ask made told own ca cb lb sb i ti dv sent read t ma mb w) (hq : ca ∈ Q2 ∧ cb ∈ Q2 ∧ lb ∈ Q2 ∧ sb ∈ Q2) (hw : ∀ b, mm B Q2 b → b < w.heap.size)
    (hd : ∀ (d bm n : Nat) (EL NO : Int) (T : Int → Option Int), DK (mm B Q) w d bm n OV EL NO T → ¬ mm B Q2 d ∧ ¬ mm B Q2 bm) : Sv w0 Q2 B OV r ask made told own ca cb lb sb i ti dv sent read t ma mb w := by
  refine ⟨h.k, h.a, h.b, h.l, h.s, h.ia, h.ib, h.s0, h.s1, h.r0, h.r1, h.z, h.g, ?_, hq, h.ne, hw⟩
  rcases h.d with h | ⟨d, bm, n, EL, NO, T, e, hi, h, r⟩
  · exact .inl h
  · obtain ⟨h1, h2⟩ := hd _ _ _ _ _ _ h
    exact .inr ⟨d, bm, n, EL, NO, T, e, hi, h.re h1 h2 hw, r⟩
theorem Sv.ask_ (h : Sv w0 Q B OV r ask made told own ca cb lb sb i ti dv sent read t ma mb w) {s2 : Int} (h1 : 0 ≤ s2) (h2 : s2 ≤ mb) (h3 : 0 ≤ made → made < i → s2 = sent) : Sv w0 Q B OV r ask made told own ca cb lb sb i ti dv s2 read t ma mb w :=
  ⟨h.k, h.a, h.b, h.l, h.s, h.ia, h.ib, h1, h2, h.r0, h.r1, h.z, fun q1 q2 => by rw [h3 q1 q2]; exact h.g q1 q2, h.d, h.q, h.ne, h.w⟩
/-- Both clocks are stepped. -/
theorem Sv.step {u v : World} {ticks wa wb : Int} (h : Sv w0 Q B OV r ask made told own ca cb lb sb i ti dv sent read t ma mb w) (hi : ¬ i = 0) (h1 : Ck.At u ca (tickT t ticks) (tickM r t ma ticks wa) r) (k1 : Only ca w u)
    (h2 : Ck.At v cb (tickT t ticks) (tickM r t mb ticks wb) r) (k2 : Only cb u v) : Sv w0 Q B OV r ask made told own ca cb lb sb i ti dv sent read (tickT t ticks) (tickM r t ma ticks wa) (tickM r t mb ticks wb) v := by
  obtain ⟨n1, n2, n3, n4, n5, n6, n7⟩ := h.ne
  obtain ⟨ja, la, sa⟩ := step_inv h.ia ticks wa
  obtain ⟨jb, lb', sb'⟩ := step_inv h.ib ticks wb
  have hh : ∀ x, x < w.heap.size → x ≠ ca → x ≠ cb → v.heap[x]? = w.heap[x]? := fun x h1 h2 h3 => (k2.block x (Nat.lt_of_lt_of_le h1 k1.size) h3).trans (k1.block x h1 h2)
  have hsz : w.heap.size ≤ v.heap.size := Nat.le_trans k1.size k2.size
  have s0 := h.s0; have s1 := h.s1; have r0 := h.r0; have r1 := h.r1
  refine ⟨(h.k.trans (kp_only k1 (mm_not n6 (by simp)))).trans (kp_only k2 (mm_not n7 (by simp))), h1.only k2 n1, h2, ?_, ?_, ja, jb, s0, by omega, r0, by omega, fun e => absurd e hi, ?_, ?_, h.q, h.ne, mwB h.w hsz⟩
  · have e := hh lb h.l.l n2 n3
    exact ⟨fun i x hx => (World.cell?_of_block e).trans (h.l.c i x hx), fun o => (World.frozen?_of_block e).trans (h.l.f o), Nat.lt_of_lt_of_le h.l.l hsz⟩
  · have e := hh sb h.s.l n4 n5
    exact ⟨fun i x hx => (World.cell?_of_block e).trans (h.s.c i x hx), fun o => (World.frozen?_of_block e).trans (h.s.f o), Nat.lt_of_lt_of_le h.s.l hsz⟩
  · intro q1 q2
    obtain ⟨vt, vmb, g1, g2, g3⟩ := h.g q1 q2
    exact ⟨vt, vmb, sa _ _ g1, sb' _ _ g2, g3⟩
  · rcases h.d with h' | ⟨d, bm, n, EL, NO, T, e, hi, hD, ⟨e1, e2, e3, e4, e5⟩, hT, ho, hno⟩
    · exact .inl h'
    · have m1 := hD.md
      have m2 := hD.mb
      have d1 : d ≠ ca := fun e => m1 (e ▸ .inr h.q.1)
      have d2 : d ≠ cb := fun e => m1 (e ▸ .inr h.q.2.1)
      have b1 : bm ≠ ca := fun e => m2 (e ▸ .inr h.q.1)
      have b2 : bm ≠ cb := fun e => m2 (e ▸ .inr h.q.2.1)
      have ed := hh d hD.b.l d1 d2
      have eb := hh bm hD.t.lt b1 b2
      refine .inr ⟨d, bm, n, EL, NO, T, e, hi, ⟨⟨fun i x hx => (World.cell?_of_block ed).trans (hD.b.c i x hx), fun o => (World.frozen?_of_block ed).trans (hD.b.f o), Nat.lt_of_lt_of_le hD.b.l hsz⟩, hD.t.blk eb, m1, m2, mwB hD.mw hsz, hD.ne⟩, ⟨e1, by omega, e3, by omega, e5⟩, fun k c hk => ?_, ho, hno⟩
      have := hT k c hk
      omega
end
theorem TOk.of {EL NO ma : Int} {T : Int → Option Int} (h : ∀ k c, T k = some c → 0 ≤ c ∧ c ≤ ma) (hm : ma ≤ 9223372036854775807) : TOk EL NO T := fun k c hk => by have := h k c hk; omega
end Gr

theorem stepP {b : Nat} {t m r : Int} {w : World} (h : Ck.At w b t m r) (I : Ck.Inv t m r) (ticks wish : Int) :
    Calls Try.prog 20 #[.pointer (some ⟨b, 0, none⟩), .int .i64 ticks, .int .i64 wish] w (StepP b t m r ticks wish w) := by
  by_cases hc : 0 ≤ ticks ∧ ticks ≤ 1099511627776 - t
  · refine (step_ok b t m r ticks wish w h I hc.1 hc.2).mono fun e w' ⟨he, ha, ho⟩ => ?_
    have e1 : tickE t ticks = 0 := if_pos hc
    have e2 : tickT t ticks = t + ticks := if_pos hc
    have e3 : tickM r t m ticks wish = m + Ck.adv r ticks wish := if_pos hc
    exact ⟨by rw [e1]; exact he, by rw [e2, e3]; exact ha, ho⟩
  · refine (step_no b t m r ticks wish w h I.t0 I.t1 (by omega)).mono fun e w' ⟨he, hw⟩ => ?_
    have e1 : tickE t ticks = 2 := if_neg hc
    have e2 : tickT t ticks = t := if_neg hc
    have e3 : tickM r t m ticks wish = m := if_neg hc
    subst hw
    exact ⟨by rw [e1]; exact he, by rw [e2, e3]; exact h, Only.refl b w⟩

theorem over7 {Q : List Nat} {B : Nat} {w : World} {d bm n : Nat} {OV EL NO : Int} {T : Int → Option Int} (h : DK (mm B Q) w d bm n OV EL NO T) {lb : Nat} (hl : Blk w lb L7) (hq : lb ∈ Q) (k : Int)
    (he : 0 ≤ EL ∧ EL ≤ 9223372036854775807) (hn : 0 ≤ NO ∧ NO ≤ 9223372036854775807) (hk : k ≤ 9223372036854775807) (hT : TOk EL (max NO k) T) :
    Calls Try.prog 13 #[.pointer (some ⟨d, 0, none⟩), .agg #[.int .i64 0, .int .i64 0, .int .i64 0, .slice none 0 0, .slice (some ⟨lb, 0, none⟩) 1 1, .slice none 0 0, .slice none 0 0], .int .i64 k] w (OverP (mm B Q) d bm n OV EL (max NO k) T (if isOv OV EL (max NO k) T 7 then [7] else []) w) := by
  have := over_ok h (some ⟨lb, 0, none⟩) 1 1 (fun _ => 7) k (by omega) (L7_lss hl (.inr hq)) he hn hk hT
  rw [pk7] at this
  have e : srt (if isOv OV EL (max NO k) T 7 then [7] else []) = if isOv OV EL (max NO k) T 7 then [7] else [] := by split <;> simp [srt]
  rw [e] at this
  exact this
end Go.Proofs.Ytifohibpcngakaa
