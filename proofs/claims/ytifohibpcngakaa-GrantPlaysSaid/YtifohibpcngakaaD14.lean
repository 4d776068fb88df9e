/- Both desks side by side. -/
import Derived.Test.YtifohibpcngakaaD13
namespace Go.Proofs.Ytifohibpcngakaa
open Go.ChangeShapes Go.WideShapes Go.ChangeAt Go.RowKit Go.Maps
set_option linter.unusedVariables false
set_option linter.unusedSimpArgs false
open BigFrame Bs Gr
attribute [local go_sem] Bs.max_fold Bs.min_fold

namespace Gr
/-- A row of integers, as it is told. -/
def RowR (w : World) (v : Value) (l : List Int) : Prop := ∃ (a : Option Addr) (c : Nat), v = .slice a l.length c ∧ (0 < l.length → ∃ g, a = some ⟨g, 0, none⟩ ∧ Blk w g (iV l))
theorem RowP.r {w w' : World} {v : Value} {l : List Int} (h : RowP w v l w') : RowR w' v l := by
  obtain ⟨a, c, e, h2⟩ := h
  exact ⟨a, c, e, fun hp => by
    obtain ⟨g, h3, _, h5⟩ := h2 hp
    exact ⟨g, h3, h5⟩⟩
end Gr

set_option maxRecDepth 100000 in
set_option maxHeartbeats 4000000 in
theorem row_c {w : World} {l : List Int} (a1 a2 : Option Addr) (n c1 c2 : Nat) (hn : l.length = n) (hl : n ≤ 1000000) (h1 : 0 < n → ∃ g, a1 = some ⟨g, 0, none⟩ ∧ Blk w g (iV l)) (h2 : 0 < n → ∃ g, a2 = some ⟨g, 0, none⟩ ∧ Blk w g (iV l)) :
    Calls Try.prog 16 #[.slice a1 n c1, .slice a2 n c2] w fun e w' => e = .returned (.bool true) ∧ Below w.heap.size w w' := by
  have hni : (n : Int) ≤ 1000000 := by omega
  replace h1 := Lib.hid h1
  replace h2 := Lib.hid h2
  replace hn := Lib.hid hn
  go_enter Try.func16, Try.ntmps16
  go_wp2_with fail
  go_loopw [5, 13] (fun _ s13 wr => ∃ i : Nat, s13 = .int .i64 (i : Nat) ∧ i ≤ n ∧ RowKit.Hid (Below w.heap.size w wr)) (fun _ s13 _ => n - (intOf s13).toNat)
  case atStart => exact ⟨0, rfl, Nat.zero_le _, Lib.hid (Below.refl _ _)⟩
  case round =>
    obtain ⟨i, rfl, hi, hB⟩ := hrel
    have ii : (i : Int) ≤ (n : Int) := by omega
    by_cases hlt : i < n
    · have ii1 : (i : Int) < (n : Int) := by omega
      have ii0 : (0 : Int) ≤ (i : Int) := by omega
      obtain ⟨g1, rfl, b1⟩ := h1.out (by omega)
      obtain ⟨g2, rfl, b2⟩ := h2.out (by omega)
      have x1 := (b1.bel hB.out).c i _ (iV_at (by rw [hn.out]; exact hlt))
      have x2 := (b2.bel hB.out).c i _ (iV_at (by rw [hn.out]; exact hlt))
      obtain ⟨y, hy⟩ : ∃ y, RowKit.Hid (l.getD i 0 = y) := ⟨_, Lib.hid rfl⟩
      rw [hy.out] at x1 x2
      clear b1 b2 h1 h2
      have ne : (y != y) = false := by simp
      have hB2 := fun q => bNext hB.out (bDrew (Below.refl wr.heap.size wr) q) (Nat.le_refl _)
      replace hB2 := Lib.hid hB2
      go_wp2_with fail
      go_quiet (fail)
      go_wp2_with fail
      go_roundw
      case rel => exact ⟨i + 1, by go_num, hlt, Lib.hid (hB2.out _)⟩
      case measure => simp [intOf]; omega
    · obtain rfl : i = n := by omega
      clear h1 h2
      go_wp2_with fail
      go_ret
      exact ⟨rfl, hB.out⟩

namespace Gr
/-- Both desks know the same. -/
structure Pl (X : List Nat) (w0 : World) (B d bm r : Nat) (TI RH OV EL : Int) (n : Nat) (NO : Int) (Q : List (Int × Int)) (lv tv : Value) (w : World) : Prop where
  k : Kp (mm B []) w0 w
  dd : DK (mm B X) w d bm n OV EL NO (lk Q)
  rr : RD (mm B X) w r TI RH EL NO lv tv (Q.map Prod.fst) (Q.map Prod.snd)
  s1 : d ≠ r ∧ bm ≠ r
  s2 : ∀ q, lv.ownBlock = some q → q ≠ d ∧ q ≠ bm
  s3 : ∀ q, tv.ownBlock = some q → q ≠ d ∧ q ≠ bm
  nd : (Q.map Prod.fst).Nodup
  no : 0 ≤ NO ∧ NO ≤ 9223372036854775807
  tt : ∀ k c, lk Q k = some c → 0 ≤ c ∧ c ≤ 9223372036854775807
def PlX (X : List Nat) (w0 : World) (B d bm r : Nat) (TI RH OV EL : Int) (i : Nat) (w : World) : Prop :=
  ∃ n NO Q lv tv, Pl X w0 B d bm r TI RH OV EL n NO Q lv tv w ∧ n ≤ i ∧ Q.length ≤ i
theorem PlX.mono {X : List Nat} {w0 : World} {B d bm r : Nat} {TI RH OV EL : Int} {i : Nat} {w : World} (h : PlX X w0 B d bm r TI RH OV EL i w) {j : Nat} (hj : i ≤ j) : PlX X w0 B d bm r TI RH OV EL j w := by
  obtain ⟨n, NO, Q, lv, tv, h1, h2, h3⟩ := h
  exact ⟨n, NO, Q, lv, tv, h1, by omega, by omega⟩
section
variable {X : List Nat} {w0 : World} {B d bm r : Nat} {TI RH OV EL : Int} {i : Nat} {w w' : World}
theorem PlX.bel (h : PlX X w0 B d bm r TI RH OV EL i w) (k : Below w.heap.size w w') : PlX X w0 B d bm r TI RH OV EL i w' := by
  obtain ⟨n, NO, Q, lv, tv, h1, h2, h3⟩ := h
  exact ⟨n, NO, Q, lv, tv, ⟨h1.k.trans (Kp.of k), h1.dd.bel k, h1.rr.bel k, h1.s1, h1.s2, h1.s3, h1.nd, h1.no, h1.tt⟩, h2, h3⟩
theorem PlX.kp0 (h : PlX X w0 B d bm r TI RH OV EL i w) : Kp (mm B []) w0 w := by
  obtain ⟨n, NO, Q, lv, tv, h1, h2, h3⟩ := h
  exact h1.k
theorem PlX.mw (h : PlX X w0 B d bm r TI RH OV EL i w) : ∀ b, mm B X b → b < w.heap.size := by
  obtain ⟨n, NO, Q, lv, tv, h1, h2, h3⟩ := h
  exact h1.dd.mw
/-- A block that is none of theirs is minded too. -/
theorem PlX.add {o : Obj} (h : PlX X w0 B d bm r TI RH OV EL i w) : PlX (w.heap.size :: X) w0 B d bm r TI RH OV EL i (w.alloc o) := by
  obtain ⟨n, NO, Q, lv, tv, h1, h2, h3⟩ := h
  have k := (Below.refl w.heap.size w).alloc (Nat.le_refl _) o
  have hn : ∀ x, x < w.heap.size → ¬ mm B X x → ¬ mm B (w.heap.size :: X) x := fun x hx hm h => hm (h.elim .inl (fun h => by
    rcases List.mem_cons.1 h with e | e
    · omega
    · exact .inr e))
  have hw : ∀ b, mm B (w.heap.size :: X) b → b < (w.alloc o).heap.size := fun b hb => by
    have hs : (w.alloc o).heap.size = w.heap.size + 1 := by simp
    rcases hb with hb | hb
    · have := h1.dd.mw b (.inl hb); omega
    · rcases List.mem_cons.1 hb with e | e
      · omega
      · have := h1.dd.mw b (.inr e); omega
  refine ⟨n, NO, Q, lv, tv, ⟨h1.k.trans (Kp.of k), (h1.dd.bel k).re (hn d h1.dd.b.l h1.dd.md) (hn bm h1.dd.t.lt h1.dd.mb) hw, (h1.rr.bel k).re (hn r h1.rr.b.l h1.rr.mr) (fun q hq => hn q (h1.rr.l.lt q hq).2 (h1.rr.ml q hq)) (fun q hq => hn q (h1.rr.t.lt q hq).2 (h1.rr.mt q hq)) hw, h1.s1, h1.s2, h1.s3, h1.nd, h1.no, h1.tt⟩, h2, h3⟩
theorem PlX.less {Y : List Nat} (h : PlX X w0 B d bm r TI RH OV EL i w) (hs : ∀ x ∈ Y, x ∈ X) : PlX Y w0 B d bm r TI RH OV EL i w := by
  obtain ⟨n, NO, Q, lv, tv, h1, h2, h3⟩ := h
  have hn : ∀ x, ¬ mm B X x → ¬ mm B Y x := fun x hm h => hm (mm_sub hs x h)
  have hw : ∀ b, mm B Y b → b < w.heap.size := fun b hb => h1.dd.mw b (mm_sub hs b hb)
  exact ⟨n, NO, Q, lv, tv, ⟨h1.k, h1.dd.re (hn d h1.dd.md) (hn bm h1.dd.mb) hw, h1.rr.re (hn r h1.rr.mr) (fun q hq => hn q (h1.rr.ml q hq)) (fun q hq => hn q (h1.rr.mt q hq)) hw, h1.s1, h1.s2, h1.s3, h1.nd, h1.no, h1.tt⟩, h2, h3⟩
/-- What is kept while the program's desk turns; while the reference's does. -/
def mD (B : Nat) (X : List Nat) (r : Nat) (lv tv : Value) : Nat → Prop := fun b => mm B X b ∨ b = r ∨ lv.ownBlock = some b ∨ tv.ownBlock = some b
def mR (B : Nat) (X : List Nat) (d bm : Nat) : Nat → Prop := fun b => mm B X b ∨ b = d ∨ b = bm
variable {n : Nat} {NO : Int} {Q : List (Int × Int)} {lv tv : Value}
theorem Pl.dk (h : Pl X w0 B d bm r TI RH OV EL n NO Q lv tv w) : DK (mD B X r lv tv) w d bm n OV EL NO (lk Q) :=
  h.dd.re (fun h1 => by
      rcases h1 with h1 | h1 | h1 | h1
      · exact h.dd.md h1
      · exact h.s1.1 h1
      · exact (h.s2 d h1).1 rfl
      · exact (h.s3 d h1).1 rfl)
    (fun h1 => by
      rcases h1 with h1 | h1 | h1 | h1
      · exact h.dd.mb h1
      · exact h.s1.2 h1
      · exact (h.s2 bm h1).2 rfl
      · exact (h.s3 bm h1).2 rfl)
    (fun b h1 => by
      rcases h1 with h1 | h1 | h1 | h1
      · exact h.dd.mw b h1
      · rw [h1]; exact h.rr.b.l
      · exact (h.rr.l.lt b h1).2
      · exact (h.rr.t.lt b h1).2)
theorem Pl.rd {Y : List Nat} (h : Pl X w0 B d bm r TI RH OV EL n NO Q lv tv w) {w1 : World} (k : Kp (mD B X r lv tv) w w1) (hY : ∀ y ∈ Y, y ∈ X ∨ (w.heap.size ≤ y ∧ y < w1.heap.size)) (hd : d < w1.heap.size ∧ bm < w1.heap.size) : RD (mR B Y d bm) w1 r TI RH EL NO lv tv (Q.map Prod.fst) (Q.map Prod.snd) := by
  have h1 := h.rr.kp k (.inr (.inl rfl)) (fun q hq => .inr (.inr (.inl hq))) (fun q hq => .inr (.inr (.inr hq)))
  have hz : ∀ x, x < w.heap.size → ¬ mm B X x → ¬ mm B Y x := fun x hx hm hh => hm (hh.elim .inl (fun q => by
    rcases hY x q with e | e
    · exact .inr e
    · omega))
  refine h1.re (fun q => ?_) (fun q hq h2 => ?_) (fun q hq h2 => ?_) (fun b hb => ?_)
  · rcases q with q | q | q
    · exact hz r h.rr.b.l h.rr.mr q
    · exact h.s1.1 q.symm
    · exact h.s1.2 q.symm
  · rcases h2 with h2 | h2 | h2
    · exact hz q (h.rr.l.lt q hq).2 (h.rr.ml q hq) h2
    · exact (h.s2 q hq).1 h2
    · exact (h.s2 q hq).2 h2
  · rcases h2 with h2 | h2 | h2
    · exact hz q (h.rr.t.lt q hq).2 (h.rr.mt q hq) h2
    · exact (h.s3 q hq).1 h2
    · exact (h.s3 q hq).2 h2
  · rcases hb with hb | hb | hb
    · rcases hb with hb | hb
      · have := h.dd.mw b (.inl hb); have := k.size; omega
      · rcases hY b hb with e | e
        · have := h.dd.mw b (.inr e); have := k.size; omega
        · exact e.2
    · rw [hb]; exact hd.1
    · rw [hb]; exact hd.2
/-- Behind both. -/
theorem Pl.both {n' : Nat} {NO' : Int} {Q' : List (Int × Int)} {lv' tv' : Value} {Y : List Nat} {w1 w2 : World} (h : Pl X w0 B d bm r TI RH OV EL n NO Q lv tv w) (k1 : Kp (mD B X r lv tv) w w1) (hD : DK (mD B X r lv tv) w1 d bm n' OV EL NO' (lk Q')) (hYX : ∀ x ∈ X, x ∈ Y)
    (k2 : Kp (mR B Y d bm) w1 w2) (hR : RD (mR B Y d bm) w2 r TI RH EL NO' lv' tv' (Q'.map Prod.fst) (Q'.map Prod.snd)) (hnd : (Q'.map Prod.fst).Nodup) (hno : 0 ≤ NO' ∧ NO' ≤ 9223372036854775807) (htt : ∀ k c, lk Q' k = some c → 0 ≤ c ∧ c ≤ 9223372036854775807) :
    Pl X w0 B d bm r TI RH OV EL n' NO' Q' lv' tv' w2 := by
  have hw : ∀ b, mm B X b → b < w2.heap.size := fun b hb => Nat.lt_of_lt_of_le (h.dd.mw b hb) (Nat.le_trans k1.size k2.size)
  have hXY : ∀ b, mm B X b → mm B Y b := mm_sub hYX
  refine ⟨(h.k.trans (k1.sub (fun i hi => .inl (mm_sub (by simp) i hi)))).trans (k2.sub (fun i hi => .inl (mm_sub (by simp) i hi))), ((hD.kp k2 (.inr (.inl rfl)) (.inr (.inr rfl))).re (fun q => hD.md (.inl q)) (fun q => hD.mb (.inl q)) hw),
    hR.re (fun q => hR.mr (.inl (hXY _ q))) (fun q hq h2 => hR.ml q hq (.inl (hXY _ h2))) (fun q hq h2 => hR.mt q hq (.inl (hXY _ h2))) hw,
    ⟨fun (e : d = r) => hR.mr (.inr (.inl e.symm)), fun (e : bm = r) => hR.mr (.inr (.inr e.symm))⟩, fun q hq => ⟨fun e => hR.ml q hq (.inr (.inl e)), fun e => hR.ml q hq (.inr (.inr e))⟩, fun q hq => ⟨fun e => hR.mt q hq (.inr (.inl e)), fun e => hR.mt q hq (.inr (.inr e))⟩, hnd, hno, htt⟩
end
theorem lk_madeQ (Q : List (Int × Int)) (k v : Int) : lk (madeQ Q k v) = madeT (lk Q) k v := by
  unfold madeQ madeT
  cases h : lk Q k with
  | some c => rfl
  | none => rw [if_neg (by simp), if_neg (by simp)]; exact lk_snoc h
theorem madeQ_nodup {Q : List (Int × Int)} {k v : Int} (h : (Q.map Prod.fst).Nodup) : ((madeQ Q k v).map Prod.fst).Nodup := by
  unfold madeQ
  cases hk : lk Q k with
  | some c => exact h
  | none =>
    rw [if_neg (by simp), List.map_append]
    refine List.nodup_append.2 ⟨h, by simp, fun a ha b hb => ?_⟩
    have : b = k := by simpa using hb
    subst this
    intro e
    subst e
    obtain ⟨p, hp, e⟩ := List.mem_map.1 ha
    unfold lk at hk
    have h2 := List.find?_eq_none.1 (Option.map_eq_none_iff.1 hk) p hp
    exact h2 (by simpa using e)
theorem madeQ_len (Q : List (Int × Int)) (k v : Int) : (madeQ Q k v).length ≤ Q.length + 1 := by
  unfold madeQ
  split <;> simp
theorem madeQ_tt {Q : List (Int × Int)} {k v : Int} (h : ∀ k c, lk Q k = some c → 0 ≤ c ∧ c ≤ 9223372036854775807) (hv : 0 ≤ v ∧ v ≤ 9223372036854775807) : ∀ x c, lk (madeQ Q k v) x = some c → 0 ≤ c ∧ c ≤ 9223372036854775807 := by
  intro x c hx
  rw [lk_madeQ] at hx
  unfold madeT at hx
  split at hx
  · exact h x c hx
  · unfold setT at hx
    split at hx
    · have : v = c := by injection hx
      omega
    · exact h x c hx
theorem goneQ_tt {Q : List (Int × Int)} (f : Nat → Int) (h : ∀ k c, lk Q k = some c → 0 ≤ c ∧ c ≤ 9223372036854775807) : ∀ i x c, lk (goneQ Q f i) x = some c → 0 ≤ c ∧ c ≤ 9223372036854775807
  | 0, x, c, hx => h x c hx
  | i + 1, x, c, hx => by
    have : lk (goneQ Q f (i + 1)) = delT (lk (goneQ Q f i)) (f i) := lk_del _ _
    rw [this] at hx
    unfold delT at hx
    split at hx
    · cases hx
    · exact goneQ_tt f h i x c hx
end Gr
end Go.Proofs.Ytifohibpcngakaa
