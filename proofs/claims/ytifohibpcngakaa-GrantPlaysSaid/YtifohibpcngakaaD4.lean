/- A leader's desk: Over. -/
import Derived.Test.YtifohibpcngakaaD3
import Derived.Test.YtifohibpcngakaaShelf
import Derived.Sort.OwnSortedInts
import Derived.Laws.EntriesVeiled
namespace Go.Proofs.Ytifohibpcngakaa
open Go.ChangeShapes Go.WideShapes Go.ChangeAt Go.RowKit Go.Maps
set_option linter.unusedVariables false
set_option linter.unusedSimpArgs false
open BigFrame Bs Gr
attribute [local go_sem] Bs.max_fold Bs.min_fold

namespace Gr
def srt (l : List Int) : List Int := l.mergeSort fun x y => decide (x ≤ y)
theorem srt_len (l : List Int) : (srt l).length = l.length := by unfold srt; simp
def iV (l : List Int) : List Value := l.map (Value.int .i64)
/-- A row of integers of the call's own. -/
def OwnI (w : World) (B : Nat) (v : Value) (l : List Int) : Prop := w.ownsRow B 3 1 v l.length (iV l)
theorem OwnI.bel {w w' : World} {B : Nat} {v : Value} {l : List Int} (h : OwnI w B v l) (k : Below w.heap.size w w') : OwnI w' B v l := by
  refine ⟨h.1, ?_⟩
  rcases h.2 with hh | ⟨g, cap, cur, h1, h2, h3, h4⟩
  · exact .inl hh
  · exact .inr ⟨g, cap, cur, h1, h2, (k.block g (Array.getElem?_eq_some_iff.1 h3).1).trans h3, h4⟩
theorem OwnI.shape {w : World} {B : Nat} {v : Value} {l : List Int} (h : OwnI w B v l) : (v = .slice none 0 0 ∧ l = []) ∨ ∃ g cap cur, v = .slice (some ⟨g, 0, none⟩) l.length cap ∧ B ≤ g ∧ w.heap[g]? = some (.cells cur 3 (0, 0)) ∧ l.length ≤ cap ∧ cap ≤ maxLen ∧ cur.size = cap * 1 ∧ cur.toList.take (l.length * 1) = iV l := by
  rcases h.2 with ⟨h1, h2⟩ | ⟨g, cap, cur, h1, h2, h3, h4, h5, h6, h7⟩
  · left
    exact ⟨h1, List.eq_nil_of_length_eq_zero h2⟩
  · right
    exact ⟨g, cap, cur, h1, h2, h3, h4, h5, h6, h7⟩
theorem info_int : (Try.prog.info? 3).map (fun i => (i.zero, i.size, i.bytes)) = some (some (.int .i64 0), 1, 8) := by kernel_rfl
/-- A row of integers that is the call's own, as it is told. -/
def RowP (w : World) (v : Value) (l : List Int) (w' : World) : Prop := ∃ (a : Option Addr) (c : Nat), v = .slice a l.length c ∧ (0 < l.length → ∃ g, a = some ⟨g, 0, none⟩ ∧ w.heap.size ≤ g ∧ Blk w' g (iV l))
def TellI (w : World) (l : List Int) (e : Ending) (w' : World) : Prop := ∃ v, e = .returned v ∧ RowP w v l w' ∧ Below w.heap.size w w'
theorem OwnI.tell {w w' : World} {v : Value} {l : List Int} (h : OwnI w' w.heap.size v l) : RowP w v l w' := by
  rcases h.shape with ⟨rfl, rfl⟩ | ⟨g, cap, cur, rfl, h1, h2, h3, h4, h5, h6⟩
  · exact ⟨none, 0, rfl, fun hp => absurd hp (by simp)⟩
  · refine ⟨some ⟨g, 0, none⟩, cap, rfl, fun _ => ⟨g, rfl, h1, own_blk (show w'.ownsRow w.heap.size 3 1 (.slice (some ⟨g, 0, none⟩) l.length cap) l.length (iV l) from h) (Array.getElem?_eq_some_iff.1 h2).1⟩⟩
/-- Leases' rows. -/
def Lss (m : Nat → Prop) (w : World) (a : Option Addr) (N : Nat) (f : Nat → Int) : Prop :=
  0 < N → ∃ b off, a = some ⟨b, off, none⟩ ∧ m b ∧ b < w.heap.size ∧ ∀ i, i < N → (w.cell? ⟨b, off + i * 7, none⟩ = some (.int .i64 (f i)) ∧ ∀ j, 1 ≤ j → j < 7 → w.cell? ⟨b, off + i * 7 + j, none⟩ = some (.int .i64 0)) ∧ (Lit.int .i64 (f i)).wf = true
theorem Lss.kp {m : Nat → Prop} {w w' : World} {a : Option Addr} {N : Nat} {f : Nat → Int} (h : Lss m w a N f) (k : Kp m w w') : Lss m w' a N f := fun hp => by
  obtain ⟨b, off, e, hm, hb, hc⟩ := h hp
  exact ⟨b, off, e, hm, Nat.lt_of_lt_of_le hb k.size, fun i hi => ⟨⟨(World.cell?_of_block (k.k b hm hb)).trans (hc i hi).1.1, fun j h1 h2 => (World.cell?_of_block (k.k b hm hb)).trans ((hc i hi).1.2 j h1 h2)⟩, (hc i hi).2⟩⟩
def isOv (OV EL NO : Int) (T : Int → Option Int) (k : Int) : Bool := decide (OV ≤ NO - (T k).getD EL)
/-- What is picked of the first i. -/
def pk (P : Int → Bool) (f : Nat → Int) (i : Nat) : List Int := ((List.range i).map f).filter P
theorem pk_succ (P : Int → Bool) (f : Nat → Int) (i : Nat) : pk P f (i + 1) = pk P f i ++ (if P (f i) then [f i] else []) := by
  unfold pk
  rw [List.range_succ, List.map_append, List.filter_append]
  congr 1
  simp only [List.map_cons, List.map_nil, List.filter_cons, List.filter_nil]
theorem pk_len (P : Int → Bool) (f : Nat → Int) (i : Nat) : (pk P f i).length ≤ i := by
  unfold pk
  refine Nat.le_trans (List.length_filter_le _ _) ?_
  simp
def TOk (EL NO : Int) (T : Int → Option Int) : Prop := ∀ k c, T k = some c → 0 ≤ c ∧ c ≤ 9223372036854775807
end Gr

theorem sort_own {w : World} {B : Nat} {v : Value} {l : List Int} (h : OwnI w B v l) (hB : B ≤ w.heap.size) (hl : l.length ≤ 1000000) :
    Calls Try.prog 30 #[v] w fun e w' => e = .returned (.tuple #[]) ∧ OwnI w' B v (srt l) ∧ Below B w w' := by
  rcases h.shape with ⟨rfl, rfl⟩ | ⟨g, cap, cur, rfl, h1, h2, h3, h4, h5, h6⟩
  · exact (Try.slices_Sort_int_none none 0 w).mono fun e w' ⟨he, hw⟩ => ⟨he, by rw [hw, show srt [] = [] by simp [srt]]; exact ⟨rfl, .inl ⟨rfl, rfl⟩⟩, hw ▸ Below.refl _ _⟩
  · have hg : g < w.heap.size := (Array.getElem?_eq_some_iff.1 h2).1
    refine (Try.slices_Sort_int g 0 cap l w (holds_of_blockI h2 (by rw [Nat.mul_one] at h6; exact h6)) hg (by omega)).mono ?_
    rintro e w' ⟨he, n, os, rfl⟩
    refine ⟨he, ?_, (Below.refl B w).grown (grownBy_sortedI _) hB (fun q hq => by cases hq; exact h1)⟩
    have := ownsRow_sortedI (n := n) (os := os) (ts := srt l) (srt_len l) h1 h2 h3 h4 h5
    unfold OwnI
    rw [srt_len]
    exact this

set_option maxRecDepth 100000 in
set_option maxHeartbeats 4000000 in
theorem over1_c (w : World) (k : Int) : Calls Try.prog 24 #[.agg #[.int .i64 k, .int .i64 0, .int .i64 0, .int .i64 0, .int .i64 0, .int .i64 0, .int .i64 0]] w fun e w' => e = .returned (.int .i64 k) ∧ Below w.heap.size w w' := by
  have hB := Lib.hid ((Below.refl w.heap.size w).alloc (Nat.le_refl _) (.cells #[.int .i64 k, .int .i64 0, .int .i64 0, .int .i64 0, .int .i64 0, .int .i64 0, .int .i64 0] 38))
  go_enter Try.func24, Try.ntmps24
  go_wp2_with fail
  go_ret
  exact ⟨rfl, hB.out⟩

set_option maxRecDepth 100000 in
set_option maxHeartbeats 4000000 in
theorem over2_c {m : Nat → Prop} {w : World} {d bm n : Nat} {OV EL NO : Int} {T : Int → Option Int} (h : DK m w d bm n OV EL NO T) {tb : Nat} (htb : w.cell? ⟨tb, 0, none⟩ = some (.pointer (some ⟨d, 0, none⟩))) (k : Int) (hk : (Lit.int .i64 k).wf = true)
    (he : 0 ≤ EL ∧ EL ≤ 9223372036854775807) (hn : 0 ≤ NO ∧ NO ≤ 9223372036854775807) (hT : TOk EL NO T) :
    Calls Try.prog 25 #[.int .i64 k, .pointer (some ⟨tb, 0, none⟩)] w fun e w' => e = .returned (.bool (isOv OV EL NO T k)) ∧ Below w.heap.size w w' := by
  have hkey := Lib.hid (ikey_at hk)
  have c0 := h.b.c 0 _ rfl
  have c1 := h.b.c 1 _ rfl
  have c2 := h.b.c 2 _ rfl
  have c3 := h.b.c 3 _ rfl
  obtain ⟨D, d1, d2⟩ := h.t
  obtain ⟨e1, e2⟩ := d2 k hk
  have hzz : ∀ w : World, (zeroValue 3).run Try.prog w = .ok (.int .i64 0) w := fun _ => by kernel_rfl
  replace hzz := Lib.hid hzz
  replace d1 := Lib.hid d1
  replace e2 := Lib.hid e2
  obtain ⟨n1, n2⟩ := hn
  obtain ⟨q1, q2⟩ := he
  obtain ⟨R, hR⟩ : ∃ R, RowKit.Hid (isOv OV EL NO T k = R) := ⟨_, Lib.hid rfl⟩
  rw [hR.out]
  clear h d2
  cases hTk : T k with
  | some at_ =>
    obtain ⟨t1, t2⟩ := hT k at_ hTk
    rw [hTk, Option.isSome_some] at e1
    have e3 := e2.out
    rw [hTk, Option.getD_some] at e3
    replace e3 := Lib.hid e3
    have hr := hR.out
    unfold isOv at hr
    rw [hTk, Option.getD_some] at hr
    replace hr := Lib.hid hr
    have s1 := IntWalk.i64_in (NO - at_) (by omega)
    replace hTk := Lib.hid hTk
    clear hT hR e2
    go_enter Try.func25, Try.ntmps25
    go_wp2_with (at_lookup; refine wpList_lookup_own_ok_int w rfl _ _ 59 rfl 3 3 .i64 ikey Try.underlying59 Try.underlying3 (hzz.out _) bm n D rfl d1.out _ _ rfl hkey.out ?_; intro c hat hwc; rw [e1]; obtain rfl : at_ = c := by { have := e3.out.symm.trans hat; simpa using this }; clear hat hwc)
    go_quiet (fail)
    go_wp2_with fail
    go_ret
    exact ⟨by rw [← hr.out]; rfl, bDrew (Below.refl _ _) _⟩
  | none =>
    rw [hTk, Option.isSome_none] at e1
    have hr := hR.out
    unfold isOv at hr
    rw [hTk, Option.getD_none] at hr
    replace hr := Lib.hid hr
    have s1 := IntWalk.i64_in (NO - EL) (by omega)
    replace hTk := Lib.hid hTk
    clear hT hR e2
    go_enter Try.func25, Try.ntmps25
    go_wp2_with (at_lookup; refine wpList_lookup_own_ok_int w rfl _ _ 59 rfl 3 3 .i64 ikey Try.underlying59 Try.underlying3 (hzz.out _) bm n D rfl d1.out _ _ rfl hkey.out ?_; intro c hat hwc; rw [e1]; clear hat hwc)
    go_quiet (fail)
    go_wp2_with fail
    go_ret
    exact ⟨by rw [← hr.out]; rfl, bDrew (Below.refl _ _) _⟩
end Go.Proofs.Ytifohibpcngakaa
