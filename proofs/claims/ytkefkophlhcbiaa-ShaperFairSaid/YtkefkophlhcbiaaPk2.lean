/- packet.of as an iterator: what it gives, round by round. -/
import Derived.Test.YtkefkophlhcbiaaPk1
import Derived.RangeFuncNested
import Derived.RangeFuncBound
import Derived.RangeFuncCalls
import Derived.RangeFuncLeaves
import Derived.Shelf.Abstract
import Derived.Shelf.RegionOpen
import Derived.OwnWalkIn
import Derived.TacticsInMore
import Derived.LoopNIn
import Derived.LoopIn
namespace Go.Proofs.Ytkefkophlhcbiaa
open Go.ChangeShapes Go.WideShapes Go.ChangeAt Go.RowKit Go.Shelf
set_option linter.unusedVariables false
set_option linter.unusedSimpArgs false
attribute [local go_sem] Oper.semAt_some
open Pk BigFrame

namespace Pk
/-- The places of a tenant's flows among the first k. -/
def ofs (T : Nat → Int) (t : Int) : Nat → List Nat
  | 0 => []
  | k + 1 => if T k = t then ofs T t k ++ [k] else ofs T t k
theorem ofs_in {T : Nat → Int} {t : Int} {k : Nat} (h : T k = t) : ofs T t (k + 1) = ofs T t k ++ [k] := by simp [ofs, h]
theorem ofs_out {T : Nat → Int} {t : Int} {k : Nat} (h : ¬ T k = t) : ofs T t (k + 1) = ofs T t k := by simp [ofs, h]
theorem ofs_len (T : Nat → Int) (t : Int) (k : Nat) : (ofs T t k).length ≤ k := by
  induction k with
  | zero => simp [ofs]
  | succ k ih =>
    unfold ofs
    split
    · simp; omega
    · omega
def keepF (b1 b2 rb : Nat) (W W' : World) : Prop := W'.cell? ⟨b1, 0, none⟩ = W.cell? ⟨b1, 0, none⟩ ∧ W'.cell? ⟨b2, 0, none⟩ = W.cell? ⟨b2, 0, none⟩ ∧ ∀ o, W'.cell? ⟨rb, o, none⟩ = W.cell? ⟨rb, o, none⟩
theorem keepF_t {b1 b2 rb : Nat} {A B C : World} (h : keepF b1 b2 rb A B) (k : keepF b1 b2 rb B C) : keepF b1 b2 rb A C := ⟨k.1.trans h.1, k.2.1.trans h.2.1, fun o => (k.2.2 o).trans (h.2.2 o)⟩
theorem keepF_b {b1 b2 rb n : Nat} (h1 : b1 < n) (h2 : b2 < n) (h3 : rb < n) (W : World) (l : Nat) (o o' : Obj) (hl : n ≤ l) (h : W.heap[l]? = some o) (_ : o.isCells = false) (_ : o.isWalk = false) : keepF b1 b2 rb W (W.putObj l o') := by
  have q : Below n W (W.putObj l o') := (Below.refl n W).grown (grownBy_putObj' W l o') (by have := (Array.getElem?_eq_some_iff.1 h).1; omega) (fun k e => by cases e; omega)
  exact ⟨q.cell (p := ⟨b1, 0, none⟩) h1, q.cell (p := ⟨b2, 0, none⟩) h2, fun o => q.cell (p := ⟨rb, o, none⟩) h3⟩
theorem grown_drew (W : World) : W.grownBy W.drew none := ⟨rfl, rfl, rfl, Nat.le_refl _, fun _ _ _ => rfl⟩
end Pk

theorem of_c (a : Option Addr) (N cap : Nat) (t : Int) (w : World) :
    Calls Try.prog 41 #[.slice a N cap, .int .i64 t] w fun e w' => e = .returned (.func (.func 53) #[] #[.pointer (some ⟨w.heap.size, 0, none⟩), .pointer (some ⟨w.heap.size + 1, 0, none⟩)]) ∧ w' = (w.alloc (.cells #[.slice a N cap] 22)).alloc (.cells #[.int .i64 t] 3) := by
  go_enter Try.func41, Try.ntmps41
  go_wp2
  go_ret
  exact ⟨rfl, rfl⟩

set_option maxRecDepth 100000 in
set_option maxHeartbeats 2000000 in
theorem of_stops (T : Nat → Int) (t : Int) (a : Option Addr) (N cap rb off : Nat) (n : Nat) (hn : 1 ≤ n) (b1 b2 : Nat) (w : World) (hN : N ≤ 9223372036854775807) (h1 : b1 < w.heap.size) (h2 : b2 < w.heap.size) (h3 : rb < w.heap.size) (hc1 : w.cell? ⟨b1, 0, none⟩ = some (.slice a N cap)) (hc2 : w.cell? ⟨b2, 0, none⟩ = some (.int .i64 t)) (ha : 0 < N → a = some ⟨rb, off, none⟩) (hr : ∀ i, i < N → w.cell? ⟨rb, off + i * 3, none⟩ = some (.int .i64 (T i))) :
    SeqStopsK Fence.wide n Try.prog 53 #[.pointer (some ⟨b1, 0, none⟩), .pointer (some ⟨b2, 0, none⟩)] (fun x : Nat => #[Value.int .i64 (x : Int)]) (keepF b1 b2 rb) (fun ys => ys = ofs T t N) (fun pre => ∃ k, k < N ∧ T k = t ∧ pre = ofs T t (k + 1)) N w := fun l J Jx W hW hAb _ hY h0 => by
  have c1 := (hW.cell (p := ⟨b1, 0, none⟩) h1).trans hc1
  have c2 := (hW.cell (p := ⟨b2, 0, none⟩) h2).trans hc2
  have c3 : ∀ i, i < N → W.cell? ⟨rb, off + i * 3, none⟩ = some (.int .i64 (T i)) := fun i hi => (hW.cell (p := ⟨rb, off + i * 3, none⟩) h3).trans (hr i hi)
  clear hc1 hc2 hr
  refine callsIn_of_wp Try.func53 rfl trivial ?_ rfl
  simp only [Try.ntmps53, List.size_toArray, List.length_cons, List.length_nil, Nat.reduceAdd, Nat.reduceSub, Array.replicate_succ, Array.replicate_zero, List.push_toArray, List.append_toArray, List.nil_append, List.cons_append]
  gi_wp2
  gi_loopw [7] (fun i wr => ∃ k : Nat, k ≤ N ∧ i = .int .i64 (k : Int) ∧ J (ofs T t k) wr ∧ wr.cell? ⟨b1, 0, none⟩ = some (.slice a N cap) ∧ wr.cell? ⟨b2, 0, none⟩ = some (.int .i64 t) ∧ (∀ i, i < N → wr.cell? ⟨rb, off + i * 3, none⟩ = some (.int .i64 (T i))))
    (fun i _ => N - (intOf i).toNat)
  case atStart => exact ⟨0, by omega, rfl, h0, c1, c2, c3⟩
  case round =>
    clear c1 c2 c3
    obtain ⟨k, hk, rfl, hJs, c1, c2, c3⟩ := hrel
    by_cases hlt : k < N
    · have x0 := c3 k hlt
      have hlt' : (k : Int) < (N : Int) := by omega
      have haa := ha (by omega)
      clear ha
      subst haa
      by_cases g : T k = t
      · obtain ⟨fn, tmps, assign, body, hy, hR⟩ := hY _ k wr.drew (hAb _ _ _ none hJs (grown_drew _) (fun r h => by cases h)) (by have := ofs_len T t k; omega)
        have hR1 := hR.mono (R' := fun e W' => ∃ y : Bool, e = .returned (.bool y) ∧ ((y = true ∧ J (ofs T t k ++ [k]) W' ∧ keepF b1 b2 rb wr.drew W') ∨ (y = false ∧ Jx (ofs T t k ++ [k]) W'))) (by
          rintro e W' (⟨rfl, h1, h2⟩ | ⟨rfl, h1⟩)
          · exact ⟨true, rfl, .inl ⟨rfl, h1, h2⟩⟩
          · exact ⟨false, rfl, .inr ⟨rfl, h1⟩⟩)
        clear hR
        have hm := Lib.hid (ofs_in g)
        rw [g] at x0
        replace c3 := Lib.hid c3
        have hg := Lib.hid g
        clear g
        gi_wp2
        gi_region_with (refine hR1.mono ?_; rintro e W3 ⟨y, rfl, hy3⟩)
        all_goals
          simp only [List.getElem_toArray, List.getElem_cons_succ, List.getElem_cons_zero, Act.put, List.setIfInBounds_toArray, List.set_cons_zero, List.set_cons_succ]
          rcases hy3 with ⟨rfl, hJ3, hk3⟩ | ⟨rfl, hJx3⟩
          · have d1 := hk3.1.trans (show wr.drew.cell? _ = _ by simpa using c1)
            have d2 := hk3.2.1.trans (show wr.drew.cell? _ = _ by simpa using c2)
            have d3 : ∀ i, i < N → W3.cell? ⟨rb, off + i * 3, none⟩ = some (.int .i64 (T i)) := fun i hi => (hk3.2.2 _).trans (show wr.drew.cell? _ = _ by simpa using c3.out i hi)
            replace d3 := Lib.hid d3
            gi_wp2
            go_roundw
            case rel => exact ⟨k + 1, by omega, by simp, by rw [hm.out]; exact hJ3, d1, d2, d3.out⟩
            case measure => simp [intOf]; omega
          · gi_wp2
            refine bodyPost_ret (results_none rfl _ _ _) rfl ?_
            exact ⟨⟨_, rfl⟩, .inr ⟨_, ⟨k, hlt, hg.out, rfl⟩, by rw [hm.out]; exact hJx3⟩⟩
      · have hm := Lib.hid (ofs_out g)
        replace c3 := Lib.hid c3
        have hg : (T k == t) = false := by simpa using g
        gi_wp2
        refine wpIn_region_quiet_lit rfl (by kernel_rfl) (by kernel_rfl) ?_
        repeat (gi_big_quiet_step (fail))
        refine wpQuietIn_skip (fun _ _ _ _ => trivial) (by kernel_rfl) ?_
        simp only [Act.put, List.setIfInBounds_toArray, List.set_cons_zero, List.set_cons_succ]
        repeat (gi_big_quiet_step (fail))
        refine wpQuietIn_nil ?_
        intro _ hw'
        obtain ⟨nq, hw''⟩ := hw'
        subst hw''
        gi_wp2
        go_roundw
        case rel => exact ⟨k + 1, by omega, by simp, by rw [hm.out]; exact hAb _ _ _ none hJs ⟨rfl, rfl, rfl, Nat.le_refl _, fun _ _ _ => rfl⟩ (fun r h => by cases h), by simpa using c1, by simpa using c2, fun i hi => by simpa using c3.out i hi⟩
        case measure => simp [intOf]; omega
    · obtain rfl : k = N := by omega
      gi_wp2
      go_end0
      exact ⟨⟨_, rfl⟩, .inl ⟨_, rfl, hJs⟩⟩
end Go.Proofs.Ytkefkophlhcbiaa
