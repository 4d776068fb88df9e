/- conf.Members as an iterator: what it gives, round by round. -/
import Derived.Test.YtgmbhbhjlhpbgaaConf2
import Derived.RangeFuncNested
import Derived.RangeFuncBound
import Derived.RangeFuncCalls
import Derived.RangeFuncLeaves
import Derived.Shelf.Abstract
import Derived.Shelf.RegionOpen
import Derived.OwnWalkIn
import Derived.TacticsInMore
import Derived.LoopNIn
import Derived.LoopIn
namespace Go.Proofs.Ytgmbhbhjlhpbgaa
open Go.ChangeShapes Go.WideShapes Go.ChangeAt Go.RowKit Go.Shelf
set_option linter.unusedVariables false
set_option linter.unusedSimpArgs false
open B7 Cf
attribute [local go_sem] Oper.semAt_some

namespace Cf
/-- The members among the first k nodes. -/
def mems (s : Nat) : Nat → List (Fin 7)
  | 0 => []
  | k + 1 => if h : k < 7 then (if nb s k = 1 then mems s k ++ [⟨k, h⟩] else mems s k) else mems s k
theorem mems_in (s k : Nat) (h : k < 7) (hb : nb s k = 1) : mems s (k + 1) = mems s k ++ [⟨k, h⟩] := by simp [mems, h, hb]
theorem mems_out (s k : Nat) (hb : ¬ nb s k = 1) : mems s (k + 1) = mems s k := by simp [mems, hb]
theorem mems_len (s k : Nat) : (mems s k).length ≤ k := by
  induction k with
  | zero => simp [mems]
  | succ k ih =>
    unfold mems
    split
    · split
      · simp; omega
      · omega
    · omega
def keepC (b : Nat) (W W' : World) : Prop := W'.cell? ⟨b, 0, none⟩ = W.cell? ⟨b, 0, none⟩
theorem keepC_t {b : Nat} {A B C : World} (h : keepC b A B) (k : keepC b B C) : keepC b A C := Eq.trans k h
theorem keepC_b {b n : Nat} (hb : b < n) (W : World) (l : Nat) (o o' : Obj) (hl : n ≤ l) (h : W.heap[l]? = some o) (h1 : o.isCells = false) (h2 : o.isWalk = false) : keepC b W (W.putObj l o') :=
  ((Below.refl n W).grown (grownBy_putObj' W l o') (by have := (Array.getElem?_eq_some_iff.1 h).1; omega) (fun k e => by cases e; omega)).cell (p := ⟨b, 0, none⟩) hb
end Cf

theorem members_c (s : Nat) (w : World) :
    Calls Try.prog 13 #[.int .u8 s] w fun e w' => e = .returned (.func (.func 49) #[] #[.pointer (some ⟨w.heap.size, 0, none⟩)]) ∧ w' = w.alloc (.cells #[.int .u8 s] 5) := by
  go_enter Try.func13, Try.ntmps13
  go_wp2
  go_ret
  exact ⟨rfl, rfl⟩

set_option maxRecDepth 100000 in
set_option maxHeartbeats 2000000 in
theorem members_stops (s : Nat) (hs : s < 256) (n : Nat) (hn : 1 ≤ n) (b : Nat) (w : World) (hb : b < w.heap.size) (hc : w.cell? ⟨b, 0, none⟩ = some (.int .u8 s)) :
    SeqStopsK Fence.wide n Try.prog 49 #[.pointer (some ⟨b, 0, none⟩)] (fun x : Fin 7 => #[Value.int .i64 ((x.val : Int) + 1)]) (keepC b) (fun ys => ys = mems s 7) (fun pre => ∃ k, k < 7 ∧ nb s k = 1 ∧ pre = mems s (k + 1)) 7 w := fun l J Jx W hW _ _ hY h0 => by
  have hc' := (hW.cell (p := ⟨b, 0, none⟩) hb).trans hc
  refine callsIn_of_wp Try.func49 rfl trivial ?_ rfl
  simp only [Try.ntmps49, List.size_toArray, List.length_cons, List.length_nil, Nat.reduceAdd, Nat.reduceSub, Array.replicate_succ, Array.replicate_zero, List.push_toArray, List.append_toArray, List.nil_append, List.cons_append]
  gi_wp2
  gi_loopw [3] (fun i wr => ∃ k : Nat, k ≤ 7 ∧ i = .int .i64 ((k : Int) + 1) ∧ J (mems s k) wr ∧ wr.cell? ⟨b, 0, none⟩ = some (.int .u8 s))
    (fun i _ => 8 - (intOf i).toNat)
  case atStart => exact ⟨0, by omega, rfl, h0, hc'⟩
  case round =>
    obtain ⟨k, hk, rfl, hJs, hcx⟩ := hrel
    by_cases hlt : k < 7
    · have hx := hasB_in s k hlt
      have ch := setHas_c s hs ((k : Int) + 1) wr
      by_cases g : nb s k = 1
      · rw [show hasB s ((k : Int) + 1) = true by rw [hx, g]; rfl] at ch
        obtain ⟨fn, tmps, assign, body, hy, hR⟩ := hY _ ⟨k, hlt⟩ wr hJs (by have := mems_len s k; omega)
        dsimp only at hy
        have hm := Lib.hid (mems_in s k hlt g)
        have hg := Lib.hid g
        clear hx g
        gi_wp2_with (refine ⟨trivial, ?_⟩; gi_at_call 50; refine (callsIn_wide.2 ch).mono ?_; rintro e w' ⟨rfl, rfl⟩)
        refine hR.mono ?_
        rintro e W3 (⟨rfl, hJ3, hk3⟩ | ⟨rfl, hJx3⟩)
        · have hcx3 := Eq.trans hk3 hcx
          gi_wp2
          go_roundw
          case rel => exact ⟨k + 1, by omega, by simp, by rw [hm.out]; exact hJ3, hcx3⟩
          case measure => simp [intOf]; omega
        · gi_wp2
          refine bodyPost_ret (results_none rfl _ _ _) rfl ?_
          exact ⟨⟨_, rfl⟩, .inr ⟨_, ⟨k, hlt, hg.out, rfl⟩, by rw [hm.out]; exact hJx3⟩⟩
      · rw [show hasB s ((k : Int) + 1) = false by rw [hx, decide_eq_false (by omega)]] at ch
        have hm := Lib.hid (mems_out s k g)
        clear hx g
        gi_wp2_with (refine ⟨trivial, ?_⟩; gi_at_call 50; refine (callsIn_wide.2 ch).mono ?_; rintro e w' ⟨rfl, rfl⟩)
        refine ⟨fun _ h => (by cases h), ?_⟩
        gi_wp2
        go_roundw
        case rel => exact ⟨k + 1, by omega, by simp, by rw [hm.out]; exact hJs, hcx⟩
        case measure => simp [intOf]; omega
    · obtain rfl : k = 7 := by omega
      gi_wp2
      go_end0
      exact ⟨⟨_, rfl⟩, .inl ⟨_, rfl, hJs⟩⟩

namespace Cf
def cntL (y : Nat) (l : List (Fin 7)) : Nat := (l.filter (fun x => nb y x.val == 1)).length
theorem cntL_in (y : Nat) (l : List (Fin 7)) (x : Fin 7) (h : nb y x.val = 1) : cntL y (l ++ [x]) = cntL y l + 1 := by simp [cntL, List.filter_append, h]
theorem cntL_out (y : Nat) (l : List (Fin 7)) (x : Fin 7) (h : ¬ nb y x.val = 1) : cntL y (l ++ [x]) = cntL y l := by simp [cntL, List.filter_append, h]
theorem cntL_le (y : Nat) (l : List (Fin 7)) : cntL y l ≤ l.length := List.length_filter_le _ _
theorem cntL_mems (s y k : Nat) (hk : k ≤ 7) : cntL y (mems s k) = cnt (s &&& y) k := by
  induction k with
  | zero => rfl
  | succ k ih =>
    have ih := ih (by omega)
    by_cases h : nb s k = 1
    · rw [mems_in s k (by omega) h]
      by_cases g : nb y k = 1
      · rw [cntL_in _ _ _ g, ih, cnt_step_in _ _ (by rw [nb_and, h, g])]
      · rw [cntL_out _ _ _ g, ih, cnt_step_out _ _ (by rw [nb_and, h]; omega)]
    · rw [mems_out s k h, ih, cnt_step_out _ _ (by rw [nb_and]; have := nb_le s k; rw [show nb s k = 0 by omega]; omega)]
end Cf
end Go.Proofs.Ytgmbhbhjlhpbgaa
