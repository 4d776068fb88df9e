/- The walk of ConfTells. -/
import Derived.Test.YtgmbhbhjlhpbgaaConf9
import Derived.Deep.RegionHeld3
namespace Go.Proofs.Ytgmbhbhjlhpbgaa
open Go.ChangeShapes Go.WideShapes Go.ChangeAt Go.RowKit Go.Shelf
set_option linter.unusedVariables false
set_option linter.unusedSimpArgs false
open B7 Cf Mt
attribute [local go_sem] Oper.semAt_some run_eql_func

namespace Cf
/-- The last node that came, or 0. -/
def lastN : List (Fin 7) → Nat
  | [] => 0
  | x :: l => if l = [] then x.val + 1 else lastN l
theorem lastN_snoc (l : List (Fin 7)) (x : Fin 7) : lastN (l ++ [x]) = x.val + 1 := by
  induction l with
  | nil => simp [lastN]
  | cons y l ih => simp [lastN, ih]
theorem lastN_le (l : List (Fin 7)) : lastN l ≤ 7 := by
  induction l with
  | nil => simp [lastN]
  | cons y l ih => unfold lastN; split <;> omega
theorem gap (s k j : Nat) (hk : k ≤ 7) (h1 : lastN (mems s k) ≤ j) (h2 : j < k) : nb s j ≠ 1 := by
  induction k with
  | zero => omega
  | succ k ih =>
    by_cases h : nb s k = 1
    · rw [mems_in s k (by omega) h, lastN_snoc] at h1
      simp only at h1
      omega
    · rw [mems_out s k h] at h1
      by_cases hj : j = k
      · subst hj; exact h
      · exact ih (by omega) h1 (by omega)
/-- The number in a cell. -/
def cellN (w : World) (b : Nat) : Nat :=
  match w.cell? ⟨b, 0, none⟩ with
  | some (.int _ n) => n.toNat
  | _ => 0
theorem cellN_of {w : World} {b : Nat} {k : IntKind} {n : Int} (h : w.cell? ⟨b, 0, none⟩ = some (.int k n)) : cellN w b = n.toNat := by unfold cellN; rw [h]
def Good (s : Nat) (pre : List (Fin 7)) : Prop := ∃ k, k < 7 ∧ nb s k = 1 ∧ pre = mems s (k + 1)
theorem good_snoc {s : Nat} {pre : List (Fin 7)} {x : Fin 7} (h : Good s (pre ++ [x])) : nb s x.val = 1 ∧ pre = mems s x.val := by
  obtain ⟨k, hk, hb, he⟩ := h
  rw [mems_in s k hk hb] at he
  obtain ⟨h1, h2⟩ := List.append_inj' he rfl
  obtain rfl : x = ⟨k, hk⟩ := by simpa using h2
  exact ⟨hb, h1⟩
/-- A node between the last one and x that is a member: x is not the next one. -/
theorem not_good_gap {s : Nat} {pre : List (Fin 7)} {x : Fin 7} {j : Nat} (h1 : lastN pre ≤ j) (h2 : j < x.val) (h3 : nb s j = 1) : ¬ Good s (pre ++ [x]) := fun h => by
  obtain ⟨_, rfl⟩ := good_snoc h
  exact gap s x.val j (by have := x.isLt; omega) h1 h2 h3
theorem not_good_bit {s : Nat} {pre : List (Fin 7)} {x : Fin 7} (h : ¬ nb s x.val = 1) : ¬ Good s (pre ++ [x]) := fun g => h (good_snoc g).1
theorem mems_length (s k : Nat) (hk : k ≤ 7) : (mems s k).length = cnt s k := by
  induction k with
  | zero => rfl
  | succ k ih =>
    by_cases h : nb s k = 1
    · rw [mems_in s k (by omega) h, cnt_step_in s k h]; simp [ih (by omega)]
    · rw [mems_out s k h, cnt_step_out s k h]; exact ih (by omega)
def boolN (w : World) (b : Nat) : Bool :=
  match w.cell? ⟨b, 0, none⟩ with
  | some (.bool x) => x
  | _ => false
theorem boolN_of {w : World} {b : Nat} {x : Bool} (h : w.cell? ⟨b, 0, none⟩ = some (.bool x)) : boolN w b = x := by unfold boolN; rw [h]
/-- What the last statement of ConfTells leans on. -/
def S5 (w : World) (s a r D : Nat) (u : World) : Prop :=
  u.cell? ⟨a, 0, none⟩ = some (.int .u8 (s : Nat)) ∧ u.cell? ⟨r, 0, none⟩ = some (.bool (boolN u r)) ∧ u.frozen? ⟨r, 0, none⟩ = false ∧ Below w.heap.size w u ∧ u.heap[D]? = some (.deferred (some []))
theorem S5.drew {w u : World} {s a r D : Nat} (h : S5 w s a r D u) : S5 w s a r D u.drew := ⟨by simpa using h.1, h.2.1, by simpa using h.2.2.1, h.2.2.2.1.drew, h.2.2.2.2⟩
theorem S5.below {w u u' : World} {s a r D : Nat} (h : S5 w s a r D u) (k : Below u.heap.size u u') : S5 w s a r D u' := by
  have h1 := World.block_lt_of_cell? _ _ h.1
  have h2 := World.block_lt_of_cell? _ _ h.2.1
  have h3 := (k.cell (p := ⟨r, 0, none⟩) h2).trans h.2.1
  exact ⟨(k.cell (p := ⟨a, 0, none⟩) h1).trans h.1, h3.trans (by rw [boolN_of h3]), (k.frozen (p := ⟨r, 0, none⟩) h2).trans h.2.2.1, h.2.2.2.1.trans (k.mono h.2.2.2.1.size), (k.block D (lt_of_heap h.2.2.2.2)).trans h.2.2.2.2⟩
theorem S5.store {w u : World} {s a r D : Nat} {x : Bool} (h : S5 w s a r D u) (hr : w.heap.size ≤ r) (hra : r ≠ a) (hrd : True) : S5 w s a r D (u.setCell ⟨r, 0, none⟩ (.bool x)) := by
  have h3 := World.cell?_setCell_same u ⟨r, 0, none⟩ (.bool x) h.2.1
  exact ⟨(World.cell?_setCell_other _ _ _ _ (fun hh => hra (congrArg Addr.block hh))).trans h.1, h3.trans (by rw [boolN_of h3]), (World.frozen?_setCell _ _ _ _).trans h.2.2.1, h.2.2.2.1.setCell hr _, (KeepsOthers.setCell _ _ _).same D _ h.2.2.2.2 rfl⟩
theorem rsize_q0 : True := trivial
end Cf

theorem rsize_q (s : Nat) (hs : s < 256) (w : World) : Calls Try.prog 15 #[.int .u8 s] w fun e w' => e = .returned (.int .i64 (cnt s 7 : Nat)) ∧ w' = w := (rsize_c s hs w).mono fun e w' h => ⟨h.1, h.2.symm⟩

set_option maxRecDepth 100000 in
set_option maxHeartbeats 4000000 in
theorem tells_h (w : World) (s b : Nat) (node leave : Int) (hs : s < 256) (hb : b < 256) :
    Calls Try.prog 3 #[.int .u8 s, .int .u8 b, .int .i64 node, .int .i64 leave] w fun e w' => e = .returned (.bool true) ∧ Below w.heap.size w w' := by
  obtain ⟨q1, hq1⟩ : ∃ q, RowKit.Hid (decide (cnt s 7 < 2 * cnt (s &&& b) 7) = q) := ⟨_, Lib.hid rfl⟩
  obtain ⟨q2, hq2⟩ : ∃ q, RowKit.Hid (meetsB s b = q) := ⟨_, Lib.hid rfl⟩
  refine (callsIn_wide (n := 6)).1 ?_
  refine callsIn_of_wp_marks Try.func3 rfl trivial ?_ rfl
  simp only [Try.ntmps3, List.size_toArray, List.length_cons, List.length_nil, Nat.reduceAdd, Nat.reduceSub, Array.replicate_succ, Array.replicate_zero, List.push_toArray, List.append_toArray, List.nil_append, List.cons_append]
  gi_wp2_with (refine ⟨trivial, ?_⟩; gi_at_call 13; refine (callsIn_wide.2 (members_c s _)).mono ?_; rintro e w' ⟨rfl, rfl⟩)
  -- the loop
  have hB0 : Below w.heap.size w ((((((w.alloc (.cells #[.int .u8 s] 5)).alloc (.cells #[.int .i64 leave] 3)).alloc (.cells #[.bool false] 4)).alloc (.cells #[.int .i64 0] 3)).alloc (.cells #[.int .i64 0] 3)).alloc (.cells #[.int .u8 s] 5)) := (((((Below.refl _ w).alloc (Nat.le_refl _) _).alloc (by simp) _).alloc (by simp; omega) _).alloc (by simp; omega) _ |>.alloc (by simp; omega) _).alloc (by simp; omega) _
  have hI0 : ((((((w.alloc (.cells #[.int .u8 s] 5)).alloc (.cells #[.int .i64 leave] 3)).alloc (.cells #[.bool false] 4)).alloc (.cells #[.int .i64 0] 3)).alloc (.cells #[.int .i64 0] 3)).alloc (.cells #[.int .u8 s] 5)).cell? ⟨w.heap.size, 0, none⟩ = some (.int .u8 s) ∧ ((((((w.alloc (.cells #[.int .u8 s] 5)).alloc (.cells #[.int .i64 leave] 3)).alloc (.cells #[.bool false] 4)).alloc (.cells #[.int .i64 0] 3)).alloc (.cells #[.int .i64 0] 3)).alloc (.cells #[.int .u8 s] 5)).cell? ⟨w.heap.size + 1, 0, none⟩ = some (.int .i64 leave) ∧ ((((((w.alloc (.cells #[.int .u8 s] 5)).alloc (.cells #[.int .i64 leave] 3)).alloc (.cells #[.bool false] 4)).alloc (.cells #[.int .i64 0] 3)).alloc (.cells #[.int .i64 0] 3)).alloc (.cells #[.int .u8 s] 5)).cell? ⟨w.heap.size + 1 + 1, 0, none⟩ = some (.bool false) ∧ ((((((w.alloc (.cells #[.int .u8 s] 5)).alloc (.cells #[.int .i64 leave] 3)).alloc (.cells #[.bool false] 4)).alloc (.cells #[.int .i64 0] 3)).alloc (.cells #[.int .i64 0] 3)).alloc (.cells #[.int .u8 s] 5)).frozen? ⟨w.heap.size + 1 + 1, 0, none⟩ = false ∧ ((((((w.alloc (.cells #[.int .u8 s] 5)).alloc (.cells #[.int .i64 leave] 3)).alloc (.cells #[.bool false] 4)).alloc (.cells #[.int .i64 0] 3)).alloc (.cells #[.int .i64 0] 3)).alloc (.cells #[.int .u8 s] 5)).cell? ⟨w.heap.size + 1 + 1 + 1, 0, none⟩ = some (.int .i64 (0)) ∧ ((((((w.alloc (.cells #[.int .u8 s] 5)).alloc (.cells #[.int .i64 leave] 3)).alloc (.cells #[.bool false] 4)).alloc (.cells #[.int .i64 0] 3)).alloc (.cells #[.int .i64 0] 3)).alloc (.cells #[.int .u8 s] 5)).frozen? ⟨w.heap.size + 1 + 1 + 1, 0, none⟩ = false ∧ ((((((w.alloc (.cells #[.int .u8 s] 5)).alloc (.cells #[.int .i64 leave] 3)).alloc (.cells #[.bool false] 4)).alloc (.cells #[.int .i64 0] 3)).alloc (.cells #[.int .i64 0] 3)).alloc (.cells #[.int .u8 s] 5)).cell? ⟨w.heap.size + 1 + 1 + 1 + 1, 0, none⟩ = some (.int .i64 (0)) ∧ ((((((w.alloc (.cells #[.int .u8 s] 5)).alloc (.cells #[.int .i64 leave] 3)).alloc (.cells #[.bool false] 4)).alloc (.cells #[.int .i64 0] 3)).alloc (.cells #[.int .i64 0] 3)).alloc (.cells #[.int .u8 s] 5)).frozen? ⟨w.heap.size + 1 + 1 + 1 + 1, 0, none⟩ = false := ⟨by go_simp, by go_simp, by go_simp, by go_simp, by go_simp, by go_simp, by go_simp, by go_simp⟩
  have hS0 : ((((((w.alloc (.cells #[.int .u8 s] 5)).alloc (.cells #[.int .i64 leave] 3)).alloc (.cells #[.bool false] 4)).alloc (.cells #[.int .i64 0] 3)).alloc (.cells #[.int .i64 0] 3)).alloc (.cells #[.int .u8 s] 5)).cell? ⟨w.heap.size + 1 + 1 + 1 + 1 + 1, 0, none⟩ = some (.int .u8 s) := by go_simp
  have hZ0 : ((((((w.alloc (.cells #[.int .u8 s] 5)).alloc (.cells #[.int .i64 leave] 3)).alloc (.cells #[.bool false] 4)).alloc (.cells #[.int .i64 0] 3)).alloc (.cells #[.int .i64 0] 3)).alloc (.cells #[.int .u8 s] 5)).heap.size = w.heap.size + 1 + 1 + 1 + 1 + 1 + 1 := by simp
  generalize ((((((w.alloc (.cells #[.int .u8 s] 5)).alloc (.cells #[.int .i64 leave] 3)).alloc (.cells #[.bool false] 4)).alloc (.cells #[.int .i64 0] 3)).alloc (.cells #[.int .i64 0] 3)).alloc (.cells #[.int .u8 s] 5)) = W0 at hB0 hI0 hS0 hZ0 ⊢
  refine wpIn_rangeFunc_ownG rfl (by omega) (gf := 49) (lb := #[.pointer (some ⟨w.heap.size + 1 + 1 + 1 + 1 + 1, 0, none⟩)]) rfl trivial (enters_of Try.func49 (by kernel_rfl) rfl)
    (members_stops s hs (6 - 1) (by omega) (w.heap.size + 1 + 1 + 1 + 1 + 1) W0 (by omega) hS0) keepC_t (keepC_b (by omega)) (Below.refl _ _) (fun _ => rfl)
    (fun pre W => (W.cell? ⟨w.heap.size, 0, none⟩ = some (.int .u8 s) ∧ W.cell? ⟨w.heap.size + 1, 0, none⟩ = some (.int .i64 leave) ∧ W.cell? ⟨w.heap.size + 1 + 1, 0, none⟩ = some (.bool false) ∧ W.frozen? ⟨w.heap.size + 1 + 1, 0, none⟩ = false ∧ W.cell? ⟨w.heap.size + 1 + 1 + 1, 0, none⟩ = some (.int .i64 ((pre.length : Nat))) ∧ W.frozen? ⟨w.heap.size + 1 + 1 + 1, 0, none⟩ = false ∧ W.cell? ⟨w.heap.size + 1 + 1 + 1 + 1, 0, none⟩ = some (.int .i64 ((lastN pre : Nat))) ∧ W.frozen? ⟨w.heap.size + 1 + 1 + 1 + 1, 0, none⟩ = false) ∧ Below w.heap.size w W)
    (fun c pre W => ((c = .ret ∧ ¬ Cf.Good s pre) ∨ (c = .exit 0 ∧ ((pre.length : Nat) : Int) = leave ∧ W.cell? ⟨w.heap.size, 0, none⟩ = some (.int .u8 s) ∧ W.cell? ⟨w.heap.size + 1, 0, none⟩ = some (.int .i64 leave) ∧ W.cell? ⟨w.heap.size + 1 + 1, 0, none⟩ = some (.bool false) ∧ W.frozen? ⟨w.heap.size + 1 + 1, 0, none⟩ = false ∧ W.cell? ⟨w.heap.size + 1 + 1 + 1, 0, none⟩ = some (.int .i64 ((pre.length : Nat))) ∧ W.frozen? ⟨w.heap.size + 1 + 1 + 1, 0, none⟩ = false)) ∧ Below w.heap.size w W)
    (OwnFrom.and (Own.from (fun st A B row h hg hr => ⟨cell_kept h.1 hg hr, cell_kept h.2.1 hg hr, cell_kept h.2.2.1 hg hr, (frozen_kept h.2.2.1 hg hr).trans h.2.2.2.1, cell_kept h.2.2.2.2.1 hg hr, (frozen_kept h.2.2.2.2.1 hg hr).trans h.2.2.2.2.2.1, cell_kept h.2.2.2.2.2.2.1 hg hr, (frozen_kept h.2.2.2.2.2.2.1 hg hr).trans h.2.2.2.2.2.2.2⟩) _) (ownFrom_below (Nat.le_refl _) (by omega)))
    (fun c => OwnFrom.and (Own.from (fun st A B row hh hg hr => hh.imp id (fun hq => ⟨hq.1, hq.2.1, by have h := hq.2.2; exact ⟨cell_kept h.1 hg hr, cell_kept h.2.1 hg hr, cell_kept h.2.2.1 hg hr, (frozen_kept h.2.2.1 hg hr).trans h.2.2.2.1, cell_kept h.2.2.2.2.1 hg hr, (frozen_kept h.2.2.2.2.1 hg hr).trans h.2.2.2.2.2⟩⟩)) _) (ownFrom_below (Nat.le_refl _) (by omega)))
    ⟨hI0, hB0⟩
    (fun x => { tmps := #[.int .u8 s, .int .u8 b, .int .i64 node, .int .i64 leave, .pointer (some ⟨w.heap.size, 0, none⟩), undef, undef, .pointer (some ⟨w.heap.size + 1, 0, none⟩), .pointer (some ⟨w.heap.size + 1 + 1, 0, none⟩), .pointer (some ⟨w.heap.size + 1 + 1 + 1, 0, none⟩), .pointer (some ⟨w.heap.size + 1 + 1 + 1 + 1, 0, none⟩), .func (.func 49) #[] #[.pointer (some ⟨w.heap.size + 1 + 1 + 1 + 1 + 1, 0, none⟩)], .int .i64 ((x.val : Int) + 1), .int .u8 s, .func (.func 49) #[] #[.pointer (some ⟨w.heap.size + 1 + 1 + 1 + 1 + 1, 0, none⟩)], .func (.func 49) #[] #[.pointer (some ⟨w.heap.size + 1 + 1 + 1 + 1 + 1, 0, none⟩)], .bool false, .func (.func 49) #[] #[.pointer (some ⟨w.heap.size + 1 + 1 + 1 + 1 + 1, 0, none⟩)], .int .i64 ((x.val : Int) + 1), undef, undef, undef, undef, undef, undef, undef, undef, undef, undef, undef, undef, undef, undef, undef, undef, undef, undef, undef, undef, undef, undef, undef, undef, undef, undef, undef, undef, undef, undef, undef, undef, undef, undef, undef, undef, undef, undef, undef, undef, undef, undef, undef, undef, undef, undef, undef, undef, undef, undef, undef, undef, undef, undef, undef, undef, undef, undef, undef, undef, undef, undef, undef, undef, undef, undef, undef, undef, undef, undef, undef, undef, undef, undef], defers := [] }) ?assign ?body ?done ?stop
  case assign =>
    intro l x W K hK
    gi_wp2
    exact hK
  case body =>
    rintro l pre x W ⟨⟨i1, i2, i3, i4, i5, i6, i7, i8⟩, hB⟩ hlen
    have hxl := x.isLt
    have hll := lastN_le pre
    gi_wp2
    gi_loopw [19] (fun p wr => ∃ j : Nat, lastN pre ≤ j ∧ j ≤ 7 ∧ (wr.cell? ⟨w.heap.size, 0, none⟩ = some (.int .u8 s) ∧ wr.cell? ⟨w.heap.size + 1, 0, none⟩ = some (.int .i64 leave) ∧ wr.cell? ⟨w.heap.size + 1 + 1, 0, none⟩ = some (.bool false) ∧ wr.frozen? ⟨w.heap.size + 1 + 1, 0, none⟩ = false ∧ wr.cell? ⟨w.heap.size + 1 + 1 + 1, 0, none⟩ = some (.int .i64 ((pre.length : Nat))) ∧ wr.frozen? ⟨w.heap.size + 1 + 1 + 1, 0, none⟩ = false ∧ wr.cell? ⟨w.heap.size + 1 + 1 + 1 + 1, 0, none⟩ = some (.int .i64 (j)) ∧ wr.frozen? ⟨w.heap.size + 1 + 1 + 1 + 1, 0, none⟩ = false) ∧ KeepsFrom W0.heap.size W wr ∧ keepC (w.heap.size + 1 + 1 + 1 + 1 + 1) W wr ∧ Below w.heap.size w wr)
      (fun p wr => 8 - cellN wr (w.heap.size + 1 + 1 + 1 + 1))
    case atStart => exact ⟨lastN pre, Nat.le_refl _, hll, ⟨i1, i2, i3, i4, i5, i6, i7, i8⟩, KeepsFrom.refl _ _, rfl, hB⟩
    case round =>
      obtain ⟨j, hj, hj7, ⟨c1, c2, c3, c4, c5, c6, c7, c8⟩, hKF, hKC, hBw⟩ := hrel
      by_cases hlt : j < x.val
      · have hx := hasB_in s j (by omega)
        have hlt' : (j : Int) < (x.val : Int) := by omega
        by_cases g : nb s j = 1
        · have ch : ∀ u, Calls Try.prog 14 #[.int .u8 s, .int .i64 ((j : Int) + 1)] u fun e w' => e = .returned (.bool true) ∧ u = w' := fun u => (show hasB s ((j : Int) + 1) = true by rw [hx, g]; rfl) ▸ rhas_c s hs ((j : Int) + 1) u
          have hng := Lib.hid (not_good_gap (x := x) hj hlt g)
          clear hx g
          gi_wp2_with (refine ⟨trivial, ?_⟩; gi_at_call 14; refine (CallsIn.inRound l (callsIn_wide.2 (ch _))).mono ?_; rintro e w' ⟨rfl, rfl⟩)
          exact ⟨((hKF.trans ((KeepsOthers.setCell _ _ _).from _)).trans ((KeepsOthers.setCell _ _ _).from _)), .inl ⟨rfl, hng.out⟩, ((hBw.setCell (p := ⟨w.heap.size + 1 + 1 + 1 + 1, 0, none⟩) (by simp only; omega) _).setCell (p := ⟨w.heap.size + 1 + 1, 0, none⟩) (by simp only; omega) _)⟩
        · have ch : ∀ u, Calls Try.prog 14 #[.int .u8 s, .int .i64 ((j : Int) + 1)] u fun e w' => e = .returned (.bool false) ∧ u = w' := fun u => (show hasB s ((j : Int) + 1) = false by rw [hx, decide_eq_false (by omega)]) ▸ rhas_c s hs ((j : Int) + 1) u
          clear hx g
          gi_wp2_with (refine ⟨trivial, ?_⟩; gi_at_call 14; refine (CallsIn.inRound l (callsIn_wide.2 (ch _))).mono ?_; rintro e w' ⟨rfl, rfl⟩)
          go_roundw
          case rel => exact ⟨j + 1, by omega, by omega, ⟨by go_simp, by go_simp, by go_simp, by go_simp, by go_simp, by go_simp, by rw [Int.natCast_add, Int.natCast_one]; exact World.cell?_setCell_same _ _ _ c7, by go_simp⟩, (hKF.trans ((KeepsOthers.setCell _ _ _).from _)), Eq.trans (World.cell?_setCell_other _ _ _ _ (by simp)) hKC, (hBw.setCell (p := ⟨w.heap.size + 1 + 1 + 1 + 1, 0, none⟩) (by simp only; omega) _)⟩
          case measure => rw [cellN_of (World.cell?_setCell_same _ _ _ c7), cellN_of c7]; omega
      · have hge : (x.val : Int) ≤ (j : Int) := by omega
        have hx := hasB_in s x.val hxl
        have hlen' : ((pre.length : Nat) : Int) < 7 := by omega
        by_cases g : nb s x.val = 1
        · have ch : ∀ u, Calls Try.prog 14 #[.int .u8 s, .int .i64 ((x.val : Int) + 1)] u fun e w' => e = .returned (.bool true) ∧ u = w' := fun u => (show hasB s ((x.val : Int) + 1) = true by rw [hx, g]; rfl) ▸ rhas_c s hs ((x.val : Int) + 1) u
          clear hx g
          by_cases hlv : ((pre.length : Nat) : Int) + 1 = leave
          · gi_wp2_with (refine ⟨trivial, ?_⟩; gi_at_call 14; refine (CallsIn.inRound l (callsIn_wide.2 (ch _))).mono ?_; rintro e w' ⟨rfl, rfl⟩)
            exact ⟨((hKF.trans ((KeepsOthers.setCell _ _ _).from _)).trans ((KeepsOthers.setCell _ _ _).from _)), .inr ⟨rfl, by simp; omega, by go_simp, by go_simp, by go_simp, by go_simp, (World.cell?_setCell_same _ _ _ ((World.cell?_setCell_other _ _ _ _ (by simp)).trans c5)).trans (by simp; omega), by go_simp⟩, ((hBw.setCell (p := ⟨w.heap.size + 1 + 1 + 1 + 1, 0, none⟩) (by simp only; omega) _).setCell (p := ⟨w.heap.size + 1 + 1 + 1, 0, none⟩) (by simp only; omega) _)⟩
          · gi_wp2_with (refine ⟨trivial, ?_⟩; gi_at_call 14; refine (CallsIn.inRound l (callsIn_wide.2 (ch _))).mono ?_; rintro e w' ⟨rfl, rfl⟩)
            exact ⟨((hKF.trans ((KeepsOthers.setCell _ _ _).from _)).trans ((KeepsOthers.setCell _ _ _).from _)), Eq.trans (World.cell?_setCell_other _ _ _ _ (by simp)) (Eq.trans (World.cell?_setCell_other _ _ _ _ (by simp)) hKC), ⟨by go_simp, by go_simp, by go_simp, by go_simp, (World.cell?_setCell_same _ _ _ ((World.cell?_setCell_other _ _ _ _ (by simp)).trans c5)).trans (by simp), by go_simp, (World.cell?_setCell_other _ _ _ _ (by simp)).trans ((World.cell?_setCell_same _ _ _ c7).trans (by rw [lastN_snoc]; simp)), by go_simp⟩, ((hBw.setCell (p := ⟨w.heap.size + 1 + 1 + 1 + 1, 0, none⟩) (by simp only; omega) _).setCell (p := ⟨w.heap.size + 1 + 1 + 1, 0, none⟩) (by simp only; omega) _)⟩
        · have ch : ∀ u, Calls Try.prog 14 #[.int .u8 s, .int .i64 ((x.val : Int) + 1)] u fun e w' => e = .returned (.bool false) ∧ u = w' := fun u => (show hasB s ((x.val : Int) + 1) = false by rw [hx, decide_eq_false (by omega)]) ▸ rhas_c s hs ((x.val : Int) + 1) u
          have hng := Lib.hid (not_good_bit (pre := pre) g)
          clear hx g
          gi_wp2_with (refine ⟨trivial, ?_⟩; gi_at_call 14; refine (CallsIn.inRound l (callsIn_wide.2 (ch _))).mono ?_; rintro e w' ⟨rfl, rfl⟩)
          exact ⟨(((hKF.trans ((KeepsOthers.setCell _ _ _).from _)).trans ((KeepsOthers.setCell _ _ _).from _)).trans ((KeepsOthers.setCell _ _ _).from _)), .inl ⟨rfl, hng.out⟩, (((hBw.setCell (p := ⟨w.heap.size + 1 + 1 + 1 + 1, 0, none⟩) (by simp only; omega) _).setCell (p := ⟨w.heap.size + 1 + 1 + 1, 0, none⟩) (by simp only; omega) _).setCell (p := ⟨w.heap.size + 1 + 1, 0, none⟩) (by simp only; omega) _)⟩
  case done =>
    rintro D ys W hD rfl ⟨⟨i1, i2, i3, i4, i5, i6, i7, i8⟩, hB⟩ hK
    rw [mems_length s 7 (by omega)] at i5
    by_cases hlv : ((cnt s 7 : Nat) : Int) = leave
    · gi_wp2
      have j1 := i1
      refine wpIn_wide.2 ?_
      go_quiet (fail)
      gi_wp2
      have s0 : S5 w s (w.heap.size) (w.heap.size + 1 + 1) D (W.drewN nq) := ⟨by simpa using i1, by rw [show boolN (W.drewN nq) (w.heap.size + 1 + 1) = false from boolN_of (by simpa using i3)]; simpa using i3, by simpa using i4, below_drewN hB nq, by simpa using hK⟩
      generalize W.drewN nq = U at s0 ⊢
      have s1 := S5.drew s0
      refine wpIn_wide.2 ?_
      go_region_held3 (fun u => u.cell? ⟨w.heap.size, 0, none⟩ = some (.int .u8 (s : Nat)) ∧ u.cell? ⟨w.heap.size + 1 + 1, 0, none⟩ = some (.bool (boolN u (w.heap.size + 1 + 1))) ∧ u.frozen? ⟨w.heap.size + 1 + 1, 0, none⟩ = false ∧ Below w.heap.size w u ∧ u.heap[D]? = some (.deferred (some []))) (first | assumption | exact S5.below (by assumption) (by assumption) | exact S5.store (by assumption) (by omega) (by omega) (by simp))
        (first
          | (go_at_call 16; refine (may_c s hs _).mono ?_; rintro e w2 ⟨rfl, rfl⟩)
          | (go_at_call 17; refine (rmay_c s hs _).mono ?_; rintro e w2 ⟨rfl, rfl⟩)
          | (go_at_call 18; refine (has_c s hs _ _).mono ?_; rintro e w2 ⟨rfl, rfl⟩)
          | (go_at_call 14; refine (rhas_c s hs _ _).mono ?_; rintro e w2 ⟨rfl, rfl⟩)
          | (go_at_call 19; refine (size_c s hs _).mono ?_; rintro e w2 ⟨rfl, rfl⟩)
          | (go_at_call 15; refine (rsize_c s hs _).mono ?_; rintro e w2 ⟨rfl, rfl⟩)
          | (go_at_call 20; refine (most_c s b hs hb _).mono ?_; rw [hq1.out]; rintro e w2 ⟨rfl, hb2⟩)
          | (go_at_call 21; refine (rmost_c s b hs hb _).mono ?_; rw [hq1.out]; rintro e w2 ⟨rfl, rfl⟩)
          | (go_at_call 22; refine (meets_c s b hs hb _).mono ?_; rw [hq2.out]; rintro e w2 ⟨rfl, hb2⟩)
          | (go_at_call 23; refine (rmeets_c s b hs hb _).mono ?_; rw [hq2.out]; rintro e w2 ⟨rfl, rfl⟩)
          | (go_at_call 24; refine (wakes12_c _).mono ?_; rintro e w5 ⟨rfl, hb5⟩; have hR5 := (S5.below (by assumption) hb5).2.1))
      all_goals
        gi_wp2
        have sE : S5 w s (w.heap.size) (w.heap.size + 1 + 1) D (w5.setCell ⟨w.heap.size + 1 + 1, 0, none⟩ (.bool true)) := by assumption
        have hcR := World.cell?_setCell_same w5 ⟨w.heap.size + 1 + 1, 0, none⟩ (.bool true) hR5
        refine ⟨by simp, .inl ⟨_, _, rfl, run_takeDeferred sE.2.2.2.2, ?_⟩⟩
        have hc5 := cell_kept hcR (grownBy_putObj' _ D (.deferred none)) (fun r e => by cases e; exact ⟨_, sE.2.2.2.2, rfl⟩)
        refine ⟨.bool true, ?_, rfl, sE.2.2.2.1.trans (belowK_b (w := w) (Nat.le_refl _) _ D _ _ (by omega) sE.2.2.2.2 rfl rfl)⟩
        simp [results, Try.results3, go_sem, hc5]
    · gi_wp2
      have j1 := i1
      refine wpIn_wide.2 ?_
      go_quiet ((go_at_call 15; exact Calls.quiet_of_same (rsize_q s hs _)))
      gi_wp2
      have s0 : S5 w s (w.heap.size) (w.heap.size + 1 + 1) D (W.drewN nq) := ⟨by simpa using i1, by rw [show boolN (W.drewN nq) (w.heap.size + 1 + 1) = false from boolN_of (by simpa using i3)]; simpa using i3, by simpa using i4, below_drewN hB nq, by simpa using hK⟩
      generalize W.drewN nq = U at s0 ⊢
      have s1 := S5.drew s0
      refine wpIn_wide.2 ?_
      go_region_held3 (fun u => u.cell? ⟨w.heap.size, 0, none⟩ = some (.int .u8 (s : Nat)) ∧ u.cell? ⟨w.heap.size + 1 + 1, 0, none⟩ = some (.bool (boolN u (w.heap.size + 1 + 1))) ∧ u.frozen? ⟨w.heap.size + 1 + 1, 0, none⟩ = false ∧ Below w.heap.size w u ∧ u.heap[D]? = some (.deferred (some []))) (first | assumption | exact S5.below (by assumption) (by assumption) | exact S5.store (by assumption) (by omega) (by omega) (by simp))
        (first
          | (go_at_call 16; refine (may_c s hs _).mono ?_; rintro e w2 ⟨rfl, rfl⟩)
          | (go_at_call 17; refine (rmay_c s hs _).mono ?_; rintro e w2 ⟨rfl, rfl⟩)
          | (go_at_call 18; refine (has_c s hs _ _).mono ?_; rintro e w2 ⟨rfl, rfl⟩)
          | (go_at_call 14; refine (rhas_c s hs _ _).mono ?_; rintro e w2 ⟨rfl, rfl⟩)
          | (go_at_call 19; refine (size_c s hs _).mono ?_; rintro e w2 ⟨rfl, rfl⟩)
          | (go_at_call 15; refine (rsize_c s hs _).mono ?_; rintro e w2 ⟨rfl, rfl⟩)
          | (go_at_call 20; refine (most_c s b hs hb _).mono ?_; rw [hq1.out]; rintro e w2 ⟨rfl, hb2⟩)
          | (go_at_call 21; refine (rmost_c s b hs hb _).mono ?_; rw [hq1.out]; rintro e w2 ⟨rfl, rfl⟩)
          | (go_at_call 22; refine (meets_c s b hs hb _).mono ?_; rw [hq2.out]; rintro e w2 ⟨rfl, hb2⟩)
          | (go_at_call 23; refine (rmeets_c s b hs hb _).mono ?_; rw [hq2.out]; rintro e w2 ⟨rfl, rfl⟩)
          | (go_at_call 24; refine (wakes12_c _).mono ?_; rintro e w5 ⟨rfl, hb5⟩; have hR5 := (S5.below (by assumption) hb5).2.1))
      all_goals
        gi_wp2
        have sE : S5 w s (w.heap.size) (w.heap.size + 1 + 1) D (w5.setCell ⟨w.heap.size + 1 + 1, 0, none⟩ (.bool true)) := by assumption
        have hcR := World.cell?_setCell_same w5 ⟨w.heap.size + 1 + 1, 0, none⟩ (.bool true) hR5
        refine ⟨by simp, .inl ⟨_, _, rfl, run_takeDeferred sE.2.2.2.2, ?_⟩⟩
        have hc5 := cell_kept hcR (grownBy_putObj' _ D (.deferred none)) (fun r e => by cases e; exact ⟨_, sE.2.2.2.2, rfl⟩)
        refine ⟨.bool true, ?_, rfl, sE.2.2.2.1.trans (belowK_b (w := w) (Nat.le_refl _) _ D _ _ (by omega) sE.2.2.2.2 rfl rfl)⟩
        simp [results, Try.results3, go_sem, hc5]
  case stop =>
    rintro D c pre W hD hG ⟨(⟨rfl, hn⟩ | ⟨rfl, hle, i1, i2, i3, i4, i5, i6⟩), hB⟩ hK
    · exact absurd hG hn
    · gi_wp2
      have j1 := i1
      refine wpIn_wide.2 ?_
      go_quiet (fail)
      gi_wp2
      have s0 : S5 w s (w.heap.size) (w.heap.size + 1 + 1) D (W.drewN nq) := ⟨by simpa using i1, by rw [show boolN (W.drewN nq) (w.heap.size + 1 + 1) = false from boolN_of (by simpa using i3)]; simpa using i3, by simpa using i4, below_drewN hB nq, by simpa using hK⟩
      generalize W.drewN nq = U at s0 ⊢
      have s1 := S5.drew s0
      refine wpIn_wide.2 ?_
      go_region_held3 (fun u => u.cell? ⟨w.heap.size, 0, none⟩ = some (.int .u8 (s : Nat)) ∧ u.cell? ⟨w.heap.size + 1 + 1, 0, none⟩ = some (.bool (boolN u (w.heap.size + 1 + 1))) ∧ u.frozen? ⟨w.heap.size + 1 + 1, 0, none⟩ = false ∧ Below w.heap.size w u ∧ u.heap[D]? = some (.deferred (some []))) (first | assumption | exact S5.below (by assumption) (by assumption) | exact S5.store (by assumption) (by omega) (by omega) (by simp))
        (first
          | (go_at_call 16; refine (may_c s hs _).mono ?_; rintro e w2 ⟨rfl, rfl⟩)
          | (go_at_call 17; refine (rmay_c s hs _).mono ?_; rintro e w2 ⟨rfl, rfl⟩)
          | (go_at_call 18; refine (has_c s hs _ _).mono ?_; rintro e w2 ⟨rfl, rfl⟩)
          | (go_at_call 14; refine (rhas_c s hs _ _).mono ?_; rintro e w2 ⟨rfl, rfl⟩)
          | (go_at_call 19; refine (size_c s hs _).mono ?_; rintro e w2 ⟨rfl, rfl⟩)
          | (go_at_call 15; refine (rsize_c s hs _).mono ?_; rintro e w2 ⟨rfl, rfl⟩)
          | (go_at_call 20; refine (most_c s b hs hb _).mono ?_; rw [hq1.out]; rintro e w2 ⟨rfl, hb2⟩)
          | (go_at_call 21; refine (rmost_c s b hs hb _).mono ?_; rw [hq1.out]; rintro e w2 ⟨rfl, rfl⟩)
          | (go_at_call 22; refine (meets_c s b hs hb _).mono ?_; rw [hq2.out]; rintro e w2 ⟨rfl, hb2⟩)
          | (go_at_call 23; refine (rmeets_c s b hs hb _).mono ?_; rw [hq2.out]; rintro e w2 ⟨rfl, rfl⟩)
          | (go_at_call 24; refine (wakes12_c _).mono ?_; rintro e w5 ⟨rfl, hb5⟩; have hR5 := (S5.below (by assumption) hb5).2.1))
      all_goals
        gi_wp2
        have sE : S5 w s (w.heap.size) (w.heap.size + 1 + 1) D (w5.setCell ⟨w.heap.size + 1 + 1, 0, none⟩ (.bool true)) := by assumption
        have hcR := World.cell?_setCell_same w5 ⟨w.heap.size + 1 + 1, 0, none⟩ (.bool true) hR5
        refine ⟨by simp, .inl ⟨_, _, rfl, run_takeDeferred sE.2.2.2.2, ?_⟩⟩
        have hc5 := cell_kept hcR (grownBy_putObj' _ D (.deferred none)) (fun r e => by cases e; exact ⟨_, sE.2.2.2.2, rfl⟩)
        refine ⟨.bool true, ?_, rfl, sE.2.2.2.1.trans (belowK_b (w := w) (Nat.le_refl _) _ D _ _ (by omega) sE.2.2.2.2 rfl rfl)⟩
        simp [results, Try.results3, go_sem, hc5]
end Go.Proofs.Ytgmbhbhjlhpbgaa
