/- The contract of conf.Most: a range over conf.Members. -/
import Derived.Test.YtgmbhbhjlhpbgaaConf3
namespace Go.Proofs.Ytgmbhbhjlhpbgaa
open Go.ChangeShapes Go.WideShapes Go.ChangeAt Go.RowKit Go.Shelf
set_option linter.unusedVariables false
set_option linter.unusedSimpArgs false
open B7 Cf
attribute [local go_sem] Oper.semAt_some

theorem size_q (s : Nat) (hs : s < 256) (w : World) : Calls Try.prog 19 #[.int .u8 s] w fun e w' => e = .returned (.int .i64 (cnt s 7 : Nat)) ∧ w' = w := (size_c s hs w).mono fun e w' h => ⟨h.1, h.2.symm⟩

set_option maxRecDepth 100000 in
set_option maxHeartbeats 2000000 in
theorem most_c (s y : Nat) (hs : s < 256) (hy : y < 256) (w : World) :
    Calls Try.prog 20 #[.int .u8 s, .int .u8 y] w fun e w' => e = .returned (.bool (decide (cnt s 7 < 2 * cnt (s &&& y) 7))) ∧ Below w.heap.size w w' := by
  refine (callsIn_wide (n := 6)).1 ?_
  refine callsIn_of_wp_marks Try.func20 rfl trivial ?_ rfl
  simp only [Try.ntmps20, List.size_toArray, List.length_cons, List.length_nil, Nat.reduceAdd, Nat.reduceSub, Array.replicate_succ, Array.replicate_zero, List.push_toArray, List.append_toArray, List.nil_append, List.cons_append]
  gi_wp2_with (refine ⟨trivial, ?_⟩; gi_at_call 13; refine (callsIn_wide.2 (members_c s _)).mono ?_; rintro e w' ⟨rfl, rfl⟩)
  have bY := Boxed.new w 5 (.int .u8 y)
  have bN := Boxed.new (w.alloc (.cells #[.int .u8 y] 5)) 3 (.int .i64 0)
  rw [World.size_alloc] at bN
  have bS := Boxed.new ((w.alloc (.cells #[.int .u8 y] 5)).alloc (.cells #[.int .i64 0] 3)) 5 (.int .u8 s)
  rw [World.size_alloc, World.size_alloc] at bS
  have hB0 : Below w.heap.size w (((w.alloc (.cells #[.int .u8 y] 5)).alloc (.cells #[.int .i64 0] 3)).alloc (.cells #[.int .u8 s] 5)) := (((Below.refl _ w).alloc (Nat.le_refl _) _).alloc (by simp) _).alloc (by simp; omega) _
  refine wpIn_rangeFunc_ownG rfl (by omega) (gf := 49) (lb := #[.pointer (some ⟨w.heap.size + 1 + 1, 0, none⟩)]) rfl trivial (enters_of Try.func49 (by kernel_rfl) rfl)
    (members_stops s hs (6 - 1) (by omega) (w.heap.size + 1 + 1) _ (by simp) bS.cell) keepC_t (keepC_b (by simp)) (Below.refl _ _) (fun _ => rfl)
    (fun pre W => (W.cell? ⟨w.heap.size + 1, 0, none⟩ = some (.int .i64 (cntL y pre : Nat)) ∧ W.frozen? ⟨w.heap.size + 1, 0, none⟩ = false ∧ W.cell? ⟨w.heap.size, 0, none⟩ = some (.int .u8 y)) ∧ Below w.heap.size w W)
    (fun _ _ _ => False)
    (OwnFrom.and (Own.from (fun st A B row hs hg hr => ⟨cell_kept hs.1 hg hr, (frozen_kept hs.1 hg hr).trans hs.2.1, cell_kept hs.2.2 hg hr⟩) _) (ownFrom_below (Nat.le_refl _) (by simp; omega)))
    (fun _ _ _ _ _ hs _ _ => hs)
    ⟨⟨(bN.alloc _).cell, (bN.alloc _).frozen, ((bY.alloc _).alloc _).cell⟩, hB0⟩
    (fun x => { tmps := #[.int .u8 s, .int .u8 y, undef, .pointer (some ⟨w.heap.size, 0, none⟩), .bool false, .pointer (some ⟨w.heap.size + 1, 0, none⟩), .int .i64 ((x.val : Int) + 1), .int .u8 s, .func (.func 49) #[] #[.pointer (some ⟨w.heap.size + 1 + 1, 0, none⟩)], .int .i64 ((x.val : Int) + 1), undef, undef, undef, undef, undef, undef, undef, undef, undef, undef], defers := [] }) ?assign ?body ?done ?stop
  case assign =>
    intro l x W K hK
    gi_wp2
    exact hK
  case body =>
    rintro l pre x W ⟨⟨hc, hf, hcy⟩, hB⟩ hlen
    have hx := hasB_in y x.val x.isLt
    have hle := cntL_le y pre
    have ch := setHas_c y hy ((x.val : Int) + 1) W
    by_cases g : nb y x.val = 1
    · rw [show hasB y ((x.val : Int) + 1) = true by rw [hx, g]; rfl] at ch
      have hm := Lib.hid (cntL_in y pre x g)
      clear hx g
      gi_wp2_with (refine ⟨trivial, ?_⟩; gi_at_call 50; refine (CallsIn.inRound l (callsIn_wide.2 ch)).mono ?_; rintro e w' ⟨rfl, rfl⟩)
      exact ⟨(KeepsOthers.setCell _ _ _).from _, World.cell?_setCell_other _ _ _ _ (by simp), ⟨by rw [hm.out]; exact World.cell?_setCell_same' _ _ _ (by rw [hc]; rfl), by rw [World.frozen?_setCell]; exact hf, (World.cell?_setCell_other _ _ _ _ (by simp)).trans hcy⟩, hB.setCell (p := ⟨w.heap.size + 1, 0, none⟩) (by simp) _⟩
    · rw [show hasB y ((x.val : Int) + 1) = false by rw [hx, decide_eq_false (by omega)]] at ch
      have hm := Lib.hid (cntL_out y pre x g)
      clear hx g
      gi_wp2_with (refine ⟨trivial, ?_⟩; gi_at_call 50; refine (CallsIn.inRound l (callsIn_wide.2 ch)).mono ?_; rintro e w' ⟨rfl, rfl⟩)
      exact ⟨KeepsFrom.refl _ _, rfl, ⟨by rw [hm.out]; exact hc, hf, hcy⟩, hB⟩
  case done =>
    rintro D ys W hD rfl ⟨⟨hc, _⟩, hB⟩ hK
    rw [cntL_mems s y 7 (by omega)] at hc
    have cz := size_c s hs W
    have b1 := cnt_le s 7
    have b2 := cnt_le (s &&& y) 7
    gi_wp2
    refine wpIn_wide.2 ?_
    go_quiet ((go_at_call 19; exact Calls.quiet_of_same (size_q s hs _)))
    gi_wp2
    have hK2 : (W.drewN nq).heap[D]? = some (.deferred (some [])) := by simpa using hK
    refine ⟨by simp, .inl ⟨_, _, rfl, run_takeDeferred hK2, ?_⟩⟩
    have hv : Ending.returned (.bool (decide ((cnt s 7 : Int) < 2 * (cnt (s &&& y) 7 : Int)))) = .returned (.bool (decide (cnt s 7 < 2 * cnt (s &&& y) 7))) := ret_bool (decide_eq_decide.2 (by omega))
    refine ⟨_, results_tmp rfl _ _ _, ?_, (below_drewN hB nq).trans (belowK_b (w := w) (Nat.le_refl _) (W.drewN nq) D _ _ (by simp at hD; omega) hK2 rfl rfl)⟩
    trace_state
    exact hv
  case stop =>
    rintro D c pre W _ _ h _
    exact h.elim
end Go.Proofs.Ytgmbhbhjlhpbgaa
