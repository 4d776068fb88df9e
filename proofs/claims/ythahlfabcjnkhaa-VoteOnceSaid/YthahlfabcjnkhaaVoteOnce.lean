/- The walk of VoteOnce. -/
import Derived.Test.YthahlfabcjnkhaaVoteNewer
import Derived.Test.YthahlfabcjnkhaaHeld
namespace Go.Proofs.Ythahlfabcjnkhaa
open Go.ChangeShapes Go.WideShapes Go.ChangeAt Go.RowKit
set_option linter.unusedVariables false
set_option linter.unusedSimpArgs false
open Rw Vt R10 BigFrame

/-- A message as it lies in a row. -/
structure MsgAt (w : World) (b o : Nat) (M : Msg) : Prop where
  c0 : w.cell? ⟨b, o, none⟩ = some (.int .i8 M.kind)
  c1 : w.cell? ⟨b, o + 1, none⟩ = some (.int .i64 M.frm)
  c2 : w.cell? ⟨b, o + 2, none⟩ = some (.int .i64 M.to)
  c3 : w.cell? ⟨b, o + 3, none⟩ = some (.int .i64 M.term)
  c4 : w.cell? ⟨b, o + 4, none⟩ = some (.int .i64 M.index)
  c5 : w.cell? ⟨b, o + 5, none⟩ = some (.int .i64 M.last)
  c6 : w.cell? ⟨b, o + 6, none⟩ = some (.int .i64 M.commit)
  c7 : w.cell? ⟨b, o + 7, none⟩ = some (.bool M.ok)
  c8 : w.cell? ⟨b, o + 8, none⟩ = some M.ents
  c9 : w.cell? ⟨b, o + 9, none⟩ = some (.int .i64 M.si)
  c10 : w.cell? ⟨b, o + 10, none⟩ = some (.int .i64 M.st)
  c11 : w.cell? ⟨b, o + 11, none⟩ = some (.int .u8 M.ss)
  c12 : w.cell? ⟨b, o + 12, none⟩ = some M.sdata
  c13 : w.cell? ⟨b, o + 13, none⟩ = some M.data

/-- What an answer tells of term and vote. -/
theorem once_facts (t v : Int) (r : Rw.R) (M : Msg) (y : Bool) (hy : yesB (riseT t M.term) (riseV t v M.term) r M = y) :
    t ≤ riseT t M.term ∧ (riseT t M.term = t → v ≠ 0 → (if y = true then M.frm else riseV t v M.term) = v) ∧ (y = true → (if y = true then M.frm else riseV t v M.term) = M.frm ∧ riseT t M.term = M.term) := by
  refine ⟨by unfold riseT; omega, fun h1 h2 => ?_, fun h => ?_⟩
  · have h3 : M.term ≤ t := by unfold riseT at h1; omega
    have h4 : riseV t v M.term = v := riseV_le h3
    cases y with
    | false => simpa using h4
    | true =>
      simp only [if_true]
      unfold yesB at hy
      rw [Bool.and_eq_true, Bool.and_eq_true] at hy
      have h5 : (riseV t v M.term == 0 || riseV t v M.term == M.frm) = true := hy.1.2
      rw [h4] at h5
      simp at h5
      rcases h5 with h5 | h5
      · exact absurd h5 h2
      · exact h5.symm
  · subst h
    simp only [if_true]
    unfold yesB at hy
    rw [Bool.and_eq_true, Bool.and_eq_true] at hy
    have h5 : (M.term == riseT t M.term) = true := hy.1.1
    simp at h5
    exact ⟨trivial, h5.symm⟩

set_option maxRecDepth 100000 in
set_option maxHeartbeats 40000000 in
theorem once_h (w0 : World) (t0 v0 bt : Int) (r : Rw.R) (self : Int) (mb moff n cap : Nat) (ms : Nat → Msg) (hw : RWf r) (hr : RAt w0 r) (hc : Rw.chkB r = true) (hn : n ≤ 60) (hr3 : r.n ≤ 300) (ht0 : 0 ≤ t0) (hmb : mb < w0.heap.size) (hms : ∀ i, i < n → MsgAt w0 mb (moff + i * 14) (ms i)) (hcap : n ≤ cap) :
    Calls Try.prog 8 #[.agg #[.int .i64 t0, .int .i64 v0, .int .i64 bt], r.val, .int .i64 self, .slice (some ⟨mb, moff, none⟩) n cap] w0 fun e w' => e = .returned (.bool true) ∧ Below w0.heap.size w0 w' := by
  have HR := Lib.hid hr
  have HW := Lib.hid hw
  have HC := Lib.hid hc
  have hck := Lib.hid (chkE_ok hc)
  clear hr hw hc
  unfold R.val
  go_enter Try.func8, Try.ntmps8
  go_wp2_with fail
  refine (great_c r _).mono ?_
  rw [decide_eq_false (show ¬ 300 < r.n by omega)]
  rintro e w1 ⟨rfl, hb1⟩
  have hB1 := belowNext (((Below.refl w0.heap.size w0).alloc (Nat.le_refl _) _).alloc (by simp) _) hb1 (Nat.le_refl _)
  obtain ⟨hc1, hf1⟩ := bcell hb1
  have hs1 : w0.heap.size + 2 ≤ w1.heap.size := by have := hb1.size; simp at this; omega
  clear hb1
  go_wp2_with fail
  refine (rcheck_c r _ HW.out (HR.out.below hB1)).mono ?_
  rw [hck.out]
  rintro e w2 ⟨rfl, hb2⟩
  have hB2 := belowNext hB1 hb2 (Nat.le_refl _)
  have hs2 : w0.heap.size + 2 ≤ w2.heap.size := by have := hb2.size; omega
  have c2 : ∀ b o, b < w0.heap.size + 2 → w2.cell? ⟨b, o, none⟩ = w1.cell? ⟨b, o, none⟩ := fun b o h => hb2.cell (p := ⟨b, o, none⟩) (by simp only; omega)
  have f2 : ∀ b o, b < w0.heap.size + 2 → w2.frozen? ⟨b, o, none⟩ = w1.frozen? ⟨b, o, none⟩ := fun b o h => hb2.frozen (p := ⟨b, o, none⟩) (by simp only; omega)
  have x0 : w2.cell? ⟨w0.heap.size, 0, none⟩ = some (.int .i64 t0) := (c2 _ _ (by omega)).trans (by go_simp)
  have x1 : w2.cell? ⟨w0.heap.size, 1, none⟩ = some (.int .i64 v0) := (c2 _ _ (by omega)).trans (by go_simp)
  have x2 : w2.cell? ⟨w0.heap.size, 2, none⟩ = some (.int .i64 bt) := (c2 _ _ (by omega)).trans (by go_simp)
  have xf : ∀ o, w2.frozen? ⟨w0.heap.size, o, none⟩ = false := fun o => (f2 _ _ (by omega)).trans (by go_simp)
  have y0 : w2.cell? ⟨w0.heap.size + 1, 0, none⟩ = some (.int .i64 r.base) := (c2 _ _ (by omega)).trans (by go_simp)
  have y1 : w2.cell? ⟨w0.heap.size + 1, 1, none⟩ = some (.int .i64 r.term) := (c2 _ _ (by omega)).trans (by go_simp)
  have y2 : w2.cell? ⟨w0.heap.size + 1, 2, none⟩ = some (.slice r.a r.n r.cap) := (c2 _ _ (by omega)).trans (by go_simp)
  clear c2 f2 hc1 hf1 hb2
  go_wp2_with fail
  go_loopw [9] (fun i wr => ∃ (k : Nat) (t v : Int), k ≤ n ∧ i = .int .i64 (k : Nat) ∧ 0 ≤ t ∧ (wr.cell? ⟨w0.heap.size, 0, none⟩ = some (.int .i64 t) ∧ wr.cell? ⟨w0.heap.size, 1, none⟩ = some (.int .i64 v) ∧ wr.cell? ⟨w0.heap.size, 2, none⟩ = some (.int .i64 bt)) ∧ (∀ o, wr.frozen? ⟨w0.heap.size, o, none⟩ = false) ∧ (wr.cell? ⟨w0.heap.size + 1, 0, none⟩ = some (.int .i64 r.base) ∧ wr.cell? ⟨w0.heap.size + 1, 1, none⟩ = some (.int .i64 r.term) ∧ wr.cell? ⟨w0.heap.size + 1, 2, none⟩ = some (.slice r.a r.n r.cap)) ∧ Below w0.heap.size w0 wr ∧ w0.heap.size + 2 ≤ wr.heap.size)
    (fun i _ => n - (intOf i).toNat)
  case atStart => exact ⟨0, t0, v0, Nat.zero_le _, rfl, ht0, ⟨x0, x1, x2⟩, xf, ⟨y0, y1, y2⟩, hB2, hs2⟩
  case round =>
    clear x0 x1 x2 xf y0 y1 y2 hB2 hs2 hB1 hs1
    obtain ⟨k, t, v, hk, rfl, ht, ⟨x0, x1, x2⟩, xf, ⟨y0, y1, y2⟩, hB, hsz⟩ := hrel
    by_cases hlt : k < n
    · obtain ⟨W, rfl⟩ : ∃ x, x = wr := ⟨_, rfl⟩
      have hM := hms k hlt
      obtain ⟨M, hMM⟩ : ∃ x, ms k = x := ⟨_, rfl⟩
      rw [hMM] at hM
      have z0 := (hB.cell (p := ⟨mb, moff + k * 14, none⟩) hmb).trans (hM.c0)
      have z1 := (hB.cell (p := ⟨mb, moff + k * 14 + 1, none⟩) hmb).trans (hM.c1)
      have z2 := (hB.cell (p := ⟨mb, moff + k * 14 + 2, none⟩) hmb).trans (hM.c2)
      have z3 := (hB.cell (p := ⟨mb, moff + k * 14 + 3, none⟩) hmb).trans (hM.c3)
      have z4 := (hB.cell (p := ⟨mb, moff + k * 14 + 4, none⟩) hmb).trans (hM.c4)
      have z5 := (hB.cell (p := ⟨mb, moff + k * 14 + 5, none⟩) hmb).trans (hM.c5)
      have z6 := (hB.cell (p := ⟨mb, moff + k * 14 + 6, none⟩) hmb).trans (hM.c6)
      have z7 := (hB.cell (p := ⟨mb, moff + k * 14 + 7, none⟩) hmb).trans (hM.c7)
      have z8 := (hB.cell (p := ⟨mb, moff + k * 14 + 8, none⟩) hmb).trans (hM.c8)
      have z9 := (hB.cell (p := ⟨mb, moff + k * 14 + 9, none⟩) hmb).trans (hM.c9)
      have z10 := (hB.cell (p := ⟨mb, moff + k * 14 + 10, none⟩) hmb).trans (hM.c10)
      have z11 := (hB.cell (p := ⟨mb, moff + k * 14 + 11, none⟩) hmb).trans (hM.c11)
      have z12 := (hB.cell (p := ⟨mb, moff + k * 14 + 12, none⟩) hmb).trans (hM.c12)
      have z13 := (hB.cell (p := ⟨mb, moff + k * 14 + 13, none⟩) hmb).trans (hM.c13)
      have hrW := Lib.hid (HR.out.below hB)
      have hlt' : (k : Int) < (n : Int) := by omega
      by_cases ha : argP self M
      · obtain ⟨y, hy⟩ : ∃ y, yesB (riseT t M.term) (riseV t v M.term) r M = y := ⟨_, rfl⟩
        have cY := fun u (hu : RAt u r) => answer_ok t v bt r self M u HW.out hu HC.out ha y hy
        have hfacts := once_facts t v r M y hy
        obtain ⟨T, hT⟩ : ∃ x, riseT t M.term = x := ⟨_, rfl⟩
        obtain ⟨V, hV⟩ : ∃ x, (if y = true then M.frm else riseV t v M.term) = x := ⟨_, rfl⟩
        rw [hV, hT] at hfacts
        rw [hV, hT] at cY
        unfold R.val Msg.val tellMsg at cY
        clear ha hM hms hT hV hy
        obtain ⟨o1, o2, o3⟩ := hfacts
        replace o2 := Lib.hid o2
        replace o3 := Lib.hid o3
        go_upto_region 6 with fail
        go_cut [10, 11, 12] (fun s10 s11 s12 wx => ∃ g h : Nat, s10 = .pointer (some ⟨g, 0, none⟩) ∧ s11 = .pointer (some ⟨h, 0, none⟩) ∧ s12 = .int .i64 0 ∧ wx.cell? ⟨g, 0, none⟩ = some (.int .i64 T) ∧ wx.cell? ⟨g, 1, none⟩ = some (.int .i64 V) ∧ wx.cell? ⟨g, 2, none⟩ = some (.int .i64 bt) ∧ wx.cell? ⟨h, 3, none⟩ = some (.int .i64 T) ∧ wx.cell? ⟨h, 7, none⟩ = some (.bool y) ∧ Below W.heap.size W wx)
        case first =>
            refine wp_region_noPanic ?_
            refine wp_region_held_drew (S := fun u => Below W.heap.size W u) (by kernel_rfl) ((Below.refl _ _).drew) (fun hHeld => ?_)
            refine wpAnyH_start (n' := 17) (l' := #[false, false, false, false, false, false, false, false, false, false, false, false, false, false, false, false, false]) (by kernel_rfl) (by kernel_rfl) ?_
            have st : St W W.drew 0 0 none none := St.start 0 0
            generalize W.drew = vv at st hHeld ⊢
            refine wpAnyH_share 3 #[true, true, true, true, true, true, true, true, true, true, true, true, true, true, false, false, false] (fun a0 kh km => (Act.put (Act.put (Act.put (Act.put (Act.put (Act.put (Act.put (Act.put (Act.put (Act.put (Act.put (Act.put (Act.put (Act.put a0 (some 38) (.agg #[.int .i64 t, .int .i64 v, .int .i64 bt])) (some 39) (.agg #[.int .i64 r.base, .int .i64 r.term, .slice r.a r.n r.cap])) (some 40) (.int .i64 self)) (some 41) (.slice (some ⟨mb, moff, none⟩) n cap)) (some 42) (.int .i64 (k : Nat))) (some 43) (.pointer (some ⟨mb, moff + k * 14, none⟩))) (some 44) (.agg #[.int .i8 M.kind, .int .i64 M.frm, .int .i64 M.to, .int .i64 M.term, .int .i64 M.index, .int .i64 M.last, .int .i64 M.commit, .bool M.ok, M.ents, .int .i64 M.si, .int .i64 M.st, .int .u8 M.ss, M.sdata, M.data])) (some 45) (.tuple #[.agg #[.int .i64 T, .int .i64 V, .int .i64 bt], .agg #[.int .i8 2, .int .i64 self, .int .i64 M.frm, .int .i64 T, .int .i64 0, .int .i64 0, .int .i64 0, .bool y, .slice none 0 0, .int .i64 0, .int .i64 0, .int .u8 0, .slice none 0 0, .slice none 0 0], .int .i64 0])) (some 37) (.tuple #[.agg #[.int .i64 T, .int .i64 V, .int .i64 bt], .agg #[.int .i8 2, .int .i64 self, .int .i64 M.frm, .int .i64 T, .int .i64 0, .int .i64 0, .int .i64 0, .bool y, .slice none 0 0, .int .i64 0, .int .i64 0, .int .u8 0, .slice none 0 0, .slice none 0 0], .int .i64 0])) (some 46) (.agg #[.int .i64 T, .int .i64 V, .int .i64 bt])) (some 47) (.agg #[.int .i8 2, .int .i64 self, .int .i64 M.frm, .int .i64 T, .int .i64 0, .int .i64 0, .int .i64 0, .bool y, .slice none 0 0, .int .i64 0, .int .i64 0, .int .u8 0, .slice none 0 0, .slice none 0 0])) (some 48) (.int .i64 0)) (some 10) (.pointer (some ⟨kh, 0, none⟩))) (some 11) (.pointer (some ⟨km, 0, none⟩)))) (some (.cells #[.int .i64 0, .int .i64 0, .int .i64 0] 53 (0, 0))) (some (.cells #[.int .i8 0, .int .i64 0, .int .i64 0, .int .i64 0, .int .i64 0, .int .i64 0, .int .i64 0, .bool false, .slice none 0 0, .int .i64 0, .int .i64 0, .int .u8 0, .slice none 0 0, .slice none 0 0] 61 (0, 0))) (W := W) ?_ (fun Thmn => ?_)
            · intro vv kh km st
              have hHeld := st.b
              simp only [Act.put, List.setIfInBounds_toArray, List.set_cons_zero, List.set_cons_succ]
              refine wpAnyH_ready (rs := [14]) (by kernel_rfl) (by simp) ?_
              refine AllReadyH.cons rfl (fun K hK => ?_) AllReadyH.nil
              rw [if_pos (by rfl)]
              refine wp_store_row _ _ _ rfl _ _ rfl rfl _ _ (st.h _ rfl).2 (by kernel_rfl) rfl (by simp [Value.oneCell']) ?_
              have st := st.storeH (#[.int .i64 T, .int .i64 V, .int .i64 bt])
              refine hK.out _ _ st.b (fun hHeld => ?_)
              clear hK K
              try simp only [Act.put, List.setIfInBounds_toArray, List.set_cons_zero, List.set_cons_succ]
              refine wpAnyH_ready (rs := [15]) (by kernel_rfl) (by simp) ?_
              refine AllReadyH.cons rfl (fun K hK => ?_) AllReadyH.nil
              rw [if_pos (by rfl)]
              refine wp_store_row _ _ _ rfl _ _ rfl rfl _ _ (st.m _ rfl).2 (by kernel_rfl) rfl (by simp [Value.oneCell']) ?_
              have st := st.storeM (#[.int .i8 2, .int .i64 self, .int .i64 M.frm, .int .i64 T, .int .i64 0, .int .i64 0, .int .i64 0, .bool y, .slice none 0 0, .int .i64 0, .int .i64 0, .int .u8 0, .slice none 0 0, .slice none 0 0])
              refine hK.out _ _ st.b (fun hHeld => ?_)
              clear hK K
              try simp only [Act.put, List.setIfInBounds_toArray, List.set_cons_zero, List.set_cons_succ]
              refine wpAnyH_take (i := 16) (v := ?_) rfl (by kernel_rfl) (by kernel_rfl) (by kernel_rfl) (fun _ _ _ h => h) (Or.inl ⟨by rfl, ?_⟩) (by assumption) ?_
              rotate_left
              · intro w hSw
                go_simp
                try with_reducible rfl
              try simp only [Act.put, List.setIfInBounds_toArray, List.set_cons_zero, List.set_cons_succ]
              refine wpAnyH_done (by kernel_rfl) ?_ _
              try simp only [List.getElem_toArray, List.getElem_cons_succ, List.getElem_cons_zero]
              try simp only [Act.put, List.setIfInBounds_toArray, List.set_cons_zero, List.set_cons_succ]
              refine NoPanic.normal ?_
              go_wp2_with fail
              go_meet
              exact ⟨kh, km, rfl, rfl, rfl, (cell_of_row _ kh 0 _ _ _ (st.h _ rfl).2).trans rfl, (cell_of_row _ kh 1 _ _ _ (st.h _ rfl).2).trans rfl, (cell_of_row _ kh 2 _ _ _ (st.h _ rfl).2).trans rfl, (cell_of_row _ km 3 _ _ _ (st.m _ rfl).2).trans rfl, (cell_of_row _ km 7 _ _ _ (st.m _ rfl).2).trans rfl, st.b⟩
            simp only [Act.put, List.setIfInBounds_toArray, List.set_cons_zero, List.set_cons_succ] at Thmn
            refine wpAnyH_share 4 #[true, true, true, true, true, true, true, true, true, true, true, true, true, false, false, false, false] (fun a0 kh km => (Act.put (Act.put (Act.put (Act.put (Act.put (Act.put (Act.put (Act.put (Act.put (Act.put (Act.put (Act.put (Act.put a0 (some 38) (.agg #[.int .i64 t, .int .i64 v, .int .i64 bt])) (some 39) (.agg #[.int .i64 r.base, .int .i64 r.term, .slice r.a r.n r.cap])) (some 40) (.int .i64 self)) (some 41) (.slice (some ⟨mb, moff, none⟩) n cap)) (some 42) (.int .i64 (k : Nat))) (some 43) (.pointer (some ⟨mb, moff + k * 14, none⟩))) (some 44) (.agg #[.int .i8 M.kind, .int .i64 M.frm, .int .i64 M.to, .int .i64 M.term, .int .i64 M.index, .int .i64 M.last, .int .i64 M.commit, .bool M.ok, M.ents, .int .i64 M.si, .int .i64 M.st, .int .u8 M.ss, M.sdata, M.data])) (some 45) (.tuple #[.agg #[.int .i64 T, .int .i64 V, .int .i64 bt], .agg #[.int .i8 2, .int .i64 self, .int .i64 M.frm, .int .i64 T, .int .i64 0, .int .i64 0, .int .i64 0, .bool y, .slice none 0 0, .int .i64 0, .int .i64 0, .int .u8 0, .slice none 0 0, .slice none 0 0], .int .i64 0])) (some 37) (.tuple #[.agg #[.int .i64 T, .int .i64 V, .int .i64 bt], .agg #[.int .i8 2, .int .i64 self, .int .i64 M.frm, .int .i64 T, .int .i64 0, .int .i64 0, .int .i64 0, .bool y, .slice none 0 0, .int .i64 0, .int .i64 0, .int .u8 0, .slice none 0 0, .slice none 0 0], .int .i64 0])) (some 46) (.agg #[.int .i64 T, .int .i64 V, .int .i64 bt])) (some 47) (.agg #[.int .i8 2, .int .i64 self, .int .i64 M.frm, .int .i64 T, .int .i64 0, .int .i64 0, .int .i64 0, .bool y, .slice none 0 0, .int .i64 0, .int .i64 0, .int .u8 0, .slice none 0 0, .slice none 0 0])) (some 48) (.int .i64 0)) (some 10) (.pointer (some ⟨kh, 0, none⟩)))) (some (.cells #[.int .i64 0, .int .i64 0, .int .i64 0] 53 (0, 0))) none (W := W) ?_ (fun Thm => ?_)
            · intro vv kh km st
              have hHeld := st.b
              simp only [Act.put, List.setIfInBounds_toArray, List.set_cons_zero, List.set_cons_succ]
              refine wpAnyH_ready (rs := [13]) (by kernel_rfl) (by simp) ?_
              refine AllReadyH.cons rfl (fun K hK => ?_) ?_
              · try simp only [List.getElem_toArray, List.getElem_cons_succ, List.getElem_cons_zero]
                go_simp
                have st := st.allocM (.cells #[.int .i8 0, .int .i64 0, .int .i64 0, .int .i64 0, .int .i64 0, .int .i64 0, .int .i64 0, .bool false, .slice none 0 0, .int .i64 0, .int .i64 0, .int .u8 0, .slice none 0 0, .slice none 0 0] 61)
                refine hK.out _ _ st.b (fun hHeld => ?_)
                exact Thmn _ _ _ st
              exact AllReadyH.nil
            simp only [Act.put, List.setIfInBounds_toArray, List.set_cons_zero, List.set_cons_succ] at Thm
            refine wpAnyH_share 4 #[true, true, true, true, true, true, true, true, true, true, true, true, false, true, false, false, false] (fun a0 kh km => (Act.put (Act.put (Act.put (Act.put (Act.put (Act.put (Act.put (Act.put (Act.put (Act.put (Act.put (Act.put (Act.put a0 (some 38) (.agg #[.int .i64 t, .int .i64 v, .int .i64 bt])) (some 39) (.agg #[.int .i64 r.base, .int .i64 r.term, .slice r.a r.n r.cap])) (some 40) (.int .i64 self)) (some 41) (.slice (some ⟨mb, moff, none⟩) n cap)) (some 42) (.int .i64 (k : Nat))) (some 43) (.pointer (some ⟨mb, moff + k * 14, none⟩))) (some 44) (.agg #[.int .i8 M.kind, .int .i64 M.frm, .int .i64 M.to, .int .i64 M.term, .int .i64 M.index, .int .i64 M.last, .int .i64 M.commit, .bool M.ok, M.ents, .int .i64 M.si, .int .i64 M.st, .int .u8 M.ss, M.sdata, M.data])) (some 45) (.tuple #[.agg #[.int .i64 T, .int .i64 V, .int .i64 bt], .agg #[.int .i8 2, .int .i64 self, .int .i64 M.frm, .int .i64 T, .int .i64 0, .int .i64 0, .int .i64 0, .bool y, .slice none 0 0, .int .i64 0, .int .i64 0, .int .u8 0, .slice none 0 0, .slice none 0 0], .int .i64 0])) (some 37) (.tuple #[.agg #[.int .i64 T, .int .i64 V, .int .i64 bt], .agg #[.int .i8 2, .int .i64 self, .int .i64 M.frm, .int .i64 T, .int .i64 0, .int .i64 0, .int .i64 0, .bool y, .slice none 0 0, .int .i64 0, .int .i64 0, .int .u8 0, .slice none 0 0, .slice none 0 0], .int .i64 0])) (some 46) (.agg #[.int .i64 T, .int .i64 V, .int .i64 bt])) (some 47) (.agg #[.int .i8 2, .int .i64 self, .int .i64 M.frm, .int .i64 T, .int .i64 0, .int .i64 0, .int .i64 0, .bool y, .slice none 0 0, .int .i64 0, .int .i64 0, .int .u8 0, .slice none 0 0, .slice none 0 0])) (some 48) (.int .i64 0)) (some 11) (.pointer (some ⟨km, 0, none⟩)))) none (some (.cells #[.int .i8 0, .int .i64 0, .int .i64 0, .int .i64 0, .int .i64 0, .int .i64 0, .int .i64 0, .bool false, .slice none 0 0, .int .i64 0, .int .i64 0, .int .u8 0, .slice none 0 0, .slice none 0 0] 61 (0, 0))) (W := W) ?_ (fun Thn => ?_)
            · intro vv kh km st
              have hHeld := st.b
              simp only [Act.put, List.setIfInBounds_toArray, List.set_cons_zero, List.set_cons_succ]
              refine wpAnyH_ready (rs := [12]) (by kernel_rfl) (by simp) ?_
              refine AllReadyH.cons rfl (fun K hK => ?_) ?_
              · try simp only [List.getElem_toArray, List.getElem_cons_succ, List.getElem_cons_zero]
                go_simp
                have st := st.allocH (.cells #[.int .i64 0, .int .i64 0, .int .i64 0] 53)
                refine hK.out _ _ st.b (fun hHeld => ?_)
                exact Thmn _ _ _ st
              exact AllReadyH.nil
            simp only [Act.put, List.setIfInBounds_toArray, List.set_cons_zero, List.set_cons_succ] at Thn
            refine wpAnyH_share 5 #[true, true, true, true, true, true, true, true, true, true, true, true, false, false, false, false, false] (fun a0 kh km => (Act.put (Act.put (Act.put (Act.put (Act.put (Act.put (Act.put (Act.put (Act.put (Act.put (Act.put (Act.put a0 (some 38) (.agg #[.int .i64 t, .int .i64 v, .int .i64 bt])) (some 39) (.agg #[.int .i64 r.base, .int .i64 r.term, .slice r.a r.n r.cap])) (some 40) (.int .i64 self)) (some 41) (.slice (some ⟨mb, moff, none⟩) n cap)) (some 42) (.int .i64 (k : Nat))) (some 43) (.pointer (some ⟨mb, moff + k * 14, none⟩))) (some 44) (.agg #[.int .i8 M.kind, .int .i64 M.frm, .int .i64 M.to, .int .i64 M.term, .int .i64 M.index, .int .i64 M.last, .int .i64 M.commit, .bool M.ok, M.ents, .int .i64 M.si, .int .i64 M.st, .int .u8 M.ss, M.sdata, M.data])) (some 45) (.tuple #[.agg #[.int .i64 T, .int .i64 V, .int .i64 bt], .agg #[.int .i8 2, .int .i64 self, .int .i64 M.frm, .int .i64 T, .int .i64 0, .int .i64 0, .int .i64 0, .bool y, .slice none 0 0, .int .i64 0, .int .i64 0, .int .u8 0, .slice none 0 0, .slice none 0 0], .int .i64 0])) (some 37) (.tuple #[.agg #[.int .i64 T, .int .i64 V, .int .i64 bt], .agg #[.int .i8 2, .int .i64 self, .int .i64 M.frm, .int .i64 T, .int .i64 0, .int .i64 0, .int .i64 0, .bool y, .slice none 0 0, .int .i64 0, .int .i64 0, .int .u8 0, .slice none 0 0, .slice none 0 0], .int .i64 0])) (some 46) (.agg #[.int .i64 T, .int .i64 V, .int .i64 bt])) (some 47) (.agg #[.int .i8 2, .int .i64 self, .int .i64 M.frm, .int .i64 T, .int .i64 0, .int .i64 0, .int .i64 0, .bool y, .slice none 0 0, .int .i64 0, .int .i64 0, .int .u8 0, .slice none 0 0, .slice none 0 0])) (some 48) (.int .i64 0))) none none (W := W) ?_ (fun Th => ?_)
            · intro vv kh km st
              have hHeld := st.b
              simp only [Act.put, List.setIfInBounds_toArray, List.set_cons_zero, List.set_cons_succ]
              refine wpAnyH_ready (rs := [12, 13]) (by kernel_rfl) (by simp) ?_
              refine AllReadyH.cons rfl (fun K hK => ?_) ?_
              · try simp only [List.getElem_toArray, List.getElem_cons_succ, List.getElem_cons_zero]
                go_simp
                have st := st.allocH (.cells #[.int .i64 0, .int .i64 0, .int .i64 0] 53)
                refine hK.out _ _ st.b (fun hHeld => ?_)
                exact Thm _ _ _ st
              refine AllReadyH.cons rfl (fun K hK => ?_) ?_
              · try simp only [List.getElem_toArray, List.getElem_cons_succ, List.getElem_cons_zero]
                go_simp
                have st := st.allocM (.cells #[.int .i8 0, .int .i64 0, .int .i64 0, .int .i64 0, .int .i64 0, .int .i64 0, .int .i64 0, .bool false, .slice none 0 0, .int .i64 0, .int .i64 0, .int .u8 0, .slice none 0 0, .slice none 0 0] 61)
                refine hK.out _ _ st.b (fun hHeld => ?_)
                exact Thn _ _ _ st
              exact AllReadyH.nil
            simp only [Act.put, List.setIfInBounds_toArray, List.set_cons_zero, List.set_cons_succ] at Th
            refine wpAnyH_share 8 #[true, true, true, true, true, true, true, false, false, false, false, false, true, true, false, false, false] (fun a0 kh km => (Act.put (Act.put (Act.put (Act.put (Act.put (Act.put (Act.put (Act.put (Act.put a0 (some 38) (.agg #[.int .i64 t, .int .i64 v, .int .i64 bt])) (some 39) (.agg #[.int .i64 r.base, .int .i64 r.term, .slice r.a r.n r.cap])) (some 40) (.int .i64 self)) (some 41) (.slice (some ⟨mb, moff, none⟩) n cap)) (some 42) (.int .i64 (k : Nat))) (some 43) (.pointer (some ⟨mb, moff + k * 14, none⟩))) (some 44) (.agg #[.int .i8 M.kind, .int .i64 M.frm, .int .i64 M.to, .int .i64 M.term, .int .i64 M.index, .int .i64 M.last, .int .i64 M.commit, .bool M.ok, M.ents, .int .i64 M.si, .int .i64 M.st, .int .u8 M.ss, M.sdata, M.data])) (some 10) (.pointer (some ⟨kh, 0, none⟩))) (some 11) (.pointer (some ⟨km, 0, none⟩)))) (some (.cells #[.int .i64 0, .int .i64 0, .int .i64 0] 53 (0, 0))) (some (.cells #[.int .i8 0, .int .i64 0, .int .i64 0, .int .i64 0, .int .i64 0, .int .i64 0, .int .i64 0, .bool false, .slice none 0 0, .int .i64 0, .int .i64 0, .int .u8 0, .slice none 0 0, .slice none 0 0] 61 (0, 0))) (W := W) ?_ (fun Tmn => ?_)
            · intro vv kh km st
              have hHeld := st.b
              simp only [Act.put, List.setIfInBounds_toArray, List.set_cons_zero, List.set_cons_succ]
              refine wpAnyH_ready (rs := [7]) (by kernel_rfl) (by simp) ?_
              refine AllReadyH.cons rfl (fun K hK => ?_) ?_
              · try simp only [List.getElem_toArray, List.getElem_cons_succ, List.getElem_cons_zero]
                go_simp
                refine (cY _ (RAt.below hrW.out st.b)).mono ?_
                rintro e v ⟨rfl, hb⟩
                try go_wp2_with fail
                have st := st.call hb
                refine hK.out _ _ st.b (fun hHeld => ?_)
                try simp only [Act.put, List.setIfInBounds_toArray, List.set_cons_zero, List.set_cons_succ]
                refine wpAnyH_take (i := 8) (v := ?_) rfl (by kernel_rfl) (by kernel_rfl) (by kernel_rfl) (fun _ _ _ h => h) (Or.inl ⟨by rfl, ?_⟩) (by assumption) ?_
                rotate_left
                · intro w hSw
                  go_simp
                  try with_reducible rfl
                try simp only [Act.put, List.setIfInBounds_toArray, List.set_cons_zero, List.set_cons_succ]
                refine wpAnyH_take (i := 9) (v := ?_) rfl (by kernel_rfl) (by kernel_rfl) (by kernel_rfl) (fun _ _ _ h => h) (Or.inl ⟨by rfl, ?_⟩) (by assumption) ?_
                rotate_left
                · intro w hSw
                  go_simp
                  try with_reducible rfl
                try simp only [Act.put, List.setIfInBounds_toArray, List.set_cons_zero, List.set_cons_succ]
                refine wpAnyH_take (i := 10) (v := ?_) rfl (by kernel_rfl) (by kernel_rfl) (by kernel_rfl) (fun _ _ _ h => h) (Or.inl ⟨by rfl, ?_⟩) (by assumption) ?_
                rotate_left
                · intro w hSw
                  go_simp
                  try with_reducible rfl
                try simp only [Act.put, List.setIfInBounds_toArray, List.set_cons_zero, List.set_cons_succ]
                refine wpAnyH_take (i := 11) (v := ?_) rfl (by kernel_rfl) (by kernel_rfl) (by kernel_rfl) (fun _ _ _ h => h) (Or.inl ⟨by rfl, ?_⟩) (by assumption) ?_
                rotate_left
                · intro w hSw
                  go_simp
                  try with_reducible rfl
                try simp only [Act.put, List.setIfInBounds_toArray, List.set_cons_zero, List.set_cons_succ]
                exact Thmn _ _ _ st
              exact AllReadyH.nil
            simp only [Act.put, List.setIfInBounds_toArray, List.set_cons_zero, List.set_cons_succ] at Tmn
            refine wpAnyH_share 9 #[true, true, true, true, true, true, true, false, false, false, false, false, true, false, false, false, false] (fun a0 kh km => (Act.put (Act.put (Act.put (Act.put (Act.put (Act.put (Act.put (Act.put a0 (some 38) (.agg #[.int .i64 t, .int .i64 v, .int .i64 bt])) (some 39) (.agg #[.int .i64 r.base, .int .i64 r.term, .slice r.a r.n r.cap])) (some 40) (.int .i64 self)) (some 41) (.slice (some ⟨mb, moff, none⟩) n cap)) (some 42) (.int .i64 (k : Nat))) (some 43) (.pointer (some ⟨mb, moff + k * 14, none⟩))) (some 44) (.agg #[.int .i8 M.kind, .int .i64 M.frm, .int .i64 M.to, .int .i64 M.term, .int .i64 M.index, .int .i64 M.last, .int .i64 M.commit, .bool M.ok, M.ents, .int .i64 M.si, .int .i64 M.st, .int .u8 M.ss, M.sdata, M.data])) (some 10) (.pointer (some ⟨kh, 0, none⟩)))) (some (.cells #[.int .i64 0, .int .i64 0, .int .i64 0] 53 (0, 0))) none (W := W) ?_ (fun Tm => ?_)
            · intro vv kh km st
              have hHeld := st.b
              simp only [Act.put, List.setIfInBounds_toArray, List.set_cons_zero, List.set_cons_succ]
              refine wpAnyH_ready (rs := [7, 13]) (by kernel_rfl) (by simp) ?_
              refine AllReadyH.cons rfl (fun K hK => ?_) ?_
              · try simp only [List.getElem_toArray, List.getElem_cons_succ, List.getElem_cons_zero]
                go_simp
                refine (cY _ (RAt.below hrW.out st.b)).mono ?_
                rintro e v ⟨rfl, hb⟩
                try go_wp2_with fail
                have st := st.call hb
                refine hK.out _ _ st.b (fun hHeld => ?_)
                try simp only [Act.put, List.setIfInBounds_toArray, List.set_cons_zero, List.set_cons_succ]
                refine wpAnyH_take (i := 8) (v := ?_) rfl (by kernel_rfl) (by kernel_rfl) (by kernel_rfl) (fun _ _ _ h => h) (Or.inl ⟨by rfl, ?_⟩) (by assumption) ?_
                rotate_left
                · intro w hSw
                  go_simp
                  try with_reducible rfl
                try simp only [Act.put, List.setIfInBounds_toArray, List.set_cons_zero, List.set_cons_succ]
                refine wpAnyH_take (i := 9) (v := ?_) rfl (by kernel_rfl) (by kernel_rfl) (by kernel_rfl) (fun _ _ _ h => h) (Or.inl ⟨by rfl, ?_⟩) (by assumption) ?_
                rotate_left
                · intro w hSw
                  go_simp
                  try with_reducible rfl
                try simp only [Act.put, List.setIfInBounds_toArray, List.set_cons_zero, List.set_cons_succ]
                refine wpAnyH_take (i := 10) (v := ?_) rfl (by kernel_rfl) (by kernel_rfl) (by kernel_rfl) (fun _ _ _ h => h) (Or.inl ⟨by rfl, ?_⟩) (by assumption) ?_
                rotate_left
                · intro w hSw
                  go_simp
                  try with_reducible rfl
                try simp only [Act.put, List.setIfInBounds_toArray, List.set_cons_zero, List.set_cons_succ]
                refine wpAnyH_take (i := 11) (v := ?_) rfl (by kernel_rfl) (by kernel_rfl) (by kernel_rfl) (fun _ _ _ h => h) (Or.inl ⟨by rfl, ?_⟩) (by assumption) ?_
                rotate_left
                · intro w hSw
                  go_simp
                  try with_reducible rfl
                try simp only [Act.put, List.setIfInBounds_toArray, List.set_cons_zero, List.set_cons_succ]
                exact Thm _ _ _ st
              refine AllReadyH.cons rfl (fun K hK => ?_) ?_
              · try simp only [List.getElem_toArray, List.getElem_cons_succ, List.getElem_cons_zero]
                go_simp
                have st := st.allocM (.cells #[.int .i8 0, .int .i64 0, .int .i64 0, .int .i64 0, .int .i64 0, .int .i64 0, .int .i64 0, .bool false, .slice none 0 0, .int .i64 0, .int .i64 0, .int .u8 0, .slice none 0 0, .slice none 0 0] 61)
                refine hK.out _ _ st.b (fun hHeld => ?_)
                exact Tmn _ _ _ st
              exact AllReadyH.nil
            simp only [Act.put, List.setIfInBounds_toArray, List.set_cons_zero, List.set_cons_succ] at Tm
            refine wpAnyH_share 9 #[true, true, true, true, true, true, true, false, false, false, false, false, false, true, false, false, false] (fun a0 kh km => (Act.put (Act.put (Act.put (Act.put (Act.put (Act.put (Act.put (Act.put a0 (some 38) (.agg #[.int .i64 t, .int .i64 v, .int .i64 bt])) (some 39) (.agg #[.int .i64 r.base, .int .i64 r.term, .slice r.a r.n r.cap])) (some 40) (.int .i64 self)) (some 41) (.slice (some ⟨mb, moff, none⟩) n cap)) (some 42) (.int .i64 (k : Nat))) (some 43) (.pointer (some ⟨mb, moff + k * 14, none⟩))) (some 44) (.agg #[.int .i8 M.kind, .int .i64 M.frm, .int .i64 M.to, .int .i64 M.term, .int .i64 M.index, .int .i64 M.last, .int .i64 M.commit, .bool M.ok, M.ents, .int .i64 M.si, .int .i64 M.st, .int .u8 M.ss, M.sdata, M.data])) (some 11) (.pointer (some ⟨km, 0, none⟩)))) none (some (.cells #[.int .i8 0, .int .i64 0, .int .i64 0, .int .i64 0, .int .i64 0, .int .i64 0, .int .i64 0, .bool false, .slice none 0 0, .int .i64 0, .int .i64 0, .int .u8 0, .slice none 0 0, .slice none 0 0] 61 (0, 0))) (W := W) ?_ (fun Tn => ?_)
            · intro vv kh km st
              have hHeld := st.b
              simp only [Act.put, List.setIfInBounds_toArray, List.set_cons_zero, List.set_cons_succ]
              refine wpAnyH_ready (rs := [7, 12]) (by kernel_rfl) (by simp) ?_
              refine AllReadyH.cons rfl (fun K hK => ?_) ?_
              · try simp only [List.getElem_toArray, List.getElem_cons_succ, List.getElem_cons_zero]
                go_simp
                refine (cY _ (RAt.below hrW.out st.b)).mono ?_
                rintro e v ⟨rfl, hb⟩
                try go_wp2_with fail
                have st := st.call hb
                refine hK.out _ _ st.b (fun hHeld => ?_)
                try simp only [Act.put, List.setIfInBounds_toArray, List.set_cons_zero, List.set_cons_succ]
                refine wpAnyH_take (i := 8) (v := ?_) rfl (by kernel_rfl) (by kernel_rfl) (by kernel_rfl) (fun _ _ _ h => h) (Or.inl ⟨by rfl, ?_⟩) (by assumption) ?_
                rotate_left
                · intro w hSw
                  go_simp
                  try with_reducible rfl
                try simp only [Act.put, List.setIfInBounds_toArray, List.set_cons_zero, List.set_cons_succ]
                refine wpAnyH_take (i := 9) (v := ?_) rfl (by kernel_rfl) (by kernel_rfl) (by kernel_rfl) (fun _ _ _ h => h) (Or.inl ⟨by rfl, ?_⟩) (by assumption) ?_
                rotate_left
                · intro w hSw
                  go_simp
                  try with_reducible rfl
                try simp only [Act.put, List.setIfInBounds_toArray, List.set_cons_zero, List.set_cons_succ]
                refine wpAnyH_take (i := 10) (v := ?_) rfl (by kernel_rfl) (by kernel_rfl) (by kernel_rfl) (fun _ _ _ h => h) (Or.inl ⟨by rfl, ?_⟩) (by assumption) ?_
                rotate_left
                · intro w hSw
                  go_simp
                  try with_reducible rfl
                try simp only [Act.put, List.setIfInBounds_toArray, List.set_cons_zero, List.set_cons_succ]
                refine wpAnyH_take (i := 11) (v := ?_) rfl (by kernel_rfl) (by kernel_rfl) (by kernel_rfl) (fun _ _ _ h => h) (Or.inl ⟨by rfl, ?_⟩) (by assumption) ?_
                rotate_left
                · intro w hSw
                  go_simp
                  try with_reducible rfl
                try simp only [Act.put, List.setIfInBounds_toArray, List.set_cons_zero, List.set_cons_succ]
                exact Thn _ _ _ st
              refine AllReadyH.cons rfl (fun K hK => ?_) ?_
              · try simp only [List.getElem_toArray, List.getElem_cons_succ, List.getElem_cons_zero]
                go_simp
                have st := st.allocH (.cells #[.int .i64 0, .int .i64 0, .int .i64 0] 53)
                refine hK.out _ _ st.b (fun hHeld => ?_)
                exact Tmn _ _ _ st
              exact AllReadyH.nil
            simp only [Act.put, List.setIfInBounds_toArray, List.set_cons_zero, List.set_cons_succ] at Tn
            refine wpAnyH_take (i := 0) (v := ?_) rfl (by kernel_rfl) (by kernel_rfl) (by kernel_rfl) (fun _ _ _ h => h) (Or.inl ⟨by rfl, ?_⟩) (by assumption) ?_
            rotate_left
            · intro w hSw
              have l0 := (Below.cell hSw (p := ⟨w0.heap.size, 0, none⟩) (by simp only; omega)).trans x0
              have l1 := (Below.cell hSw (p := ⟨w0.heap.size, 1, none⟩) (by simp only; omega)).trans x1
              have l2 := (Below.cell hSw (p := ⟨w0.heap.size, 2, none⟩) (by simp only; omega)).trans x2
              go_simp
              try with_reducible rfl
            try simp only [Act.put, List.setIfInBounds_toArray, List.set_cons_zero, List.set_cons_succ]
            refine wpAnyH_take (i := 1) (v := ?_) rfl (by kernel_rfl) (by kernel_rfl) (by kernel_rfl) (fun _ _ _ h => h) (Or.inl ⟨by rfl, ?_⟩) (by assumption) ?_
            rotate_left
            · intro w hSw
              have l0 := (Below.cell hSw (p := ⟨w0.heap.size + 1, 0, none⟩) (by simp only; omega)).trans y0
              have l1 := (Below.cell hSw (p := ⟨w0.heap.size + 1, 1, none⟩) (by simp only; omega)).trans y1
              have l2 := (Below.cell hSw (p := ⟨w0.heap.size + 1, 2, none⟩) (by simp only; omega)).trans y2
              go_simp
              try with_reducible rfl
            try simp only [Act.put, List.setIfInBounds_toArray, List.set_cons_zero, List.set_cons_succ]
            refine wpAnyH_take (i := 2) (v := ?_) rfl (by kernel_rfl) (by kernel_rfl) (by kernel_rfl) (fun _ _ _ h => h) (Or.inl ⟨by rfl, ?_⟩) (by assumption) ?_
            rotate_left
            · intro w hSw
              go_simp
              try with_reducible rfl
            try simp only [Act.put, List.setIfInBounds_toArray, List.set_cons_zero, List.set_cons_succ]
            refine wpAnyH_take (i := 3) (v := ?_) rfl (by kernel_rfl) (by kernel_rfl) (by kernel_rfl) (fun _ _ _ h => h) (Or.inl ⟨by rfl, ?_⟩) (by assumption) ?_
            rotate_left
            · intro w hSw
              go_simp
              try with_reducible rfl
            try simp only [Act.put, List.setIfInBounds_toArray, List.set_cons_zero, List.set_cons_succ]
            refine wpAnyH_take (i := 4) (v := ?_) rfl (by kernel_rfl) (by kernel_rfl) (by kernel_rfl) (fun _ _ _ h => h) (Or.inl ⟨by rfl, ?_⟩) (by assumption) ?_
            rotate_left
            · intro w hSw
              go_simp
              try with_reducible rfl
            try simp only [Act.put, List.setIfInBounds_toArray, List.set_cons_zero, List.set_cons_succ]
            refine wpAnyH_take (i := 5) (v := ?_) rfl (by kernel_rfl) (by kernel_rfl) (by kernel_rfl) (fun _ _ _ h => h) (Or.inl ⟨by rfl, ?_⟩) (by assumption) ?_
            rotate_left
            · intro w hSw
              go_simp
              try with_reducible rfl
            try simp only [Act.put, List.setIfInBounds_toArray, List.set_cons_zero, List.set_cons_succ]
            refine wpAnyH_take (i := 6) (v := ?_) rfl (by kernel_rfl) (by kernel_rfl) (by kernel_rfl) (fun _ _ _ h => h) (Or.inl ⟨by rfl, ?_⟩) (by assumption) ?_
            rotate_left
            · intro w hSw
              have l0 := (Below.cell hSw (p := ⟨mb, moff + k * 14, none⟩) (by simp only; omega)).trans z0
              have l1 := (Below.cell hSw (p := ⟨mb, moff + k * 14 + 1, none⟩) (by simp only; omega)).trans z1
              have l2 := (Below.cell hSw (p := ⟨mb, moff + k * 14 + 2, none⟩) (by simp only; omega)).trans z2
              have l3 := (Below.cell hSw (p := ⟨mb, moff + k * 14 + 3, none⟩) (by simp only; omega)).trans z3
              have l4 := (Below.cell hSw (p := ⟨mb, moff + k * 14 + 4, none⟩) (by simp only; omega)).trans z4
              have l5 := (Below.cell hSw (p := ⟨mb, moff + k * 14 + 5, none⟩) (by simp only; omega)).trans z5
              have l6 := (Below.cell hSw (p := ⟨mb, moff + k * 14 + 6, none⟩) (by simp only; omega)).trans z6
              have l7 := (Below.cell hSw (p := ⟨mb, moff + k * 14 + 7, none⟩) (by simp only; omega)).trans z7
              have l8 := (Below.cell hSw (p := ⟨mb, moff + k * 14 + 8, none⟩) (by simp only; omega)).trans z8
              have l9 := (Below.cell hSw (p := ⟨mb, moff + k * 14 + 9, none⟩) (by simp only; omega)).trans z9
              have l10 := (Below.cell hSw (p := ⟨mb, moff + k * 14 + 10, none⟩) (by simp only; omega)).trans z10
              have l11 := (Below.cell hSw (p := ⟨mb, moff + k * 14 + 11, none⟩) (by simp only; omega)).trans z11
              have l12 := (Below.cell hSw (p := ⟨mb, moff + k * 14 + 12, none⟩) (by simp only; omega)).trans z12
              have l13 := (Below.cell hSw (p := ⟨mb, moff + k * 14 + 13, none⟩) (by simp only; omega)).trans z13
              go_simp
              try with_reducible rfl
            try simp only [Act.put, List.setIfInBounds_toArray, List.set_cons_zero, List.set_cons_succ]
            refine wpAnyH_ready (rs := [7, 12, 13]) (by kernel_rfl) (by simp) ?_
            refine AllReadyH.cons rfl (fun K hK => ?_) ?_
            · try simp only [List.getElem_toArray, List.getElem_cons_succ, List.getElem_cons_zero]
              go_simp
              refine (cY _ (RAt.below hrW.out st.b)).mono ?_
              rintro e v ⟨rfl, hb⟩
              try go_wp2_with fail
              have st := st.call hb
              refine hK.out _ _ st.b (fun hHeld => ?_)
              try simp only [Act.put, List.setIfInBounds_toArray, List.set_cons_zero, List.set_cons_succ]
              refine wpAnyH_take (i := 8) (v := ?_) rfl (by kernel_rfl) (by kernel_rfl) (by kernel_rfl) (fun _ _ _ h => h) (Or.inl ⟨by rfl, ?_⟩) (by assumption) ?_
              rotate_left
              · intro w hSw
                go_simp
                try with_reducible rfl
              try simp only [Act.put, List.setIfInBounds_toArray, List.set_cons_zero, List.set_cons_succ]
              refine wpAnyH_take (i := 9) (v := ?_) rfl (by kernel_rfl) (by kernel_rfl) (by kernel_rfl) (fun _ _ _ h => h) (Or.inl ⟨by rfl, ?_⟩) (by assumption) ?_
              rotate_left
              · intro w hSw
                go_simp
                try with_reducible rfl
              try simp only [Act.put, List.setIfInBounds_toArray, List.set_cons_zero, List.set_cons_succ]
              refine wpAnyH_take (i := 10) (v := ?_) rfl (by kernel_rfl) (by kernel_rfl) (by kernel_rfl) (fun _ _ _ h => h) (Or.inl ⟨by rfl, ?_⟩) (by assumption) ?_
              rotate_left
              · intro w hSw
                go_simp
                try with_reducible rfl
              try simp only [Act.put, List.setIfInBounds_toArray, List.set_cons_zero, List.set_cons_succ]
              refine wpAnyH_take (i := 11) (v := ?_) rfl (by kernel_rfl) (by kernel_rfl) (by kernel_rfl) (fun _ _ _ h => h) (Or.inl ⟨by rfl, ?_⟩) (by assumption) ?_
              rotate_left
              · intro w hSw
                go_simp
                try with_reducible rfl
              try simp only [Act.put, List.setIfInBounds_toArray, List.set_cons_zero, List.set_cons_succ]
              exact Th _ _ _ st
            refine AllReadyH.cons rfl (fun K hK => ?_) ?_
            · try simp only [List.getElem_toArray, List.getElem_cons_succ, List.getElem_cons_zero]
              go_simp
              have st := st.allocH (.cells #[.int .i64 0, .int .i64 0, .int .i64 0] 53)
              refine hK.out _ _ st.b (fun hHeld => ?_)
              exact Tm _ _ _ st
            refine AllReadyH.cons rfl (fun K hK => ?_) ?_
            · try simp only [List.getElem_toArray, List.getElem_cons_succ, List.getElem_cons_zero]
              go_simp
              have st := st.allocM (.cells #[.int .i8 0, .int .i64 0, .int .i64 0, .int .i64 0, .int .i64 0, .int .i64 0, .int .i64 0, .bool false, .slice none 0 0, .int .i64 0, .int .i64 0, .int .u8 0, .slice none 0 0, .slice none 0 0] 61)
              refine hK.out _ _ st.b (fun hHeld => ?_)
              exact Tn _ _ _ st
            exact AllReadyH.nil
        case rest =>
          obtain ⟨g, h, rfl, rfl, rfl, g0, g1, g2, h3, h7, hb⟩ := hcut
          have hl0 : w0.heap.size < W.heap.size := by omega
          have q0 := (Below.cell hb (p := ⟨w0.heap.size, 0, none⟩) (by simp only; omega)).trans x0
          have q1 := (Below.cell hb (p := ⟨w0.heap.size, 1, none⟩) (by simp only; omega)).trans x1
          have q2 := (Below.cell hb (p := ⟨w0.heap.size, 2, none⟩) (by simp only; omega)).trans x2
          have qf := fun o => (Below.frozen hb (p := ⟨w0.heap.size, o, none⟩) (by simp only; omega)).trans (xf o)
          have p0 := (Below.cell hb (p := ⟨w0.heap.size + 1, 0, none⟩) (by simp only; omega)).trans y0
          have p1 := (Below.cell hb (p := ⟨w0.heap.size + 1, 1, none⟩) (by simp only; omega)).trans y1
          have p2 := (Below.cell hb (p := ⟨w0.heap.size + 1, 2, none⟩) (by simp only; omega)).trans y2
          have m1 := (Below.cell hb (p := ⟨mb, moff + k * 14 + 1, none⟩) (by simp only; omega)).trans z1
          have m3 := (Below.cell hb (p := ⟨mb, moff + k * 14 + 3, none⟩) (by simp only; omega)).trans z3
          have hBc := belowNext hB hb (Nat.le_refl _)
          have hsc : w0.heap.size + 2 ≤ wc.heap.size := by have := hb.size; omega
          clear x0 x1 x2 y0 y1 y2 xf hb hB z0 z1 z2 z3 z4 z5 z6 z7 z8 z9 z10 z11 z12 z13
          clear cY HR HW HC hck hrW hMM hmb hcap hr3 ht0 hl0
          cases y with
          | false =>
            by_cases hT : T = t
            · by_cases hv : v = 0
              · clear o2 o3
                subst hT
                go_wp2_with fail
                rename_i K1 a1 K0 a0
                replace a1 := Lib.hid a1
                replace a0 := Lib.hid a0
                go_big_quiet (fail)
                replace a1 := a1.out
                replace a0 := a0.out
                replace q0 := show (World.cell? (wc.drewN nq) _) = _ by simpa using q0
                replace q1 := show (World.cell? (wc.drewN nq) _) = _ by simpa using q1
                replace q2 := show (World.cell? (wc.drewN nq) _) = _ by simpa using q2
                replace p0 := show (World.cell? (wc.drewN nq) _) = _ by simpa using p0
                replace p1 := show (World.cell? (wc.drewN nq) _) = _ by simpa using p1
                replace p2 := show (World.cell? (wc.drewN nq) _) = _ by simpa using p2
                replace qf := fun o => show (World.frozen? (wc.drewN nq) ⟨w0.heap.size, o, none⟩) = false by simpa using qf o
                replace g0 := show (World.cell? (wc.drewN nq) _) = _ by simpa using g0
                replace g1 := show (World.cell? (wc.drewN nq) _) = _ by simpa using g1
                replace g2 := show (World.cell? (wc.drewN nq) _) = _ by simpa using g2
                replace hBc := below_drewN hBc nq
                replace hsc : w0.heap.size + 2 ≤ (wc.drewN nq).heap.size := by simpa using hsc
                generalize wc.drewN nq = U at q0 q1 q2 p0 p1 p2 qf g0 g1 g2 hBc hsc ⊢
                clear h3 h7 m1 m3
                go_wp2
                go_roundw
                case rel => exact ⟨k + 1, _, _, by omega, by simp, by omega, ⟨(set3 _ _ _ q0 q1 q2).1, (set3 _ _ _ q0 q1 q2).2.1, (set3 _ _ _ q0 q1 q2).2.2⟩, fun o => by simp only [World.frozen?_setCell]; exact qf o, ⟨(World.cell?_setCell_other _ _ _ _ (by simp)).trans ((World.cell?_setCell_other _ _ _ _ (by simp)).trans ((World.cell?_setCell_other _ _ _ _ (by simp)).trans p0)), (World.cell?_setCell_other _ _ _ _ (by simp)).trans ((World.cell?_setCell_other _ _ _ _ (by simp)).trans ((World.cell?_setCell_other _ _ _ _ (by simp)).trans p1)), (World.cell?_setCell_other _ _ _ _ (by simp)).trans ((World.cell?_setCell_other _ _ _ _ (by simp)).trans ((World.cell?_setCell_other _ _ _ _ (by simp)).trans p2))⟩, ((hBc.setCell (p := ⟨w0.heap.size, 0, none⟩) (Nat.le_refl _) _).setCell (p := ⟨w0.heap.size, 1, none⟩) (Nat.le_refl _) _).setCell (p := ⟨w0.heap.size, 2, none⟩) (Nat.le_refl _) _, by simpa using hsc⟩
                case measure => simp [intOf]; omega
              · have hV := o2.out hT hv
                have hvb := bne_iff_ne.2 hv
                clear o2 o3
                subst hT
                subst hV
                go_wp2_with fail
                rename_i K1 a1 K0 a0
                replace a1 := Lib.hid a1
                replace a0 := Lib.hid a0
                go_big_quiet (fail)
                replace a1 := a1.out
                replace a0 := a0.out
                replace q0 := show (World.cell? (wc.drewN nq) _) = _ by simpa using q0
                replace q1 := show (World.cell? (wc.drewN nq) _) = _ by simpa using q1
                replace q2 := show (World.cell? (wc.drewN nq) _) = _ by simpa using q2
                replace p0 := show (World.cell? (wc.drewN nq) _) = _ by simpa using p0
                replace p1 := show (World.cell? (wc.drewN nq) _) = _ by simpa using p1
                replace p2 := show (World.cell? (wc.drewN nq) _) = _ by simpa using p2
                replace qf := fun o => show (World.frozen? (wc.drewN nq) ⟨w0.heap.size, o, none⟩) = false by simpa using qf o
                replace g0 := show (World.cell? (wc.drewN nq) _) = _ by simpa using g0
                replace g1 := show (World.cell? (wc.drewN nq) _) = _ by simpa using g1
                replace g2 := show (World.cell? (wc.drewN nq) _) = _ by simpa using g2
                replace hBc := below_drewN hBc nq
                replace hsc : w0.heap.size + 2 ≤ (wc.drewN nq).heap.size := by simpa using hsc
                generalize wc.drewN nq = U at q0 q1 q2 p0 p1 p2 qf g0 g1 g2 hBc hsc ⊢
                clear h3 h7 m1 m3
                go_wp2
                go_roundw
                case rel => exact ⟨k + 1, _, _, by omega, by simp, by omega, ⟨(set3 _ _ _ q0 q1 q2).1, (set3 _ _ _ q0 q1 q2).2.1, (set3 _ _ _ q0 q1 q2).2.2⟩, fun o => by simp only [World.frozen?_setCell]; exact qf o, ⟨(World.cell?_setCell_other _ _ _ _ (by simp)).trans ((World.cell?_setCell_other _ _ _ _ (by simp)).trans ((World.cell?_setCell_other _ _ _ _ (by simp)).trans p0)), (World.cell?_setCell_other _ _ _ _ (by simp)).trans ((World.cell?_setCell_other _ _ _ _ (by simp)).trans ((World.cell?_setCell_other _ _ _ _ (by simp)).trans p1)), (World.cell?_setCell_other _ _ _ _ (by simp)).trans ((World.cell?_setCell_other _ _ _ _ (by simp)).trans ((World.cell?_setCell_other _ _ _ _ (by simp)).trans p2))⟩, ((hBc.setCell (p := ⟨w0.heap.size, 0, none⟩) (Nat.le_refl _) _).setCell (p := ⟨w0.heap.size, 1, none⟩) (Nat.le_refl _) _).setCell (p := ⟨w0.heap.size, 2, none⟩) (Nat.le_refl _) _, by simpa using hsc⟩
                case measure => simp [intOf]; omega
            · have hTb := beq_eq_false_iff_ne.2 hT
              have hTl : ¬ T < t := by omega
              have hTd : decide (T < t) = false := decide_eq_false hTl
              clear o2 o3
              go_wp2_with fail
              rename_i K1 a1 K0 a0
              replace a1 := Lib.hid a1
              replace a0 := Lib.hid a0
              go_big_quiet (fail)
              replace a1 := a1.out
              replace a0 := a0.out
              replace q0 := show (World.cell? (wc.drewN nq) _) = _ by simpa using q0
              replace q1 := show (World.cell? (wc.drewN nq) _) = _ by simpa using q1
              replace q2 := show (World.cell? (wc.drewN nq) _) = _ by simpa using q2
              replace p0 := show (World.cell? (wc.drewN nq) _) = _ by simpa using p0
              replace p1 := show (World.cell? (wc.drewN nq) _) = _ by simpa using p1
              replace p2 := show (World.cell? (wc.drewN nq) _) = _ by simpa using p2
              replace qf := fun o => show (World.frozen? (wc.drewN nq) ⟨w0.heap.size, o, none⟩) = false by simpa using qf o
              replace g0 := show (World.cell? (wc.drewN nq) _) = _ by simpa using g0
              replace g1 := show (World.cell? (wc.drewN nq) _) = _ by simpa using g1
              replace g2 := show (World.cell? (wc.drewN nq) _) = _ by simpa using g2
              replace hBc := below_drewN hBc nq
              replace hsc : w0.heap.size + 2 ≤ (wc.drewN nq).heap.size := by simpa using hsc
              generalize wc.drewN nq = U at q0 q1 q2 p0 p1 p2 qf g0 g1 g2 hBc hsc ⊢
              clear h3 h7 m1 m3
              go_wp2
              go_roundw
              case rel => exact ⟨k + 1, _, _, by omega, by simp, by omega, ⟨(set3 _ _ _ q0 q1 q2).1, (set3 _ _ _ q0 q1 q2).2.1, (set3 _ _ _ q0 q1 q2).2.2⟩, fun o => by simp only [World.frozen?_setCell]; exact qf o, ⟨(World.cell?_setCell_other _ _ _ _ (by simp)).trans ((World.cell?_setCell_other _ _ _ _ (by simp)).trans ((World.cell?_setCell_other _ _ _ _ (by simp)).trans p0)), (World.cell?_setCell_other _ _ _ _ (by simp)).trans ((World.cell?_setCell_other _ _ _ _ (by simp)).trans ((World.cell?_setCell_other _ _ _ _ (by simp)).trans p1)), (World.cell?_setCell_other _ _ _ _ (by simp)).trans ((World.cell?_setCell_other _ _ _ _ (by simp)).trans ((World.cell?_setCell_other _ _ _ _ (by simp)).trans p2))⟩, ((hBc.setCell (p := ⟨w0.heap.size, 0, none⟩) (Nat.le_refl _) _).setCell (p := ⟨w0.heap.size, 1, none⟩) (Nat.le_refl _) _).setCell (p := ⟨w0.heap.size, 2, none⟩) (Nat.le_refl _) _, by simpa using hsc⟩
              case measure => simp [intOf]; omega
          | true =>
            obtain ⟨rfl, rfl⟩ := o3.out rfl
            by_cases hT : M.term = t
            · by_cases hv : v = 0
              · clear o2 o3
                subst hT
                go_wp2_with fail
                rename_i K1 a1 K0 a0
                replace a1 := Lib.hid a1
                replace a0 := Lib.hid a0
                go_big_quiet (fail)
                replace a1 := a1.out
                replace a0 := a0.out
                replace q0 := show (World.cell? (wc.drewN nq) _) = _ by simpa using q0
                replace q1 := show (World.cell? (wc.drewN nq) _) = _ by simpa using q1
                replace q2 := show (World.cell? (wc.drewN nq) _) = _ by simpa using q2
                replace p0 := show (World.cell? (wc.drewN nq) _) = _ by simpa using p0
                replace p1 := show (World.cell? (wc.drewN nq) _) = _ by simpa using p1
                replace p2 := show (World.cell? (wc.drewN nq) _) = _ by simpa using p2
                replace qf := fun o => show (World.frozen? (wc.drewN nq) ⟨w0.heap.size, o, none⟩) = false by simpa using qf o
                replace g0 := show (World.cell? (wc.drewN nq) _) = _ by simpa using g0
                replace g1 := show (World.cell? (wc.drewN nq) _) = _ by simpa using g1
                replace g2 := show (World.cell? (wc.drewN nq) _) = _ by simpa using g2
                replace hBc := below_drewN hBc nq
                replace hsc : w0.heap.size + 2 ≤ (wc.drewN nq).heap.size := by simpa using hsc
                generalize wc.drewN nq = U at q0 q1 q2 p0 p1 p2 qf g0 g1 g2 hBc hsc ⊢
                clear h3 h7 m1 m3
                go_wp2
                go_roundw
                case rel => exact ⟨k + 1, _, _, by omega, by simp, by omega, ⟨(set3 _ _ _ q0 q1 q2).1, (set3 _ _ _ q0 q1 q2).2.1, (set3 _ _ _ q0 q1 q2).2.2⟩, fun o => by simp only [World.frozen?_setCell]; exact qf o, ⟨(World.cell?_setCell_other _ _ _ _ (by simp)).trans ((World.cell?_setCell_other _ _ _ _ (by simp)).trans ((World.cell?_setCell_other _ _ _ _ (by simp)).trans p0)), (World.cell?_setCell_other _ _ _ _ (by simp)).trans ((World.cell?_setCell_other _ _ _ _ (by simp)).trans ((World.cell?_setCell_other _ _ _ _ (by simp)).trans p1)), (World.cell?_setCell_other _ _ _ _ (by simp)).trans ((World.cell?_setCell_other _ _ _ _ (by simp)).trans ((World.cell?_setCell_other _ _ _ _ (by simp)).trans p2))⟩, ((hBc.setCell (p := ⟨w0.heap.size, 0, none⟩) (Nat.le_refl _) _).setCell (p := ⟨w0.heap.size, 1, none⟩) (Nat.le_refl _) _).setCell (p := ⟨w0.heap.size, 2, none⟩) (Nat.le_refl _) _, by simpa using hsc⟩
                case measure => simp [intOf]; omega
              · have hV := o2.out hT hv
                have hvb := bne_iff_ne.2 hv
                clear o2 o3
                subst hT
                subst hV
                go_wp2_with fail
                rename_i K1 a1 K0 a0
                replace a1 := Lib.hid a1
                replace a0 := Lib.hid a0
                go_big_quiet (fail)
                replace a1 := a1.out
                replace a0 := a0.out
                replace q0 := show (World.cell? (wc.drewN nq) _) = _ by simpa using q0
                replace q1 := show (World.cell? (wc.drewN nq) _) = _ by simpa using q1
                replace q2 := show (World.cell? (wc.drewN nq) _) = _ by simpa using q2
                replace p0 := show (World.cell? (wc.drewN nq) _) = _ by simpa using p0
                replace p1 := show (World.cell? (wc.drewN nq) _) = _ by simpa using p1
                replace p2 := show (World.cell? (wc.drewN nq) _) = _ by simpa using p2
                replace qf := fun o => show (World.frozen? (wc.drewN nq) ⟨w0.heap.size, o, none⟩) = false by simpa using qf o
                replace g0 := show (World.cell? (wc.drewN nq) _) = _ by simpa using g0
                replace g1 := show (World.cell? (wc.drewN nq) _) = _ by simpa using g1
                replace g2 := show (World.cell? (wc.drewN nq) _) = _ by simpa using g2
                replace hBc := below_drewN hBc nq
                replace hsc : w0.heap.size + 2 ≤ (wc.drewN nq).heap.size := by simpa using hsc
                generalize wc.drewN nq = U at q0 q1 q2 p0 p1 p2 qf g0 g1 g2 hBc hsc ⊢
                clear h3 h7 m1 m3
                go_wp2
                go_roundw
                case rel => exact ⟨k + 1, _, _, by omega, by simp, by omega, ⟨(set3 _ _ _ q0 q1 q2).1, (set3 _ _ _ q0 q1 q2).2.1, (set3 _ _ _ q0 q1 q2).2.2⟩, fun o => by simp only [World.frozen?_setCell]; exact qf o, ⟨(World.cell?_setCell_other _ _ _ _ (by simp)).trans ((World.cell?_setCell_other _ _ _ _ (by simp)).trans ((World.cell?_setCell_other _ _ _ _ (by simp)).trans p0)), (World.cell?_setCell_other _ _ _ _ (by simp)).trans ((World.cell?_setCell_other _ _ _ _ (by simp)).trans ((World.cell?_setCell_other _ _ _ _ (by simp)).trans p1)), (World.cell?_setCell_other _ _ _ _ (by simp)).trans ((World.cell?_setCell_other _ _ _ _ (by simp)).trans ((World.cell?_setCell_other _ _ _ _ (by simp)).trans p2))⟩, ((hBc.setCell (p := ⟨w0.heap.size, 0, none⟩) (Nat.le_refl _) _).setCell (p := ⟨w0.heap.size, 1, none⟩) (Nat.le_refl _) _).setCell (p := ⟨w0.heap.size, 2, none⟩) (Nat.le_refl _) _, by simpa using hsc⟩
                case measure => simp [intOf]; omega
            · have hTb := beq_eq_false_iff_ne.2 hT
              have hTl : ¬ M.term < t := by omega
              have hTd : decide (M.term < t) = false := decide_eq_false hTl
              clear o2 o3
              go_wp2_with fail
              rename_i K1 a1 K0 a0
              replace a1 := Lib.hid a1
              replace a0 := Lib.hid a0
              go_big_quiet (fail)
              replace a1 := a1.out
              replace a0 := a0.out
              replace q0 := show (World.cell? (wc.drewN nq) _) = _ by simpa using q0
              replace q1 := show (World.cell? (wc.drewN nq) _) = _ by simpa using q1
              replace q2 := show (World.cell? (wc.drewN nq) _) = _ by simpa using q2
              replace p0 := show (World.cell? (wc.drewN nq) _) = _ by simpa using p0
              replace p1 := show (World.cell? (wc.drewN nq) _) = _ by simpa using p1
              replace p2 := show (World.cell? (wc.drewN nq) _) = _ by simpa using p2
              replace qf := fun o => show (World.frozen? (wc.drewN nq) ⟨w0.heap.size, o, none⟩) = false by simpa using qf o
              replace g0 := show (World.cell? (wc.drewN nq) _) = _ by simpa using g0
              replace g1 := show (World.cell? (wc.drewN nq) _) = _ by simpa using g1
              replace g2 := show (World.cell? (wc.drewN nq) _) = _ by simpa using g2
              replace hBc := below_drewN hBc nq
              replace hsc : w0.heap.size + 2 ≤ (wc.drewN nq).heap.size := by simpa using hsc
              generalize wc.drewN nq = U at q0 q1 q2 p0 p1 p2 qf g0 g1 g2 hBc hsc ⊢
              clear h3 h7 m1 m3
              go_wp2
              go_roundw
              case rel => exact ⟨k + 1, _, _, by omega, by simp, by omega, ⟨(set3 _ _ _ q0 q1 q2).1, (set3 _ _ _ q0 q1 q2).2.1, (set3 _ _ _ q0 q1 q2).2.2⟩, fun o => by simp only [World.frozen?_setCell]; exact qf o, ⟨(World.cell?_setCell_other _ _ _ _ (by simp)).trans ((World.cell?_setCell_other _ _ _ _ (by simp)).trans ((World.cell?_setCell_other _ _ _ _ (by simp)).trans p0)), (World.cell?_setCell_other _ _ _ _ (by simp)).trans ((World.cell?_setCell_other _ _ _ _ (by simp)).trans ((World.cell?_setCell_other _ _ _ _ (by simp)).trans p1)), (World.cell?_setCell_other _ _ _ _ (by simp)).trans ((World.cell?_setCell_other _ _ _ _ (by simp)).trans ((World.cell?_setCell_other _ _ _ _ (by simp)).trans p2))⟩, ((hBc.setCell (p := ⟨w0.heap.size, 0, none⟩) (Nat.le_refl _) _).setCell (p := ⟨w0.heap.size, 1, none⟩) (Nat.le_refl _) _).setCell (p := ⟨w0.heap.size, 2, none⟩) (Nat.le_refl _) _, by simpa using hsc⟩
              case measure => simp [intOf]; omega
      · have cN := fun u (hu : RAt u r) => answer_arg t v bt r self M u HW.out hu HC.out ha
        unfold R.val Msg.val zeroMsg at cN
        clear ha hM hms
        go_upto_region 6 with fail
        go_cut [10, 11, 12] (fun s10 s11 s12 wx => ∃ g h : Nat, s10 = .pointer (some ⟨g, 0, none⟩) ∧ s11 = .pointer (some ⟨h, 0, none⟩) ∧ s12 = .int .i64 2 ∧ Below W.heap.size W wx)
        case first =>
          refine wp_region_noPanic ?_
          refine wp_region_held_drew (S := fun u => Below W.heap.size W u) (by kernel_rfl) ((Below.refl _ _).drew) (fun hHeld => ?_)
          refine wpAnyH_start (n' := 17) (l' := #[false, false, false, false, false, false, false, false, false, false, false, false, false, false, false, false, false]) (by kernel_rfl) (by kernel_rfl) ?_
          have st : St W W.drew 0 0 none none := St.start 0 0
          generalize W.drew = vv at st hHeld ⊢
          refine wpAnyH_share 3 #[true, true, true, true, true, true, true, true, true, true, true, true, true, true, false, false, false] (fun a0 kh km => (Act.put (Act.put (Act.put (Act.put (Act.put (Act.put (Act.put (Act.put (Act.put (Act.put (Act.put (Act.put (Act.put (Act.put a0 (some 38) (.agg #[.int .i64 t, .int .i64 v, .int .i64 bt])) (some 39) (.agg #[.int .i64 r.base, .int .i64 r.term, .slice r.a r.n r.cap])) (some 40) (.int .i64 self)) (some 41) (.slice (some ⟨mb, moff, none⟩) n cap)) (some 42) (.int .i64 (k : Nat))) (some 43) (.pointer (some ⟨mb, moff + k * 14, none⟩))) (some 44) (.agg #[.int .i8 M.kind, .int .i64 M.frm, .int .i64 M.to, .int .i64 M.term, .int .i64 M.index, .int .i64 M.last, .int .i64 M.commit, .bool M.ok, M.ents, .int .i64 M.si, .int .i64 M.st, .int .u8 M.ss, M.sdata, M.data])) (some 45) (.tuple #[.agg #[.int .i64 0, .int .i64 0, .int .i64 0], .agg #[.int .i8 0, .int .i64 0, .int .i64 0, .int .i64 0, .int .i64 0, .int .i64 0, .int .i64 0, .bool false, .slice none 0 0, .int .i64 0, .int .i64 0, .int .u8 0, .slice none 0 0, .slice none 0 0], .int .i64 2])) (some 37) (.tuple #[.agg #[.int .i64 0, .int .i64 0, .int .i64 0], .agg #[.int .i8 0, .int .i64 0, .int .i64 0, .int .i64 0, .int .i64 0, .int .i64 0, .int .i64 0, .bool false, .slice none 0 0, .int .i64 0, .int .i64 0, .int .u8 0, .slice none 0 0, .slice none 0 0], .int .i64 2])) (some 46) (.agg #[.int .i64 0, .int .i64 0, .int .i64 0])) (some 47) (.agg #[.int .i8 0, .int .i64 0, .int .i64 0, .int .i64 0, .int .i64 0, .int .i64 0, .int .i64 0, .bool false, .slice none 0 0, .int .i64 0, .int .i64 0, .int .u8 0, .slice none 0 0, .slice none 0 0])) (some 48) (.int .i64 2)) (some 10) (.pointer (some ⟨kh, 0, none⟩))) (some 11) (.pointer (some ⟨km, 0, none⟩)))) (some (.cells #[.int .i64 0, .int .i64 0, .int .i64 0] 53 (0, 0))) (some (.cells #[.int .i8 0, .int .i64 0, .int .i64 0, .int .i64 0, .int .i64 0, .int .i64 0, .int .i64 0, .bool false, .slice none 0 0, .int .i64 0, .int .i64 0, .int .u8 0, .slice none 0 0, .slice none 0 0] 61 (0, 0))) (W := W) ?_ (fun Thmn => ?_)
          · intro vv kh km st
            have hHeld := st.b
            simp only [Act.put, List.setIfInBounds_toArray, List.set_cons_zero, List.set_cons_succ]
            refine wpAnyH_ready (rs := [14]) (by kernel_rfl) (by simp) ?_
            refine AllReadyH.cons rfl (fun K hK => ?_) AllReadyH.nil
            rw [if_pos (by rfl)]
            refine wp_store_row _ _ _ rfl _ _ rfl rfl _ _ (st.h _ rfl).2 (by kernel_rfl) rfl (by simp [Value.oneCell']) ?_
            have st := st.storeH (#[.int .i64 0, .int .i64 0, .int .i64 0])
            refine hK.out _ _ st.b (fun hHeld => ?_)
            clear hK K
            try simp only [Act.put, List.setIfInBounds_toArray, List.set_cons_zero, List.set_cons_succ]
            refine wpAnyH_ready (rs := [15]) (by kernel_rfl) (by simp) ?_
            refine AllReadyH.cons rfl (fun K hK => ?_) AllReadyH.nil
            rw [if_pos (by rfl)]
            refine wp_store_row _ _ _ rfl _ _ rfl rfl _ _ (st.m _ rfl).2 (by kernel_rfl) rfl (by simp [Value.oneCell']) ?_
            have st := st.storeM (#[.int .i8 0, .int .i64 0, .int .i64 0, .int .i64 0, .int .i64 0, .int .i64 0, .int .i64 0, .bool false, .slice none 0 0, .int .i64 0, .int .i64 0, .int .u8 0, .slice none 0 0, .slice none 0 0])
            refine hK.out _ _ st.b (fun hHeld => ?_)
            clear hK K
            try simp only [Act.put, List.setIfInBounds_toArray, List.set_cons_zero, List.set_cons_succ]
            refine wpAnyH_take (i := 16) (v := ?_) rfl (by kernel_rfl) (by kernel_rfl) (by kernel_rfl) (fun _ _ _ h => h) (Or.inl ⟨by rfl, ?_⟩) (by assumption) ?_
            rotate_left
            · intro w hSw
              go_simp
              try with_reducible rfl
            try simp only [Act.put, List.setIfInBounds_toArray, List.set_cons_zero, List.set_cons_succ]
            refine wpAnyH_done (by kernel_rfl) ?_ _
            try simp only [List.getElem_toArray, List.getElem_cons_succ, List.getElem_cons_zero]
            try simp only [Act.put, List.setIfInBounds_toArray, List.set_cons_zero, List.set_cons_succ]
            refine NoPanic.normal ?_
            go_wp2_with fail
            go_meet
            exact ⟨kh, km, rfl, rfl, rfl, st.b⟩
          simp only [Act.put, List.setIfInBounds_toArray, List.set_cons_zero, List.set_cons_succ] at Thmn
          refine wpAnyH_share 4 #[true, true, true, true, true, true, true, true, true, true, true, true, true, false, false, false, false] (fun a0 kh km => (Act.put (Act.put (Act.put (Act.put (Act.put (Act.put (Act.put (Act.put (Act.put (Act.put (Act.put (Act.put (Act.put a0 (some 38) (.agg #[.int .i64 t, .int .i64 v, .int .i64 bt])) (some 39) (.agg #[.int .i64 r.base, .int .i64 r.term, .slice r.a r.n r.cap])) (some 40) (.int .i64 self)) (some 41) (.slice (some ⟨mb, moff, none⟩) n cap)) (some 42) (.int .i64 (k : Nat))) (some 43) (.pointer (some ⟨mb, moff + k * 14, none⟩))) (some 44) (.agg #[.int .i8 M.kind, .int .i64 M.frm, .int .i64 M.to, .int .i64 M.term, .int .i64 M.index, .int .i64 M.last, .int .i64 M.commit, .bool M.ok, M.ents, .int .i64 M.si, .int .i64 M.st, .int .u8 M.ss, M.sdata, M.data])) (some 45) (.tuple #[.agg #[.int .i64 0, .int .i64 0, .int .i64 0], .agg #[.int .i8 0, .int .i64 0, .int .i64 0, .int .i64 0, .int .i64 0, .int .i64 0, .int .i64 0, .bool false, .slice none 0 0, .int .i64 0, .int .i64 0, .int .u8 0, .slice none 0 0, .slice none 0 0], .int .i64 2])) (some 37) (.tuple #[.agg #[.int .i64 0, .int .i64 0, .int .i64 0], .agg #[.int .i8 0, .int .i64 0, .int .i64 0, .int .i64 0, .int .i64 0, .int .i64 0, .int .i64 0, .bool false, .slice none 0 0, .int .i64 0, .int .i64 0, .int .u8 0, .slice none 0 0, .slice none 0 0], .int .i64 2])) (some 46) (.agg #[.int .i64 0, .int .i64 0, .int .i64 0])) (some 47) (.agg #[.int .i8 0, .int .i64 0, .int .i64 0, .int .i64 0, .int .i64 0, .int .i64 0, .int .i64 0, .bool false, .slice none 0 0, .int .i64 0, .int .i64 0, .int .u8 0, .slice none 0 0, .slice none 0 0])) (some 48) (.int .i64 2)) (some 10) (.pointer (some ⟨kh, 0, none⟩)))) (some (.cells #[.int .i64 0, .int .i64 0, .int .i64 0] 53 (0, 0))) none (W := W) ?_ (fun Thm => ?_)
          · intro vv kh km st
            have hHeld := st.b
            simp only [Act.put, List.setIfInBounds_toArray, List.set_cons_zero, List.set_cons_succ]
            refine wpAnyH_ready (rs := [13]) (by kernel_rfl) (by simp) ?_
            refine AllReadyH.cons rfl (fun K hK => ?_) ?_
            · try simp only [List.getElem_toArray, List.getElem_cons_succ, List.getElem_cons_zero]
              go_simp
              have st := st.allocM (.cells #[.int .i8 0, .int .i64 0, .int .i64 0, .int .i64 0, .int .i64 0, .int .i64 0, .int .i64 0, .bool false, .slice none 0 0, .int .i64 0, .int .i64 0, .int .u8 0, .slice none 0 0, .slice none 0 0] 61)
              refine hK.out _ _ st.b (fun hHeld => ?_)
              exact Thmn _ _ _ st
            exact AllReadyH.nil
          simp only [Act.put, List.setIfInBounds_toArray, List.set_cons_zero, List.set_cons_succ] at Thm
          refine wpAnyH_share 4 #[true, true, true, true, true, true, true, true, true, true, true, true, false, true, false, false, false] (fun a0 kh km => (Act.put (Act.put (Act.put (Act.put (Act.put (Act.put (Act.put (Act.put (Act.put (Act.put (Act.put (Act.put (Act.put a0 (some 38) (.agg #[.int .i64 t, .int .i64 v, .int .i64 bt])) (some 39) (.agg #[.int .i64 r.base, .int .i64 r.term, .slice r.a r.n r.cap])) (some 40) (.int .i64 self)) (some 41) (.slice (some ⟨mb, moff, none⟩) n cap)) (some 42) (.int .i64 (k : Nat))) (some 43) (.pointer (some ⟨mb, moff + k * 14, none⟩))) (some 44) (.agg #[.int .i8 M.kind, .int .i64 M.frm, .int .i64 M.to, .int .i64 M.term, .int .i64 M.index, .int .i64 M.last, .int .i64 M.commit, .bool M.ok, M.ents, .int .i64 M.si, .int .i64 M.st, .int .u8 M.ss, M.sdata, M.data])) (some 45) (.tuple #[.agg #[.int .i64 0, .int .i64 0, .int .i64 0], .agg #[.int .i8 0, .int .i64 0, .int .i64 0, .int .i64 0, .int .i64 0, .int .i64 0, .int .i64 0, .bool false, .slice none 0 0, .int .i64 0, .int .i64 0, .int .u8 0, .slice none 0 0, .slice none 0 0], .int .i64 2])) (some 37) (.tuple #[.agg #[.int .i64 0, .int .i64 0, .int .i64 0], .agg #[.int .i8 0, .int .i64 0, .int .i64 0, .int .i64 0, .int .i64 0, .int .i64 0, .int .i64 0, .bool false, .slice none 0 0, .int .i64 0, .int .i64 0, .int .u8 0, .slice none 0 0, .slice none 0 0], .int .i64 2])) (some 46) (.agg #[.int .i64 0, .int .i64 0, .int .i64 0])) (some 47) (.agg #[.int .i8 0, .int .i64 0, .int .i64 0, .int .i64 0, .int .i64 0, .int .i64 0, .int .i64 0, .bool false, .slice none 0 0, .int .i64 0, .int .i64 0, .int .u8 0, .slice none 0 0, .slice none 0 0])) (some 48) (.int .i64 2)) (some 11) (.pointer (some ⟨km, 0, none⟩)))) none (some (.cells #[.int .i8 0, .int .i64 0, .int .i64 0, .int .i64 0, .int .i64 0, .int .i64 0, .int .i64 0, .bool false, .slice none 0 0, .int .i64 0, .int .i64 0, .int .u8 0, .slice none 0 0, .slice none 0 0] 61 (0, 0))) (W := W) ?_ (fun Thn => ?_)
          · intro vv kh km st
            have hHeld := st.b
            simp only [Act.put, List.setIfInBounds_toArray, List.set_cons_zero, List.set_cons_succ]
            refine wpAnyH_ready (rs := [12]) (by kernel_rfl) (by simp) ?_
            refine AllReadyH.cons rfl (fun K hK => ?_) ?_
            · try simp only [List.getElem_toArray, List.getElem_cons_succ, List.getElem_cons_zero]
              go_simp
              have st := st.allocH (.cells #[.int .i64 0, .int .i64 0, .int .i64 0] 53)
              refine hK.out _ _ st.b (fun hHeld => ?_)
              exact Thmn _ _ _ st
            exact AllReadyH.nil
          simp only [Act.put, List.setIfInBounds_toArray, List.set_cons_zero, List.set_cons_succ] at Thn
          refine wpAnyH_share 5 #[true, true, true, true, true, true, true, true, true, true, true, true, false, false, false, false, false] (fun a0 kh km => (Act.put (Act.put (Act.put (Act.put (Act.put (Act.put (Act.put (Act.put (Act.put (Act.put (Act.put (Act.put a0 (some 38) (.agg #[.int .i64 t, .int .i64 v, .int .i64 bt])) (some 39) (.agg #[.int .i64 r.base, .int .i64 r.term, .slice r.a r.n r.cap])) (some 40) (.int .i64 self)) (some 41) (.slice (some ⟨mb, moff, none⟩) n cap)) (some 42) (.int .i64 (k : Nat))) (some 43) (.pointer (some ⟨mb, moff + k * 14, none⟩))) (some 44) (.agg #[.int .i8 M.kind, .int .i64 M.frm, .int .i64 M.to, .int .i64 M.term, .int .i64 M.index, .int .i64 M.last, .int .i64 M.commit, .bool M.ok, M.ents, .int .i64 M.si, .int .i64 M.st, .int .u8 M.ss, M.sdata, M.data])) (some 45) (.tuple #[.agg #[.int .i64 0, .int .i64 0, .int .i64 0], .agg #[.int .i8 0, .int .i64 0, .int .i64 0, .int .i64 0, .int .i64 0, .int .i64 0, .int .i64 0, .bool false, .slice none 0 0, .int .i64 0, .int .i64 0, .int .u8 0, .slice none 0 0, .slice none 0 0], .int .i64 2])) (some 37) (.tuple #[.agg #[.int .i64 0, .int .i64 0, .int .i64 0], .agg #[.int .i8 0, .int .i64 0, .int .i64 0, .int .i64 0, .int .i64 0, .int .i64 0, .int .i64 0, .bool false, .slice none 0 0, .int .i64 0, .int .i64 0, .int .u8 0, .slice none 0 0, .slice none 0 0], .int .i64 2])) (some 46) (.agg #[.int .i64 0, .int .i64 0, .int .i64 0])) (some 47) (.agg #[.int .i8 0, .int .i64 0, .int .i64 0, .int .i64 0, .int .i64 0, .int .i64 0, .int .i64 0, .bool false, .slice none 0 0, .int .i64 0, .int .i64 0, .int .u8 0, .slice none 0 0, .slice none 0 0])) (some 48) (.int .i64 2))) none none (W := W) ?_ (fun Th => ?_)
          · intro vv kh km st
            have hHeld := st.b
            simp only [Act.put, List.setIfInBounds_toArray, List.set_cons_zero, List.set_cons_succ]
            refine wpAnyH_ready (rs := [12, 13]) (by kernel_rfl) (by simp) ?_
            refine AllReadyH.cons rfl (fun K hK => ?_) ?_
            · try simp only [List.getElem_toArray, List.getElem_cons_succ, List.getElem_cons_zero]
              go_simp
              have st := st.allocH (.cells #[.int .i64 0, .int .i64 0, .int .i64 0] 53)
              refine hK.out _ _ st.b (fun hHeld => ?_)
              exact Thm _ _ _ st
            refine AllReadyH.cons rfl (fun K hK => ?_) ?_
            · try simp only [List.getElem_toArray, List.getElem_cons_succ, List.getElem_cons_zero]
              go_simp
              have st := st.allocM (.cells #[.int .i8 0, .int .i64 0, .int .i64 0, .int .i64 0, .int .i64 0, .int .i64 0, .int .i64 0, .bool false, .slice none 0 0, .int .i64 0, .int .i64 0, .int .u8 0, .slice none 0 0, .slice none 0 0] 61)
              refine hK.out _ _ st.b (fun hHeld => ?_)
              exact Thn _ _ _ st
            exact AllReadyH.nil
          simp only [Act.put, List.setIfInBounds_toArray, List.set_cons_zero, List.set_cons_succ] at Th
          refine wpAnyH_share 8 #[true, true, true, true, true, true, true, false, false, false, false, false, true, true, false, false, false] (fun a0 kh km => (Act.put (Act.put (Act.put (Act.put (Act.put (Act.put (Act.put (Act.put (Act.put a0 (some 38) (.agg #[.int .i64 t, .int .i64 v, .int .i64 bt])) (some 39) (.agg #[.int .i64 r.base, .int .i64 r.term, .slice r.a r.n r.cap])) (some 40) (.int .i64 self)) (some 41) (.slice (some ⟨mb, moff, none⟩) n cap)) (some 42) (.int .i64 (k : Nat))) (some 43) (.pointer (some ⟨mb, moff + k * 14, none⟩))) (some 44) (.agg #[.int .i8 M.kind, .int .i64 M.frm, .int .i64 M.to, .int .i64 M.term, .int .i64 M.index, .int .i64 M.last, .int .i64 M.commit, .bool M.ok, M.ents, .int .i64 M.si, .int .i64 M.st, .int .u8 M.ss, M.sdata, M.data])) (some 10) (.pointer (some ⟨kh, 0, none⟩))) (some 11) (.pointer (some ⟨km, 0, none⟩)))) (some (.cells #[.int .i64 0, .int .i64 0, .int .i64 0] 53 (0, 0))) (some (.cells #[.int .i8 0, .int .i64 0, .int .i64 0, .int .i64 0, .int .i64 0, .int .i64 0, .int .i64 0, .bool false, .slice none 0 0, .int .i64 0, .int .i64 0, .int .u8 0, .slice none 0 0, .slice none 0 0] 61 (0, 0))) (W := W) ?_ (fun Tmn => ?_)
          · intro vv kh km st
            have hHeld := st.b
            simp only [Act.put, List.setIfInBounds_toArray, List.set_cons_zero, List.set_cons_succ]
            refine wpAnyH_ready (rs := [7]) (by kernel_rfl) (by simp) ?_
            refine AllReadyH.cons rfl (fun K hK => ?_) ?_
            · try simp only [List.getElem_toArray, List.getElem_cons_succ, List.getElem_cons_zero]
              go_simp
              refine (cN _ (RAt.below hrW.out st.b)).mono ?_
              rintro e v ⟨rfl, hb⟩
              try go_wp2_with fail
              have st := st.call hb
              refine hK.out _ _ st.b (fun hHeld => ?_)
              try simp only [Act.put, List.setIfInBounds_toArray, List.set_cons_zero, List.set_cons_succ]
              refine wpAnyH_take (i := 8) (v := ?_) rfl (by kernel_rfl) (by kernel_rfl) (by kernel_rfl) (fun _ _ _ h => h) (Or.inl ⟨by rfl, ?_⟩) (by assumption) ?_
              rotate_left
              · intro w hSw
                go_simp
                try with_reducible rfl
              try simp only [Act.put, List.setIfInBounds_toArray, List.set_cons_zero, List.set_cons_succ]
              refine wpAnyH_take (i := 9) (v := ?_) rfl (by kernel_rfl) (by kernel_rfl) (by kernel_rfl) (fun _ _ _ h => h) (Or.inl ⟨by rfl, ?_⟩) (by assumption) ?_
              rotate_left
              · intro w hSw
                go_simp
                try with_reducible rfl
              try simp only [Act.put, List.setIfInBounds_toArray, List.set_cons_zero, List.set_cons_succ]
              refine wpAnyH_take (i := 10) (v := ?_) rfl (by kernel_rfl) (by kernel_rfl) (by kernel_rfl) (fun _ _ _ h => h) (Or.inl ⟨by rfl, ?_⟩) (by assumption) ?_
              rotate_left
              · intro w hSw
                go_simp
                try with_reducible rfl
              try simp only [Act.put, List.setIfInBounds_toArray, List.set_cons_zero, List.set_cons_succ]
              refine wpAnyH_take (i := 11) (v := ?_) rfl (by kernel_rfl) (by kernel_rfl) (by kernel_rfl) (fun _ _ _ h => h) (Or.inl ⟨by rfl, ?_⟩) (by assumption) ?_
              rotate_left
              · intro w hSw
                go_simp
                try with_reducible rfl
              try simp only [Act.put, List.setIfInBounds_toArray, List.set_cons_zero, List.set_cons_succ]
              exact Thmn _ _ _ st
            exact AllReadyH.nil
          simp only [Act.put, List.setIfInBounds_toArray, List.set_cons_zero, List.set_cons_succ] at Tmn
          refine wpAnyH_share 9 #[true, true, true, true, true, true, true, false, false, false, false, false, true, false, false, false, false] (fun a0 kh km => (Act.put (Act.put (Act.put (Act.put (Act.put (Act.put (Act.put (Act.put a0 (some 38) (.agg #[.int .i64 t, .int .i64 v, .int .i64 bt])) (some 39) (.agg #[.int .i64 r.base, .int .i64 r.term, .slice r.a r.n r.cap])) (some 40) (.int .i64 self)) (some 41) (.slice (some ⟨mb, moff, none⟩) n cap)) (some 42) (.int .i64 (k : Nat))) (some 43) (.pointer (some ⟨mb, moff + k * 14, none⟩))) (some 44) (.agg #[.int .i8 M.kind, .int .i64 M.frm, .int .i64 M.to, .int .i64 M.term, .int .i64 M.index, .int .i64 M.last, .int .i64 M.commit, .bool M.ok, M.ents, .int .i64 M.si, .int .i64 M.st, .int .u8 M.ss, M.sdata, M.data])) (some 10) (.pointer (some ⟨kh, 0, none⟩)))) (some (.cells #[.int .i64 0, .int .i64 0, .int .i64 0] 53 (0, 0))) none (W := W) ?_ (fun Tm => ?_)
          · intro vv kh km st
            have hHeld := st.b
            simp only [Act.put, List.setIfInBounds_toArray, List.set_cons_zero, List.set_cons_succ]
            refine wpAnyH_ready (rs := [7, 13]) (by kernel_rfl) (by simp) ?_
            refine AllReadyH.cons rfl (fun K hK => ?_) ?_
            · try simp only [List.getElem_toArray, List.getElem_cons_succ, List.getElem_cons_zero]
              go_simp
              refine (cN _ (RAt.below hrW.out st.b)).mono ?_
              rintro e v ⟨rfl, hb⟩
              try go_wp2_with fail
              have st := st.call hb
              refine hK.out _ _ st.b (fun hHeld => ?_)
              try simp only [Act.put, List.setIfInBounds_toArray, List.set_cons_zero, List.set_cons_succ]
              refine wpAnyH_take (i := 8) (v := ?_) rfl (by kernel_rfl) (by kernel_rfl) (by kernel_rfl) (fun _ _ _ h => h) (Or.inl ⟨by rfl, ?_⟩) (by assumption) ?_
              rotate_left
              · intro w hSw
                go_simp
                try with_reducible rfl
              try simp only [Act.put, List.setIfInBounds_toArray, List.set_cons_zero, List.set_cons_succ]
              refine wpAnyH_take (i := 9) (v := ?_) rfl (by kernel_rfl) (by kernel_rfl) (by kernel_rfl) (fun _ _ _ h => h) (Or.inl ⟨by rfl, ?_⟩) (by assumption) ?_
              rotate_left
              · intro w hSw
                go_simp
                try with_reducible rfl
              try simp only [Act.put, List.setIfInBounds_toArray, List.set_cons_zero, List.set_cons_succ]
              refine wpAnyH_take (i := 10) (v := ?_) rfl (by kernel_rfl) (by kernel_rfl) (by kernel_rfl) (fun _ _ _ h => h) (Or.inl ⟨by rfl, ?_⟩) (by assumption) ?_
              rotate_left
              · intro w hSw
                go_simp
                try with_reducible rfl
              try simp only [Act.put, List.setIfInBounds_toArray, List.set_cons_zero, List.set_cons_succ]
              refine wpAnyH_take (i := 11) (v := ?_) rfl (by kernel_rfl) (by kernel_rfl) (by kernel_rfl) (fun _ _ _ h => h) (Or.inl ⟨by rfl, ?_⟩) (by assumption) ?_
              rotate_left
              · intro w hSw
                go_simp
                try with_reducible rfl
              try simp only [Act.put, List.setIfInBounds_toArray, List.set_cons_zero, List.set_cons_succ]
              exact Thm _ _ _ st
            refine AllReadyH.cons rfl (fun K hK => ?_) ?_
            · try simp only [List.getElem_toArray, List.getElem_cons_succ, List.getElem_cons_zero]
              go_simp
              have st := st.allocM (.cells #[.int .i8 0, .int .i64 0, .int .i64 0, .int .i64 0, .int .i64 0, .int .i64 0, .int .i64 0, .bool false, .slice none 0 0, .int .i64 0, .int .i64 0, .int .u8 0, .slice none 0 0, .slice none 0 0] 61)
              refine hK.out _ _ st.b (fun hHeld => ?_)
              exact Tmn _ _ _ st
            exact AllReadyH.nil
          simp only [Act.put, List.setIfInBounds_toArray, List.set_cons_zero, List.set_cons_succ] at Tm
          refine wpAnyH_share 9 #[true, true, true, true, true, true, true, false, false, false, false, false, false, true, false, false, false] (fun a0 kh km => (Act.put (Act.put (Act.put (Act.put (Act.put (Act.put (Act.put (Act.put a0 (some 38) (.agg #[.int .i64 t, .int .i64 v, .int .i64 bt])) (some 39) (.agg #[.int .i64 r.base, .int .i64 r.term, .slice r.a r.n r.cap])) (some 40) (.int .i64 self)) (some 41) (.slice (some ⟨mb, moff, none⟩) n cap)) (some 42) (.int .i64 (k : Nat))) (some 43) (.pointer (some ⟨mb, moff + k * 14, none⟩))) (some 44) (.agg #[.int .i8 M.kind, .int .i64 M.frm, .int .i64 M.to, .int .i64 M.term, .int .i64 M.index, .int .i64 M.last, .int .i64 M.commit, .bool M.ok, M.ents, .int .i64 M.si, .int .i64 M.st, .int .u8 M.ss, M.sdata, M.data])) (some 11) (.pointer (some ⟨km, 0, none⟩)))) none (some (.cells #[.int .i8 0, .int .i64 0, .int .i64 0, .int .i64 0, .int .i64 0, .int .i64 0, .int .i64 0, .bool false, .slice none 0 0, .int .i64 0, .int .i64 0, .int .u8 0, .slice none 0 0, .slice none 0 0] 61 (0, 0))) (W := W) ?_ (fun Tn => ?_)
          · intro vv kh km st
            have hHeld := st.b
            simp only [Act.put, List.setIfInBounds_toArray, List.set_cons_zero, List.set_cons_succ]
            refine wpAnyH_ready (rs := [7, 12]) (by kernel_rfl) (by simp) ?_
            refine AllReadyH.cons rfl (fun K hK => ?_) ?_
            · try simp only [List.getElem_toArray, List.getElem_cons_succ, List.getElem_cons_zero]
              go_simp
              refine (cN _ (RAt.below hrW.out st.b)).mono ?_
              rintro e v ⟨rfl, hb⟩
              try go_wp2_with fail
              have st := st.call hb
              refine hK.out _ _ st.b (fun hHeld => ?_)
              try simp only [Act.put, List.setIfInBounds_toArray, List.set_cons_zero, List.set_cons_succ]
              refine wpAnyH_take (i := 8) (v := ?_) rfl (by kernel_rfl) (by kernel_rfl) (by kernel_rfl) (fun _ _ _ h => h) (Or.inl ⟨by rfl, ?_⟩) (by assumption) ?_
              rotate_left
              · intro w hSw
                go_simp
                try with_reducible rfl
              try simp only [Act.put, List.setIfInBounds_toArray, List.set_cons_zero, List.set_cons_succ]
              refine wpAnyH_take (i := 9) (v := ?_) rfl (by kernel_rfl) (by kernel_rfl) (by kernel_rfl) (fun _ _ _ h => h) (Or.inl ⟨by rfl, ?_⟩) (by assumption) ?_
              rotate_left
              · intro w hSw
                go_simp
                try with_reducible rfl
              try simp only [Act.put, List.setIfInBounds_toArray, List.set_cons_zero, List.set_cons_succ]
              refine wpAnyH_take (i := 10) (v := ?_) rfl (by kernel_rfl) (by kernel_rfl) (by kernel_rfl) (fun _ _ _ h => h) (Or.inl ⟨by rfl, ?_⟩) (by assumption) ?_
              rotate_left
              · intro w hSw
                go_simp
                try with_reducible rfl
              try simp only [Act.put, List.setIfInBounds_toArray, List.set_cons_zero, List.set_cons_succ]
              refine wpAnyH_take (i := 11) (v := ?_) rfl (by kernel_rfl) (by kernel_rfl) (by kernel_rfl) (fun _ _ _ h => h) (Or.inl ⟨by rfl, ?_⟩) (by assumption) ?_
              rotate_left
              · intro w hSw
                go_simp
                try with_reducible rfl
              try simp only [Act.put, List.setIfInBounds_toArray, List.set_cons_zero, List.set_cons_succ]
              exact Thn _ _ _ st
            refine AllReadyH.cons rfl (fun K hK => ?_) ?_
            · try simp only [List.getElem_toArray, List.getElem_cons_succ, List.getElem_cons_zero]
              go_simp
              have st := st.allocH (.cells #[.int .i64 0, .int .i64 0, .int .i64 0] 53)
              refine hK.out _ _ st.b (fun hHeld => ?_)
              exact Tmn _ _ _ st
            exact AllReadyH.nil
          simp only [Act.put, List.setIfInBounds_toArray, List.set_cons_zero, List.set_cons_succ] at Tn
          refine wpAnyH_take (i := 0) (v := ?_) rfl (by kernel_rfl) (by kernel_rfl) (by kernel_rfl) (fun _ _ _ h => h) (Or.inl ⟨by rfl, ?_⟩) (by assumption) ?_
          rotate_left
          · intro w hSw
            have l0 := (Below.cell hSw (p := ⟨w0.heap.size, 0, none⟩) (by simp only; omega)).trans x0
            have l1 := (Below.cell hSw (p := ⟨w0.heap.size, 1, none⟩) (by simp only; omega)).trans x1
            have l2 := (Below.cell hSw (p := ⟨w0.heap.size, 2, none⟩) (by simp only; omega)).trans x2
            go_simp
            try with_reducible rfl
          try simp only [Act.put, List.setIfInBounds_toArray, List.set_cons_zero, List.set_cons_succ]
          refine wpAnyH_take (i := 1) (v := ?_) rfl (by kernel_rfl) (by kernel_rfl) (by kernel_rfl) (fun _ _ _ h => h) (Or.inl ⟨by rfl, ?_⟩) (by assumption) ?_
          rotate_left
          · intro w hSw
            have l0 := (Below.cell hSw (p := ⟨w0.heap.size + 1, 0, none⟩) (by simp only; omega)).trans y0
            have l1 := (Below.cell hSw (p := ⟨w0.heap.size + 1, 1, none⟩) (by simp only; omega)).trans y1
            have l2 := (Below.cell hSw (p := ⟨w0.heap.size + 1, 2, none⟩) (by simp only; omega)).trans y2
            go_simp
            try with_reducible rfl
          try simp only [Act.put, List.setIfInBounds_toArray, List.set_cons_zero, List.set_cons_succ]
          refine wpAnyH_take (i := 2) (v := ?_) rfl (by kernel_rfl) (by kernel_rfl) (by kernel_rfl) (fun _ _ _ h => h) (Or.inl ⟨by rfl, ?_⟩) (by assumption) ?_
          rotate_left
          · intro w hSw
            go_simp
            try with_reducible rfl
          try simp only [Act.put, List.setIfInBounds_toArray, List.set_cons_zero, List.set_cons_succ]
          refine wpAnyH_take (i := 3) (v := ?_) rfl (by kernel_rfl) (by kernel_rfl) (by kernel_rfl) (fun _ _ _ h => h) (Or.inl ⟨by rfl, ?_⟩) (by assumption) ?_
          rotate_left
          · intro w hSw
            go_simp
            try with_reducible rfl
          try simp only [Act.put, List.setIfInBounds_toArray, List.set_cons_zero, List.set_cons_succ]
          refine wpAnyH_take (i := 4) (v := ?_) rfl (by kernel_rfl) (by kernel_rfl) (by kernel_rfl) (fun _ _ _ h => h) (Or.inl ⟨by rfl, ?_⟩) (by assumption) ?_
          rotate_left
          · intro w hSw
            go_simp
            try with_reducible rfl
          try simp only [Act.put, List.setIfInBounds_toArray, List.set_cons_zero, List.set_cons_succ]
          refine wpAnyH_take (i := 5) (v := ?_) rfl (by kernel_rfl) (by kernel_rfl) (by kernel_rfl) (fun _ _ _ h => h) (Or.inl ⟨by rfl, ?_⟩) (by assumption) ?_
          rotate_left
          · intro w hSw
            go_simp
            try with_reducible rfl
          try simp only [Act.put, List.setIfInBounds_toArray, List.set_cons_zero, List.set_cons_succ]
          refine wpAnyH_take (i := 6) (v := ?_) rfl (by kernel_rfl) (by kernel_rfl) (by kernel_rfl) (fun _ _ _ h => h) (Or.inl ⟨by rfl, ?_⟩) (by assumption) ?_
          rotate_left
          · intro w hSw
            have l0 := (Below.cell hSw (p := ⟨mb, moff + k * 14, none⟩) (by simp only; omega)).trans z0
            have l1 := (Below.cell hSw (p := ⟨mb, moff + k * 14 + 1, none⟩) (by simp only; omega)).trans z1
            have l2 := (Below.cell hSw (p := ⟨mb, moff + k * 14 + 2, none⟩) (by simp only; omega)).trans z2
            have l3 := (Below.cell hSw (p := ⟨mb, moff + k * 14 + 3, none⟩) (by simp only; omega)).trans z3
            have l4 := (Below.cell hSw (p := ⟨mb, moff + k * 14 + 4, none⟩) (by simp only; omega)).trans z4
            have l5 := (Below.cell hSw (p := ⟨mb, moff + k * 14 + 5, none⟩) (by simp only; omega)).trans z5
            have l6 := (Below.cell hSw (p := ⟨mb, moff + k * 14 + 6, none⟩) (by simp only; omega)).trans z6
            have l7 := (Below.cell hSw (p := ⟨mb, moff + k * 14 + 7, none⟩) (by simp only; omega)).trans z7
            have l8 := (Below.cell hSw (p := ⟨mb, moff + k * 14 + 8, none⟩) (by simp only; omega)).trans z8
            have l9 := (Below.cell hSw (p := ⟨mb, moff + k * 14 + 9, none⟩) (by simp only; omega)).trans z9
            have l10 := (Below.cell hSw (p := ⟨mb, moff + k * 14 + 10, none⟩) (by simp only; omega)).trans z10
            have l11 := (Below.cell hSw (p := ⟨mb, moff + k * 14 + 11, none⟩) (by simp only; omega)).trans z11
            have l12 := (Below.cell hSw (p := ⟨mb, moff + k * 14 + 12, none⟩) (by simp only; omega)).trans z12
            have l13 := (Below.cell hSw (p := ⟨mb, moff + k * 14 + 13, none⟩) (by simp only; omega)).trans z13
            go_simp
            try with_reducible rfl
          try simp only [Act.put, List.setIfInBounds_toArray, List.set_cons_zero, List.set_cons_succ]
          refine wpAnyH_ready (rs := [7, 12, 13]) (by kernel_rfl) (by simp) ?_
          refine AllReadyH.cons rfl (fun K hK => ?_) ?_
          · try simp only [List.getElem_toArray, List.getElem_cons_succ, List.getElem_cons_zero]
            go_simp
            refine (cN _ (RAt.below hrW.out st.b)).mono ?_
            rintro e v ⟨rfl, hb⟩
            try go_wp2_with fail
            have st := st.call hb
            refine hK.out _ _ st.b (fun hHeld => ?_)
            try simp only [Act.put, List.setIfInBounds_toArray, List.set_cons_zero, List.set_cons_succ]
            refine wpAnyH_take (i := 8) (v := ?_) rfl (by kernel_rfl) (by kernel_rfl) (by kernel_rfl) (fun _ _ _ h => h) (Or.inl ⟨by rfl, ?_⟩) (by assumption) ?_
            rotate_left
            · intro w hSw
              go_simp
              try with_reducible rfl
            try simp only [Act.put, List.setIfInBounds_toArray, List.set_cons_zero, List.set_cons_succ]
            refine wpAnyH_take (i := 9) (v := ?_) rfl (by kernel_rfl) (by kernel_rfl) (by kernel_rfl) (fun _ _ _ h => h) (Or.inl ⟨by rfl, ?_⟩) (by assumption) ?_
            rotate_left
            · intro w hSw
              go_simp
              try with_reducible rfl
            try simp only [Act.put, List.setIfInBounds_toArray, List.set_cons_zero, List.set_cons_succ]
            refine wpAnyH_take (i := 10) (v := ?_) rfl (by kernel_rfl) (by kernel_rfl) (by kernel_rfl) (fun _ _ _ h => h) (Or.inl ⟨by rfl, ?_⟩) (by assumption) ?_
            rotate_left
            · intro w hSw
              go_simp
              try with_reducible rfl
            try simp only [Act.put, List.setIfInBounds_toArray, List.set_cons_zero, List.set_cons_succ]
            refine wpAnyH_take (i := 11) (v := ?_) rfl (by kernel_rfl) (by kernel_rfl) (by kernel_rfl) (fun _ _ _ h => h) (Or.inl ⟨by rfl, ?_⟩) (by assumption) ?_
            rotate_left
            · intro w hSw
              go_simp
              try with_reducible rfl
            try simp only [Act.put, List.setIfInBounds_toArray, List.set_cons_zero, List.set_cons_succ]
            exact Th _ _ _ st
          refine AllReadyH.cons rfl (fun K hK => ?_) ?_
          · try simp only [List.getElem_toArray, List.getElem_cons_succ, List.getElem_cons_zero]
            go_simp
            have st := st.allocH (.cells #[.int .i64 0, .int .i64 0, .int .i64 0] 53)
            refine hK.out _ _ st.b (fun hHeld => ?_)
            exact Tm _ _ _ st
          refine AllReadyH.cons rfl (fun K hK => ?_) ?_
          · try simp only [List.getElem_toArray, List.getElem_cons_succ, List.getElem_cons_zero]
            go_simp
            have st := st.allocM (.cells #[.int .i8 0, .int .i64 0, .int .i64 0, .int .i64 0, .int .i64 0, .int .i64 0, .int .i64 0, .bool false, .slice none 0 0, .int .i64 0, .int .i64 0, .int .u8 0, .slice none 0 0, .slice none 0 0] 61)
            refine hK.out _ _ st.b (fun hHeld => ?_)
            exact Tn _ _ _ st
          exact AllReadyH.nil
        case rest =>
          obtain ⟨g, h, rfl, rfl, rfl, hb⟩ := hcut
          have hl0 : w0.heap.size < W.heap.size := by omega
          have q0 := (Below.cell hb (p := ⟨w0.heap.size, 0, none⟩) (by simp only; omega)).trans x0
          have q1 := (Below.cell hb (p := ⟨w0.heap.size, 1, none⟩) (by simp only; omega)).trans x1
          have q2 := (Below.cell hb (p := ⟨w0.heap.size, 2, none⟩) (by simp only; omega)).trans x2
          have qf := fun o => (Below.frozen hb (p := ⟨w0.heap.size, o, none⟩) (by simp only; omega)).trans (xf o)
          have p0 := (Below.cell hb (p := ⟨w0.heap.size + 1, 0, none⟩) (by simp only; omega)).trans y0
          have p1 := (Below.cell hb (p := ⟨w0.heap.size + 1, 1, none⟩) (by simp only; omega)).trans y1
          have p2 := (Below.cell hb (p := ⟨w0.heap.size + 1, 2, none⟩) (by simp only; omega)).trans y2
          have hBc := belowNext hB hb (Nat.le_refl _)
          have hsc : w0.heap.size + 2 ≤ wc.heap.size := by have := hb.size; omega
          go_wp2
          go_roundw
          case rel => exact ⟨k + 1, t, v, by omega, by simp, ht, ⟨q0, q1, q2⟩, qf, ⟨p0, p1, p2⟩, hBc, hsc⟩
          case measure => simp [intOf]; omega
    · obtain rfl : k = n := by omega
      go_wp2_with fail
      refine (wakes10_c _).mono ?_
      rintro e w5 ⟨rfl, hb5⟩
      go_wp2
      go_ret
      exact ⟨rfl, belowNext hB hb5 (Nat.le_refl _)⟩
end Go.Proofs.Ythahlfabcjnkhaa

