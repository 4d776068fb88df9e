/- Leases: what is found and taken out of a row of one. -/
import Derived.Test.YtldknmcnmhdgfaaG1
namespace Go.Proofs.Ytldknmcnmhdgfaa
open Go.ChangeShapes Go.WideShapes Go.ChangeAt Go.RowKit
set_option linter.unusedVariables false
set_option linter.unusedSimpArgs false
open BigFrame Bs Ag

namespace Ag
def WipeP (q c : Nat) (w : World) (e : Ending) (w' : World) : Prop := ∃ wr v, e = .returned (.slice (some ⟨q, 0, none⟩) 0 c) ∧ Below w.heap.size w wr ∧ w' = wr.setCell ⟨q, 0, none⟩ v
end Ag

set_option maxRecDepth 100000 in
set_option maxHeartbeats 4000000 in
theorem of1_c {w : World} {g : Nat} {x : Ls} (h : Blk w g (lsC x)) {tb : Nat} (hc : w.cell? ⟨tb, 0, none⟩ = some (.int .i64 x.ten)) :
    Calls Try.prog 30 #[.pointer (some ⟨g, 0, none⟩), .pointer (some ⟨tb, 0, none⟩)] w fun e w' => e = .returned (.bool false) ∧ Below w.heap.size w w' := by
  have c2 := h.c 1 _ rfl
  clear h
  go_enter Try.func30, Try.ntmps30
  go_upto_region 1 with fail
  go_quiet (fail)
  go_wp2_with fail
  go_ret
  exact ⟨by go_simp, bDrew (Below.refl _ _) _⟩

set_option maxRecDepth 100000 in
set_option maxHeartbeats 4000000 in
theorem rep1_c {m : Nat → Prop} {w : World} {a : Nat} {A : St} {q g c : Nat} {x : Ls} (h : AgL m w a A q g c x) :
    Calls Try.prog 25 #[.pointer (some ⟨g, 0, none⟩)] w fun e w' => e = .returned (.bool (decide (x.left = 0))) ∧ Below w.heap.size w w' := by
  have c2 := h.x.c 2 _ rfl
  clear h
  go_enter Try.func25, Try.ntmps25
  go_wp2_with fail
  go_ret
  refine ⟨?_, Below.refl _ _⟩
  by_cases e : x.left = 0 <;> simp [e]

set_option maxRecDepth 100000 in
set_option maxHeartbeats 4000000 in
theorem idx_dead_yes {m : Nat → Prop} {w : World} {a : Nat} {A : St} {q g c : Nat} {x : Ls} (h : AgL m w a A q g c x) (hy : x.til ≤ A.no) :
    Calls Try.prog 28 #[.slice (some ⟨q, 0, none⟩) 1 c, .func (.func 27) #[.pointer (some ⟨a, 0, none⟩)] #[]] w fun e w' => e = .returned (.int .i64 0) ∧ Below w.heap.size w w' := by
  have hd := dead_c h
  rw [show decide (x.til ≤ A.no) = true by simp [hy]] at hd
  replace hd := Lib.hid hd
  have c0 := h.r.c 0 _ rfl
  clear h hy
  go_enter Try.func28, Try.ntmps28
  go_wp2_with fail
  go_loop [8] (fun s8 => s8 = .int .i64 0) (fun _ => 0)
  case atStart => rfl
  case round =>
    obtain rfl := hrel
    go_wp2_with fail
    refine hd.out.mono ?_
    rintro e w' ⟨rfl, hB⟩
    go_wp2_with fail
    go_ret
    exact ⟨rfl, hB⟩

set_option maxRecDepth 100000 in
set_option maxHeartbeats 4000000 in
theorem del_dead_yes {m : Nat → Prop} {w : World} {a : Nat} {A : St} {q g c : Nat} {x : Ls} (h : AgL m w a A q g c x) (hy : x.til ≤ A.no) :
    Calls Try.prog 24 #[.slice (some ⟨q, 0, none⟩) 1 c, .func (.func 27) #[.pointer (some ⟨a, 0, none⟩)] #[]] w (WipeP q c w) := by
  have hd := Lib.hid (idx_dead_yes h hy)
  have hr := Lib.hid h.r
  have k1 : (1 : Int) ≤ (c : Int) := by have := h.c1; omega
  have k2 := h.c2
  clear h hy
  go_enter Try.func24, Try.ntmps24
  go_wp2_with fail
  refine hd.out.mono ?_
  rintro e w' ⟨rfl, hB⟩
  obtain ⟨v, hcl⟩ := run_clear_lease w' q c (hr.out.bel hB) (Nat.one_pos)
  clear hd hr
  replace hB := Lib.hid hB
  go_wp2_with fail
  go_loop [5, 6, 7] (fun s5 s6 s7 => s5 = .int .i64 0 ∧ s6 = .int .i64 1) (fun _ _ _ => 0)
  case atStart => exact ⟨rfl, rfl⟩
  case round =>
    obtain ⟨rfl, rfl⟩ := hrel
    go_wp2_with fail
    go_ret
    exact ⟨_, _, rfl, hB.out, rfl⟩

set_option maxRecDepth 100000 in
set_option maxHeartbeats 4000000 in
theorem idx_rep_yes {m : Nat → Prop} {w : World} {a : Nat} {A : St} {q g c : Nat} {x : Ls} (h : AgL m w a A q g c x) (hy : x.left = 0) :
    Calls Try.prog 28 #[.slice (some ⟨q, 0, none⟩) 1 c, .func (.func 25) #[] #[]] w fun e w' => e = .returned (.int .i64 0) ∧ Below w.heap.size w w' := by
  have hd := rep1_c h
  rw [show decide (x.left = 0) = true by simp [hy]] at hd
  replace hd := Lib.hid hd
  have c0 := h.r.c 0 _ rfl
  clear h hy
  go_enter Try.func28, Try.ntmps28
  go_wp2_with fail
  go_loop [8] (fun s8 => s8 = .int .i64 0) (fun _ => 0)
  case atStart => rfl
  case round =>
    obtain rfl := hrel
    go_wp2_with fail
    refine hd.out.mono ?_
    rintro e w' ⟨rfl, hB⟩
    go_wp2_with fail
    go_ret
    exact ⟨rfl, hB⟩

set_option maxRecDepth 100000 in
set_option maxHeartbeats 4000000 in
theorem del_rep_yes {m : Nat → Prop} {w : World} {a : Nat} {A : St} {q g c : Nat} {x : Ls} (h : AgL m w a A q g c x) (hy : x.left = 0) :
    Calls Try.prog 24 #[.slice (some ⟨q, 0, none⟩) 1 c, .func (.func 25) #[] #[]] w (WipeP q c w) := by
  have hd := Lib.hid (idx_rep_yes h hy)
  have hr := Lib.hid h.r
  have k1 : (1 : Int) ≤ (c : Int) := by have := h.c1; omega
  have k2 := h.c2
  clear h hy
  go_enter Try.func24, Try.ntmps24
  go_wp2_with fail
  refine hd.out.mono ?_
  rintro e w' ⟨rfl, hB⟩
  obtain ⟨v, hcl⟩ := run_clear_lease w' q c (hr.out.bel hB) (Nat.one_pos)
  clear hd hr
  replace hB := Lib.hid hB
  go_wp2_with fail
  go_loop [5, 6, 7] (fun s5 s6 s7 => s5 = .int .i64 0 ∧ s6 = .int .i64 1) (fun _ _ _ => 0)
  case atStart => exact ⟨rfl, rfl⟩
  case round =>
    obtain ⟨rfl, rfl⟩ := hrel
    go_wp2_with fail
    go_ret
    exact ⟨_, _, rfl, hB.out, rfl⟩

set_option maxRecDepth 100000 in
set_option maxHeartbeats 4000000 in
theorem idx_dead_no {w : World} {q g c : Nat} {x : Ls}  {m : Nat → Prop} {a : Nat} {A : St} (h : AgL m w a A q g c x) (hy : ¬ x.til ≤ A.no) :
    Calls Try.prog 28 #[.slice (some ⟨q, 0, none⟩) 1 c, .func (.func 27) #[.pointer (some ⟨a, 0, none⟩)] #[]] w fun e w' => e = .returned (.int .i64 (-1)) ∧ Below w.heap.size w w' := by
  have hd := dead_c h; rw [show decide (x.til ≤ A.no) = false by simp; omega] at hd
  replace hd := Lib.hid hd
  have c0 := h.r.c 0 _ rfl; clear h hy
  go_enter Try.func28, Try.ntmps28
  go_wp2_with fail
  go_loopw [5, 8] (fun s5 s8 wr => (s8 = .int .i64 0 ∧ wr = w) ∨ (s8 = .int .i64 1 ∧ Below w.heap.size w wr)) (fun _ s8 _ => 2 - (intOf s8).toNat)
  case atStart => exact .inl ⟨rfl, rfl⟩
  case round =>
    rcases hrel with ⟨rfl, rfl⟩ | ⟨rfl, hB⟩
    · go_wp2_with fail
      refine hd.out.mono ?_
      rintro e w' ⟨rfl, hB⟩
      replace hB := Lib.hid hB
      clear hd c0
      go_wp2_with fail
      go_roundw
      case rel => exact .inr ⟨rfl, hB.out⟩
      case measure => simp [intOf]
    · clear hd c0
      replace hB := Lib.hid hB
      go_wp2_with fail
      go_ret
      exact ⟨rfl, hB.out⟩

set_option maxRecDepth 100000 in
set_option maxHeartbeats 4000000 in
theorem del_dead_no {w : World} {q g c : Nat} {x : Ls}  {m : Nat → Prop} {a : Nat} {A : St} (h : AgL m w a A q g c x) (hy : ¬ x.til ≤ A.no) :
    Calls Try.prog 24 #[.slice (some ⟨q, 0, none⟩) 1 c, .func (.func 27) #[.pointer (some ⟨a, 0, none⟩)] #[]] w fun e w' => e = .returned (.slice (some ⟨q, 0, none⟩) 1 c) ∧ Below w.heap.size w w' := by
  have hd := Lib.hid (idx_dead_no (c := c) h hy)
  clear h hy
  go_enter Try.func24, Try.ntmps24
  go_wp2_with fail
  refine hd.out.mono ?_
  rintro e w' ⟨rfl, hB⟩
  clear hd
  go_wp2_with fail
  go_ret
  exact ⟨rfl, hB⟩

set_option maxRecDepth 100000 in
set_option maxHeartbeats 4000000 in
theorem idx_rep_no {w : World} {q g c : Nat} {x : Ls}  {m : Nat → Prop} {a : Nat} {A : St} (h : AgL m w a A q g c x) (hy : ¬ x.left = 0) :
    Calls Try.prog 28 #[.slice (some ⟨q, 0, none⟩) 1 c, .func (.func 25) #[] #[]] w fun e w' => e = .returned (.int .i64 (-1)) ∧ Below w.heap.size w w' := by
  have hd := rep1_c h; rw [show decide (x.left = 0) = false by simp [hy]] at hd
  replace hd := Lib.hid hd
  have c0 := h.r.c 0 _ rfl; clear h hy
  go_enter Try.func28, Try.ntmps28
  go_wp2_with fail
  go_loopw [5, 8] (fun s5 s8 wr => (s8 = .int .i64 0 ∧ wr = w) ∨ (s8 = .int .i64 1 ∧ Below w.heap.size w wr)) (fun _ s8 _ => 2 - (intOf s8).toNat)
  case atStart => exact .inl ⟨rfl, rfl⟩
  case round =>
    rcases hrel with ⟨rfl, rfl⟩ | ⟨rfl, hB⟩
    · go_wp2_with fail
      refine hd.out.mono ?_
      rintro e w' ⟨rfl, hB⟩
      replace hB := Lib.hid hB
      clear hd c0
      go_wp2_with fail
      go_roundw
      case rel => exact .inr ⟨rfl, hB.out⟩
      case measure => simp [intOf]
    · clear hd c0
      replace hB := Lib.hid hB
      go_wp2_with fail
      go_ret
      exact ⟨rfl, hB.out⟩

set_option maxRecDepth 100000 in
set_option maxHeartbeats 4000000 in
theorem del_rep_no {w : World} {q g c : Nat} {x : Ls}  {m : Nat → Prop} {a : Nat} {A : St} (h : AgL m w a A q g c x) (hy : ¬ x.left = 0) :
    Calls Try.prog 24 #[.slice (some ⟨q, 0, none⟩) 1 c, .func (.func 25) #[] #[]] w fun e w' => e = .returned (.slice (some ⟨q, 0, none⟩) 1 c) ∧ Below w.heap.size w w' := by
  have hd := Lib.hid (idx_rep_no (c := c) h hy)
  clear h hy
  go_enter Try.func24, Try.ntmps24
  go_wp2_with fail
  refine hd.out.mono ?_
  rintro e w' ⟨rfl, hB⟩
  clear hd
  go_wp2_with fail
  go_ret
  exact ⟨rfl, hB⟩

set_option maxRecDepth 100000 in
set_option maxHeartbeats 4000000 in
theorem idx_of_no {w : World} {q g c : Nat} {x : Ls} {tb : Nat} (hr : Blk w q [.pointer (some ⟨g, 0, none⟩)]) (hx : Blk w g (lsC x)) (hy : w.cell? ⟨tb, 0, none⟩ = some (.int .i64 x.ten)) :
    Calls Try.prog 28 #[.slice (some ⟨q, 0, none⟩) 1 c, .func (.func 30) #[] #[.pointer (some ⟨tb, 0, none⟩)]] w fun e w' => e = .returned (.int .i64 (-1)) ∧ Below w.heap.size w w' := by
  have hd := of1_c hx hy
  replace hd := Lib.hid hd
  have c0 := hr.c 0 _ rfl; clear hr hx hy
  go_enter Try.func28, Try.ntmps28
  go_wp2_with fail
  go_loopw [5, 8] (fun s5 s8 wr => (s8 = .int .i64 0 ∧ wr = w) ∨ (s8 = .int .i64 1 ∧ Below w.heap.size w wr)) (fun _ s8 _ => 2 - (intOf s8).toNat)
  case atStart => exact .inl ⟨rfl, rfl⟩
  case round =>
    rcases hrel with ⟨rfl, rfl⟩ | ⟨rfl, hB⟩
    · go_wp2_with fail
      refine hd.out.mono ?_
      rintro e w' ⟨rfl, hB⟩
      replace hB := Lib.hid hB
      clear hd c0
      go_wp2_with fail
      go_roundw
      case rel => exact .inr ⟨rfl, hB.out⟩
      case measure => simp [intOf]
    · clear hd c0
      replace hB := Lib.hid hB
      go_wp2_with fail
      go_ret
      exact ⟨rfl, hB.out⟩

set_option maxRecDepth 100000 in
set_option maxHeartbeats 4000000 in
theorem del_of_no {w : World} {q g c : Nat} {x : Ls} {tb : Nat} (hr : Blk w q [.pointer (some ⟨g, 0, none⟩)]) (hx : Blk w g (lsC x)) (hy : w.cell? ⟨tb, 0, none⟩ = some (.int .i64 x.ten)) :
    Calls Try.prog 24 #[.slice (some ⟨q, 0, none⟩) 1 c, .func (.func 30) #[] #[.pointer (some ⟨tb, 0, none⟩)]] w fun e w' => e = .returned (.slice (some ⟨q, 0, none⟩) 1 c) ∧ Below w.heap.size w w' := by
  have hd := Lib.hid (idx_of_no (c := c) hr hx hy)
  clear hr hx hy
  go_enter Try.func24, Try.ntmps24
  go_wp2_with fail
  refine hd.out.mono ?_
  rintro e w' ⟨rfl, hB⟩
  clear hd
  go_wp2_with fail
  go_ret
  exact ⟨rfl, hB⟩

end Go.Proofs.Ytldknmcnmhdgfaa
