/- Leases: the agent goes on to a reading. -/
import Derived.Test.YtldknmcnmhdgfaaG2
namespace Go.Proofs.Ytldknmcnmhdgfaa
open Go.ChangeShapes Go.WideShapes Go.ChangeAt Go.RowKit
set_option linter.unusedVariables false
set_option linter.unusedSimpArgs false
open BigFrame Bs Ag

namespace Ag
/-- All but one block is as it was. -/
structure Only (a : Nat) (m : Nat → Prop) (w w' : World) : Prop where
  b : Kp m w w'
  k : ∀ i, i < w.heap.size → i ≠ a → w'.heap[i]? = w.heap[i]?
theorem Only.blk {a : Nat} {m : Nat → Prop} {w w' : World} (h : Only a m w w') {b : Nat} {l : List Value} (hb : Blk w b l) (hne : b ≠ a) : Blk w' b l := by
  have e := h.k b hb.l hne
  exact ⟨fun i x hx => (World.cell?_of_block e).trans (hb.c i x hx), fun o => (World.frozen?_of_block e).trans (hb.f o), Nat.lt_of_lt_of_le hb.l h.b.size⟩
theorem Only.refl (a : Nat) (m : Nat → Prop) (w : World) : Only a m w w := ⟨Kp.refl _ _, fun _ _ _ => rfl⟩
theorem Only.trans {a : Nat} {m : Nat → Prop} {u v w : World} (h : Only a m u v) (k : Only a m v w) : Only a m u w :=
  ⟨h.b.trans k.b, fun i h1 h2 => (k.k i (Nat.lt_of_lt_of_le h1 h.b.size) h2).trans (h.k i h1 h2)⟩
theorem Only.set {a : Nat} {m : Nat → Prop} (w : World) (hm : ¬ m a) (o : Nat) (v : Value) : Only a m w (w.setCell ⟨a, o, none⟩ v) :=
  ⟨(Kp.refl m w).setCell (p := ⟨a, o, none⟩) hm _, fun i h1 h2 => Below.heap_setCell _ ⟨a, o, none⟩ _ i h2⟩
theorem Only.bel {a : Nat} {m : Nat → Prop} {w w' : World} (h : Below w.heap.size w w') (hm : ∀ b, m b → b < w.heap.size) : Only a m w w' :=
  ⟨Kp.of h, fun i h1 h2 => h.block i h1⟩
end Ag

set_option maxRecDepth 100000 in
set_option maxHeartbeats 4000000 in
theorem at_nil (w : World) (n : Int) : Calls Try.prog 19 #[.pointer none, .int .i64 n] w fun e w' => e = .returned (.bool false) ∧ w' = w := by
  go_enter Try.func19, Try.ntmps19
  go_wp2_with fail
  go_ret
  exact ⟨rfl, rfl⟩

section
attribute [local go_sem] max_fold min_fold
set_option maxRecDepth 100000 in
set_option maxHeartbeats 4000000 in
theorem at_E {m : Nat → Prop} {w : World} {a : Nat} {A : St} {p : Option Addr} {c : Nat} (h : AgE m w a A p c) (n : Int) :
    Calls Try.prog 19 #[.pointer (some ⟨a, 0, none⟩), .int .i64 n] w fun e w' => e = .returned (.bool true) ∧ AgE m w' a { A with no := max A.no n } p c ∧ Only a m w w' := by
  have c0 := h.b.c 20 _ rfl
  have f0 := h.b.f 20
  have h2 : AgE m (w.setCell ⟨a, 20, none⟩ (.int .i64 (max A.no n))) a { A with no := max A.no n } p c := h.set (by omega) rfl
  have k2 := Only.set w h.ma 20 (.int .i64 (max A.no n))
  replace h2 := Lib.hid h2
  replace k2 := Lib.hid k2
  clear h
  go_enter Try.func19, Try.ntmps19
  go_upto_region 4 with fail
  replace h2 := h2.out
  replace k2 := k2.out
  clear c0 f0
  generalize w.setCell ⟨a, 20, none⟩ (.int .i64 (max A.no n)) = u at h2 k2 ⊢
  have c0 := h2.b.c 19 _ rfl
  have f0 := h2.b.f 19
  have hd := del_nil u p c (.func (.func 27) #[.pointer (some ⟨a, 0, none⟩)] #[])
  have h3 : AgE m (u.setCell ⟨a, 19, none⟩ (.slice p 0 c)) a { A with no := max A.no n } p c := h2.set (by omega) rfl
  have k3 := k2.trans (Only.set u h2.ma 19 (.slice p 0 c))
  replace h3 := Lib.hid h3
  replace k3 := Lib.hid k3
  replace hd := Lib.hid hd
  clear h2 k2
  go_wp2_with fail
  refine hd.out.mono ?_
  rintro e w' ⟨rfl, rfl⟩
  clear hd
  go_wp2_with fail
  go_ret
  exact ⟨rfl, h3.out, k3.out⟩

set_option maxRecDepth 100000 in
set_option maxHeartbeats 4000000 in
theorem at_alive {m : Nat → Prop} {w : World} {a : Nat} {A : St} {q g c : Nat} {x : Ls} (h : AgL m w a A q g c x) (n : Int) (hy : ¬ x.til ≤ max A.no n) :
    Calls Try.prog 19 #[.pointer (some ⟨a, 0, none⟩), .int .i64 n] w fun e w' => e = .returned (.bool true) ∧ AgL m w' a { A with no := max A.no n } q g c x ∧ Kp m w w' := by
  have c0 := h.b.c 20 _ rfl
  have f0 := h.b.f 20
  have h2 : AgL m (w.setCell ⟨a, 20, none⟩ (.int .i64 (max A.no n))) a { A with no := max A.no n } q g c x := h.set (by omega) rfl
  have k2 := (Only.set w h.ma 20 (.int .i64 (max A.no n))).b
  have hm := h.ma
  replace h2 := Lib.hid h2
  replace k2 := Lib.hid k2
  replace hy := Lib.hid hy
  clear h
  go_enter Try.func19, Try.ntmps19
  go_upto_region 4 with fail
  replace h2 := h2.out
  replace k2 := k2.out
  clear c0 f0
  generalize w.setCell ⟨a, 20, none⟩ (.int .i64 (max A.no n)) = u at h2 k2 ⊢
  have c0 := h2.b.c 19 _ rfl
  have hd := del_dead_no h2 hy.out
  replace h2 := Lib.hid h2
  replace k2 := Lib.hid k2
  replace hd := Lib.hid hd
  go_wp2_with fail
  refine hd.out.mono ?_
  rintro e w' ⟨rfl, hB⟩
  have h3 := h2.out.bel hB
  have k3 := Kp.of (m := m) hB
  have f1 := h3.b.f 19
  have h4 : AgL m (w'.setCell ⟨a, 19, none⟩ (.slice (some ⟨q, 0, none⟩) 1 c)) a { A with no := max A.no n } q g c x := h3.set (by omega) rfl
  have k4 := (k2.out.trans k3).trans (Only.set w' hm 19 (.slice (some ⟨q, 0, none⟩) 1 c)).b
  have c1 := h3.b.c 19 _ rfl
  clear hd h2 k2 h3 hB k3 c0
  replace h4 := Lib.hid h4
  replace k4 := Lib.hid k4
  go_wp2_with fail
  go_ret
  exact ⟨rfl, h4.out, k4.out⟩

set_option maxRecDepth 100000 in
set_option maxHeartbeats 4000000 in
theorem at_dead {m : Nat → Prop} {w : World} {a : Nat} {A : St} {q g c : Nat} {x : Ls} (h : AgL m w a A q g c x) (n : Int) (hy : x.til ≤ max A.no n) :
    Calls Try.prog 19 #[.pointer (some ⟨a, 0, none⟩), .int .i64 n] w fun e w' => e = .returned (.bool true) ∧ AgE m w' a { A with no := max A.no n } (some ⟨q, 0, none⟩) c ∧ Kp m w w' := by
  have c0 := h.b.c 20 _ rfl
  have f0 := h.b.f 20
  have h2 : AgL m (w.setCell ⟨a, 20, none⟩ (.int .i64 (max A.no n))) a { A with no := max A.no n } q g c x := h.set (by omega) rfl
  have k2 := (Only.set w h.ma 20 (.int .i64 (max A.no n))).b
  have hm := h.ma
  replace h2 := Lib.hid h2
  replace k2 := Lib.hid k2
  replace hy := Lib.hid hy
  clear h
  go_enter Try.func19, Try.ntmps19
  go_upto_region 4 with fail
  replace h2 := h2.out
  replace k2 := k2.out
  clear c0 f0
  generalize w.setCell ⟨a, 20, none⟩ (.int .i64 (max A.no n)) = u at h2 k2 ⊢
  have c0 := h2.b.c 19 _ rfl
  have hd := del_dead_yes h2 hy.out
  replace h2 := Lib.hid h2
  replace k2 := Lib.hid k2
  replace hd := Lib.hid hd
  go_wp2_with fail
  refine hd.out.mono ?_
  rintro e w' ⟨wr, v, rfl, hB, rfl⟩
  have h3 := h2.out.bel hB
  have k3 := Kp.of (m := m) hB
  have b3 := h3.b.other h3.aq v (o := 0)
  have f1 := b3.f 19
  have c1 := b3.c 19 _ rfl
  have h4 : AgE m ((wr.setCell ⟨q, 0, none⟩ v).setCell ⟨a, 19, none⟩ (.slice (some ⟨q, 0, none⟩) 0 c)) a { A with no := max A.no n } (some ⟨q, 0, none⟩) c := h3.wipe v
  have k4 := ((k2.out.trans k3).setCell (p := ⟨q, 0, none⟩) h3.mq v).setCell (p := ⟨a, 19, none⟩) hm (.slice (some ⟨q, 0, none⟩) 0 c)
  clear hd h2 k2 h3 hB k3 c0 b3
  replace h4 := Lib.hid h4
  replace k4 := Lib.hid k4
  go_wp2_with fail
  go_ret
  exact ⟨rfl, h4.out, k4.out⟩
end
end Go.Proofs.Ytldknmcnmhdgfaa
