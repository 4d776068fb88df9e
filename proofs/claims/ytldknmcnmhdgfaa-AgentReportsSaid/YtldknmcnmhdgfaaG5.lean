/- Leases: a tenant's leases, their tokens. -/
import Derived.Test.YtldknmcnmhdgfaaG4
namespace Go.Proofs.Ytldknmcnmhdgfaa
open Go.ChangeShapes Go.WideShapes Go.ChangeAt Go.RowKit
set_option linter.unusedVariables false
set_option linter.unusedSimpArgs false
open BigFrame Bs Ag

namespace Ag
def Void (w : World) (e : Ending) (w' : World) : Prop := e = .returned (.tuple #[]) ∧ Below w.heap.size w w'
end Ag

set_option maxRecDepth 100000 in
set_option maxHeartbeats 4000000 in
theorem ins_c (w : World) (p : Option Addr) (n c : Nat) (fv : Value) (hn : n ≤ 1) : Calls Try.prog 38 #[.slice p n c, .int .i64 0, .int .i64 (n : Nat), fv] w (Void w) := by
  have hz : ¬ (1 : Int) < (n : Int) := by omega
  go_enter Try.func38, Try.ntmps38
  go_wp2_with fail
  go_loop [8] (fun s8 => s8 = .int .i64 1) (fun _ => 0)
  case atStart => rfl
  case round =>
    obtain rfl := hrel
    go_wp2_with fail
    go_end0
    exact ⟨rfl, Below.refl _ _⟩

set_option maxRecDepth 100000 in
set_option maxHeartbeats 4000000 in
theorem stable_c (w : World) (p : Option Addr) (n c : Nat) (fv : Value) (hn : n ≤ 1) : Calls Try.prog 36 #[.slice p n c, .int .i64 (n : Nat), fv] w (Void w) := by
  have hz : ¬ (20 : Int) ≤ (n : Int) := by omega
  have hz2 : ¬ (20 : Int) < (n : Int) := by omega
  have hi := Lib.hid (ins_c w p n c fv hn)
  clear hn
  go_enter Try.func36, Try.ntmps36
  go_wp2_with fail
  go_loop [7, 8] (fun s7 s8 => s7 = .int .i64 0 ∧ s8 = .int .i64 20) (fun _ _ => 0)
  case atStart => exact ⟨rfl, rfl⟩
  case round =>
    obtain ⟨rfl, rfl⟩ := hrel
    go_wp2_with fail
    refine hi.out.mono ?_
    rintro e w' ⟨rfl, hB⟩
    clear hi
    replace hB := Lib.hid hB
    go_wp2_with fail
    go_loop [6] (fun s6 => s6 = .int .i64 20) (fun _ => 0)
    case atStart => rfl
    case round =>
      obtain rfl := hrel
      go_wp2_with fail
      go_end0
      exact ⟨rfl, hB.out⟩

set_option maxRecDepth 100000 in
set_option maxHeartbeats 4000000 in
theorem sstable_c (w : World) (p : Option Addr) (n c : Nat) (fv : Value) (hn : n ≤ 1) : Calls Try.prog 33 #[.slice p n c, fv] w (Void w) := by
  have hi := Lib.hid (stable_c w p n c fv hn)
  clear hn
  go_enter Try.func33, Try.ntmps33
  go_wp2_with fail
  refine hi.out.mono ?_
  rintro e w' ⟨rfl, hB⟩
  clear hi
  go_wp2_with fail
  go_end0
  exact ⟨rfl, hB⟩

set_option maxRecDepth 100000 in
set_option maxHeartbeats 4000000 in
theorem sorted_c (w : World) (p : Option Addr) (n c : Nat) (F : Nat) (hn : n ≤ 1) : Calls Try.prog 31 #[.slice p n c, .func (.func F) #[] #[]] w (Void w) := by
  have hi : ∀ u fv, Calls Try.prog 33 #[.slice p n c, fv] u (Void u) := fun u fv => sstable_c u p n c fv hn
  have hB0 := (Below.refl w.heap.size w).alloc (Nat.le_refl _) (.cells #[.func (.func F) #[] #[]] 72)
  replace hB0 := Lib.hid hB0
  replace hi := Lib.hid hi
  clear hn
  go_enter Try.func31, Try.ntmps31
  go_wp2_with fail
  refine (hi.out _ _).mono ?_
  rintro e w' ⟨rfl, hB⟩
  have hB2 := Lib.hid (bNext hB0.out hB (Nat.le_refl _))
  clear hi hB0 hB
  go_wp2_with fail
  go_end0
  exact ⟨rfl, hB2.out⟩

set_option maxRecDepth 100000 in
set_option maxHeartbeats 4000000 in
theorem of_E {m : Nat → Prop} {w : World} {a : Nat} {A : St} {p : Option Addr} {c : Nat} (h : AgE m w a A p c) (t : Int) :
    Calls Try.prog 22 #[.pointer (some ⟨a, 0, none⟩), .int .i64 t] w (NoRow w) := by
  have hB0 := (Below.refl w.heap.size w).alloc (Nat.le_refl _) (.cells #[.int .i64 t] 3)
  have h2 := h.bel hB0
  have hz := h.z
  replace hB0 := Lib.hid hB0
  replace h2 := Lib.hid h2
  replace hz := Lib.hid hz
  clear h
  go_enter Try.func22, Try.ntmps22
  go_upto_region 1 with fail
  replace hB0 := hB0.out
  replace h2 := h2.out
  generalize (w.alloc (.cells #[.int .i64 t] 3)) = W1 at hB0 h2 ⊢
  have c0 := h2.b.c 19 _ rfl
  have hcl := Lib.hid (clone_no W1 p c hz.out)
  have hdl : ∀ u p c, Calls Try.prog 24 #[.slice p 0 c, .func (.func 30) #[] #[.pointer (some ⟨w.heap.size, 0, none⟩)]] u fun e w' => e = .returned (.slice p 0 c) ∧ w' = u := fun u p c => del_nil u p c _
  have hso : ∀ u p c, Calls Try.prog 31 #[.slice p 0 c, .func (.func 32) #[] #[]] u (Void u) := fun u p c => sorted_c u p 0 c _ (by omega)
  replace hdl := Lib.hid hdl
  replace hso := Lib.hid hso
  replace hB0 := Lib.hid hB0
  clear h2 hz
  go_wp2_with fail
  refine hcl.out.mono ?_
  rintro e w2 ⟨p2, c2, rfl, hB⟩
  have hB2 := Lib.hid (bNext hB0.out hB (Nat.le_refl _))
  clear hcl hB0 hB c0
  go_wp2_with fail
  refine (hdl.out _ _ _).mono ?_
  rintro e w3 ⟨rfl, rfl⟩
  clear hdl
  go_wp2_with fail
  refine (hso.out _ _ _).mono ?_
  rintro e w4 ⟨rfl, hB⟩
  have hB3 := bNext hB2.out hB (Nat.le_refl _)
  clear hso hB2 hB
  replace hB3 := Lib.hid hB3
  go_wp2_with fail
  go_ret
  exact ⟨_, _, rfl, hB3.out⟩

set_option maxRecDepth 100000 in
set_option maxHeartbeats 4000000 in
theorem of_L {m : Nat → Prop} {w : World} {a : Nat} {A : St} {q g c : Nat} {x : Ls} (h : AgL m w a A q g c x) :
    Calls Try.prog 22 #[.pointer (some ⟨a, 0, none⟩), .int .i64 x.ten] w (NewRow w g) := by
  have hB0 := (Below.refl w.heap.size w).alloc (Nat.le_refl _) (.cells #[.int .i64 x.ten] 3)
  have h2 := h.bel hB0
  have ht : (w.alloc (.cells #[.int .i64 x.ten] 3)).cell? ⟨w.heap.size, 0, none⟩ = some (.int .i64 x.ten) := (blk_new w [.int .i64 x.ten] 3).c 0 _ rfl
  replace hB0 := Lib.hid hB0
  replace h2 := Lib.hid h2
  replace ht := Lib.hid ht
  clear h
  go_enter Try.func22, Try.ntmps22
  go_upto_region 1 with fail
  replace hB0 := hB0.out
  replace h2 := h2.out
  replace ht := ht.out
  generalize (w.alloc (.cells #[.int .i64 x.ten] 3)) = W1 at hB0 h2 ht ⊢
  have c0 := h2.b.c 19 _ rfl
  have hcl := Lib.hid (clone_one W1 q g c h2.r)
  have hso : ∀ u p c, Calls Try.prog 31 #[.slice p 1 c, .func (.func 32) #[] #[]] u (Void u) := fun u p c => sorted_c u p 1 c _ (by omega)
  replace hso := Lib.hid hso
  replace hB0 := Lib.hid hB0
  have hx := Lib.hid h2.x
  replace ht := Lib.hid ht
  clear h2
  go_wp2_with fail
  refine hcl.out.mono ?_
  rintro e w2 ⟨q2, c2, rfl, hr, k1, k2, k3, hB⟩
  have hB2 := Lib.hid (bNext hB0.out hB (Nat.le_refl _))
  have hdl := Lib.hid (del_of_no (c := c2) hr (hx.out.bel hB) (cellB hB ht.out))
  have kq := Lib.hid (Nat.le_trans hB0.out.size k1)
  replace hr := Lib.hid hr
  replace k2 := Lib.hid k2
  replace k3 := Lib.hid k3
  clear hcl hB0 hB c0 ht hx k1
  go_wp2_with fail
  refine hdl.out.mono ?_
  rintro e w3 ⟨rfl, hB⟩
  have hB3 := Lib.hid (bNext hB2.out hB (Nat.le_refl _))
  have hr3 := Lib.hid (hr.out.bel hB)
  clear hdl hB2 hr hB
  go_wp2_with fail
  refine (hso.out _ _ _).mono ?_
  rintro e w4 ⟨rfl, hB⟩
  have hB4 := Lib.hid (bNext hB3.out hB (Nat.le_refl _))
  have hr4 := Lib.hid (hr3.out.bel hB)
  clear hso hB3 hB hr3
  go_wp2_with fail
  go_ret
  exact ⟨_, _, rfl, hr4.out, kq.out, k2.out, k3.out, hB4.out⟩

namespace Ag
def TokP (m : Nat → Prop) (a : Nat) (A : St) (w : World) (k : Int) (e : Ending) (w' : World) : Prop := ∃ p c, e = .returned (.int .i64 k) ∧ AgE m w' a A p c ∧ Kp m w w'
end Ag
set_option maxRecDepth 100000 in
set_option maxHeartbeats 4000000 in
theorem tokens_nil (w : World) (t n : Int) : Calls Try.prog 10 #[.pointer none, .int .i64 t, .int .i64 n] w fun e w' => e = .returned (.int .i64 0) ∧ w' = w := by
  have ha := Lib.hid (at_nil w n)
  go_enter Try.func10, Try.ntmps10
  go_wp2_with fail
  refine ha.out.mono ?_
  rintro e w' ⟨rfl, rfl⟩
  go_wp2_with fail
  go_ret
  exact ⟨rfl, rfl⟩

set_option maxRecDepth 100000 in
set_option maxHeartbeats 4000000 in
/-- Without a lease, or with one that is dead by now. -/
theorem tokens_E {m : Nat → Prop} {w : World} {a : Nat} {A : St} (t n : Int)
    (hat : Calls Try.prog 19 #[.pointer (some ⟨a, 0, none⟩), .int .i64 n] w fun e w' => ∃ p c, e = .returned (.bool true) ∧ AgE m w' a { A with no := max A.no n } p c ∧ Kp m w w') :
    Calls Try.prog 10 #[.pointer (some ⟨a, 0, none⟩), .int .i64 t, .int .i64 n] w (TokP m a { A with no := max A.no n } w 0) := by
  replace hat := Lib.hid hat
  go_enter Try.func10, Try.ntmps10
  go_wp2_with fail
  refine hat.out.mono ?_
  rintro e w' ⟨p, c, rfl, h1, hB⟩
  have hof := Lib.hid (of_E h1 t)
  replace h1 := Lib.hid h1
  replace hB := Lib.hid hB
  clear hat
  go_wp2_with fail
  refine hof.out.mono ?_
  rintro e w2 ⟨p2, c2, rfl, hB2⟩
  have h2 := Lib.hid (h1.out.bel hB2)
  have hB3 := Lib.hid (hB.out.trans (Kp.of hB2))
  clear hof h1 hB hB2
  go_wp2_with fail
  go_loop [6, 17] (fun s6 s17 => s6 = .int .i64 0 ∧ s17 = .int .i64 0) (fun _ _ => 0)
  case atStart => exact ⟨rfl, rfl⟩
  case round =>
    obtain ⟨rfl, rfl⟩ := hrel
    go_wp2_with fail
    go_ret
    exact ⟨_, _, rfl, h2.out, hB3.out⟩

set_option maxRecDepth 100000 in
set_option maxHeartbeats 4000000 in
theorem tokens_L {m : Nat → Prop} {w : World} {a : Nat} {A : St} {q g c : Nat} {x : Ls} (h : AgL m w a A q g c x) (n : Int) (hy : ¬ x.til ≤ max A.no n) (hl : 0 ≤ x.left ∧ x.left ≤ 1000000) :
    Calls Try.prog 10 #[.pointer (some ⟨a, 0, none⟩), .int .i64 x.ten, .int .i64 n] w fun e w' => e = .returned (.int .i64 x.left) ∧ AgL m w' a { A with no := max A.no n } q g c x ∧ Kp m w w' := by
  have hat := Lib.hid (at_alive h n hy)
  obtain ⟨l1, l2⟩ := hl
  clear hy h
  go_enter Try.func10, Try.ntmps10
  go_wp2_with fail
  refine hat.out.mono ?_
  rintro e w' ⟨rfl, h1, hB⟩
  have hof := Lib.hid (of_L h1)
  replace h1 := Lib.hid h1
  replace hB := Lib.hid hB
  clear hat
  go_wp2_with fail
  refine hof.out.mono ?_
  rintro e w2 ⟨q2, c2, rfl, hr, k1, k2, k3, hB2⟩
  have h2 := Lib.hid (h1.out.bel hB2)
  have hB3 := Lib.hid (hB.out.trans (Kp.of hB2))
  have c0 := hr.c 0 _ rfl
  have c1 := h2.out.x.c 2 _ rfl
  clear hof h1 hB hB2 hr k1 k2 k3
  go_wp2_with fail
  go_loop [6, 8, 17] (fun s6 s8 s17 => (s6 = .int .i64 0 ∧ s17 = .int .i64 0) ∨ (s6 = .int .i64 x.left ∧ s17 = .int .i64 1)) (fun _ _ s17 => 2 - (intOf s17).toNat)
  case atStart => exact .inl ⟨rfl, rfl⟩
  case round =>
    rcases hrel with ⟨rfl, rfl⟩ | ⟨rfl, rfl⟩
    · go_wp2_with fail
      go_round
      case rel => exact .inr ⟨by go_num, rfl⟩
      case measure => simp [intOf]
    · go_wp2_with fail
      go_ret
      exact ⟨rfl, h2.out, hB3.out⟩
end Go.Proofs.Ytldknmcnmhdgfaa
