/- Leases: what stays as it was; the states that the laws come to. -/
import Derived.Test.YtldknmcnmhdgfaaG17
namespace Go.Proofs.Ytldknmcnmhdgfaa
open Go.ChangeShapes Go.WideShapes Go.ChangeAt Go.RowKit Go.Deep
set_option linter.unusedVariables false
set_option linter.unusedSimpArgs false
open BigFrame Bs Ag

namespace Ag
def TokQ (p : Option Addr) (c : Nat) (m : Nat → Prop) (a : Nat) (A : St) (w : World) (k : Int) (e : Ending) (w' : World) : Prop := e = .returned (.int .i64 k) ∧ AgE m w' a A p c ∧ Kp m w w'
def AtQ (p : Option Addr) (c : Nat) (m : Nat → Prop) (a : Nat) (A : St) (w : World) (n : Int) : Prop :=
  Calls Try.prog 19 #[.pointer (some ⟨a, 0, none⟩), .int .i64 n] w fun e w' => e = .returned (.bool true) ∧ AgE m w' a { A with no := max A.no n } p c ∧ Kp m w w'
theorem AgE.atQ {m : Nat → Prop} {w : World} {a : Nat} {A : St} {p : Option Addr} {c : Nat} (h : AgE m w a A p c) (n : Int) : AtQ p c m a A w n := (at_E h n).mono (by rintro e w' ⟨rfl, h1, h2⟩; exact ⟨rfl, h1, h2.b⟩)
end Ag
section
attribute [local go_sem] neq_key max_fold
set_option maxRecDepth 100000 in
set_option maxHeartbeats 4000000 in
theorem tokens_EQ {m : Nat → Prop} {w : World} {a : Nat} {A : St} {p : Option Addr} {c : Nat} (t n : Int)
    (hat : Calls Try.prog 19 #[.pointer (some ⟨a, 0, none⟩), .int .i64 n] w fun e w' => e = .returned (.bool true) ∧ AgE m w' a { A with no := max A.no n } p c ∧ Kp m w w') :
    Calls Try.prog 10 #[.pointer (some ⟨a, 0, none⟩), .int .i64 t, .int .i64 n] w (TokQ p c m a { A with no := max A.no n } w 0) := by
  replace hat := Lib.hid hat
  go_enter Try.func10, Try.ntmps10
  go_wp2_with fail
  refine hat.out.mono ?_
  rintro e w' ⟨rfl, h1, hB⟩
  have hof := Lib.hid (of_E h1 t)
  replace h1 := Lib.hid h1
  replace hB := Lib.hid hB
  clear hat
  go_wp2_with fail
  refine hof.out.mono ?_
  rintro e w2 ⟨p2, c2, rfl, hB2⟩
  have h2 := Lib.hid (h1.out.bel hB2)
  have hB3 := Lib.hid (hB.out.trans (Kp.of hB2))
  clear hof h1 hB hB2
  go_wp2_with fail
  go_loop [6, 17] (fun s6 s17 => s6 = .int .i64 0 ∧ s17 = .int .i64 0) (fun _ _ => 0)
  case atStart => exact ⟨rfl, rfl⟩
  case round =>
    obtain ⟨rfl, rfl⟩ := hrel
    go_wp2_with fail
    go_ret
    exact ⟨rfl, h2.out, hB3.out⟩

set_option maxRecDepth 100000 in
set_option maxHeartbeats 4000000 in
theorem told_staleQ {m : Nat → Prop} {w : World} {a : Nat} {A : St} {p : Option Addr} {c : Nat} (ep nu n E r b l z : Int) (hat : ∀ u, Below w.heap.size w u → AtQ p c m a A u n) (hs : A.un = true → ¬ (ep = A.ep ∧ nu = A.nu)) :
    Calls Try.prog 9 #[.pointer (some ⟨a, 0, none⟩), .int .i64 ep, .int .i64 nu, ansV E r b l z, .int .i64 n] w (TokQ p c m a { A with no := max A.no n } w 150) := by
  unfold ansV
  have hB := (Below.refl w.heap.size w).alloc (Nat.le_refl _) (.cells #[.int .i64 E, .int .i64 r, .int .i64 b, .int .i64 l, .int .i64 z] 24)
  have ha := Lib.hid (hat _ hB)
  have hB0 := Lib.hid (Kp.of (m := m) hB)
  clear hat hB
  go_enter Try.func9, Try.ntmps9
  go_upto_region 1 with fail
  generalize w.alloc (.cells #[.int .i64 E, .int .i64 r, .int .i64 b, .int .i64 l, .int .i64 z] 24) = W at ha hB0 ⊢
  go_wp2_with fail
  refine ha.out.mono ?_
  rintro e u ⟨rfl, h1, hB1⟩
  have hB2 := Lib.hid (hB0.out.trans hB1)
  have c4 := h1.b.c 4 _ rfl
  have c2 := h1.b.c 2 _ rfl
  have c3 := h1.b.c 3 _ rfl
  replace h1 := Lib.hid h1
  clear ha hB0 hB1
  obtain ⟨A', hA'⟩ : ∃ A', RowKit.Hid (A' = ({ A with no := max A.no n } : St)) := ⟨_, Lib.hid rfl⟩
  cases hu : A.un with
  | false =>
    rw [hu] at c4
    clear hs
    replace hu := Lib.hid hu
    go_wp2_with fail
    go_ret
    exact ⟨rfl, h1.out, hB2.out⟩
  | true =>
    have hk := hs hu
    rw [hu] at c4
    clear hs
    replace hu := Lib.hid hu
    by_cases q1 : ep = A.ep
    · have q2 : ¬ nu = A.nu := fun e => hk ⟨q1, e⟩
      subst q1
      clear hk
      go_wp2_with fail
      go_ret
      exact ⟨rfl, h1.out, hB2.out⟩
    · clear hk
      go_wp2_with fail
      go_ret
      exact ⟨rfl, h1.out, hB2.out⟩
end

namespace Ag
def fr (sh ti ep no : Int) : St := { sh := sh, ti := ti, ep := ep, nu := 0, un := false, k := 0, cn := 0, ct := 0, cs := 0, ce := 0, cz := 0, se := 0, no := no }
def as_ (sh ti ep t z s no : Int) (un : Bool) : St := { sh := sh, ti := ti, ep := ep, nu := 1, un := un, k := 4, cn := 1, ct := t, cs := sh, ce := ep, cz := z, se := s, no := no }
theorem fr0 (sh ti ep : Int) : fresh sh ti ep = fr sh ti ep 0 := rfl
theorem fr_no {sh ti ep no n : Int} (h : no ≤ n) : ({ fr sh ti ep no with no := max (fr sh ti ep no).no n } : St) = fr sh ti ep n := by
  show ({ fr sh ti ep no with no := max no n } : St) = _
  rw [Int.max_eq_right h]; rfl
theorem as_no {sh ti ep t z s no n : Int} {un : Bool} (h : no ≤ n) : ({ as_ sh ti ep t z s no un with no := max (as_ sh ti ep t z s no un).no n } : St) = as_ sh ti ep t z s n un := by
  show ({ as_ sh ti ep t z s no un with no := max no n } : St) = _
  rw [Int.max_eq_right h]; rfl
theorem as_ask {sh ti ep no t z n : Int} (h : no ≤ n) : asked (fr sh ti ep no) t z n = as_ sh ti ep t z n n true := by
  unfold asked
  rw [show max (fr sh ti ep no).no n = n from Int.max_eq_right h]; rfl
theorem as_told {sh ti ep t z s no n : Int} {un : Bool} (h : no ≤ n) : told1 (as_ sh ti ep t z s no un) n = as_ sh ti ep t z s n false := by
  unfold told1
  rw [show max (as_ sh ti ep t z s no un).no n = n from Int.max_eq_right h]; rfl
def cmA (sh ep t z : Int) : List Value := [.int .i8 4, .int .i64 0, .int .i64 1, .int .i64 t, .int .i64 0, .int .i64 0, .int .i64 sh, .int .i64 ep, .int .i64 0, .int .i64 z, .int .i64 0, .bool false, .slice none 0 0]
theorem Only.agE {a b : Nat} {m m2 : Nat → Prop} {w w' : World} {A : St} {p : Option Addr} {c : Nat} (h : Only a m w w') (hb : AgE m2 w b A p c) (hne : b ≠ a) : AgE m2 w' b A p c := ⟨h.blk hb.b hne, hb.ma, mwB hb.mw h.b.size, hb.z⟩
end Ag
theorem newF (m : Nat → Prop) (w : World) (sh ep ti : Int) (hm : ∀ b, m b → b < w.heap.size) (h1 : 1 ≤ sh ∧ sh ≤ 8) (h2 : 1 ≤ ep) (h3 : 1 ≤ ti ∧ ti ≤ 1073741824) :
    Calls Try.prog 7 #[.int .i64 sh, .int .i64 ep, .int .i64 ti] w fun e w' => ∃ a : Nat, e = .returned (.tuple #[.pointer (some ⟨a, 0, none⟩), .int .i64 0]) ∧ AgE m w' a (fr sh ti ep 0) none 0 ∧ w.heap.size ≤ a ∧ Below w.heap.size w w' :=
  new_c m w sh ep ti hm h1 h2 h3
theorem askF {m : Nat → Prop} {w : World} {a : Nat} {sh ti ep no : Int} (h : AgE m w a (fr sh ti ep no) none 0) (t z n : Int) (h1 : 1 ≤ t ∧ t ≤ 16) (h2 : 1 ≤ z ∧ z ≤ 1000000) (h3 : 0 ≤ n ∧ n ≤ 1125899906842624) (hno : no ≤ n) :
    Calls Try.prog 8 #[.pointer (some ⟨a, 0, none⟩), .int .i64 t, .int .i64 z, .int .i64 n] w fun e w' => e = .returned (.tuple #[.agg #[.int .i8 4, .int .i64 0, .int .i64 1, .int .i64 t, .int .i64 0, .int .i64 0, .int .i64 sh, .int .i64 ep, .int .i64 0, .int .i64 z, .int .i64 0, .bool false, .slice none 0 0], .int .i64 0]) ∧ AgE m w' a (as_ sh ti ep t z n n true) none 0 ∧ Only a m w w' := by
  refine (ask_c h rfl (by show (0 : Int) ≤ 0 ∧ (0 : Int) ≤ 1000000; decide) t z n h1 h2 h3).mono ?_
  rw [as_ask hno]
  exact fun e w' h => h
theorem againF {m : Nat → Prop} {w : World} {a : Nat} {sh ti ep t z s no : Int} (h : AgE m w a (as_ sh ti ep t z s no true) none 0) :
    Calls Try.prog 12 #[.pointer (some ⟨a, 0, none⟩)] w fun e w' => e = .returned (.tuple #[.agg #[.int .i8 4, .int .i64 0, .int .i64 1, .int .i64 t, .int .i64 0, .int .i64 0, .int .i64 sh, .int .i64 ep, .int .i64 0, .int .i64 z, .int .i64 0, .bool false, .slice none 0 0], .bool true]) ∧ AgE m w' a (as_ sh ti ep t z s no true) none 0 ∧ Kp m w w' :=
  again_c h rfl
theorem tokF {m : Nat → Prop} {w : World} {a : Nat} {sh ti ep no : Int} {p : Option Addr} {c : Nat} (h : AgE m w a (fr sh ti ep no) p c) (t n : Int) (hno : no ≤ n) :
    Calls Try.prog 10 #[.pointer (some ⟨a, 0, none⟩), .int .i64 t, .int .i64 n] w (TokQ p c m a (fr sh ti ep n) w 0) := by
  have := tokens_EQ t n (h.atQ n)
  rwa [fr_no hno] at this
theorem tokA {m : Nat → Prop} {w : World} {a : Nat} {sh ti ep t z s no : Int} {un : Bool} {p : Option Addr} {c : Nat} (h : AgE m w a (as_ sh ti ep t z s no un) p c) (k n : Int) (hno : no ≤ n) :
    Calls Try.prog 10 #[.pointer (some ⟨a, 0, none⟩), .int .i64 k, .int .i64 n] w (TokQ p c m a (as_ sh ti ep t z s n un) w 0) := by
  have := tokens_EQ k n (h.atQ n)
  rwa [as_no hno] at this
theorem tokL {m : Nat → Prop} {w : World} {a : Nat} {sh ti ep t z s no : Int} {un : Bool} {q g c : Nat} {x : Ls} (h : AgL m w a (as_ sh ti ep t z s no un) q g c x) (n : Int) (hno : no ≤ n) (hy : ¬ x.til ≤ n) (hl : 0 ≤ x.left ∧ x.left ≤ 1000000) :
    Calls Try.prog 10 #[.pointer (some ⟨a, 0, none⟩), .int .i64 x.ten, .int .i64 n] w fun e w' => e = .returned (.int .i64 x.left) ∧ AgL m w' a (as_ sh ti ep t z s n un) q g c x ∧ Kp m w w' := by
  have := tokens_L h n (by show ¬ x.til ≤ max no n; omega) hl
  rwa [as_no hno] at this
theorem tokD {m : Nat → Prop} {w : World} {a : Nat} {sh ti ep t z s no : Int} {un : Bool} {q g c : Nat} {x : Ls} (h : AgL m w a (as_ sh ti ep t z s no un) q g c x) (k n : Int) (hno : no ≤ n) (hy : x.til ≤ n) :
    Calls Try.prog 10 #[.pointer (some ⟨a, 0, none⟩), .int .i64 k, .int .i64 n] w (TokP m a (as_ sh ti ep t z s n un) w 0) := by
  have := tokens_E k n (h.at n (by show x.til ≤ max no n; omega))
  rwa [as_no hno] at this
theorem staleF {m : Nat → Prop} {w : World} {a : Nat} {sh ti ep no : Int} {p : Option Addr} {c : Nat} (h : AgE m w a (fr sh ti ep no) p c) (e2 nu n E r b l z : Int) (hno : no ≤ n) :
    Calls Try.prog 9 #[.pointer (some ⟨a, 0, none⟩), .int .i64 e2, .int .i64 nu, .agg #[.int .i64 E, .int .i64 r, .int .i64 b, .int .i64 l, .int .i64 z], .int .i64 n] w (TokQ p c m a (fr sh ti ep n) w 150) := by
  have := told_staleQ e2 nu n E r b l z (fun u hu => (h.bel hu).atQ n) (fun h => by cases h)
  rwa [fr_no hno] at this
theorem staleA {m : Nat → Prop} {w : World} {a : Nat} {sh ti ep t z s no : Int} {un : Bool} {p : Option Addr} {c : Nat} (h : AgE m w a (as_ sh ti ep t z s no un) p c) (e2 nu n E r b l y : Int) (hno : no ≤ n) (hs : ¬ (e2 = ep ∧ nu = 1)) :
    Calls Try.prog 9 #[.pointer (some ⟨a, 0, none⟩), .int .i64 e2, .int .i64 nu, .agg #[.int .i64 E, .int .i64 r, .int .i64 b, .int .i64 l, .int .i64 y], .int .i64 n] w (TokQ p c m a (as_ sh ti ep t z s n un) w 150) := by
  have := told_staleQ e2 nu n E r b l y (fun u hu => (h.bel hu).atQ n) (fun _ => hs)
  rwa [as_no hno] at this
theorem toldA {m : Nat → Prop} {w : World} {a : Nat} {sh ti ep t z s no : Int} (h : AgE m w a (as_ sh ti ep t z s no true) none 0) (n l y : Int) (hno : no ≤ n) (hse : 0 ≤ s ∧ s ≤ 1125899906842624) (hti : 1 ≤ ti ∧ ti ≤ 1073741824) (hl : 1 ≤ l) (hz : 1 ≤ y ∧ y ≤ z) (hy : ¬ s + 1000 * ti ≤ n) :
    Calls Try.prog 9 #[.pointer (some ⟨a, 0, none⟩), .int .i64 ep, .int .i64 1, .agg #[.int .i64 0, .int .i64 0, .int .i64 0, .int .i64 l, .int .i64 y], .int .i64 n] w (TellP m a (as_ sh ti ep t z s n false) { id := l, ten := t, left := y, til := s + 1000 * ti, size := y, told := 0 } w) := by
  have := told_ok h rfl n 0 0 l y hse hti hl hz (by show ¬ s + 1000 * ti ≤ max no n; omega)
  rwa [as_told hno] at this
theorem toldL {m : Nat → Prop} {w : World} {a : Nat} {sh ti ep t z s no : Int} (h : AgE m w a (as_ sh ti ep t z s no true) none 0) (n l y : Int) (hno : no ≤ n) (hse : 0 ≤ s ∧ s ≤ 1125899906842624) (hti : 1 ≤ ti ∧ ti ≤ 1073741824) (hl : 1 ≤ l) (hz : 1 ≤ y ∧ y ≤ z) (hy : s + 1000 * ti ≤ n) :
    Calls Try.prog 9 #[.pointer (some ⟨a, 0, none⟩), .int .i64 ep, .int .i64 1, .agg #[.int .i64 0, .int .i64 0, .int .i64 0, .int .i64 l, .int .i64 y], .int .i64 n] w (TokP m a (as_ sh ti ep t z s n false) w 4) := by
  have := told_late h rfl n 0 0 l y hse hti hl hz (by show s + 1000 * ti ≤ max no n; omega)
  rwa [as_told hno] at this
end Go.Proofs.Ytldknmcnmhdgfaa
