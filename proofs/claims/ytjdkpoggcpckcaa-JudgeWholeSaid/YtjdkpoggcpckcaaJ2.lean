/- The judge: rising rows, Check. -/
import Derived.Test.YtjdkpoggcpckcaaJ1
import Derived.Laws.EntriesVeiled
namespace Go.Proofs.Ytjdkpoggcpckcaa
open Go.ChangeShapes Go.WideShapes Go.ChangeAt Go.RowKit
set_option linter.unusedVariables false
set_option linter.unusedSimpArgs false
open BigFrame Bs Jd

set_option maxRecDepth 100000 in
set_option maxHeartbeats 4000000 in
theorem srising_c (ok : Bool) (g0 g1 : Nat) (eg0 : ∀ args w, (callFunc g0 args).run Try.prog w = .ok (.enter g0 args) w) (eg1 : ∀ args w, (callFunc g1 args).run Try.prog w = .ok (.enter g1 args) w) (lb : Array Value) (m : Nat → Bool) (a : Option Addr) (b off N c : Nat) (X : Nat → Nat → Int) (w : World) (T : IntRows w a b off N 6 X) (hN : N ≤ 9223372036854775807) (hok : ok = true ↔ risingOk X m N)
    (htick : ∀ (W : World) (i : Nat), i < N → Below w.heap.size w W → Calls Try.prog g0 #[.pointer (some ⟨b, off + i * 6, none⟩)] W fun e w' => e = .returned (.int .i64 (X i 0)) ∧ Below W.heap.size W w')
    (hmay : ∀ (W : World) (i : Nat), i < N → Below w.heap.size w W → Calls Try.prog g1 (#[.pointer (some ⟨b, off + i * 6, none⟩)] ++ lb) W fun e w' => e = .returned (.bool (m i)) ∧ Below W.heap.size W w') :
    Calls Try.prog 21 #[.slice a N c, .func (.func g0) #[] #[], .func (.func g1) #[] lb] w fun e w' => e = .returned (.bool ok) ∧ Below w.heap.size w w' := by
  replace T := Lib.hid T
  replace hok := Lib.hid hok
  replace htick := Lib.hid htick
  replace hmay := Lib.hid hmay
  go_enter Try.func21, Try.ntmps21
  go_wp2_with fail
  go_loopw [7, 8, 9, 12] (fun s7 _ _ s12 wr => ∃ kk : Nat, kk ≤ N ∧ s7 = .int .i64 (lastX X kk) ∧ s12 = .int .i64 (kk : Nat) ∧ Below w.heap.size w wr ∧ Aside (risingOk X m kk)) (fun _ _ _ s12 _ => N - (intOf s12).toNat)
  case atStart => exact ⟨0, Nat.zero_le _, rfl, rfl, Below.refl _ _, fun i hi => absurd hi (Nat.not_lt_zero _)⟩
  case round =>
    obtain ⟨kk, hkk, rfl, rfl, hB, A⟩ := hrel
    by_cases hlt : kk < N
    · have hltz : (kk : Int) < (N : Int) := by omega
      obtain rfl := T.out.ha (by omega)
      obtain ⟨L, hL⟩ : ∃ L, lastX X kk = L := ⟨_, rfl⟩
      obtain ⟨t, ht⟩ : ∃ t, X kk 0 = t := ⟨_, rfl⟩
      have hcall := fun W hW => htick.out W kk hlt hW
      have hcall2 := fun W hW => hmay.out W kk hlt hW
      rw [ht] at hcall
      rw [hL]
      have hbad : ¬ (L ≤ t ∧ t ≤ 1099511627776 ∧ m kk = true) → ok = false := fun q => by
        cases ok
        · rfl
        · have := (hok.out.1 rfl) kk hlt
          rw [hL, ht] at this
          exact absurd this q
      have hgood : L ≤ t → t ≤ 1099511627776 → m kk = true → risingOk X m (kk + 1) := fun q1 q2 q3 i hi => by
        by_cases e : i = kk
        · subst e; rw [hL, ht]; exact ⟨q1, q2, q3⟩
        · exact A.out i (by omega)
      have hnext : lastX X (kk + 1) = t := ht
      replace hcall := Lib.hid hcall
      replace hcall2 := Lib.hid hcall2
      replace hbad := Lib.hid hbad
      replace hgood := Lib.hid hgood
      replace hnext := Lib.hid hnext
      clear hL ht
      go_wp2_with fail
      refine (hcall.out _ hB).mono ?_
      rintro e u ⟨rfl, hu⟩
      have hBu := bNext hB hu (Nat.le_refl _)
      clear hu
      by_cases h1 : t < L
      · obtain rfl := hbad.out (by omega)
        go_wp2_with fail
        go_ret
        exact ⟨rfl, hBu⟩
      by_cases h2 : 1099511627776 < t
      · obtain rfl := hbad.out (by omega)
        go_wp2_with fail
        go_ret
        exact ⟨rfl, hBu⟩
      cases hm : m kk with
      | false =>
        obtain rfl := hbad.out (by rw [hm]; simp)
        have hc3 := hcall2.out u hBu
        rw [hm] at hc3
        replace hc3 := Lib.hid hc3
        clear hm
        go_wp2_with fail
        refine hc3.out.mono ?_
        rintro e u2 ⟨rfl, hu2⟩
        go_wp2_with fail
        go_ret
        exact ⟨rfl, bNext hBu hu2 (Nat.le_refl _)⟩
      | true =>
        have hg := hgood.out (by omega) (by omega) hm
        have hc3 := hcall2.out u hBu
        rw [hm] at hc3
        replace hc3 := Lib.hid hc3
        replace hg := Lib.hid hg
        clear hm
        go_wp2_with fail
        refine hc3.out.mono ?_
        rintro e u2 ⟨rfl, hu2⟩
        go_wp2_with fail
        go_roundw
        case rel => exact ⟨kk + 1, by omega, by rw [hnext.out], by go_num, bNext hBu hu2 (Nat.le_refl _), (show Aside _ from hg.out)⟩
        case measure => simp [intOf]; omega
    · have hltz : ¬ (kk : Int) < (N : Int) := by omega
      obtain rfl : kk = N := by omega
      obtain rfl : ok = true := hok.out.2 A.out
      go_wp2_with fail
      go_ret
      exact ⟨rfl, hB⟩

set_option maxRecDepth 100000 in
set_option maxHeartbeats 4000000 in
theorem frising_c (ok : Bool) (g0 g1 : Nat) (eg0 : ∀ args w, (callFunc g0 args).run Try.prog w = .ok (.enter g0 args) w) (eg1 : ∀ args w, (callFunc g1 args).run Try.prog w = .ok (.enter g1 args) w) (lb : Array Value) (m : Nat → Bool) (a : Option Addr) (b off N c : Nat) (X : Nat → Nat → Int) (w : World) (T : IntRows w a b off N 4 X) (hN : N ≤ 9223372036854775807) (hok : ok = true ↔ risingOk X m N)
    (htick : ∀ (W : World) (i : Nat), i < N → Below w.heap.size w W → Calls Try.prog g0 #[.pointer (some ⟨b, off + i * 4, none⟩)] W fun e w' => e = .returned (.int .i64 (X i 0)) ∧ Below W.heap.size W w')
    (hmay : ∀ (W : World) (i : Nat), i < N → Below w.heap.size w W → Calls Try.prog g1 (#[.pointer (some ⟨b, off + i * 4, none⟩)] ++ lb) W fun e w' => e = .returned (.bool (m i)) ∧ Below W.heap.size W w') :
    Calls Try.prog 24 #[.slice a N c, .func (.func g0) #[] #[], .func (.func g1) #[] lb] w fun e w' => e = .returned (.bool ok) ∧ Below w.heap.size w w' := by
  replace T := Lib.hid T
  replace hok := Lib.hid hok
  replace htick := Lib.hid htick
  replace hmay := Lib.hid hmay
  go_enter Try.func24, Try.ntmps24
  go_wp2_with fail
  go_loopw [7, 8, 9, 12] (fun s7 _ _ s12 wr => ∃ kk : Nat, kk ≤ N ∧ s7 = .int .i64 (lastX X kk) ∧ s12 = .int .i64 (kk : Nat) ∧ Below w.heap.size w wr ∧ Aside (risingOk X m kk)) (fun _ _ _ s12 _ => N - (intOf s12).toNat)
  case atStart => exact ⟨0, Nat.zero_le _, rfl, rfl, Below.refl _ _, fun i hi => absurd hi (Nat.not_lt_zero _)⟩
  case round =>
    obtain ⟨kk, hkk, rfl, rfl, hB, A⟩ := hrel
    by_cases hlt : kk < N
    · have hltz : (kk : Int) < (N : Int) := by omega
      obtain rfl := T.out.ha (by omega)
      obtain ⟨L, hL⟩ : ∃ L, lastX X kk = L := ⟨_, rfl⟩
      obtain ⟨t, ht⟩ : ∃ t, X kk 0 = t := ⟨_, rfl⟩
      have hcall := fun W hW => htick.out W kk hlt hW
      have hcall2 := fun W hW => hmay.out W kk hlt hW
      rw [ht] at hcall
      rw [hL]
      have hbad : ¬ (L ≤ t ∧ t ≤ 1099511627776 ∧ m kk = true) → ok = false := fun q => by
        cases ok
        · rfl
        · have := (hok.out.1 rfl) kk hlt
          rw [hL, ht] at this
          exact absurd this q
      have hgood : L ≤ t → t ≤ 1099511627776 → m kk = true → risingOk X m (kk + 1) := fun q1 q2 q3 i hi => by
        by_cases e : i = kk
        · subst e; rw [hL, ht]; exact ⟨q1, q2, q3⟩
        · exact A.out i (by omega)
      have hnext : lastX X (kk + 1) = t := ht
      replace hcall := Lib.hid hcall
      replace hcall2 := Lib.hid hcall2
      replace hbad := Lib.hid hbad
      replace hgood := Lib.hid hgood
      replace hnext := Lib.hid hnext
      clear hL ht
      go_wp2_with fail
      refine (hcall.out _ hB).mono ?_
      rintro e u ⟨rfl, hu⟩
      have hBu := bNext hB hu (Nat.le_refl _)
      clear hu
      by_cases h1 : t < L
      · obtain rfl := hbad.out (by omega)
        go_wp2_with fail
        go_ret
        exact ⟨rfl, hBu⟩
      by_cases h2 : 1099511627776 < t
      · obtain rfl := hbad.out (by omega)
        go_wp2_with fail
        go_ret
        exact ⟨rfl, hBu⟩
      cases hm : m kk with
      | false =>
        obtain rfl := hbad.out (by rw [hm]; simp)
        have hc3 := hcall2.out u hBu
        rw [hm] at hc3
        replace hc3 := Lib.hid hc3
        clear hm
        go_wp2_with fail
        refine hc3.out.mono ?_
        rintro e u2 ⟨rfl, hu2⟩
        go_wp2_with fail
        go_ret
        exact ⟨rfl, bNext hBu hu2 (Nat.le_refl _)⟩
      | true =>
        have hg := hgood.out (by omega) (by omega) hm
        have hc3 := hcall2.out u hBu
        rw [hm] at hc3
        replace hc3 := Lib.hid hc3
        replace hg := Lib.hid hg
        clear hm
        go_wp2_with fail
        refine hc3.out.mono ?_
        rintro e u2 ⟨rfl, hu2⟩
        go_wp2_with fail
        go_roundw
        case rel => exact ⟨kk + 1, by omega, by rw [hnext.out], by go_num, bNext hBu hu2 (Nat.le_refl _), (show Aside _ from hg.out)⟩
        case measure => simp [intOf]; omega
    · have hltz : ¬ (kk : Int) < (N : Int) := by omega
      obtain rfl : kk = N := by omega
      obtain rfl : ok = true := hok.out.2 A.out
      go_wp2_with fail
      go_ret
      exact ⟨rfl, hB⟩

namespace Jd
/-- May a record be? -/
def checkOk (N : Nat) (X : Nat → Nat → Int) (M : Nat) (Y : Nat → Nat → Int) : Prop := risingOk X (fun i => sentB (X i)) N ∧ risingOk Y (fun i => forceB (Y i)) M
end Jd

set_option maxRecDepth 100000 in
set_option maxHeartbeats 4000000 in
theorem jcheck_c (ok : Bool) (a a2 : Option Addr) (b off N c b2 off2 M c2 : Nat) (X Y : Nat → Nat → Int) (w : World) (T : IntRows w a b off N 6 X) (T2 : IntRows w a2 b2 off2 M 4 Y) (hN : N ≤ 9223372036854775807) (hM : M ≤ 9223372036854775807) (hok : ok = true ↔ checkOk N X M Y) :
    Calls Try.prog 15 #[.slice a N c, .slice a2 M c2] w fun e w' => e = .returned (.bool ok) ∧ Below w.heap.size w w' := by
  have hB0 : Below w.heap.size w (w.alloc (.cells #[.func (.func 20) #[] #[]] 55)) := (Below.refl _ _).alloc (Nat.le_refl _) _
  have bx0 : (w.alloc (.cells #[.func (.func 20) #[] #[]] 55)).cell? ⟨w.heap.size, 0, none⟩ = some (.func (.func 20) #[] #[]) := by go_simp
  have hal : ∀ W i, i < N → a = some ⟨b, off, none⟩ := fun W i hi => T.ha (by omega)
  obtain ⟨ok1, h1⟩ : ∃ ok1 : Bool, ok1 = true ↔ risingOk X (fun i => sentB (X i)) N := by
    by_cases h : risingOk X (fun i => sentB (X i)) N
    · exact ⟨true, fun _ => h, fun _ => rfl⟩
    · exact ⟨false, (fun q => by cases q), fun q => absurd q h⟩
  obtain ⟨ok2, h2⟩ : ∃ ok2 : Bool, ok2 = true ↔ risingOk Y (fun i => forceB (Y i)) M := by
    by_cases h : risingOk Y (fun i => forceB (Y i)) M
    · exact ⟨true, fun _ => h, fun _ => rfl⟩
    · exact ⟨false, (fun q => by cases q), fun q => absurd q h⟩
  have c1 := srising_c ok1 22 23 (fun _ _ => by rfl) (fun _ _ => by rfl) #[.pointer (some ⟨w.heap.size, 0, none⟩)] (fun i => sentB (X i)) a b off N c X _ (T.bel hB0) hN h1 (fun W i hi hW => stick_c b _ _ W (((T.bel hB0).bel hW).c0 i hi (by omega))) (fun W i hi hW => smay_c b _ w.heap.size (X i) W (((T.bel hB0).bel hW).c0 i hi (by omega)) (((T.bel hB0).bel hW).c i 2 hi (by omega)) (((T.bel hB0).bel hW).c i 4 hi (by omega)) (cellB hW bx0))
  have c2 := fun U (hU : Below w.heap.size w U) (hx : U.cell? ⟨w.heap.size, 0, none⟩ = some (.func (.func 20) #[] #[])) => frising_c ok2 25 26 (fun _ _ => by rfl) (fun _ _ => by rfl) #[.pointer (some ⟨w.heap.size, 0, none⟩)] (fun i => forceB (Y i)) a2 b2 off2 M c2 Y U (T2.bel hU) hM h2 (fun W i hi hW => ftick_c b2 _ _ W (((T2.bel hU).bel hW).c0 i hi (by omega))) (fun W i hi hW => fmay_c b2 _ w.heap.size (Y i) W (((T2.bel hU).bel hW).c i 1 hi (by omega)) (((T2.bel hU).bel hW).c i 2 hi (by omega)) (((T2.bel hU).bel hW).c i 3 hi (by omega)) (cellB hW hx))
  have hres : ok = (ok1 && ok2) := by
    cases ok1 <;> cases ok2 <;> cases ok <;> first | rfl | (exfalso; unfold checkOk at hok; simp_all)
  replace c2 := Lib.hid c2
  replace hres := Lib.hid hres
  clear hok h1 h2 hal
  rw [hres.out]
  clear hres
  cases ok1 with
  | false =>
    go_enter Try.func15, Try.ntmps15
    go_wp2_with fail
    refine c1.mono ?_
    rintro e u ⟨rfl, hu⟩
    go_wp2_with fail
    go_ret
    exact ⟨rfl, bNext hB0 hu (by simp)⟩
  | true =>
    go_enter Try.func15, Try.ntmps15
    go_wp2_with fail
    refine c1.mono ?_
    rintro e u ⟨rfl, hu⟩
    have hBu := bNext hB0 hu (by simp)
    have hxu := cellB hu bx0
    go_wp2_with fail
    refine (c2.out u hBu hxu).mono ?_
    rintro e u2 ⟨rfl, hu2⟩
    go_wp2_with fail
    exact bodyPost_ret (v := .bool ok2) (by simp [results, Try.results15, go_sem]) rfl ⟨by rw [Bool.true_and], bNext hBu hu2 (Nat.le_refl _)⟩
end Go.Proofs.Ytjdkpoggcpckcaa
