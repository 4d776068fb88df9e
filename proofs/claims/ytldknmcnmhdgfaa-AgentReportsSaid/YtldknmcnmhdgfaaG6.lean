/- Leases: Spend, Ask, Again. -/
import Derived.Test.YtldknmcnmhdgfaaG5
namespace Go.Proofs.Ytldknmcnmhdgfaa
open Go.ChangeShapes Go.WideShapes Go.ChangeAt Go.RowKit
set_option linter.unusedVariables false
set_option linter.unusedSimpArgs false
open BigFrame Bs Ag

namespace Ag
/-- A row of values laid over another. -/
def layS : List Value → Nat → List Value → List Value
  | l, _, [] => l
  | l, o, v :: r => layS (l.set o v) (o + 1) r
theorem Blk.sets {b : Nat} : ∀ (vs : List Value) {u : World} {l : List Value} (o : Nat), Blk u b l → o + vs.length ≤ l.length → Blk (u.setCells b o vs) b (layS l o vs)
  | [], _, _, _, h, _ => h
  | v :: r, u, l, o, h, hl => by
    simp only [List.length_cons] at hl
    exact Blk.sets r (o + 1) (h.set (show o < l.length by omega) v) (by simp; omega)
theorem Blk.othS {b q : Nat} (hne : b ≠ q) : ∀ (vs : List Value) {u : World} {l : List Value} (o : Nat), Blk u b l → Blk (u.setCells q o vs) b l
  | [], _, _, _, h => h
  | v :: r, u, l, o, h => Blk.othS hne r (o + 1) (h.other hne v)
theorem mwSs {m : Nat → Prop} {q : Nat} : ∀ (vs : List Value) {w : World} (o : Nat), (∀ b, m b → b < w.heap.size) → ∀ b, m b → b < (w.setCells q o vs).heap.size
  | [], _, _, h => h
  | v :: r, w, o, h => mwSs r (o + 1) (mwS h)
theorem Only.sets {a : Nat} {m : Nat → Prop} (hm : ¬ m a) : ∀ (vs : List Value) (w : World) (o : Nat), Only a m w (w.setCells a o vs)
  | [], w, _ => Only.refl a m w
  | v :: r, w, o => (Only.set w hm o v).trans (Only.sets hm r _ (o + 1))
theorem AgE.sets {m : Nat → Prop} {w : World} {a : Nat} {A A' : St} {p : Option Addr} {c : Nat} (h : AgE m w a A p c) (o : Nat) (vs : List Value) (ho : o + vs.length ≤ 21) (e : layS (agC A (.slice p 0 c)) o vs = agC A' (.slice p 0 c)) : AgE m (w.setCells a o vs) a A' p c :=
  ⟨e ▸ Blk.sets vs o h.b ho, h.ma, mwSs vs o h.mw, h.z⟩
theorem AgE.othS {m : Nat → Prop} {w : World} {a : Nat} {A : St} {p : Option Addr} {c : Nat} (h : AgE m w a A p c) {q : Nat} (hne : a ≠ q) (o : Nat) (vs : List Value) : AgE m (w.setCells q o vs) a A p c := ⟨Blk.othS hne vs o h.b, h.ma, mwSs vs o h.mw, h.z⟩
theorem Only.newS {a rb : Nat} {m : Nat → Prop} {w : World} (h1 : w.heap.size ≤ rb) (hm : ¬ m rb) : ∀ (vs : List Value) {V : World} (o : Nat), Only a m w V → Only a m w (V.setCells rb o vs)
  | [], _, _, h => h
  | v :: r, V, o, h => Only.newS h1 hm r (o + 1) ⟨h.b.setCell (p := ⟨rb, o, none⟩) hm _, fun i hi hne => (Below.heap_setCell _ ⟨rb, o, none⟩ _ i (by show i ≠ rb; omega)).trans (h.k i hi hne)⟩
theorem Only.drew {a : Nat} {m : Nat → Prop} {u w : World} (h : Only a m u w) : Only a m u w.drew := ⟨h.b.drew, h.k⟩
def cmdL (A : St) : List Value := [.int .i8 A.k, .int .i64 0, .int .i64 A.cn, .int .i64 A.ct, .int .i64 0, .int .i64 0, .int .i64 A.cs, .int .i64 A.ce, .int .i64 0, .int .i64 A.cz, .int .i64 0, .bool false, .slice none 0 0]
def cmdV (A : St) : Value := .agg #[.int .i8 A.k, .int .i64 0, .int .i64 A.cn, .int .i64 A.ct, .int .i64 0, .int .i64 0, .int .i64 A.cs, .int .i64 A.ce, .int .i64 0, .int .i64 A.cz, .int .i64 0, .bool false, .slice none 0 0]
def asked (A : St) (t z n : Int) : St := { sh := A.sh, ti := A.ti, ep := A.ep, nu := A.nu + 1, un := true, k := 4, cn := A.nu + 1, ct := t, cs := A.sh, ce := A.ep, cz := z, se := max A.no n, no := max A.no n }
end Ag

set_option maxRecDepth 100000 in
set_option maxHeartbeats 4000000 in
theorem spend_nil (w : World) (t b n : Int) : Calls Try.prog 14 #[.pointer none, .int .i64 t, .int .i64 b, .int .i64 n] w fun e w' => e = .returned (.int .i64 1) ∧ w' = w := by
  have ha := Lib.hid (tokens_nil w t n)
  go_enter Try.func14, Try.ntmps14
  go_wp2_with fail
  refine ha.out.mono ?_
  rintro e w' ⟨rfl, rfl⟩
  clear ha
  go_wp2_with fail
  go_ret
  exact ⟨rfl, rfl⟩

namespace Ag
def AtE (m : Nat → Prop) (a : Nat) (A : St) (w : World) (n : Int) : Prop :=
  Calls Try.prog 19 #[.pointer (some ⟨a, 0, none⟩), .int .i64 n] w fun e w' => ∃ p c, e = .returned (.bool true) ∧ AgE m w' a { A with no := max A.no n } p c ∧ Kp m w w'
theorem AgE.at {m : Nat → Prop} {w : World} {a : Nat} {A : St} {p : Option Addr} {c : Nat} (h : AgE m w a A p c) (n : Int) : AtE m a A w n := (at_E h n).mono (by rintro e w' ⟨rfl, h1, h2⟩; exact ⟨p, c, rfl, h1, h2.b⟩)
theorem AgL.at {m : Nat → Prop} {w : World} {a : Nat} {A : St} {q g c : Nat} {x : Ls} (h : AgL m w a A q g c x) (n : Int) (hy : x.til ≤ max A.no n) : AtE m a A w n := (at_dead h n hy).mono (by rintro e w' ⟨rfl, h1, h2⟩; exact ⟨_, c, rfl, h1, h2⟩)
def spE (b : Int) : Int := if b < 0 then 2 else if 0 < b then 170 else 0
def spL (b left : Int) : Int := if b < 0 then 2 else if left < b then 170 else 0
end Ag

set_option maxRecDepth 100000 in
set_option maxHeartbeats 4000000 in
theorem spend_E {m : Nat → Prop} {w : World} {a : Nat} {A : St} (t b n : Int) (hat : AtE m a A w n) :
    Calls Try.prog 14 #[.pointer (some ⟨a, 0, none⟩), .int .i64 t, .int .i64 b, .int .i64 n] w (TokP m a { A with no := max A.no n } w (spE b)) := by
  have htk := Lib.hid (tokens_E t n hat)
  clear hat
  go_enter Try.func14, Try.ntmps14
  go_wp2_with fail
  refine htk.out.mono ?_
  rintro e w' ⟨p, c, rfl, h1, hB⟩
  clear htk
  have hof := Lib.hid (of_E h1 t)
  replace h1 := Lib.hid h1
  replace hB := Lib.hid hB
  by_cases hb : b < 0
  · clear hof
    go_wp2_with fail
    go_ret
    unfold spE
    rw [if_pos hb]
    exact ⟨_, _, rfl, h1.out, hB.out⟩
  · by_cases hb2 : 0 < b
    · clear hof
      go_wp2_with fail
      go_ret
      unfold spE
      rw [if_neg (by omega), if_pos hb2]
      exact ⟨_, _, rfl, h1.out, hB.out⟩
    · obtain rfl : b = 0 := by omega
      rw [show spE 0 = 0 from rfl]
      clear hb hb2
      go_wp2_with fail
      refine hof.out.mono ?_
      rintro e w2 ⟨p2, c2, rfl, hB2⟩
      have h2 := Lib.hid (h1.out.bel hB2)
      have hB3 := Lib.hid (hB.out.trans (Kp.of hB2))
      clear hof h1 hB hB2
      go_wp2_with fail
      go_loop [2, 11, 12, 31] (fun s2 s11 s12 s31 => s2 = .int .i64 0 ∧ s31 = .int .i64 0) (fun _ _ _ _ => 0)
      case atStart => exact ⟨rfl, rfl⟩
      case round =>
        obtain ⟨rfl, rfl⟩ := hrel
        go_wp2_with fail
        go_ret
        exact ⟨_, _, rfl, h2.out, hB3.out⟩

set_option maxRecDepth 100000 in
set_option maxHeartbeats 4000000 in
theorem spend_no {m : Nat → Prop} {w : World} {a : Nat} {A : St} {q g c : Nat} {x : Ls} (h : AgL m w a A q g c x) (b n : Int) (hy : ¬ x.til ≤ max A.no n) (hl : 0 ≤ x.left ∧ x.left ≤ 1000000) (hb : b < 0 ∨ x.left < b) :
    Calls Try.prog 14 #[.pointer (some ⟨a, 0, none⟩), .int .i64 x.ten, .int .i64 b, .int .i64 n] w fun e w' => e = .returned (.int .i64 (spL b x.left)) ∧ AgL m w' a { A with no := max A.no n } q g c x ∧ Kp m w w' := by
  have htk := Lib.hid (tokens_L h n hy hl)
  clear h hy
  obtain ⟨r, hr⟩ : ∃ r, RowKit.Hid (r = spL b x.left) := ⟨_, Lib.hid rfl⟩
  rw [← hr.out]
  go_enter Try.func14, Try.ntmps14
  go_wp2_with fail
  refine htk.out.mono ?_
  rintro e w' ⟨rfl, h1, hB⟩
  clear htk
  replace h1 := Lib.hid h1
  replace hB := Lib.hid hB
  by_cases hb0 : b < 0
  · go_wp2_with fail
    go_ret
    rw [hr.out]
    unfold spL
    rw [if_pos hb0]
    exact ⟨rfl, h1.out, hB.out⟩
  · have hb2 : x.left < b := by omega
    go_wp2_with fail
    go_ret
    rw [hr.out]
    unfold spL
    rw [if_neg (by omega), if_pos hb2]
    exact ⟨rfl, h1.out, hB.out⟩

section
attribute [local go_sem] min_fold
set_option maxRecDepth 100000 in
set_option maxHeartbeats 4000000 in
theorem spend_ok {m : Nat → Prop} {w : World} {a : Nat} {A : St} {q g c : Nat} {x : Ls} (h : AgL m w a A q g c x) (b n : Int) (hy : ¬ x.til ≤ max A.no n) (hl : 0 ≤ x.left ∧ x.left ≤ 1000000) (hb0 : 0 ≤ b) (hb1 : b ≤ x.left) :
    Calls Try.prog 14 #[.pointer (some ⟨a, 0, none⟩), .int .i64 x.ten, .int .i64 b, .int .i64 n] w fun e w' => e = .returned (.int .i64 0) ∧ AgL m w' a { A with no := max A.no n } q g c { x with left := x.left - b } ∧ Kp m w w' := by
  have htk := Lib.hid (tokens_L h n hy hl)
  obtain ⟨hl0, hl1⟩ := hl
  clear h hy
  go_enter Try.func14, Try.ntmps14
  go_wp2_with fail
  refine htk.out.mono ?_
  rintro e w' ⟨rfl, h1, hB⟩
  clear htk
  have hof := Lib.hid (of_L h1)
  replace h1 := Lib.hid h1
  replace hB := Lib.hid hB
  go_wp2_with fail
  refine hof.out.mono ?_
  rintro e w2 ⟨q2, c2, rfl, hr, k1, k2, k3, hB2⟩
  have h2 := h1.out.bel hB2
  have hB3 := hB.out.trans (Kp.of hB2)
  have c0 := hr.c 0 _ rfl
  have c1 := h2.x.c 2 _ rfl
  have f1 := h2.x.f 2
  have h3 : AgL m (w2.setCell ⟨g, 2, none⟩ (.int .i64 (x.left - b))) a { A with no := max A.no n } q g c { x with left := x.left - b } := h2.setX (by omega) rfl
  have hB4 := hB3.setCell (p := ⟨g, 2, none⟩) h2.mg (.int .i64 (x.left - b))
  have hmin : min b x.left = b := by omega
  replace h3 := Lib.hid h3
  replace hB4 := Lib.hid hB4
  clear hof h1 hB hB2 hr k1 k2 k3 h2 hB3
  go_wp2_with fail
  go_loopw [2, 11, 12, 31] (fun s2 s11 s12 s31 wr => (s2 = .int .i64 b ∧ s31 = .int .i64 0 ∧ wr = w2) ∨ (s2 = .int .i64 0 ∧ s31 = .int .i64 1 ∧ wr = w2.setCell ⟨g, 2, none⟩ (.int .i64 (x.left - b)))) (fun _ _ _ s31 _ => 2 - (intOf s31).toNat)
  case atStart => exact .inl ⟨rfl, rfl, rfl⟩
  case round =>
    rcases hrel with ⟨rfl, rfl, rfl⟩ | ⟨rfl, rfl, rfl⟩
    · go_wp2_with fail
      go_roundw
      case rel => exact .inr ⟨by simp [hmin], rfl, by simp [hmin]⟩
      case measure => simp [intOf]
    · go_wp2_with fail
      go_ret
      exact ⟨rfl, h3.out, hB4.out⟩
end

set_option maxRecDepth 100000 in
set_option maxHeartbeats 4000000 in
theorem ask_nil (w : World) (t z n : Int) : Calls Try.prog 8 #[.pointer none, .int .i64 t, .int .i64 z, .int .i64 n] w fun e w' => e = .returned (.tuple #[.agg #[.int .i8 0, .int .i64 0, .int .i64 0, .int .i64 0, .int .i64 0, .int .i64 0, .int .i64 0, .int .i64 0, .int .i64 0, .int .i64 0, .int .i64 0, .bool false, .slice none 0 0], .int .i64 1]) ∧ Below w.heap.size w w' := by
  have hal := (Below.refl w.heap.size w).alloc (Nat.le_refl _) (.cells #[.int .i8 0, .int .i64 0, .int .i64 0, .int .i64 0, .int .i64 0, .int .i64 0, .int .i64 0, .int .i64 0, .int .i64 0, .int .i64 0, .int .i64 0, .bool false, .slice none 0 0] 31)
  have rb := blk_new w [.int .i8 0, .int .i64 0, .int .i64 0, .int .i64 0, .int .i64 0, .int .i64 0, .int .i64 0, .int .i64 0, .int .i64 0, .int .i64 0, .int .i64 0, .bool false, .slice none 0 0] 31
  replace hal := Lib.hid hal
  replace rb := Lib.hid rb
  go_enter Try.func8, Try.ntmps8
  go_upto_region 1 with fail
  generalize w.alloc (.cells #[.int .i8 0, .int .i64 0, .int .i64 0, .int .i64 0, .int .i64 0, .int .i64 0, .int .i64 0, .int .i64 0, .int .i64 0, .int .i64 0, .int .i64 0, .bool false, .slice none 0 0] 31) = V at hal rb ⊢
  generalize hwb : w.heap.size = wb at rb hal ⊢
  replace rb := rb.out
  have r0 := rb.c 0 _ rfl
  have r1 := rb.c 1 _ rfl
  have r2 := rb.c 2 _ rfl
  have r3 := rb.c 3 _ rfl
  have r4 := rb.c 4 _ rfl
  have r5 := rb.c 5 _ rfl
  have r6 := rb.c 6 _ rfl
  have r7 := rb.c 7 _ rfl
  have r8 := rb.c 8 _ rfl
  have r9 := rb.c 9 _ rfl
  have r10 := rb.c 10 _ rfl
  have r11 := rb.c 11 _ rfl
  have r12 := rb.c 12 _ rfl
  have rf0 := rb.f 0
  have rf1 := rb.f 1
  have rf2 := rb.f 2
  have rf3 := rb.f 3
  have rf4 := rb.f 4
  have rf5 := rb.f 5
  have rf6 := rb.f 6
  have rf7 := rb.f 7
  have rf8 := rb.f 8
  have rf9 := rb.f 9
  have rf10 := rb.f 10
  have rf11 := rb.f 11
  have rf12 := rb.f 12
  have rb8 : Blk ((((((((((((((V.setCell ⟨wb, 0, none⟩ (.int .i8 0)).setCell ⟨wb, 1, none⟩ (.int .i64 0)).setCell ⟨wb, 2, none⟩ (.int .i64 0)).setCell ⟨wb, 3, none⟩ (.int .i64 0)).setCell ⟨wb, 4, none⟩ (.int .i64 0)).setCell ⟨wb, 5, none⟩ (.int .i64 0)).setCell ⟨wb, 6, none⟩ (.int .i64 0)).setCell ⟨wb, 7, none⟩ (.int .i64 0)).setCell ⟨wb, 8, none⟩ (.int .i64 0)).setCell ⟨wb, 9, none⟩ (.int .i64 0)).setCell ⟨wb, 10, none⟩ (.int .i64 0)).setCell ⟨wb, 11, none⟩ (.bool false)).setCell ⟨wb, 12, none⟩ (.slice none 0 0))) wb [.int .i8 0, .int .i64 0, .int .i64 0, .int .i64 0, .int .i64 0, .int .i64 0, .int .i64 0, .int .i64 0, .int .i64 0, .int .i64 0, .int .i64 0, .bool false, .slice none 0 0] := Blk.sets [.int .i8 0, .int .i64 0, .int .i64 0, .int .i64 0, .int .i64 0, .int .i64 0, .int .i64 0, .int .i64 0, .int .i64 0, .int .i64 0, .int .i64 0, .bool false, .slice none 0 0] 0 rb (by simp)
  have hB : Below wb w ((((((((((((((V.setCell ⟨wb, 0, none⟩ (.int .i8 0)).setCell ⟨wb, 1, none⟩ (.int .i64 0)).setCell ⟨wb, 2, none⟩ (.int .i64 0)).setCell ⟨wb, 3, none⟩ (.int .i64 0)).setCell ⟨wb, 4, none⟩ (.int .i64 0)).setCell ⟨wb, 5, none⟩ (.int .i64 0)).setCell ⟨wb, 6, none⟩ (.int .i64 0)).setCell ⟨wb, 7, none⟩ (.int .i64 0)).setCell ⟨wb, 8, none⟩ (.int .i64 0)).setCell ⟨wb, 9, none⟩ (.int .i64 0)).setCell ⟨wb, 10, none⟩ (.int .i64 0)).setCell ⟨wb, 11, none⟩ (.bool false)).setCell ⟨wb, 12, none⟩ (.slice none 0 0))) := (((((((((((((hal.out.setCell (p := ⟨wb, 0, none⟩) (Nat.le_refl _) (.int .i8 0)).setCell (p := ⟨wb, 1, none⟩) (Nat.le_refl _) (.int .i64 0)).setCell (p := ⟨wb, 2, none⟩) (Nat.le_refl _) (.int .i64 0)).setCell (p := ⟨wb, 3, none⟩) (Nat.le_refl _) (.int .i64 0)).setCell (p := ⟨wb, 4, none⟩) (Nat.le_refl _) (.int .i64 0)).setCell (p := ⟨wb, 5, none⟩) (Nat.le_refl _) (.int .i64 0)).setCell (p := ⟨wb, 6, none⟩) (Nat.le_refl _) (.int .i64 0)).setCell (p := ⟨wb, 7, none⟩) (Nat.le_refl _) (.int .i64 0)).setCell (p := ⟨wb, 8, none⟩) (Nat.le_refl _) (.int .i64 0)).setCell (p := ⟨wb, 9, none⟩) (Nat.le_refl _) (.int .i64 0)).setCell (p := ⟨wb, 10, none⟩) (Nat.le_refl _) (.int .i64 0)).setCell (p := ⟨wb, 11, none⟩) (Nat.le_refl _) (.bool false)).setCell (p := ⟨wb, 12, none⟩) (Nat.le_refl _) (.slice none 0 0))
  have q0 := rb8.c 0 _ rfl
  have q1 := rb8.c 1 _ rfl
  have q2 := rb8.c 2 _ rfl
  have q3 := rb8.c 3 _ rfl
  have q4 := rb8.c 4 _ rfl
  have q5 := rb8.c 5 _ rfl
  have q6 := rb8.c 6 _ rfl
  have q7 := rb8.c 7 _ rfl
  have q8 := rb8.c 8 _ rfl
  have q9 := rb8.c 9 _ rfl
  have q10 := rb8.c 10 _ rfl
  have q11 := rb8.c 11 _ rfl
  have q12 := rb8.c 12 _ rfl
  replace q0 := Lib.hid q0
  replace q1 := Lib.hid q1
  replace q2 := Lib.hid q2
  replace q3 := Lib.hid q3
  replace q4 := Lib.hid q4
  replace q5 := Lib.hid q5
  replace q6 := Lib.hid q6
  replace q7 := Lib.hid q7
  replace q8 := Lib.hid q8
  replace q9 := Lib.hid q9
  replace q10 := Lib.hid q10
  replace q11 := Lib.hid q11
  replace q12 := Lib.hid q12
  replace hB := Lib.hid hB
  clear rb rb8 hal
  replace hwb := Lib.hid hwb
  have hat := Lib.hid (at_nil V n)
  go_wp2_with fail
  refine hat.out.mono ?_
  rintro e u ⟨rfl, rfl⟩
  clear hat
  go_wp2_with fail
  try rw [Exit.noGoto_ret]
  refine bodyPost_ret (v := .tuple #[.agg #[.int .i8 0, .int .i64 0, .int .i64 0, .int .i64 0, .int .i64 0, .int .i64 0, .int .i64 0, .int .i64 0, .int .i64 0, .int .i64 0, .int .i64 0, .bool false, .slice none 0 0], .int .i64 1]) (by simp [results, Try.results8, go_sem, q0.out, q1.out, q2.out, q3.out, q4.out, q5.out, q6.out, q7.out, q8.out, q9.out, q10.out, q11.out, q12.out]) rfl ?_
  exact ⟨rfl, by rw [hwb.out]; exact hB.out⟩

set_option maxRecDepth 100000 in
set_option maxHeartbeats 4000000 in
theorem again_nil (w : World) : Calls Try.prog 12 #[.pointer none] w fun e w' => e = .returned (.tuple #[.agg #[.int .i8 0, .int .i64 0, .int .i64 0, .int .i64 0, .int .i64 0, .int .i64 0, .int .i64 0, .int .i64 0, .int .i64 0, .int .i64 0, .int .i64 0, .bool false, .slice none 0 0], .bool false]) ∧ Below w.heap.size w w' := by
  have hal := (Below.refl w.heap.size w).alloc (Nat.le_refl _) (.cells #[.int .i8 0, .int .i64 0, .int .i64 0, .int .i64 0, .int .i64 0, .int .i64 0, .int .i64 0, .int .i64 0, .int .i64 0, .int .i64 0, .int .i64 0, .bool false, .slice none 0 0] 31)
  have rb := blk_new w [.int .i8 0, .int .i64 0, .int .i64 0, .int .i64 0, .int .i64 0, .int .i64 0, .int .i64 0, .int .i64 0, .int .i64 0, .int .i64 0, .int .i64 0, .bool false, .slice none 0 0] 31
  replace hal := Lib.hid hal
  replace rb := Lib.hid rb
  go_enter Try.func12, Try.ntmps12
  go_upto_region 1 with fail
  generalize w.alloc (.cells #[.int .i8 0, .int .i64 0, .int .i64 0, .int .i64 0, .int .i64 0, .int .i64 0, .int .i64 0, .int .i64 0, .int .i64 0, .int .i64 0, .int .i64 0, .bool false, .slice none 0 0] 31) = V at hal rb ⊢
  generalize hwb : w.heap.size = wb at rb hal ⊢
  replace rb := rb.out
  have r0 := rb.c 0 _ rfl
  have r1 := rb.c 1 _ rfl
  have r2 := rb.c 2 _ rfl
  have r3 := rb.c 3 _ rfl
  have r4 := rb.c 4 _ rfl
  have r5 := rb.c 5 _ rfl
  have r6 := rb.c 6 _ rfl
  have r7 := rb.c 7 _ rfl
  have r8 := rb.c 8 _ rfl
  have r9 := rb.c 9 _ rfl
  have r10 := rb.c 10 _ rfl
  have r11 := rb.c 11 _ rfl
  have r12 := rb.c 12 _ rfl
  have rf0 := rb.f 0
  have rf1 := rb.f 1
  have rf2 := rb.f 2
  have rf3 := rb.f 3
  have rf4 := rb.f 4
  have rf5 := rb.f 5
  have rf6 := rb.f 6
  have rf7 := rb.f 7
  have rf8 := rb.f 8
  have rf9 := rb.f 9
  have rf10 := rb.f 10
  have rf11 := rb.f 11
  have rf12 := rb.f 12
  have rb8 : Blk ((((((((((((((V.setCell ⟨wb, 0, none⟩ (.int .i8 0)).setCell ⟨wb, 1, none⟩ (.int .i64 0)).setCell ⟨wb, 2, none⟩ (.int .i64 0)).setCell ⟨wb, 3, none⟩ (.int .i64 0)).setCell ⟨wb, 4, none⟩ (.int .i64 0)).setCell ⟨wb, 5, none⟩ (.int .i64 0)).setCell ⟨wb, 6, none⟩ (.int .i64 0)).setCell ⟨wb, 7, none⟩ (.int .i64 0)).setCell ⟨wb, 8, none⟩ (.int .i64 0)).setCell ⟨wb, 9, none⟩ (.int .i64 0)).setCell ⟨wb, 10, none⟩ (.int .i64 0)).setCell ⟨wb, 11, none⟩ (.bool false)).setCell ⟨wb, 12, none⟩ (.slice none 0 0))) wb [.int .i8 0, .int .i64 0, .int .i64 0, .int .i64 0, .int .i64 0, .int .i64 0, .int .i64 0, .int .i64 0, .int .i64 0, .int .i64 0, .int .i64 0, .bool false, .slice none 0 0] := Blk.sets [.int .i8 0, .int .i64 0, .int .i64 0, .int .i64 0, .int .i64 0, .int .i64 0, .int .i64 0, .int .i64 0, .int .i64 0, .int .i64 0, .int .i64 0, .bool false, .slice none 0 0] 0 rb (by simp)
  have hB : Below wb w ((((((((((((((V.setCell ⟨wb, 0, none⟩ (.int .i8 0)).setCell ⟨wb, 1, none⟩ (.int .i64 0)).setCell ⟨wb, 2, none⟩ (.int .i64 0)).setCell ⟨wb, 3, none⟩ (.int .i64 0)).setCell ⟨wb, 4, none⟩ (.int .i64 0)).setCell ⟨wb, 5, none⟩ (.int .i64 0)).setCell ⟨wb, 6, none⟩ (.int .i64 0)).setCell ⟨wb, 7, none⟩ (.int .i64 0)).setCell ⟨wb, 8, none⟩ (.int .i64 0)).setCell ⟨wb, 9, none⟩ (.int .i64 0)).setCell ⟨wb, 10, none⟩ (.int .i64 0)).setCell ⟨wb, 11, none⟩ (.bool false)).setCell ⟨wb, 12, none⟩ (.slice none 0 0))) := (((((((((((((hal.out.setCell (p := ⟨wb, 0, none⟩) (Nat.le_refl _) (.int .i8 0)).setCell (p := ⟨wb, 1, none⟩) (Nat.le_refl _) (.int .i64 0)).setCell (p := ⟨wb, 2, none⟩) (Nat.le_refl _) (.int .i64 0)).setCell (p := ⟨wb, 3, none⟩) (Nat.le_refl _) (.int .i64 0)).setCell (p := ⟨wb, 4, none⟩) (Nat.le_refl _) (.int .i64 0)).setCell (p := ⟨wb, 5, none⟩) (Nat.le_refl _) (.int .i64 0)).setCell (p := ⟨wb, 6, none⟩) (Nat.le_refl _) (.int .i64 0)).setCell (p := ⟨wb, 7, none⟩) (Nat.le_refl _) (.int .i64 0)).setCell (p := ⟨wb, 8, none⟩) (Nat.le_refl _) (.int .i64 0)).setCell (p := ⟨wb, 9, none⟩) (Nat.le_refl _) (.int .i64 0)).setCell (p := ⟨wb, 10, none⟩) (Nat.le_refl _) (.int .i64 0)).setCell (p := ⟨wb, 11, none⟩) (Nat.le_refl _) (.bool false)).setCell (p := ⟨wb, 12, none⟩) (Nat.le_refl _) (.slice none 0 0))
  have q0 := rb8.c 0 _ rfl
  have q1 := rb8.c 1 _ rfl
  have q2 := rb8.c 2 _ rfl
  have q3 := rb8.c 3 _ rfl
  have q4 := rb8.c 4 _ rfl
  have q5 := rb8.c 5 _ rfl
  have q6 := rb8.c 6 _ rfl
  have q7 := rb8.c 7 _ rfl
  have q8 := rb8.c 8 _ rfl
  have q9 := rb8.c 9 _ rfl
  have q10 := rb8.c 10 _ rfl
  have q11 := rb8.c 11 _ rfl
  have q12 := rb8.c 12 _ rfl
  replace q0 := Lib.hid q0
  replace q1 := Lib.hid q1
  replace q2 := Lib.hid q2
  replace q3 := Lib.hid q3
  replace q4 := Lib.hid q4
  replace q5 := Lib.hid q5
  replace q6 := Lib.hid q6
  replace q7 := Lib.hid q7
  replace q8 := Lib.hid q8
  replace q9 := Lib.hid q9
  replace q10 := Lib.hid q10
  replace q11 := Lib.hid q11
  replace q12 := Lib.hid q12
  replace hB := Lib.hid hB
  clear rb rb8 hal
  replace hwb := Lib.hid hwb
  go_wp2_with fail
  try rw [Exit.noGoto_ret]
  refine bodyPost_ret (v := .tuple #[.agg #[.int .i8 0, .int .i64 0, .int .i64 0, .int .i64 0, .int .i64 0, .int .i64 0, .int .i64 0, .int .i64 0, .int .i64 0, .int .i64 0, .int .i64 0, .bool false, .slice none 0 0], .bool false]) (by simp [results, Try.results12, go_sem, q0.out, q1.out, q2.out, q3.out, q4.out, q5.out, q6.out, q7.out, q8.out, q9.out, q10.out, q11.out, q12.out]) rfl ?_
  exact ⟨rfl, by rw [hwb.out]; exact hB.out⟩

set_option maxRecDepth 100000 in
set_option maxHeartbeats 4000000 in
theorem again_c {m : Nat → Prop} {w : World} {a : Nat} {A : St} {p : Option Addr} {c : Nat} (h : AgE m w a A p c) (hu : A.un = true) : Calls Try.prog 12 #[.pointer (some ⟨a, 0, none⟩)] w fun e w' => e = .returned (.tuple #[cmdV A, .bool true]) ∧ AgE m w' a A p c ∧ Kp m w w' := by
  have hal := (Below.refl w.heap.size w).alloc (Nat.le_refl _) (.cells #[.int .i8 0, .int .i64 0, .int .i64 0, .int .i64 0, .int .i64 0, .int .i64 0, .int .i64 0, .int .i64 0, .int .i64 0, .int .i64 0, .int .i64 0, .bool false, .slice none 0 0] 31)
  have rb := Lib.hid (blk_new w [.int .i8 0, .int .i64 0, .int .i64 0, .int .i64 0, .int .i64 0, .int .i64 0, .int .i64 0, .int .i64 0, .int .i64 0, .int .i64 0, .int .i64 0, .bool false, .slice none 0 0] 31)
  have h0 := Lib.hid (h.bel hal)
  have hmw := Lib.hid h.mw
  have hmwb : RowKit.Hid (¬ m w.heap.size) := Lib.hid (fun hm => Nat.lt_irrefl _ (h.mw _ hm))
  have ha : RowKit.Hid (a ≠ w.heap.size) := Lib.hid (by have := h.b.l; omega)
  replace hal := Lib.hid hal
  clear h
  go_enter Try.func12, Try.ntmps12
  go_upto_region 1 with fail
  generalize w.alloc (.cells #[.int .i8 0, .int .i64 0, .int .i64 0, .int .i64 0, .int .i64 0, .int .i64 0, .int .i64 0, .int .i64 0, .int .i64 0, .int .i64 0, .int .i64 0, .bool false, .slice none 0 0] 31) = V at hal rb h0 ⊢
  generalize hwb : w.heap.size = wb at rb hal ha hmw hmwb ⊢
  replace rb := rb.out
  have r0 := rb.c 0 _ rfl
  have r1 := rb.c 1 _ rfl
  have r2 := rb.c 2 _ rfl
  have r3 := rb.c 3 _ rfl
  have r4 := rb.c 4 _ rfl
  have r5 := rb.c 5 _ rfl
  have r6 := rb.c 6 _ rfl
  have r7 := rb.c 7 _ rfl
  have r8 := rb.c 8 _ rfl
  have r9 := rb.c 9 _ rfl
  have r10 := rb.c 10 _ rfl
  have r11 := rb.c 11 _ rfl
  have r12 := rb.c 12 _ rfl
  have rf0 := rb.f 0
  have rf1 := rb.f 1
  have rf2 := rb.f 2
  have rf3 := rb.f 3
  have rf4 := rb.f 4
  have rf5 := rb.f 5
  have rf6 := rb.f 6
  have rf7 := rb.f 7
  have rf8 := rb.f 8
  have rf9 := rb.f 9
  have rf10 := rb.f 10
  have rf11 := rb.f 11
  have rf12 := rb.f 12
  have c4 := h0.out.b.c 4 _ rfl
  rw [hu] at c4
  have s0 := h0.out.b.c 5 _ rfl
  have s1 := h0.out.b.c 6 _ rfl
  have s2 := h0.out.b.c 7 _ rfl
  have s3 := h0.out.b.c 8 _ rfl
  have s4 := h0.out.b.c 9 _ rfl
  have s5 := h0.out.b.c 10 _ rfl
  have s6 := h0.out.b.c 11 _ rfl
  have s7 := h0.out.b.c 12 _ rfl
  have s8 := h0.out.b.c 13 _ rfl
  have s9 := h0.out.b.c 14 _ rfl
  have s10 := h0.out.b.c 15 _ rfl
  have s11 := h0.out.b.c 16 _ rfl
  have s12 := h0.out.b.c 17 _ rfl
  have rb8 : Blk ((((((((((((((V.setCell ⟨wb, 0, none⟩ (.int .i8 A.k)).setCell ⟨wb, 1, none⟩ (.int .i64 0)).setCell ⟨wb, 2, none⟩ (.int .i64 A.cn)).setCell ⟨wb, 3, none⟩ (.int .i64 A.ct)).setCell ⟨wb, 4, none⟩ (.int .i64 0)).setCell ⟨wb, 5, none⟩ (.int .i64 0)).setCell ⟨wb, 6, none⟩ (.int .i64 A.cs)).setCell ⟨wb, 7, none⟩ (.int .i64 A.ce)).setCell ⟨wb, 8, none⟩ (.int .i64 0)).setCell ⟨wb, 9, none⟩ (.int .i64 A.cz)).setCell ⟨wb, 10, none⟩ (.int .i64 0)).setCell ⟨wb, 11, none⟩ (.bool false)).setCell ⟨wb, 12, none⟩ (.slice none 0 0))) wb (cmdL A) := Blk.sets (cmdL A) 0 rb (by simp [cmdL])
  have h8 : AgE m ((((((((((((((V.setCell ⟨wb, 0, none⟩ (.int .i8 A.k)).setCell ⟨wb, 1, none⟩ (.int .i64 0)).setCell ⟨wb, 2, none⟩ (.int .i64 A.cn)).setCell ⟨wb, 3, none⟩ (.int .i64 A.ct)).setCell ⟨wb, 4, none⟩ (.int .i64 0)).setCell ⟨wb, 5, none⟩ (.int .i64 0)).setCell ⟨wb, 6, none⟩ (.int .i64 A.cs)).setCell ⟨wb, 7, none⟩ (.int .i64 A.ce)).setCell ⟨wb, 8, none⟩ (.int .i64 0)).setCell ⟨wb, 9, none⟩ (.int .i64 A.cz)).setCell ⟨wb, 10, none⟩ (.int .i64 0)).setCell ⟨wb, 11, none⟩ (.bool false)).setCell ⟨wb, 12, none⟩ (.slice none 0 0))) a A p c := h0.out.othS ha.out 0 (cmdL A)
  have hB : Below wb w ((((((((((((((V.setCell ⟨wb, 0, none⟩ (.int .i8 A.k)).setCell ⟨wb, 1, none⟩ (.int .i64 0)).setCell ⟨wb, 2, none⟩ (.int .i64 A.cn)).setCell ⟨wb, 3, none⟩ (.int .i64 A.ct)).setCell ⟨wb, 4, none⟩ (.int .i64 0)).setCell ⟨wb, 5, none⟩ (.int .i64 0)).setCell ⟨wb, 6, none⟩ (.int .i64 A.cs)).setCell ⟨wb, 7, none⟩ (.int .i64 A.ce)).setCell ⟨wb, 8, none⟩ (.int .i64 0)).setCell ⟨wb, 9, none⟩ (.int .i64 A.cz)).setCell ⟨wb, 10, none⟩ (.int .i64 0)).setCell ⟨wb, 11, none⟩ (.bool false)).setCell ⟨wb, 12, none⟩ (.slice none 0 0))) := (((((((((((((hal.out.setCell (p := ⟨wb, 0, none⟩) (Nat.le_refl _) (.int .i8 A.k)).setCell (p := ⟨wb, 1, none⟩) (Nat.le_refl _) (.int .i64 0)).setCell (p := ⟨wb, 2, none⟩) (Nat.le_refl _) (.int .i64 A.cn)).setCell (p := ⟨wb, 3, none⟩) (Nat.le_refl _) (.int .i64 A.ct)).setCell (p := ⟨wb, 4, none⟩) (Nat.le_refl _) (.int .i64 0)).setCell (p := ⟨wb, 5, none⟩) (Nat.le_refl _) (.int .i64 0)).setCell (p := ⟨wb, 6, none⟩) (Nat.le_refl _) (.int .i64 A.cs)).setCell (p := ⟨wb, 7, none⟩) (Nat.le_refl _) (.int .i64 A.ce)).setCell (p := ⟨wb, 8, none⟩) (Nat.le_refl _) (.int .i64 0)).setCell (p := ⟨wb, 9, none⟩) (Nat.le_refl _) (.int .i64 A.cz)).setCell (p := ⟨wb, 10, none⟩) (Nat.le_refl _) (.int .i64 0)).setCell (p := ⟨wb, 11, none⟩) (Nat.le_refl _) (.bool false)).setCell (p := ⟨wb, 12, none⟩) (Nat.le_refl _) (.slice none 0 0))
  have q0 := rb8.c 0 _ rfl
  have q1 := rb8.c 1 _ rfl
  have q2 := rb8.c 2 _ rfl
  have q3 := rb8.c 3 _ rfl
  have q4 := rb8.c 4 _ rfl
  have q5 := rb8.c 5 _ rfl
  have q6 := rb8.c 6 _ rfl
  have q7 := rb8.c 7 _ rfl
  have q8 := rb8.c 8 _ rfl
  have q9 := rb8.c 9 _ rfl
  have q10 := rb8.c 10 _ rfl
  have q11 := rb8.c 11 _ rfl
  have q12 := rb8.c 12 _ rfl
  replace q0 := Lib.hid q0
  replace q1 := Lib.hid q1
  replace q2 := Lib.hid q2
  replace q3 := Lib.hid q3
  replace q4 := Lib.hid q4
  replace q5 := Lib.hid q5
  replace q6 := Lib.hid q6
  replace q7 := Lib.hid q7
  replace q8 := Lib.hid q8
  replace q9 := Lib.hid q9
  replace q10 := Lib.hid q10
  replace q11 := Lib.hid q11
  replace q12 := Lib.hid q12
  replace hB := Lib.hid (Kp.of (m := m) (by rw [hwb]; exact hB))
  replace h8 := Lib.hid h8
  clear rb rb8 hal hwb h0 ha hmw hmwb hu
  go_wp2_with fail
  try rw [Exit.noGoto_ret]
  refine bodyPost_ret (v := .tuple #[cmdV A, .bool true]) (by simp [results, Try.results12, go_sem, q0.out, q1.out, q2.out, q3.out, q4.out, q5.out, q6.out, q7.out, q8.out, q9.out, q10.out, q11.out, q12.out, cmdV]) rfl ?_
  exact ⟨rfl, h8.out, hB.out⟩

set_option maxRecDepth 100000 in
set_option maxHeartbeats 40000000 in
theorem ask_c {m : Nat → Prop} {w : World} {a : Nat} {A : St} {p : Option Addr} {c : Nat} (h : AgE m w a A p c) (hu : A.un = false) (hn : 0 ≤ A.nu ∧ A.nu ≤ 1000000) (t z n : Int) (h1 : 1 ≤ t ∧ t ≤ 16) (h2 : 1 ≤ z ∧ z ≤ 1000000) (h3 : 0 ≤ n ∧ n ≤ 1125899906842624) :
    Calls Try.prog 8 #[.pointer (some ⟨a, 0, none⟩), .int .i64 t, .int .i64 z, .int .i64 n] w fun e w' => e = .returned (.tuple #[cmdV (asked A t z n), .int .i64 0]) ∧ AgE m w' a (asked A t z n) p c ∧ Only a m w w' := by
  obtain ⟨n1, n2⟩ := hn
  obtain ⟨t1, t2⟩ := h1
  obtain ⟨z1, z2⟩ := h2
  obtain ⟨m1, m2⟩ := h3
  have hal := (Below.refl w.heap.size w).alloc (Nat.le_refl _) (.cells #[.int .i8 0, .int .i64 0, .int .i64 0, .int .i64 0, .int .i64 0, .int .i64 0, .int .i64 0, .int .i64 0, .int .i64 0, .int .i64 0, .int .i64 0, .bool false, .slice none 0 0] 31)
  have rb := Lib.hid (blk_new w [.int .i8 0, .int .i64 0, .int .i64 0, .int .i64 0, .int .i64 0, .int .i64 0, .int .i64 0, .int .i64 0, .int .i64 0, .int .i64 0, .int .i64 0, .bool false, .slice none 0 0] 31)
  have h0 := Lib.hid (h.bel hal)
  have k0 := Lib.hid (Only.bel (a := a) hal h.mw)
  have ha : RowKit.Hid (a ≠ w.heap.size) := Lib.hid (by have := h.b.l; omega)
  have hmw := Lib.hid h.mw
  have hmwb : RowKit.Hid (¬ m w.heap.size) := Lib.hid (fun hm => Nat.lt_irrefl _ (h.mw _ hm))
  clear h hal
  go_enter Try.func8, Try.ntmps8
  go_upto_region 1 with fail
  generalize w.alloc (.cells #[.int .i8 0, .int .i64 0, .int .i64 0, .int .i64 0, .int .i64 0, .int .i64 0, .int .i64 0, .int .i64 0, .int .i64 0, .int .i64 0, .int .i64 0, .bool false, .slice none 0 0] 31) = W0 at rb h0 k0 ⊢
  generalize hwb : w.heap.size = wb at rb ha hmwb ⊢
  replace hwb := Lib.hid hwb
  have hat := Lib.hid (at_E h0.out n)
  go_wp2_with fail
  refine hat.out.mono ?_
  rintro e u ⟨rfl, g1, k1⟩
  have rb1 := Lib.hid (k1.blk rb.out ha.out.symm)
  have k2 := Lib.hid (k0.out.trans k1)
  clear hat k1 k0 rb h0
  have c4 := g1.b.c 4 _ rfl
  replace hu := hu
  rw [hu] at c4
  have c3 := g1.b.c 3 _ rfl
  have f3 := g1.b.f 3
  have c20 := g1.b.c 20 _ rfl
  have c18 := g1.b.c 18 _ rfl
  have f4 := g1.b.f 4
  have f18 := g1.b.f 18
  have g2 : AgE m ((((u.setCell ⟨a, 3, none⟩ (.int .i64 (A.nu + 1))).setCell ⟨a, 4, none⟩ (.bool true)).setCell ⟨a, 18, none⟩ (.int .i64 (max A.no n)))) a { A with no := max A.no n, nu := A.nu + 1, un := true, se := max A.no n } p c := ((g1.set (A' := { A with no := max A.no n, nu := A.nu + 1 }) (o := 3) (v := .int .i64 (A.nu + 1)) (by omega) rfl).set (A' := { A with no := max A.no n, nu := A.nu + 1, un := true }) (o := 4) (v := .bool true) (by omega) rfl).set (A' := { A with no := max A.no n, nu := A.nu + 1, un := true, se := max A.no n }) (o := 18) (v := .int .i64 (max A.no n)) (by omega) rfl
  have k3 : Only a m u (((u.setCell ⟨a, 3, none⟩ (.int .i64 (A.nu + 1))).setCell ⟨a, 4, none⟩ (.bool true)).setCell ⟨a, 18, none⟩ (.int .i64 (max A.no n))) := ((Only.set u g1.ma 3 _).trans (Only.set _ g1.ma 4 _)).trans (Only.set _ g1.ma 18 _)
  have rb2 : Blk (((u.setCell ⟨a, 3, none⟩ (.int .i64 (A.nu + 1))).setCell ⟨a, 4, none⟩ (.bool true)).setCell ⟨a, 18, none⟩ (.int .i64 (max A.no n))) wb [.int .i8 0, .int .i64 0, .int .i64 0, .int .i64 0, .int .i64 0, .int .i64 0, .int .i64 0, .int .i64 0, .int .i64 0, .int .i64 0, .int .i64 0, .bool false, .slice none 0 0] := ((rb1.out.other ha.out.symm _).other ha.out.symm _).other ha.out.symm _
  have k4 := Lib.hid (k2.out.trans k3)
  replace g2 := Lib.hid g2
  replace rb2 := Lib.hid rb2
  clear g1 k3 k2 rb1 hu
  go_upto_region 9 with fail
  clear c4 c3 f3 c20 c18 f4 f18
  generalize ((u.setCell ⟨a, 3, none⟩ (.int .i64 (A.nu + 1))).setCell ⟨a, 4, none⟩ (.bool true)).setCell ⟨a, 18, none⟩ (.int .i64 (max A.no n)) = W at g2 k4 rb2 ⊢
  have y0 := g2.out.b.c 0 _ rfl
  have y2 := g2.out.b.c 2 _ rfl
  have y3 := g2.out.b.c 3 _ rfl
  refine wp_region_noPanic ?_
  refine Stg.wp_region_L [20] (Bs.SB W) (by kernel_rfl) (fun _ => (Below.refl _ _).drew) (fun hHeld => ?_)
  refine Stg.wpAnyL_start (n' := 21) (l' := #[false, false, false, false, false, false, false, false, false, false, false, false, false, false, false, false, false, false, false, false, false]) (by kernel_rfl) (by kernel_rfl) ?_
  refine Stg.wpAnyL_free (i := 0) (v := ?_) 0 rfl (by kernel_rfl) (by kernel_rfl) (by kernel_rfl) (by kernel_rfl) (by kernel_rfl) (fun _ _ _ h => h) (Or.inl ⟨by kernel_rfl, ?_⟩) (by assumption) ?_
  rotate_left
  · intro u _
    try simp only [List.getElem_toArray, List.getElem_cons_succ, List.getElem_cons_zero]
    go_simp
    try with_reducible rfl
  try simp only [Act.put, List.setIfInBounds_toArray, List.set_cons_zero, List.set_cons_succ]
  refine Stg.wpAnyL_free (i := 1) (v := ?_) 0 rfl (by kernel_rfl) (by kernel_rfl) (by kernel_rfl) (by kernel_rfl) (by kernel_rfl) (fun _ _ _ h => h) (Or.inl ⟨by kernel_rfl, ?_⟩) (by assumption) ?_
  rotate_left
  · intro u _
    try simp only [List.getElem_toArray, List.getElem_cons_succ, List.getElem_cons_zero]
    go_simp
    try with_reducible rfl
  try simp only [Act.put, List.setIfInBounds_toArray, List.set_cons_zero, List.set_cons_succ]
  refine Stg.wpAnyL_free (i := 2) (v := ?_) 0 rfl (by kernel_rfl) (by kernel_rfl) (by kernel_rfl) (by kernel_rfl) (by kernel_rfl) (fun _ _ _ h => h) (Or.inl ⟨by kernel_rfl, ?_⟩) (by assumption) ?_
  rotate_left
  · intro u _
    try simp only [List.getElem_toArray, List.getElem_cons_succ, List.getElem_cons_zero]
    go_simp
    try with_reducible rfl
  try simp only [Act.put, List.setIfInBounds_toArray, List.set_cons_zero, List.set_cons_succ]
  refine Stg.wpAnyL_start (n' := 18) (l' := #[true, true, true, false, false, false, false, false, false, false, false, false, false, false, false, false, false, false, false, false, false]) (by kernel_rfl) (by kernel_rfl) ?_
  refine Stg.wpAnyL_free (i := 3) (v := ?_) 0 rfl (by kernel_rfl) (by kernel_rfl) (by kernel_rfl) (by kernel_rfl) (by kernel_rfl) (fun _ _ _ h => h) (Or.inl ⟨by kernel_rfl, ?_⟩) (by assumption) ?_
  rotate_left
  · intro u _
    try simp only [List.getElem_toArray, List.getElem_cons_succ, List.getElem_cons_zero]
    go_simp
    try with_reducible rfl
  try simp only [Act.put, List.setIfInBounds_toArray, List.set_cons_zero, List.set_cons_succ]
  refine Stg.wpAnyL_take (i := 4) (v := ?_) [17, 18, 19, 20] 0 rfl (by kernel_rfl) (by kernel_rfl) (by kernel_rfl) (by kernel_rfl) (by kernel_rfl) (fun _ _ _ h => h) (Or.inl ⟨by kernel_rfl, ?_⟩) (by assumption) ?_
  rotate_left
  · intro u hSu
    skip
    have sB := hSu rfl
    have y0 := cellB sB y0
    have y1 := cellB sB y2
    have y2 := cellB sB y3
    try simp only [List.getElem_toArray, List.getElem_cons_succ, List.getElem_cons_zero]
    go_simp
    try with_reducible rfl
  try simp only [Act.put, List.setIfInBounds_toArray, List.set_cons_zero, List.set_cons_succ]
  refine Stg.wpAnyL_free (i := 5) (v := ?_) 0 rfl (by kernel_rfl) (by kernel_rfl) (by kernel_rfl) (by kernel_rfl) (by kernel_rfl) (fun _ _ _ h => h) (Or.inl ⟨by kernel_rfl, ?_⟩) (by assumption) ?_
  rotate_left
  · intro u _
    try simp only [List.getElem_toArray, List.getElem_cons_succ, List.getElem_cons_zero]
    go_simp
    try with_reducible rfl
  try simp only [Act.put, List.setIfInBounds_toArray, List.set_cons_zero, List.set_cons_succ]
  refine Stg.wpAnyL_start (n' := 15) (l' := #[true, true, true, true, true, true, false, false, false, false, false, false, false, false, false, false, false, false, false, false, false]) (by kernel_rfl) (by kernel_rfl) ?_
  refine Stg.wpAnyL_free (i := 6) (v := ?_) 0 rfl (by kernel_rfl) (by kernel_rfl) (by kernel_rfl) (by kernel_rfl) (by kernel_rfl) (fun _ _ _ h => h) (Or.inl ⟨by kernel_rfl, ?_⟩) (by assumption) ?_
  rotate_left
  · intro u _
    try simp only [List.getElem_toArray, List.getElem_cons_succ, List.getElem_cons_zero]
    go_simp
    try with_reducible rfl
  try simp only [Act.put, List.setIfInBounds_toArray, List.set_cons_zero, List.set_cons_succ]
  refine Stg.wpAnyL_free (i := 7) (v := ?_) 0 rfl (by kernel_rfl) (by kernel_rfl) (by kernel_rfl) (by kernel_rfl) (by kernel_rfl) (fun _ _ _ h => h) (Or.inl ⟨by kernel_rfl, ?_⟩) (by assumption) ?_
  rotate_left
  · intro u _
    try simp only [List.getElem_toArray, List.getElem_cons_succ, List.getElem_cons_zero]
    go_simp
    try with_reducible rfl
  try simp only [Act.put, List.setIfInBounds_toArray, List.set_cons_zero, List.set_cons_succ]
  refine Stg.wpAnyL_free (i := 8) (v := ?_) 0 rfl (by kernel_rfl) (by kernel_rfl) (by kernel_rfl) (by kernel_rfl) (by kernel_rfl) (fun _ _ _ h => h) (Or.inl ⟨by kernel_rfl, ?_⟩) (by assumption) ?_
  rotate_left
  · intro u _
    try simp only [List.getElem_toArray, List.getElem_cons_succ, List.getElem_cons_zero]
    go_simp
    try with_reducible rfl
  try simp only [Act.put, List.setIfInBounds_toArray, List.set_cons_zero, List.set_cons_succ]
  refine Stg.wpAnyL_start (n' := 12) (l' := #[true, true, true, true, true, true, true, true, true, false, false, false, false, false, false, false, false, false, false, false, false]) (by kernel_rfl) (by kernel_rfl) ?_
  refine Stg.wpAnyL_take (i := 9) (v := ?_) [17, 18, 19, 20] 0 rfl (by kernel_rfl) (by kernel_rfl) (by kernel_rfl) (by kernel_rfl) (by kernel_rfl) (fun _ _ _ h => h) (Or.inl ⟨by kernel_rfl, ?_⟩) (by assumption) ?_
  rotate_left
  · intro u hSu
    skip
    have sB := hSu rfl
    have y0 := cellB sB y0
    have y1 := cellB sB y2
    have y2 := cellB sB y3
    try simp only [List.getElem_toArray, List.getElem_cons_succ, List.getElem_cons_zero]
    go_simp
    try with_reducible rfl
  try simp only [Act.put, List.setIfInBounds_toArray, List.set_cons_zero, List.set_cons_succ]
  refine Stg.wpAnyL_free (i := 10) (v := ?_) 0 rfl (by kernel_rfl) (by kernel_rfl) (by kernel_rfl) (by kernel_rfl) (by kernel_rfl) (fun _ _ _ h => h) (Or.inl ⟨by kernel_rfl, ?_⟩) (by assumption) ?_
  rotate_left
  · intro u _
    try simp only [List.getElem_toArray, List.getElem_cons_succ, List.getElem_cons_zero]
    go_simp
    try with_reducible rfl
  try simp only [Act.put, List.setIfInBounds_toArray, List.set_cons_zero, List.set_cons_succ]
  refine Stg.wpAnyL_free (i := 11) (v := ?_) 0 rfl (by kernel_rfl) (by kernel_rfl) (by kernel_rfl) (by kernel_rfl) (by kernel_rfl) (fun _ _ _ h => h) (Or.inl ⟨by kernel_rfl, ?_⟩) (by assumption) ?_
  rotate_left
  · intro u _
    try simp only [List.getElem_toArray, List.getElem_cons_succ, List.getElem_cons_zero]
    go_simp
    try with_reducible rfl
  try simp only [Act.put, List.setIfInBounds_toArray, List.set_cons_zero, List.set_cons_succ]
  refine Stg.wpAnyL_start (n' := 9) (l' := #[true, true, true, true, true, true, true, true, true, true, true, true, false, false, false, false, false, false, false, false, false]) (by kernel_rfl) (by kernel_rfl) ?_
  refine Stg.wpAnyL_free (i := 12) (v := ?_) 0 rfl (by kernel_rfl) (by kernel_rfl) (by kernel_rfl) (by kernel_rfl) (by kernel_rfl) (fun _ _ _ h => h) (Or.inl ⟨by kernel_rfl, ?_⟩) (by assumption) ?_
  rotate_left
  · intro u _
    try simp only [List.getElem_toArray, List.getElem_cons_succ, List.getElem_cons_zero]
    go_simp
    try with_reducible rfl
  try simp only [Act.put, List.setIfInBounds_toArray, List.set_cons_zero, List.set_cons_succ]
  refine Stg.wpAnyL_free (i := 13) (v := ?_) 0 rfl (by kernel_rfl) (by kernel_rfl) (by kernel_rfl) (by kernel_rfl) (by kernel_rfl) (fun _ _ _ h => h) (Or.inl ⟨by kernel_rfl, ?_⟩) (by assumption) ?_
  rotate_left
  · intro u _
    try simp only [List.getElem_toArray, List.getElem_cons_succ, List.getElem_cons_zero]
    go_simp
    try with_reducible rfl
  try simp only [Act.put, List.setIfInBounds_toArray, List.set_cons_zero, List.set_cons_succ]
  refine Stg.wpAnyL_take (i := 14) (v := ?_) [17, 18, 19, 20] 0 rfl (by kernel_rfl) (by kernel_rfl) (by kernel_rfl) (by kernel_rfl) (by kernel_rfl) (fun _ _ _ h => h) (Or.inl ⟨by kernel_rfl, ?_⟩) (by assumption) ?_
  rotate_left
  · intro u hSu
    skip
    have sB := hSu rfl
    have y0 := cellB sB y0
    have y1 := cellB sB y2
    have y2 := cellB sB y3
    try simp only [List.getElem_toArray, List.getElem_cons_succ, List.getElem_cons_zero]
    go_simp
    try with_reducible rfl
  try simp only [Act.put, List.setIfInBounds_toArray, List.set_cons_zero, List.set_cons_succ]
  refine Stg.wpAnyL_start (n' := 6) (l' := #[true, true, true, true, true, true, true, true, true, true, true, true, true, true, true, false, false, false, false, false, false]) (by kernel_rfl) (by kernel_rfl) ?_
  refine Stg.wpAnyL_free (i := 15) (v := ?_) 0 rfl (by kernel_rfl) (by kernel_rfl) (by kernel_rfl) (by kernel_rfl) (by kernel_rfl) (fun _ _ _ h => h) (Or.inl ⟨by kernel_rfl, ?_⟩) (by assumption) ?_
  rotate_left
  · intro u _
    try simp only [List.getElem_toArray, List.getElem_cons_succ, List.getElem_cons_zero]
    go_simp
    try with_reducible rfl
  try simp only [Act.put, List.setIfInBounds_toArray, List.set_cons_zero, List.set_cons_succ]
  refine Stg.wpAnyL_free (i := 16) (v := ?_) 0 rfl (by kernel_rfl) (by kernel_rfl) (by kernel_rfl) (by kernel_rfl) (by kernel_rfl) (fun _ _ _ h => h) (Or.inl ⟨by kernel_rfl, ?_⟩) (by assumption) ?_
  rotate_left
  · intro u _
    try simp only [List.getElem_toArray, List.getElem_cons_succ, List.getElem_cons_zero]
    go_simp
    try with_reducible rfl
  try simp only [Act.put, List.setIfInBounds_toArray, List.set_cons_zero, List.set_cons_succ]
  refine Stg.wpAnyL_free (i := 17) (v := ?_) 0 rfl (by kernel_rfl) (by kernel_rfl) (by kernel_rfl) (by kernel_rfl) (by kernel_rfl) (fun _ _ _ h => h) (Or.inl ⟨by kernel_rfl, ?_⟩) (by assumption) ?_
  rotate_left
  · intro u _
    try simp only [List.getElem_toArray, List.getElem_cons_succ, List.getElem_cons_zero]
    go_simp
    try with_reducible rfl
  try simp only [Act.put, List.setIfInBounds_toArray, List.set_cons_zero, List.set_cons_succ]
  refine Stg.wpAnyL_start (n' := 3) (l' := #[true, true, true, true, true, true, true, true, true, true, true, true, true, true, true, true, true, true, false, false, false]) (by kernel_rfl) (by kernel_rfl) ?_
  refine Stg.wpAnyL_free (i := 18) (v := ?_) 0 rfl (by kernel_rfl) (by kernel_rfl) (by kernel_rfl) (by kernel_rfl) (by kernel_rfl) (fun _ _ _ h => h) (Or.inl ⟨by kernel_rfl, ?_⟩) (by assumption) ?_
  rotate_left
  · intro u _
    try simp only [List.getElem_toArray, List.getElem_cons_succ, List.getElem_cons_zero]
    go_simp
    try with_reducible rfl
  try simp only [Act.put, List.setIfInBounds_toArray, List.set_cons_zero, List.set_cons_succ]
  refine Stg.wpAnyL_free (i := 19) (v := ?_) 0 rfl (by kernel_rfl) (by kernel_rfl) (by kernel_rfl) (by kernel_rfl) (by kernel_rfl) (fun _ _ _ h => h) (Or.inl ⟨by kernel_rfl, ?_⟩) (by assumption) ?_
  rotate_left
  · intro u _
    try simp only [List.getElem_toArray, List.getElem_cons_succ, List.getElem_cons_zero]
    go_simp
    try with_reducible rfl
  try simp only [Act.put, List.setIfInBounds_toArray, List.set_cons_zero, List.set_cons_succ]
  refine Stg.wpAnyL_one (i := 20) 1 rfl (by kernel_rfl) (by kernel_rfl) (fun K hK => ?_)
  have g6 := g2.out.bel (hHeld rfl)
  have k6 := k4.out.trans (Only.bel (a := a) (hHeld rfl) g2.out.mw)
  have rb6 := rb2.out.bel (hHeld rfl)
  have r0 := g2.out.b.c 5 _ rfl
  have r1 := g2.out.b.c 6 _ rfl
  have r2 := g2.out.b.c 7 _ rfl
  have r3 := g2.out.b.c 8 _ rfl
  have r4 := g2.out.b.c 9 _ rfl
  have r5 := g2.out.b.c 10 _ rfl
  have r6 := g2.out.b.c 11 _ rfl
  have r7 := g2.out.b.c 12 _ rfl
  have r8 := g2.out.b.c 13 _ rfl
  have r9 := g2.out.b.c 14 _ rfl
  have r10 := g2.out.b.c 15 _ rfl
  have r11 := g2.out.b.c 16 _ rfl
  have r12 := g2.out.b.c 17 _ rfl
  have rf0 := g2.out.b.f 5
  have rf1 := g2.out.b.f 6
  have rf2 := g2.out.b.f 7
  have rf3 := g2.out.b.f 8
  have rf4 := g2.out.b.f 9
  have rf5 := g2.out.b.f 10
  have rf6 := g2.out.b.f 11
  have rf7 := g2.out.b.f 12
  have rf8 := g2.out.b.f 13
  have rf9 := g2.out.b.f 14
  have rf10 := g2.out.b.f 15
  have rf11 := g2.out.b.f 16
  have rf12 := g2.out.b.f 17
  have ha2 := ha
  try simp only [List.getElem_toArray, List.getElem_cons_succ, List.getElem_cons_zero]
  go_simp
  refine hK.out _ _ ?_ (fun hHeld1 => ?_)
  · exact fun h => absurd h (by decide)
  clear hK K
  try simp only [Act.put, List.setIfInBounds_toArray, List.set_cons_zero, List.set_cons_succ]
  refine Stg.wpAnyL_done (by kernel_rfl) ?_ _
  try simp only [List.getElem_toArray, List.getElem_cons_succ, List.getElem_cons_zero]
  try simp only [Act.put, List.setIfInBounds_toArray, List.set_cons_zero, List.set_cons_succ]
  refine NoPanic.normal ?_
  clear y0 y2 y3 r0 rf0 r1 rf1 r2 rf2 r3 rf3 r4 rf4 r5 rf5 r6 rf6 r7 rf7 r8 rf8 r9 rf9 r10 rf10 r11 rf11 r12 rf12
  have h7 : AgE m ((((((((((((((W.setCell ⟨a, 5, none⟩ (.int .i8 4)).setCell ⟨a, 6, none⟩ (.int .i64 0)).setCell ⟨a, 7, none⟩ (.int .i64 (A.nu + 1))).setCell ⟨a, 8, none⟩ (.int .i64 t)).setCell ⟨a, 9, none⟩ (.int .i64 0)).setCell ⟨a, 10, none⟩ (.int .i64 0)).setCell ⟨a, 11, none⟩ (.int .i64 A.sh)).setCell ⟨a, 12, none⟩ (.int .i64 A.ep)).setCell ⟨a, 13, none⟩ (.int .i64 0)).setCell ⟨a, 14, none⟩ (.int .i64 z)).setCell ⟨a, 15, none⟩ (.int .i64 0)).setCell ⟨a, 16, none⟩ (.bool false)).setCell ⟨a, 17, none⟩ (.slice none 0 0)).drew) a (asked A t z n) p c := (AgE.sets (A' := asked A t z n) g2.out 5 [.int .i8 4, .int .i64 0, .int .i64 (A.nu + 1), .int .i64 t, .int .i64 0, .int .i64 0, .int .i64 A.sh, .int .i64 A.ep, .int .i64 0, .int .i64 z, .int .i64 0, .bool false, .slice none 0 0] (by simp) rfl).bel ((Below.refl _ _).drew)
  have k7 : Only a m w ((((((((((((((W.setCell ⟨a, 5, none⟩ (.int .i8 4)).setCell ⟨a, 6, none⟩ (.int .i64 0)).setCell ⟨a, 7, none⟩ (.int .i64 (A.nu + 1))).setCell ⟨a, 8, none⟩ (.int .i64 t)).setCell ⟨a, 9, none⟩ (.int .i64 0)).setCell ⟨a, 10, none⟩ (.int .i64 0)).setCell ⟨a, 11, none⟩ (.int .i64 A.sh)).setCell ⟨a, 12, none⟩ (.int .i64 A.ep)).setCell ⟨a, 13, none⟩ (.int .i64 0)).setCell ⟨a, 14, none⟩ (.int .i64 z)).setCell ⟨a, 15, none⟩ (.int .i64 0)).setCell ⟨a, 16, none⟩ (.bool false)).setCell ⟨a, 17, none⟩ (.slice none 0 0)).drew) := (k4.out.trans (Only.sets g2.out.ma [.int .i8 4, .int .i64 0, .int .i64 (A.nu + 1), .int .i64 t, .int .i64 0, .int .i64 0, .int .i64 A.sh, .int .i64 A.ep, .int .i64 0, .int .i64 z, .int .i64 0, .bool false, .slice none 0 0] W 5)).drew
  have rb7 : Blk ((((((((((((((W.setCell ⟨a, 5, none⟩ (.int .i8 4)).setCell ⟨a, 6, none⟩ (.int .i64 0)).setCell ⟨a, 7, none⟩ (.int .i64 (A.nu + 1))).setCell ⟨a, 8, none⟩ (.int .i64 t)).setCell ⟨a, 9, none⟩ (.int .i64 0)).setCell ⟨a, 10, none⟩ (.int .i64 0)).setCell ⟨a, 11, none⟩ (.int .i64 A.sh)).setCell ⟨a, 12, none⟩ (.int .i64 A.ep)).setCell ⟨a, 13, none⟩ (.int .i64 0)).setCell ⟨a, 14, none⟩ (.int .i64 z)).setCell ⟨a, 15, none⟩ (.int .i64 0)).setCell ⟨a, 16, none⟩ (.bool false)).setCell ⟨a, 17, none⟩ (.slice none 0 0)).drew) wb [.int .i8 0, .int .i64 0, .int .i64 0, .int .i64 0, .int .i64 0, .int .i64 0, .int .i64 0, .int .i64 0, .int .i64 0, .int .i64 0, .int .i64 0, .bool false, .slice none 0 0] := (Blk.othS ha.out.symm [.int .i8 4, .int .i64 0, .int .i64 (A.nu + 1), .int .i64 t, .int .i64 0, .int .i64 0, .int .i64 A.sh, .int .i64 A.ep, .int .i64 0, .int .i64 z, .int .i64 0, .bool false, .slice none 0 0] 5 rb2.out).drew
  clear g6 k6 rb6 g2 k4 rb2
  generalize (((((((((((((W.setCell ⟨a, 5, none⟩ (.int .i8 4)).setCell ⟨a, 6, none⟩ (.int .i64 0)).setCell ⟨a, 7, none⟩ (.int .i64 (A.nu + 1))).setCell ⟨a, 8, none⟩ (.int .i64 t)).setCell ⟨a, 9, none⟩ (.int .i64 0)).setCell ⟨a, 10, none⟩ (.int .i64 0)).setCell ⟨a, 11, none⟩ (.int .i64 A.sh)).setCell ⟨a, 12, none⟩ (.int .i64 A.ep)).setCell ⟨a, 13, none⟩ (.int .i64 0)).setCell ⟨a, 14, none⟩ (.int .i64 z)).setCell ⟨a, 15, none⟩ (.int .i64 0)).setCell ⟨a, 16, none⟩ (.bool false)).setCell ⟨a, 17, none⟩ (.slice none 0 0)).drew = V at h7 k7 rb7 ⊢
  have s0 := h7.b.c 5 _ rfl
  have s1 := h7.b.c 6 _ rfl
  have s2 := h7.b.c 7 _ rfl
  have s3 := h7.b.c 8 _ rfl
  have s4 := h7.b.c 9 _ rfl
  have s5 := h7.b.c 10 _ rfl
  have s6 := h7.b.c 11 _ rfl
  have s7 := h7.b.c 12 _ rfl
  have s8 := h7.b.c 13 _ rfl
  have s9 := h7.b.c 14 _ rfl
  have s10 := h7.b.c 15 _ rfl
  have s11 := h7.b.c 16 _ rfl
  have s12 := h7.b.c 17 _ rfl
  have r0 := rb7.c 0 _ rfl
  have r1 := rb7.c 1 _ rfl
  have r2 := rb7.c 2 _ rfl
  have r3 := rb7.c 3 _ rfl
  have r4 := rb7.c 4 _ rfl
  have r5 := rb7.c 5 _ rfl
  have r6 := rb7.c 6 _ rfl
  have r7 := rb7.c 7 _ rfl
  have r8 := rb7.c 8 _ rfl
  have r9 := rb7.c 9 _ rfl
  have r10 := rb7.c 10 _ rfl
  have r11 := rb7.c 11 _ rfl
  have r12 := rb7.c 12 _ rfl
  have rf0 := rb7.f 0
  have rf1 := rb7.f 1
  have rf2 := rb7.f 2
  have rf3 := rb7.f 3
  have rf4 := rb7.f 4
  have rf5 := rb7.f 5
  have rf6 := rb7.f 6
  have rf7 := rb7.f 7
  have rf8 := rb7.f 8
  have rf9 := rb7.f 9
  have rf10 := rb7.f 10
  have rf11 := rb7.f 11
  have rf12 := rb7.f 12
  have h8 : AgE m ((((((((((((((V.setCell ⟨wb, 0, none⟩ (.int .i8 4)).setCell ⟨wb, 1, none⟩ (.int .i64 0)).setCell ⟨wb, 2, none⟩ (.int .i64 (A.nu + 1))).setCell ⟨wb, 3, none⟩ (.int .i64 t)).setCell ⟨wb, 4, none⟩ (.int .i64 0)).setCell ⟨wb, 5, none⟩ (.int .i64 0)).setCell ⟨wb, 6, none⟩ (.int .i64 A.sh)).setCell ⟨wb, 7, none⟩ (.int .i64 A.ep)).setCell ⟨wb, 8, none⟩ (.int .i64 0)).setCell ⟨wb, 9, none⟩ (.int .i64 z)).setCell ⟨wb, 10, none⟩ (.int .i64 0)).setCell ⟨wb, 11, none⟩ (.bool false)).setCell ⟨wb, 12, none⟩ (.slice none 0 0))) a (asked A t z n) p c := h7.othS ha.out 0 [.int .i8 4, .int .i64 0, .int .i64 (A.nu + 1), .int .i64 t, .int .i64 0, .int .i64 0, .int .i64 A.sh, .int .i64 A.ep, .int .i64 0, .int .i64 z, .int .i64 0, .bool false, .slice none 0 0]
  have k8 : Only a m w ((((((((((((((V.setCell ⟨wb, 0, none⟩ (.int .i8 4)).setCell ⟨wb, 1, none⟩ (.int .i64 0)).setCell ⟨wb, 2, none⟩ (.int .i64 (A.nu + 1))).setCell ⟨wb, 3, none⟩ (.int .i64 t)).setCell ⟨wb, 4, none⟩ (.int .i64 0)).setCell ⟨wb, 5, none⟩ (.int .i64 0)).setCell ⟨wb, 6, none⟩ (.int .i64 A.sh)).setCell ⟨wb, 7, none⟩ (.int .i64 A.ep)).setCell ⟨wb, 8, none⟩ (.int .i64 0)).setCell ⟨wb, 9, none⟩ (.int .i64 z)).setCell ⟨wb, 10, none⟩ (.int .i64 0)).setCell ⟨wb, 11, none⟩ (.bool false)).setCell ⟨wb, 12, none⟩ (.slice none 0 0))) := Only.newS (hwb.out ▸ Nat.le_refl _) hmwb.out [.int .i8 4, .int .i64 0, .int .i64 (A.nu + 1), .int .i64 t, .int .i64 0, .int .i64 0, .int .i64 A.sh, .int .i64 A.ep, .int .i64 0, .int .i64 z, .int .i64 0, .bool false, .slice none 0 0] 0 k7
  have rb8 : Blk ((((((((((((((V.setCell ⟨wb, 0, none⟩ (.int .i8 4)).setCell ⟨wb, 1, none⟩ (.int .i64 0)).setCell ⟨wb, 2, none⟩ (.int .i64 (A.nu + 1))).setCell ⟨wb, 3, none⟩ (.int .i64 t)).setCell ⟨wb, 4, none⟩ (.int .i64 0)).setCell ⟨wb, 5, none⟩ (.int .i64 0)).setCell ⟨wb, 6, none⟩ (.int .i64 A.sh)).setCell ⟨wb, 7, none⟩ (.int .i64 A.ep)).setCell ⟨wb, 8, none⟩ (.int .i64 0)).setCell ⟨wb, 9, none⟩ (.int .i64 z)).setCell ⟨wb, 10, none⟩ (.int .i64 0)).setCell ⟨wb, 11, none⟩ (.bool false)).setCell ⟨wb, 12, none⟩ (.slice none 0 0))) wb [.int .i8 4, .int .i64 0, .int .i64 (A.nu + 1), .int .i64 t, .int .i64 0, .int .i64 0, .int .i64 A.sh, .int .i64 A.ep, .int .i64 0, .int .i64 z, .int .i64 0, .bool false, .slice none 0 0] := Blk.sets [.int .i8 4, .int .i64 0, .int .i64 (A.nu + 1), .int .i64 t, .int .i64 0, .int .i64 0, .int .i64 A.sh, .int .i64 A.ep, .int .i64 0, .int .i64 z, .int .i64 0, .bool false, .slice none 0 0] 0 rb7 (by simp)
  have q0 := rb8.c 0 _ rfl
  have q1 := rb8.c 1 _ rfl
  have q2 := rb8.c 2 _ rfl
  have q3 := rb8.c 3 _ rfl
  have q4 := rb8.c 4 _ rfl
  have q5 := rb8.c 5 _ rfl
  have q6 := rb8.c 6 _ rfl
  have q7 := rb8.c 7 _ rfl
  have q8 := rb8.c 8 _ rfl
  have q9 := rb8.c 9 _ rfl
  have q10 := rb8.c 10 _ rfl
  have q11 := rb8.c 11 _ rfl
  have q12 := rb8.c 12 _ rfl
  replace h8 := Lib.hid h8
  replace k8 := Lib.hid k8
  replace q0 := Lib.hid q0
  replace q1 := Lib.hid q1
  replace q2 := Lib.hid q2
  replace q3 := Lib.hid q3
  replace q4 := Lib.hid q4
  replace q5 := Lib.hid q5
  replace q6 := Lib.hid q6
  replace q7 := Lib.hid q7
  replace q8 := Lib.hid q8
  replace q9 := Lib.hid q9
  replace q10 := Lib.hid q10
  replace q11 := Lib.hid q11
  replace q12 := Lib.hid q12
  clear h7 k7 rb7 rb8
  go_wp2_with fail
  try rw [Exit.noGoto_ret]
  refine bodyPost_ret (v := .tuple #[cmdV (asked A t z n), .int .i64 0]) (by simp [results, Try.results8, go_sem, q0.out, q1.out, q2.out, q3.out, q4.out, q5.out, q6.out, q7.out, q8.out, q9.out, q10.out, q11.out, q12.out, cmdV, asked]) rfl ?_
  exact ⟨rfl, h8.out, k8.out⟩

end Go.Proofs.Ytldknmcnmhdgfaa
