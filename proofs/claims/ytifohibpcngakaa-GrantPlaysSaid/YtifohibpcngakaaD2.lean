/- A leader's desk: its state; New, Made. -/
import Derived.Test.YtifohibpcngakaaD1
import Derived.Maps.OwnOps
import Derived.Maps.OwnSet
namespace Go.Proofs.Ytifohibpcngakaa
open Go.ChangeShapes Go.WideShapes Go.ChangeAt Go.RowKit Go.Maps
set_option linter.unusedVariables false
set_option linter.unusedSimpArgs false
open BigFrame Bs Gr
attribute [local go_sem] Bs.max_fold Bs.min_fold

namespace Gr
theorem ikey : Keyed Try.prog 3 := int_keyed Try.underlying3
theorem ikey_at {k : Int} (h : (Lit.int .i64 k).wf = true) : keyOf Try.prog 3 (.int .i64 k) = some (.int .i64 k) := keyOf_int_mk Try.underlying3 h
theorem i64_wf {a : Int} (h : -9223372036854775808 ≤ a ∧ a ≤ 9223372036854775807) : (Lit.int .i64 a).wf = true := by
  simp [Lit.wf, IntKind.min, IntKind.max, IntKind.bits, IntKind.signed]
  omega
/-- A map of times. -/
def Tms (w : World) (bm n : Nat) (T : Int → Option Int) : Prop :=
  ∃ D : DataW Unit, w.ownsMap Try.prog 3 (plainElem Try.prog 3) bm n D ∧ ∀ k, (Lit.int .i64 k).wf = true → Maps.has D (.int .i64 k) = (T k).isSome ∧ D.atKey (.int .i64 k) (.lit (.int .i64 0)) = .lit (.int .i64 ((T k).getD 0))
def setT (T : Int → Option Int) (k v : Int) (x : Int) : Option Int := if x = k then some v else T x
def madeT (T : Int → Option Int) (k v : Int) : Int → Option Int := if (T k).isSome then T else setT T k v
theorem madeT_some {T : Int → Option Int} {k v c : Int} (h : T k = some c) : madeT T k v = T := by unfold madeT; rw [h]; rfl
theorem madeT_none {T : Int → Option Int} {k v : Int} (h : T k = none) : madeT T k v = setT T k v := by unfold madeT; rw [h]; rfl
def delT (T : Int → Option Int) (k : Int) (x : Int) : Option Int := if x = k then none else T x
theorem Tms.blk {w w' : World} {bm n : Nat} {T : Int → Option Int} (h : Tms w bm n T) (e : w'.heap[bm]? = w.heap[bm]?) : Tms w' bm n T := by
  obtain ⟨D, ⟨es, clock, hb, F, hs, hD⟩, h2⟩ := h
  exact ⟨D, ⟨es, clock, e.trans hb, F, hs, hD⟩, h2⟩
theorem Tms.lt {w : World} {bm n : Nat} {T : Int → Option Int} (h : Tms w bm n T) : bm < w.heap.size := by
  obtain ⟨D, h1, _⟩ := h
  exact h1.lt
theorem Tms.put {w' : World} {bm n : Nat} {T : Int → Option Int} {D : DataW Unit} (k v : Int) (hk : (Lit.int .i64 k).wf = true)
    (hm : Maps.IsMap D) (h1 : ∀ k, (Lit.int .i64 k).wf = true → Maps.has D (.int .i64 k) = (T k).isSome ∧ D.atKey (.int .i64 k) (.lit (.int .i64 0)) = .lit (.int .i64 ((T k).getD 0)))
    (h2 : w'.ownsMap Try.prog 3 (plainElem Try.prog 3) bm n (D.put (.int .i64 k) (.lit (.int .i64 v)))) : Tms w' bm n (setT T k v) := by
  refine ⟨_, h2, fun x hx => ?_⟩
  unfold setT
  by_cases e : x = k
  · subst e
    rw [if_pos rfl]
    exact ⟨has_put_same hm (ikey.key (ikey_at hx)) _, atKey_put_same hm (ikey.key (ikey_at hx)) _ _⟩
  · rw [if_neg e]
    have hne : (Lit.int .i64 x) ≠ .int .i64 k := fun q => e (by injection q)
    exact ⟨(has_put_other hne _).trans (h1 x hx).1, (atKey_put_other hne _ _).trans (h1 x hx).2⟩
theorem Tms.del {w' : World} {bm n : Nat} {T : Int → Option Int} {D : DataW Unit} (k : Int)
    (h1 : ∀ k, (Lit.int .i64 k).wf = true → Maps.has D (.int .i64 k) = (T k).isSome ∧ D.atKey (.int .i64 k) (.lit (.int .i64 0)) = .lit (.int .i64 ((T k).getD 0)))
    (h2 : w'.ownsMap Try.prog 3 (plainElem Try.prog 3) bm n (D.del (.int .i64 k))) : Tms w' bm n (delT T k) := by
  refine ⟨_, h2, fun x hx => ?_⟩
  unfold delT
  by_cases e : x = k
  · subst e
    rw [if_pos rfl]
    exact ⟨has_del_same, atKey_del_same _⟩
  · rw [if_neg e]
    have hne : (Lit.int .i64 x) ≠ .int .i64 k := fun q => e (by injection q)
    exact ⟨(has_del_other hne).trans (h1 x hx).1, (atKey_del_other hne _).trans (h1 x hx).2⟩
/-- A desk. -/
structure DK (m : Nat → Prop) (w : World) (d bm n : Nat) (OV EL NO : Int) (T : Int → Option Int) : Prop where
  b : Blk w d [.int .i64 OV, .int .i64 EL, .int .i64 NO, .map (some bm)]
  t : Tms w bm n T
  md : ¬ m d
  mb : ¬ m bm
  mw : ∀ b, m b → b < w.heap.size
  ne : d ≠ bm
theorem DK.bel {m : Nat → Prop} {w w' : World} {d bm n : Nat} {OV EL NO : Int} {T : Int → Option Int} (h : DK m w d bm n OV EL NO T) (k : Below w.heap.size w w') : DK m w' d bm n OV EL NO T :=
  ⟨h.b.bel k, h.t.blk (k.block bm h.t.lt), h.md, h.mb, mwB h.mw k.size, h.ne⟩
theorem DK.kp {m m2 : Nat → Prop} {w w' : World} {d bm n : Nat} {OV EL NO : Int} {T : Int → Option Int} (h : DK m w d bm n OV EL NO T) (k : Kp m2 w w') (h1 : m2 d) (h2 : m2 bm) : DK m w' d bm n OV EL NO T :=
  ⟨k.blk h.b h1, h.t.blk (k.k bm h2 h.t.lt), h.md, h.mb, mwB h.mw k.size, h.ne⟩
theorem DK.re {m m2 : Nat → Prop} {w : World} {d bm n : Nat} {OV EL NO : Int} {T : Int → Option Int} (h : DK m w d bm n OV EL NO T) (h1 : ¬ m2 d) (h2 : ¬ m2 bm) (h3 : ∀ b, m2 b → b < w.heap.size) : DK m2 w d bm n OV EL NO T :=
  ⟨h.b, h.t, h1, h2, h3, h.ne⟩
theorem DK.now {m : Nat → Prop} {w : World} {d bm n : Nat} {OV EL NO : Int} {T : Int → Option Int} (h : DK m w d bm n OV EL NO T) (x : Int) : DK m (w.setCell ⟨d, 2, none⟩ (.int .i64 x)) d bm n OV EL x T :=
  ⟨h.b.set (i := 2) (show 2 < 4 by omega) _, h.t.blk (Below.heap_setCell _ ⟨d, 2, none⟩ _ _ (Ne.symm h.ne)), h.md, h.mb, mwS h.mw, h.ne⟩
def NewD (m : Nat → Prop) (OV now : Int) (w : World) (e : Ending) (w' : World) : Prop :=
  ∃ d bm : Nat, e = .returned (.tuple #[.pointer (some ⟨d, 0, none⟩), .int .i64 0]) ∧ DK m w' d bm 0 OV now now (fun _ => none) ∧ w.heap.size ≤ d ∧ w.heap.size ≤ bm ∧ Below w.heap.size w w'
def DesP (m : Nat → Prop) (d bm n : Nat) (OV EL NO : Int) (T : Int → Option Int) (w : World) (r : Int) (e : Ending) (w' : World) : Prop :=
  e = .returned (.int .i64 r) ∧ DK m w' d bm n OV EL NO T ∧ Kp m w w'
theorem tms_new (w : World) : Tms (w.alloc (.map #[] 0)) w.heap.size 0 (fun _ => none) :=
  ⟨.map [], World.ownsMap_made _ _ _ _, fun k _ => ⟨rfl, rfl⟩⟩
theorem blk_grown {w w' : World} {b q : Nat} {l : List Value} (h : Blk w b l) (hg : w.grownBy w' (some q)) (hne : b ≠ q) : Blk w' b l := by
  have e := hg.block b h.l (fun e => hne (by simpa using e))
  exact ⟨fun i x hx => (World.cell?_of_block e).trans (h.c i x hx), fun o => (World.frozen?_of_block e).trans (h.f o), Nat.lt_of_lt_of_le h.l hg.size⟩
theorem kp_grown {m : Nat → Prop} {w w' : World} {q : Nat} (hg : w.grownBy w' (some q)) (hm : ¬ m q) : Kp m w w' :=
  ⟨(Below.refl 0 w).grown hg (Nat.zero_le _) (fun q _ => Nat.zero_le _), fun i hi hl => hg.block i hl (fun e => hm (by simp only [Option.some.injEq] at e; exact e ▸ hi))⟩
end Gr

set_option maxRecDepth 100000 in
set_option maxHeartbeats 4000000 in
theorem dnew_ok (m : Nat → Prop) (w : World) (ti rho now OV : Int) (hm : ∀ b, m b → b < w.heap.size) (h1 : 1 ≤ ti ∧ ti ≤ 1099511627776) (h2 : 0 ≤ rho ∧ rho ≤ 200) (h3 : 0 ≤ now)
    (hov : ∀ u, Calls Try.prog 22 #[.int .i64 ti, .int .i64 rho] u fun e w' => e = .returned (.int .i64 OV) ∧ Below u.heap.size u w') :
    Calls Try.prog 9 #[.int .i64 ti, .int .i64 rho, .int .i64 now] w (NewD m OV now w) := by
  obtain ⟨t1, t2⟩ := h1
  obtain ⟨r1, r2⟩ := h2
  have hmm := @run_makeMap Try.prog
  replace hov := Lib.hid hov
  replace hm := Lib.hid hm
  go_enter Try.func9, Try.ntmps9
  go_wp2_with fail
  refine (hov.out _).mono ?_
  rintro e w' ⟨rfl, hbo⟩
  have hsz := Lib.hid hbo.size
  replace hbo := Lib.hid hbo
  go_wp2_with fail
  go_ret2
  have hb := ((Below.refl w'.heap.size w').alloc (Nat.le_refl _) (.map #[] 0)).alloc (by simp) (.cells #[.int .i64 OV, .int .i64 now, .int .i64 now, .map (some w'.heap.size)] 61)
  have hd : Blk ((w'.alloc (.map #[] 0)).alloc (.cells #[.int .i64 OV, .int .i64 now, .int .i64 now, .map (some w'.heap.size)] 61)) (w'.heap.size + 1) [.int .i64 OV, .int .i64 now, .int .i64 now, .map (some w'.heap.size)] := by
    have := blk_new (w'.alloc (.map #[] 0)) [.int .i64 OV, .int .i64 now, .int .i64 now, .map (some w'.heap.size)] 61
    rwa [World.size_alloc] at this
  have hs := hsz.out
  refine ⟨w'.heap.size + 1, w'.heap.size, rfl, ⟨hd, ?_, fun h => by have := hm.out _ h; omega, fun h => by have := hm.out _ h; omega, mwB hm.out (Nat.le_trans hs hb.size), by omega⟩, by omega, hs, bNext hbo.out hb (Nat.le_refl _)⟩
  exact (tms_new w').blk (Below.heap_alloc _ _ _ (by simp))

set_option maxRecDepth 100000 in
set_option maxHeartbeats 4000000 in
theorem dnew_no (w : World) (ti rho now : Int) (h : ti < 1 ∨ 1099511627776 < ti ∨ rho < 0 ∨ 200 < rho ∨ now < 0) :
    Calls Try.prog 9 #[.int .i64 ti, .int .i64 rho, .int .i64 now] w fun e w' => e = .returned (.tuple #[.pointer none, .int .i64 2]) ∧ w' = w := by
  by_cases a1 : ti < 1
  · clear h
    go_enter Try.func9, Try.ntmps9
    go_wp2_with fail
    go_ret2
    exact ⟨rfl, rfl⟩
  by_cases a2 : 1099511627776 < ti
  · clear h
    go_enter Try.func9, Try.ntmps9
    go_wp2_with fail
    go_ret2
    exact ⟨rfl, rfl⟩
  by_cases a3 : rho < 0
  · clear h
    go_enter Try.func9, Try.ntmps9
    go_wp2_with fail
    go_ret2
    exact ⟨rfl, rfl⟩
  by_cases a4 : 200 < rho
  · clear h
    go_enter Try.func9, Try.ntmps9
    go_wp2_with fail
    go_ret2
    exact ⟨rfl, rfl⟩
  · have a5 : now < 0 := by omega
    clear h
    go_enter Try.func9, Try.ntmps9
    go_wp2_with fail
    go_ret2
    exact ⟨rfl, rfl⟩

set_option maxRecDepth 100000 in
set_option maxHeartbeats 4000000 in
theorem made_nil (w : World) (k v : Int) : Calls Try.prog 11 #[.pointer none, .int .i64 k, .int .i64 v] w fun e w' => e = .returned (.int .i64 1) ∧ w' = w := by
  go_enter Try.func11, Try.ntmps11
  go_wp2_with fail
  go_ret
  exact ⟨rfl, rfl⟩

set_option maxRecDepth 100000 in
set_option maxHeartbeats 4000000 in
theorem made_no {m : Nat → Prop} {w : World} {d bm n : Nat} {OV EL NO : Int} {T : Int → Option Int} (h : DK m w d bm n OV EL NO T) (k v : Int) (hb : k < 1 ∨ v < EL) :
    Calls Try.prog 11 #[.pointer (some ⟨d, 0, none⟩), .int .i64 k, .int .i64 v] w fun e w' => e = .returned (.int .i64 2) ∧ w' = w := by
  have c1 := h.b.c 1 _ rfl
  clear h
  by_cases h1 : k < 1
  · clear hb
    go_enter Try.func11, Try.ntmps11
    go_wp2_with fail
    go_ret
    exact ⟨rfl, rfl⟩
  · have h2 : v < EL := by omega
    clear hb
    go_enter Try.func11, Try.ntmps11
    go_wp2_with fail
    go_ret
    exact ⟨rfl, rfl⟩

set_option maxRecDepth 100000 in
set_option maxHeartbeats 4000000 in
theorem made_ok {m : Nat → Prop} {w : World} {d bm n : Nat} {OV EL NO : Int} {T : Int → Option Int} (h : DK m w d bm n OV EL NO T) (k v : Int) (h1 : 1 ≤ k ∧ k ≤ 9223372036854775807) (h2 : EL ≤ v ∧ v ≤ 9223372036854775807) (h3 : 0 ≤ EL) (hn : n ≤ 1000000) :
    Calls Try.prog 11 #[.pointer (some ⟨d, 0, none⟩), .int .i64 k, .int .i64 v] w (DesP m d bm (n + 1) OV EL (max NO v) (madeT T k v) w 0) := by
  have hwf := i64_wf (a := k) (by omega)
  have hwv := i64_wf (a := v) (by omega)
  have hk := Lib.hid (ikey_at hwf)
  obtain ⟨k1, k2⟩ := h1
  obtain ⟨v1, v2⟩ := h2
  have c1 := h.b.c 1 _ rfl
  have c2 := h.b.c 2 _ rfl
  have c3 := h.b.c 3 _ rfl
  have f2 := h.b.f 2
  have h2 := h.now (max NO v)
  have kk := (Kp.refl m w).setCell (p := ⟨d, 2, none⟩) h.md (.int .i64 (max NO v))
  replace hwf := Lib.hid hwf
  replace hwv := Lib.hid hwv
  replace h2 := Lib.hid h2
  replace kk := Lib.hid kk
  replace hn := Lib.hid hn
  clear h
  have hpe : plainElem (H := Unit) Try.prog 3 (.int .i64 v) = some (.lit (.int .i64 v), []) := plainElem_int Try.underlying3 hwv.out
  replace hpe := Lib.hid hpe
  have hzz : ∀ w : World, (zeroValue 3).run Try.prog w = .ok (.int .i64 0) w := fun _ => by kernel_rfl
  replace hzz := Lib.hid hzz
  go_enter Try.func11, Try.ntmps11
  go_upto_region 6 with fail
  clear c1 c2 c3 f2
  generalize w.setCell ⟨d, 2, none⟩ (.int .i64 (max NO v)) = u at h2 kk ⊢
  have c3 := h2.out.b.c 3 _ rfl
  obtain ⟨D, d1, d2⟩ := h2.out.t
  obtain ⟨e1, e2⟩ := d2 k hwf.out
  have hm := Lib.hid d1.isMap
  replace d1 := Lib.hid d1
  replace d2 := Lib.hid d2
  replace e2 := Lib.hid e2
  cases hT : T k with
  | some c0 =>
    rw [hT, Option.isSome_some] at e1
    replace hT := Lib.hid hT
    go_wp2_with (at_lookup; refine wpList_lookup_own_ok_int u rfl _ _ 59 rfl 3 3 .i64 ikey Try.underlying59 Try.underlying3 (hzz.out _) bm n D rfl d1.out _ _ rfl hk.out ?_; intro c hat hwc; rw [e1])
    go_ret
    have h3 := h2.out
    rw [madeT_some hT.out]
    refine ⟨rfl, ⟨h3.b, ?_, h3.md, h3.mb, h3.mw, h3.ne⟩, kk.out⟩
    exact ⟨D, d1.out.mono (Nat.le_succ n), d2.out⟩
  | none =>
    rw [hT, Option.isSome_none] at e1
    replace hT := Lib.hid hT
    go_wp2_with (first | (at_lookup; refine wpList_lookup_own_ok_int u rfl _ _ 59 rfl 3 3 .i64 ikey Try.underlying59 Try.underlying3 (hzz.out _) bm n D rfl d1.out _ _ rfl hk.out ?_; intro c hat hwc; rw [e1]; clear hat) | (at_mapUpdate; refine wpList_mapUpdate_own _ rfl _ _ _ 59 rfl 3 3 ikey Try.underlying59 _ bm n D rfl d1.out (by unfold maxLen; have := hn.out; omega) _ _ _ rfl rfl hk.out (.lit (.int .i64 v)) [] hpe.out ?_; intro w1 hown1 hgrow1))
    go_ret
    have h3 := h2.out
    rw [madeT_none hT.out]
    exact ⟨rfl, ⟨blk_grown h3.b hgrow1 h3.ne, Tms.put k v hwf.out hm.out d2.out hown1, h3.md, h3.mb, mwB h3.mw hgrow1.size, h3.ne⟩, kk.out.trans (kp_grown hgrow1 h3.mb)⟩
end Go.Proofs.Ytifohibpcngakaa
