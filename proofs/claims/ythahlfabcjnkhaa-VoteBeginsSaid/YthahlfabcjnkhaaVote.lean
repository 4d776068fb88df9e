/- The contracts of package vote (Rise, Answer) and of its reference: each as one walk. -/
import Derived.Test.YthahlfabcjnkhaaRwNewer
import Derived.Test.YthahlfabcjnkhaaRwRefNewer
namespace Go.Proofs.Ythahlfabcjnkhaa
open Go.ChangeShapes Go.WideShapes Go.ChangeAt Go.RowKit
set_option linter.unusedVariables false
set_option linter.unusedSimpArgs false
open Rw

namespace Vt
def riseT (t m : Int) : Int := max t m
def riseV (t v m : Int) : Int := if t < m then 0 else v
theorem riseT_gt {t m : Int} (h : t < m) : riseT t m = m := by unfold riseT; omega
theorem riseT_le {t m : Int} (h : m ≤ t) : riseT t m = t := by unfold riseT; omega
theorem riseV_gt {t v m : Int} (h : t < m) : riseV t v m = 0 := by unfold riseV; rw [if_pos h]
theorem riseV_le {t v m : Int} (h : m ≤ t) : riseV t v m = v := by unfold riseV; rw [if_neg (by omega)]
end Vt
open Vt

theorem rise_c (t v b m : Int) (w : World) :
    Calls Try.prog 54 #[.agg #[.int .i64 t, .int .i64 v, .int .i64 b], .int .i64 m] w fun e w' => e = .returned (.agg #[.int .i64 (riseT t m), .int .i64 (riseV t v m), .int .i64 b]) ∧ Below w.heap.size w w' := by
  by_cases h : t < m
  · have e1 := Lib.hid (riseT_gt h)
    have e2 := Lib.hid (riseV_gt (v := v) h)
    go_enter Try.func54, Try.ntmps54
    go_wp2
    refine bodyPost_ret (v := .agg #[.int .i64 m, .int .i64 0, .int .i64 b]) (by simp [results, Try.results54, go_sem]) rfl ⟨by rw [e1.out, e2.out], ?_⟩
    repeat (first | exact Below.refl _ _ | refine Below.alloc ?_ (by simp) _ | refine Below.setCell ?_ (by simp) _)
  · have h' : m ≤ t := by omega
    have e1 := Lib.hid (riseT_le h')
    have e2 := Lib.hid (riseV_le (v := v) h')
    go_enter Try.func54, Try.ntmps54
    go_wp2
    refine bodyPost_ret (v := .agg #[.int .i64 t, .int .i64 v, .int .i64 b]) (by simp [results, Try.results54, go_sem]) rfl ⟨by rw [e1.out, e2.out], ?_⟩
    repeat (first | exact Below.refl _ _ | refine Below.alloc ?_ (by simp) _ | refine Below.setCell ?_ (by simp) _)

theorem rrise_c (t v b m : Int) (w : World) :
    Calls Try.prog 55 #[.agg #[.int .i64 t, .int .i64 v, .int .i64 b], .int .i64 m] w fun e w' => e = .returned (.agg #[.int .i64 (riseT t m), .int .i64 (riseV t v m), .int .i64 b]) ∧ Below w.heap.size w w' := by
  by_cases h : t < m
  · have e1 := Lib.hid (riseT_gt h)
    have e2 := Lib.hid (riseV_gt (v := v) h)
    go_enter Try.func55, Try.ntmps55
    go_wp2
    refine bodyPost_ret (v := .agg #[.int .i64 m, .int .i64 0, .int .i64 b]) (by simp [results, Try.results55, go_sem]) rfl ⟨by rw [e1.out, e2.out], ?_⟩
    repeat (first | exact Below.refl _ _ | refine Below.alloc ?_ (by simp) _ | refine Below.setCell ?_ (by simp) _)
  · have h' : m ≤ t := by omega
    have e1 := Lib.hid (riseT_le h')
    have e2 := Lib.hid (riseV_le (v := v) h')
    go_enter Try.func55, Try.ntmps55
    go_wp2
    refine bodyPost_ret (v := .agg #[.int .i64 t, .int .i64 v, .int .i64 b]) (by simp [results, Try.results55, go_sem]) rfl ⟨by rw [e1.out, e2.out], ?_⟩
    repeat (first | exact Below.refl _ _ | refine Below.alloc ?_ (by simp) _ | refine Below.setCell ?_ (by simp) _)

/-- A message, as it lies. -/
structure Msg where
  kind : Int
  frm : Int
  to : Int
  term : Int
  index : Int
  last : Int
  commit : Int
  ok : Bool
  ents : Value
  si : Int
  st : Int
  ss : Int
  sdata : Value
  data : Value
def Msg.val (m : Msg) : Value := .agg #[.int .i8 m.kind, .int .i64 m.frm, .int .i64 m.to, .int .i64 m.term, .int .i64 m.index, .int .i64 m.last, .int .i64 m.commit, .bool m.ok, m.ents, .int .i64 m.si, .int .i64 m.st, .int .u8 m.ss, m.sdata, m.data]

theorem bcell {W w1 : World} (hb : Below W.heap.size W w1) : (∀ b o, b < W.heap.size → w1.cell? ⟨b, o, none⟩ = W.cell? ⟨b, o, none⟩) ∧ (∀ b o, b < W.heap.size → w1.frozen? ⟨b, o, none⟩ = W.frozen? ⟨b, o, none⟩) :=
  ⟨fun b o h => hb.cell (p := ⟨b, o, none⟩) h, fun b o h => hb.frozen (p := ⟨b, o, none⟩) h⟩

def zeroMsg : Msg := ⟨0, 0, 0, 0, 0, 0, 0, false, .slice none 0 0, 0, 0, 0, .slice none 0 0, .slice none 0 0⟩

set_option maxRecDepth 100000 in
set_option maxHeartbeats 1000000 in
theorem answer_rows (t v bt : Int) (r : Rw.R) (self : Int) (m : Msg) (w : World) (hw : RWf r) (hr : RAt w r) (hc : Rw.chkB r = false) :
    Calls Try.prog 34 #[.agg #[.int .i64 t, .int .i64 v, .int .i64 bt], r.val, .int .i64 self, m.val] w fun e w' => e = .returned (.tuple #[.agg #[.int .i64 0, .int .i64 0, .int .i64 0], zeroMsg.val, .int .i64 90]) ∧ Below w.heap.size w w' := by
  have hz := chkE_no hc
  clear hc
  obtain ⟨base, term, a, n, cap, e⟩ := r
  unfold R.val Msg.val
  simp only
  go_enter Try.func34, Try.ntmps34
  go_wp2_with fail
  refine (check_c ⟨base, term, a, n, cap, e⟩ _ hw (hr.below ?_)).mono ?_
  · repeat (first | exact Below.refl _ _ | refine Below.alloc ?_ (by simp; try omega) _)
  rintro e' w1 ⟨rfl, hb1⟩
  have hb0 : Below w.heap.size w w1 := belowNext (by repeat (first | exact Below.refl _ _ | refine Below.alloc ?_ (by simp; try omega) _)) hb1 (Nat.le_refl _)
  obtain ⟨hc1, hf1⟩ := bcell hb1
  have hs1 := hb1.size
  simp at hs1
  go_wp2
  refine bodyPost_ret (v := .tuple #[.agg #[.int .i64 0, .int .i64 0, .int .i64 0], zeroMsg.val, .int .i64 90]) (by simp [results, Try.results34, go_sem, zeroMsg, Msg.val, hc1, hf1, hs1]) rfl ⟨rfl, ?_⟩
  repeat (first | (with_reducible exact hb0) | (with_reducible refine Below.setCell ?_ (by simp; try omega) _))
end Go.Proofs.Ythahlfabcjnkhaa
