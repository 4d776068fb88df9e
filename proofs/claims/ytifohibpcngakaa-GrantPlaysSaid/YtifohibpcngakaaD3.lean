/- A leader's desk: Gone. -/
import Derived.Test.YtifohibpcngakaaD2
namespace Go.Proofs.Ytifohibpcngakaa
open Go.ChangeShapes Go.WideShapes Go.ChangeAt Go.RowKit Go.Maps
set_option linter.unusedVariables false
set_option linter.unusedSimpArgs false
open BigFrame Bs Gr

namespace Gr
def goneT (T : Int → Option Int) (f : Nat → Int) : Nat → Int → Option Int
  | 0 => T
  | i + 1 => delT (goneT T f i) (f i)
theorem run_clear_map {w : World} {b n : Nat} {D : DataW Unit} (h : w.ownsMap Try.prog 3 (plainElem Try.prog 3) b n D) (hz : Maps.size D = 0) :
    ∃ w', (∀ ty, (Builtin.clear_ #[59] ty #[.map (some b)]).run Try.prog w = .ok (.tuple #[]) w') ∧ w'.ownsMap Try.prog 3 (plainElem Try.prog 3) b n D ∧ w.grownBy w' (some b) := by
  obtain ⟨es, clock, hb, F, hs, rfl⟩ := h
  have he : es.size = 0 := by simpa [Maps.size, length_sorted] using hz
  obtain rfl : es = #[] := Array.eq_empty_of_size_eq_zero he
  refine ⟨ChangeMaps.setBlock w b (.map #[] clock), fun ty => ?_, ⟨#[], clock, ChangeMaps.heap_setBlock_same hb _, F, hs, rfl⟩, ⟨rfl, rfl, rfl, by simp [ChangeMaps.setBlock], fun i _ hi => ChangeMaps.heap_setBlock_other hb _ (fun e => hi (by rw [e]))⟩⟩
  simp [Builtin.clear_, run_underlying Try.underlying59, MapKept.run_getObj_map hb, MapKept.run_setObj_map _ hb, Result.andThen, ChangeMaps.setBlock]
/-- A slice of integers that lies in what is kept. -/
def Ints (m : Nat → Prop) (w : World) (a : Option Addr) (N : Nat) (f : Nat → Int) : Prop :=
  0 < N → ∃ b off, a = some ⟨b, off, none⟩ ∧ m b ∧ b < w.heap.size ∧ ∀ i, i < N → w.cell? ⟨b, off + i, none⟩ = some (.int .i64 (f i)) ∧ (Lit.int .i64 (f i)).wf = true
theorem Ints.kp {m : Nat → Prop} {w w' : World} {a : Option Addr} {N : Nat} {f : Nat → Int} (h : Ints m w a N f) (k : Kp m w w') : Ints m w' a N f := fun hp => by
  obtain ⟨b, off, e, hm, hb, hc⟩ := h hp
  exact ⟨b, off, e, hm, Nat.lt_of_lt_of_le hb k.size, fun i hi => ⟨(World.cell?_of_block (k.k b hm hb)).trans (hc i hi).1, (hc i hi).2⟩⟩
end Gr

set_option maxRecDepth 100000 in
set_option maxHeartbeats 4000000 in
theorem gone_nil (w : World) (a : Option Addr) (N c : Nat) : Calls Try.prog 12 #[.pointer none, .slice a N c] w fun e w' => e = .returned (.int .i64 1) ∧ w' = w := by
  go_enter Try.func12, Try.ntmps12
  go_wp2_with fail
  go_ret
  exact ⟨rfl, rfl⟩

set_option maxRecDepth 100000 in
set_option maxHeartbeats 4000000 in
theorem gone_ok {m : Nat → Prop} {w : World} {d bm n : Nat} {OV EL NO : Int} {T : Int → Option Int} (h : DK m w d bm n OV EL NO T) (a : Option Addr) (N c : Nat) (f : Nat → Int) (hN : N ≤ 1000000) (hf : Ints m w a N f) :
    Calls Try.prog 12 #[.pointer (some ⟨d, 0, none⟩), .slice a N c] w (DesP m d bm n OV EL NO (goneT T f N) w 0) := by
  have hNi : (N : Int) ≤ 1000000 := by omega
  replace hf := Lib.hid hf
  replace h := Lib.hid h
  go_enter Try.func12, Try.ntmps12
  go_wp2_with fail
  go_loopw [6, 11] (fun _ s11 wr => ∃ i : Nat, s11 = .int .i64 (i : Nat) ∧ i ≤ N ∧ DK m wr d bm n OV EL NO (goneT T f i) ∧ Kp m w wr) (fun _ s11 _ => N - (intOf s11).toNat)
  case atStart => exact ⟨0, rfl, Nat.zero_le _, h.out, Kp.refl _ _⟩
  case round =>
    obtain ⟨i, rfl, hi, hD, hK⟩ := hrel
    have ii : (i : Int) ≤ (N : Int) := by omega
    have c3 := hD.b.c 3 _ rfl
    obtain ⟨D, d1, d2⟩ := hD.t
    replace d2 := Lib.hid d2
    by_cases hlt : i < N
    · have ii1 : (i : Int) < (N : Int) := by omega
      obtain ⟨b, off, rfl, hm, hb, hc⟩ := (hf.out.kp hK) (by omega)
      obtain ⟨x0, hwf⟩ := hc i hlt
      obtain ⟨k, hk⟩ : ∃ k, RowKit.Hid (f i = k) := ⟨_, Lib.hid rfl⟩
      rw [hk.out] at x0 hwf
      have hkey := Lib.hid (ikey_at hwf)
      replace d1 := Lib.hid d1
      replace hD := Lib.hid hD
      replace hK := Lib.hid hK
      clear hc h hf
      go_wp2_with (at_delete; refine wpList_delete_own wr rfl _ _ 59 3 rfl 3 ikey Try.underlying59 _ bm n D rfl d1.out _ _ rfl hkey.out ?_; intro w1 hown1 hturn1)
      have hg := hturn1.grown
      have h3 := hD.out
      have hD2 : DK m w1 d bm n OV EL NO (goneT T f (i + 1)) := ⟨blk_grown h3.b hg h3.ne, by show Tms w1 bm n (delT (goneT T f i) (f i)); rw [hk.out]; exact Tms.del k d2.out hown1, h3.md, h3.mb, mwB h3.mw hg.size, h3.ne⟩
      have hK2 := hK.out.trans (kp_grown hg h3.mb)
      replace hD2 := Lib.hid hD2
      replace hK2 := Lib.hid hK2
      clear hg h3 hown1 hturn1
      go_roundw
      case rel => exact ⟨i + 1, by go_num, hlt, hD2.out, hK2.out⟩
      case measure => simp [intOf]; omega
    · obtain rfl : i = N := by omega
      by_cases hz : Maps.size D = 0
      · obtain ⟨w1, hrun, hown1, hg⟩ := run_clear_map d1 hz
        have hzi : ((Maps.size D : Nat) : Int) = 0 := by omega
        replace d1 := Lib.hid d1
        replace hown1 := Lib.hid hown1
        replace hg := Lib.hid hg
        replace hD := Lib.hid hD
        replace hK := Lib.hid hK
        clear hz h hf
        go_wp2_with (at_len; refine wpList_len_own wr rfl _ 59 rfl 3 3 Try.underlying59 _ bm n D rfl d1.out ?_; rw [hzi])
        go_ret
        have h3 := hD.out
        exact ⟨rfl, ⟨blk_grown h3.b hg.out h3.ne, ⟨D, hown1.out, d2.out⟩, h3.md, h3.mb, mwB h3.mw hg.out.size, h3.ne⟩, hK.out.trans (kp_grown hg.out h3.mb)⟩
      · obtain ⟨Z, hZ⟩ : ∃ Z : Int, ((Maps.size D : Nat) : Int) = Z := ⟨_, rfl⟩
        have hzi : ¬ Z = 0 := by omega
        have hzb : (Z == 0) = false := by simpa using hzi
        replace hZ := Lib.hid hZ
        replace d1 := Lib.hid d1
        replace hD := Lib.hid hD
        replace hK := Lib.hid hK
        clear hz h hf
        go_wp2_with (at_len; refine wpList_len_own wr rfl _ 59 rfl 3 3 Try.underlying59 _ bm n D rfl d1.out ?_; rw [hZ.out])
        go_ret
        exact ⟨rfl, hD.out, hK.out⟩
end Go.Proofs.Ytifohibpcngakaa
