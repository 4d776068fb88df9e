/- What the document says of a few messages. -/
import Derived.Test.YtnokojobiaddmaaP33
namespace Go.Proofs.Ytnokojobiaddmaa
open Go.ChangeShapes Go.WideShapes Go.ChangeAt Go.RowKit Go.Maps
set_option linter.unusedVariables false
set_option linter.unusedSimpArgs false
open BigFrame Bs By Am Ar

namespace Ar
def xa : Mg := ⟨⟨0, 1, 2, 7, 0, 0, 0, false, 0, 0, 0⟩, [], [], []⟩
def xb : Mg := ⟨⟨0, 2, 1, 0, 0, 0, 0, false, 0, 0, 0⟩, [], [], []⟩
theorem xa_sm : Sm xa := ⟨by simp [xa], fun y hy => by simp [xa] at hy, by simp [xa], by simp [xa]⟩
theorem xb_sm : Sm xb := ⟨by simp [xb], fun y hy => by simp [xb] at hy, by simp [xb], by simp [xb]⟩
theorem la0 (w : World) : LA w none 0 0 [] := LA.nil w none 0 (by omega)
theorem by0 (w : World) : Byt w none 0 0 [] := Byt.nil w none 0 (by omega)
theorem AirAt.bfx {m : Nat} {w w' : World} {g base : Nat} {lv lv' : Value} {l : List RM} {bm n : Nat} {C : Int → Int → Bool} (h : AirAt m w g base lv l bm n C) (k : Fx [g, bm] lv lv' w w') : Below m w w' :=
  k.below (by simp; exact ⟨h.h4, h.h5⟩) (fun b hb => by have := (h.own.lt b hb).1; have := h.h1; have := h.h4; omega) h.below
end Ar

set_option maxRecDepth 100000 in
set_option maxHeartbeats 8000000 in
theorem wakes02_c (w : World) : Calls Try.prog 7 #[] w fun e w' => e = .returned (.bool true) ∧ Below w.heap.size w w' := by
  have hnew := air_new w
  go_enter Try.func7, Try.ntmps7
  go_wp2_with fail
  refine hnew.mono ?_
  rintro e w1 ⟨g, bm, base, rfl, hA, hB⟩
  have hs := asend_ok hA.ra xa none 0 0 none 0 0 none 0 0 (la0 _) (by0 _) (by0 _) xa_sm (by decide) (by decide) (by decide)
  replace hA := Lib.hid hA
  clear hnew
  go_wp2_with fail
  refine hs.mono ?_
  rintro e w2 ⟨lv2, r1, rfl, hR2, hM1, hF2⟩
  have hk2 : Fx [g, bm] _ lv2 w1 w2 := hF2.sub (by simp)
  have hA2 := hA.out.of_ra hF2 hR2
  have hBx := hB.trans (hA.out.bfx hk2)
  have hs2 := asend_ok hA2.ra xb none 0 0 none 0 0 none 0 0 (la0 _) (by0 _) (by0 _) xb_sm (by decide) (by decide) (by simp)
  replace hA2 := Lib.hid hA2
  replace hM1 := Lib.hid hM1
  clear hs hA hB hk2 hF2 hR2
  go_wp2_with fail
  refine hs2.mono ?_
  rintro e w3 ⟨lv3, r2, rfl, hR3, hM2, hF3⟩
  have hk3 : Fx [g, bm] _ lv3 w2 w3 := hF3.sub (by simp)
  have hA3 := hA2.out.of_ra hF3 hR3
  have hBy := hBx.trans (hA2.out.bfx hk3)
  have hM13 := hM1.out.tf (hk3.tf hA2.out.types hA2.out.own)
  have hd := adouble_ok hA3.ra 0 xa (by simp) hM13 xa_sm (by simp)
  replace hA3 := Lib.hid hA3
  replace hM13 := Lib.hid hM13
  clear hs2 hA2 hBx hk3 hF3 hR3 hM1 hM2
  go_wp2_with fail
  refine hd.mono ?_
  rintro e w4 ⟨lv4, r3, rfl, hR4, hM3, hF4⟩
  have hk4 : Fx [g, bm] _ lv4 w3 w4 := hF4.sub (by simp)
  have hA4 := hA3.out.of_ra hF4 hR4
  have hBz := hBy.trans (hA3.out.bfx hk4)
  have hM14 := hM13.out.tf (hk4.tf hA3.out.types hA3.out.own)
  have hc := air_Cut 1 2 hA4 (by omega) (by omega) (by omega)
  replace hA4 := Lib.hid hA4
  replace hM14 := Lib.hid hM14
  clear hd hA3 hBy hk4 hF4 hR4 hM13 hM3
  go_wp2_with fail
  refine hc.mono ?_
  rintro e w5 ⟨rfl, hA5, hK5⟩
  have hBu := hBz.trans hK5.bel
  have hM15 := hM14.out.tf (hK5.fx.tf hA4.out.types hA4.out.own)
  have hv := air_deliver 0 hA5 xa (by simp) hM15 xa_sm (by simp) (by decide) (by decide)
  unfold DelivP at hv
  rw [show (!setC (fun _ _ => false) 1 2 true xa.f.fr xa.f.to) = false from rfl] at hv
  simp only [xa] at hv
  replace hA5 := Lib.hid hA5
  clear hc hA4 hBz hK5 hM14 hM15
  go_wp2_with fail
  refine hv.mono ?_
  rintro e w6 ⟨lv6, r6, rfl, hA6, hM6, hK6⟩
  have hBt := hBu.trans hK6.bel
  have hbb := (Below.refl w6.heap.size w6).alloc (Nat.le_refl _) (.cells #[.int .i8 0, .int .i64 1, .int .i64 2, .int .i64 7, .int .i64 0, .int .i64 0, .int .i64 0, .bool false, .slice r6.ea r6.en r6.ec, .int .i64 0, .int .i64 0, .int .u8 0, .slice r6.sa r6.sn r6.sc, .slice r6.da r6.dn r6.dc] 34)
  have hl := air_len (hA6.bel hbb)
  rw [show (((([] ++ [r1] ++ [r2] ++ [r3] : List RM).eraseIdx 0).length : Nat) : Int) = 2 from rfl] at hl
  have hm := hA6.below
  have hfin := hBt.trans (hbb.mono hm)
  replace hl := Lib.hid hl
  replace hfin := Lib.hid hfin
  clear hv hA5 hBu hA6 hM6 hK6 hbb hBt
  go_wp2_with fail
  refine hl.out.mono ?_
  rintro e w' ⟨rfl, rfl⟩
  go_wp2_with fail
  go_ret
  exact ⟨rfl, hfin.out⟩
end Go.Proofs.Ytnokojobiaddmaa
