/- The air: what the document says of a few messages. -/
import Derived.Test.YtnokojobiaddmaaA9
namespace Go.Proofs.Ytnokojobiaddmaa
open Go.ChangeShapes Go.WideShapes Go.ChangeAt Go.RowKit Go.Maps
set_option linter.unusedVariables false
set_option linter.unusedSimpArgs false
open BigFrame Bs Ar

namespace Ar
def xa : FM := ⟨0, 1, 2, 7, 0, 0, 0, false, 0, 0, 0⟩
def xb : FM := ⟨0, 2, 1, 0, 0, 0, 0, false, 0, 0, 0⟩
end Ar

set_option maxRecDepth 100000 in
set_option maxHeartbeats 4000000 in
theorem wakes02_c (w : World) : Calls Try.prog 7 #[] w fun e w' => e = .returned (.bool true) ∧ Below w.heap.size w w' := by
  have hnew := air_new w
  go_enter Try.func7, Try.ntmps7
  go_wp2_with fail
  refine hnew.mono ?_
  rintro e w1 ⟨g, bm, base, rfl, hA, hB⟩
  have hs := air_send_ok xa hA (by decide) (by decide) (by decide)
  replace hA := Lib.hid hA
  clear hnew
  go_wp2_with fail
  refine hs.mono ?_
  rintro e w2 ⟨lv2, rfl, hA2, hB2⟩
  have hs2 := air_send_ok xb hA2 (by decide) (by decide) (by decide)
  have hBx := hB.trans hB2.bel
  clear hs hA hB hB2
  go_wp2_with fail
  refine hs2.mono ?_
  rintro e w3 ⟨lv3, rfl, hA3, hB3⟩
  have hBy := hBx.trans hB3.bel
  have hd := air_double 0 hA3 xa (by decide) rfl (by decide)
  clear hs2 hA2 hBx hB3
  go_wp2_with fail
  refine hd.mono ?_
  rintro e w4 ⟨lv4, rfl, hA4, hB4⟩
  have hBz := hBy.trans hB4.bel
  have hc := air_Cut 1 2 hA4 (by omega) (by omega) (by omega)
  clear hd hA3 hBy hB4
  go_wp2_with fail
  refine hc.mono ?_
  rintro e w5 ⟨rfl, hA5, hB5⟩
  have hBu := hBz.trans hB5.bel
  have hv := air_deliver 0 hA5 xa (by decide) rfl (by decide) (by decide) (by decide)
  clear hc hA4 hBz hB5
  go_wp2_with fail
  refine hv.mono ?_
  rintro e w6 ⟨lv6, rfl, hA6, hB6⟩
  have hBt := hBu.trans hB6.bel
  rw [show (!setC (fun _ _ => false) 1 2 true xa.fr xa.to) = false from rfl]
  simp only [xa]
  clear hv hA5 hBu hB6
  have hbb := (Below.refl w6.heap.size w6).alloc (Nat.le_refl _) (.cells #[.int .i8 0, .int .i64 1, .int .i64 2, .int .i64 7, .int .i64 0, .int .i64 0, .int .i64 0, .bool false, .slice none 0 0, .int .i64 0, .int .i64 0, .int .u8 0, .slice none 0 0, .slice none 0 0] 34)
  have hl := air_len (hA6.bel hbb)
  rw [show ((([] ++ [xa] ++ [xb] ++ [xa] : List FM).eraseIdx 0).length : Int) = 2 from rfl] at hl
  have hm := hA6.below
  go_wp2_with fail
  refine hl.mono ?_
  rintro e w7 ⟨rfl, rfl⟩
  go_wp2_with fail
  go_ret
  exact ⟨rfl, hBt.trans (hbb.mono hm)⟩
end Go.Proofs.Ytnokojobiaddmaa
