/- The law's wake-up; how rows with their bytes are opened. -/
import Derived.Test.YtbiodlhiilmgkaaCt17
import Derived.Test.YtbiodlhiilmgkaaOpen3
namespace Go.Proofs.Ytbiodlhiilmgkaa
open Go.ChangeShapes Go.WideShapes Go.ChangeAt Go.RowKit
set_option linter.unusedVariables false
set_option linter.unusedSimpArgs false
open BigFrame Bs Rw Ct

theorem w9_c1 : chk 0 0 (tE [1, 1, 2]) = true := by kernel_rfl
theorem w9_c2 : chk 0 0 (tE [2, 1]) = false := by kernel_rfl
theorem w9_c3 : putR 0 0 (tE [1, 1, 2]) 2 1 (tE [3]) = ⟨⟨0, 0, tE [1, 1, 3], 0⟩, 3, true⟩ := by kernel_rfl
theorem w9_c4 : putR 0 0 (tE [1, 1, 2]) 5 2 [] = ⟨⟨0, 0, tE [1, 1, 2], 0⟩, 3, false⟩ := by kernel_rfl
theorem w9_c5 : chk 0 0 (tE [1, 1, 3]) = true := by kernel_rfl
theorem w9_wf (ts : List Int) (h : ∀ t ∈ ts, I64 t) : Wfl (tE ts) := fun y hy => by
  obtain ⟨t, ht, rfl⟩ := List.mem_map.1 hy
  exact ⟨h t ht, by show I64 0; unfold I64; omega⟩

set_option maxRecDepth 100000 in
set_option maxHeartbeats 40000000 in
theorem wakes09_c (w : World) : Calls Try.prog 9 #[] w fun e w' => e = .returned (.bool true) ∧ Below w.heap.size w w' := by
  have i0 : I64 0 := by unfold I64; omega
  have i1 : I64 1 := by unfold I64; omega
  have i2 : I64 2 := by unfold I64; omega
  have i5 : I64 5 := by unfold I64; omega
  have f112 := w9_wf [1, 1, 2] (by intro t ht; simp at ht; unfold I64; omega)
  have f113 := w9_wf [1, 1, 3] (by intro t ht; simp at ht; unfold I64; omega)
  have f3 := w9_wf [3] (by intro t ht; simp at ht; unfold I64; omega)
  have f21 := w9_wf [2, 1] (by intro t ht; simp at ht; unfold I64; omega)
  have hB0 : Below w.heap.size w (w.alloc (.cells #[.int .i64 1, .int .i64 1, .int .i64 2] 3)) := (Below.refl _ _).alloc (Nat.le_refl _) _
  have k0 := blk_new w [.int .i64 1, .int .i64 1, .int .i64 2] 3
  have ht1 := Lib.hid (show Calls Try.prog 27 #[.slice (some ⟨w.heap.size, 0, none⟩) 3 3] (w.alloc (.cells #[.int .i64 1, .int .i64 1, .int .i64 2] 3)) (TermsP _ [1, 1, 2]) from
    terms_c [1, 1, 2] w.heap.size _ (by simp) (by simp) (fun i t hit => k0.c i _ (by
      match i, hit with
      | 0, h => cases h; rfl
      | 1, h => cases h; rfl
      | 2, h => cases h; rfl
      | (n + 3), h => simp at h)))
  replace hB0 := Lib.hid hB0
  clear k0
  go_enter Try.func9, Try.ntmps9
  go_wp2_with fail
  refine ht1.out.mono ?_
  rintro e w1 ⟨a1, c1, rfl, hL1, hb1⟩
  have hB1 := bNext hB0.out hb1 (Nat.le_refl _)
  have ha1 : Below w1.heap.size w1 ((w1.alloc (.cells #[.int .i64 0, .int .i64 0, .slice a1 3 c1] 24)).alloc (.cells #[.int .i64 3, .int .i8 0, .int .i64 0, .int .u8 0, .slice none 0 0] 39)) := ((Below.refl _ _).alloc (Nat.le_refl _) _).alloc (by simp) _
  have kr1 := (blk_new w1 [.int .i64 0, .int .i64 0, .slice a1 3 c1] 24).bel ((Below.refl _ _).alloc (Nat.le_refl _) (.cells #[.int .i64 3, .int .i8 0, .int .i64 0, .int .u8 0, .slice none 0 0] 39))
  have hE3 : LAt ((w1.alloc (.cells #[.int .i64 0, .int .i64 0, .slice a1 3 c1] 24)).alloc (.cells #[.int .i64 3, .int .i8 0, .int .i64 0, .int .u8 0, .slice none 0 0] 39)) (some ⟨w1.heap.size + 1, 0, none⟩) 1 1 (tE [3]) :=
    ⟨tX [3], EsAt.of_cells rfl (Nat.le_refl _) (by omega) (fun _ => ⟨w1.heap.size + 1, 0, rfl, by simp, fun j u hu => by
      have q := (blk_new (w1.alloc (.cells #[.int .i64 0, .int .i64 0, .slice a1 3 c1] 24)) [.int .i64 3, .int .i8 0, .int .i64 0, .int .u8 0, .slice none 0 0] 39).c j u (by simpa [rowE, cellsE, tX] using hu)
      rw [World.size_alloc] at q
      rw [Nat.zero_add]
      exact q⟩), tX_has _ _⟩
  have hp1 := put_c 0 0 2 1 a1 (some ⟨w1.heap.size + 1, 0, none⟩) 3 c1 1 1 (tE [1, 1, 2]) (tE [3]) _ (hL1.bel ha1) hE3 f112 f3 i0 i0 i2 i1
  rw [w9_c3] at hp1
  have hBa := Lib.hid (bNext hB1 ha1 (Nat.le_refl _))
  replace hp1 := Lib.hid hp1
  replace kr1 := Lib.hid kr1
  have hLa := Lib.hid (hL1.bel ha1)
  clear hB0 ht1 hL1 hb1 hB1 ha1 hE3
  go_wp2_with fail
  refine hp1.out.mono ?_
  rintro e w2 ⟨a2, n2, c2, rfl, hL2, hb2⟩
  have hn2 := hL2.len
  simp only at hL2 hn2
  obtain rfl : n2 = 3 := by rw [hn2]; rfl
  have hB2 := Lib.hid (bNext hBa.out hb2 (Nat.le_refl _))
  have kr2 := kr1.out.bel hb2
  have hL12 := Lib.hid (hLa.out.bel hb2)
  have p0 := kr2.c 0 _ rfl
  have p1 := kr2.c 1 _ rfl
  have p2 := kr2.c 2 _ rfl
  have ha2 : Below w2.heap.size w2 (w2.alloc (.cells #[.int .i64 0, .int .i64 0, .slice a2 3 c2] 24)) := (Below.refl _ _).alloc (Nat.le_refl _) _
  have kr2' := kr2.bel ha2
  have p0' := kr2'.c 0 _ rfl
  have p1' := kr2'.c 1 _ rfl
  have p2' := kr2'.c 2 _ rfl
  have ka2 := Lib.hid (blk_new w2 [.int .i64 0, .int .i64 0, .slice a2 3 c2] 24)
  have hp2 := put_c 0 0 5 2 a1 none 3 c1 0 0 (tE [1, 1, 2]) [] _ (hL12.out.bel ha2) (LAt.nil _ none 0 (by omega)) f112 (fun y hy => by simp at hy) i0 i0 i5 i2
  rw [w9_c4] at hp2
  have hBb := Lib.hid (bNext hB2.out ha2 (Nat.le_refl _))
  have hLb := Lib.hid (hL12.out.bel ha2)
  have hLc := Lib.hid (hL2.bel ha2)
  replace hp2 := Lib.hid hp2
  replace kr2' := Lib.hid kr2'
  clear kr2 kr1 hp1 hBa hLa hL12 hL2 hb2 ha2 hB2 hn2
  go_wp2_with fail
  refine hp2.out.mono ?_
  rintro e w3 ⟨a3, n3, c3, rfl, hL3, hb3⟩
  have hB3 := Lib.hid (bNext hBb.out hb3 (Nat.le_refl _))
  have kr3 := kr2'.out.bel hb3
  have ka3 := ka2.out.bel hb3
  have ha3 : Below w3.heap.size w3 (w3.alloc (.cells #[.int .i64 0, .int .i64 0, .slice a3 n3 c3] 24)) := (Below.refl _ _).alloc (Nat.le_refl _) _
  have kr4 := kr3.bel ha3
  have ka4 := ka3.bel ha3
  have q0 := ka3.c 0 _ rfl
  have q1 := ka3.c 1 _ rfl
  have q2 := ka3.c 2 _ rfl
  have q0' := ka4.c 0 _ rfl
  have q1' := ka4.c 1 _ rfl
  have q2' := ka4.c 2 _ rfl
  have hla := Lib.hid (plast_l 0 0 a2 3 c2 (tE [1, 1, 3]) _ ((hLc.out.bel hb3).bel ha3) f113 i0 i0 w9_c5)
  have hBc := Lib.hid (bNext hB3.out ha3 (Nat.le_refl _))
  have hLd := Lib.hid ((hLb.out.bel hb3).bel ha3)
  replace kr4 := Lib.hid kr4
  clear kr2' ka2 hp2 hBb hLb hLc hL3 hb3 ha3 hB3 kr3 ka3 ka4 p0 p1 p2 p0' p1' p2'
  go_wp2_with fail
  refine hla.out.mono ?_
  rintro e w4 ⟨rfl, hb4⟩
  have hB4 := Lib.hid (bNext hBc.out hb4 (Nat.le_refl _))
  have kr5 := kr4.out.bel hb4
  have r0 := kr5.c 0 _ rfl
  have r1 := kr5.c 1 _ rfl
  have r2 := kr5.c 2 _ rfl
  have hck := check_l 0 0 a1 3 c1 (tE [1, 1, 2]) w4 (hLd.out.bel hb4) f112 i0 i0
  rw [w9_c1] at hck
  replace hck := Lib.hid hck
  have e1 : (0 : Int) + ((tE [1, 1, 3]).length : Int) = 3 := by rfl
  have e2 : tl 0 (tE [1, 1, 3]) (tE [1, 1, 3]).length = 3 := by rfl
  rw [e1, e2]
  clear e1 e2 hla hBc hLd kr4 kr5 hb4 q0 q1 q2 q0' q1' q2'
  go_wp2_with fail
  refine hck.out.mono ?_
  rintro e w5 ⟨rfl, hb5⟩
  have hB5 := bNext hB4.out hb5 (Nat.le_refl _)
  have ha5 : Below w5.heap.size w5 (w5.alloc (.cells #[.int .i64 2, .int .i64 1] 3)) := (Below.refl _ _).alloc (Nat.le_refl _) _
  have k5 := blk_new w5 [.int .i64 2, .int .i64 1] 3
  have ht5 := Lib.hid (show Calls Try.prog 27 #[.slice (some ⟨w5.heap.size, 0, none⟩) 2 2] (w5.alloc (.cells #[.int .i64 2, .int .i64 1] 3)) (TermsP _ [2, 1]) from
    terms_c [2, 1] w5.heap.size _ (by simp) (by simp) (fun i t hit => k5.c i _ (by
      match i, hit with
      | 0, h => cases h; rfl
      | 1, h => cases h; rfl
      | (n + 2), h => simp at h)))
  have hBd := Lib.hid (bNext hB5 ha5 (Nat.le_refl _))
  clear hck hB4 hb5 hB5 ha5 k5
  go_wp2_with fail
  refine ht5.out.mono ?_
  rintro e w6 ⟨a6, c6, rfl, hL6, hb6⟩
  have hB6 := Lib.hid (bNext hBd.out hb6 (Nat.le_refl _))
  have hck := check_l 0 0 a6 2 c6 (tE [2, 1]) w6 hL6 f21 i0 i0
  rw [w9_c2] at hck
  replace hck := Lib.hid hck
  clear hL6 hb6 hBd ht5
  go_wp2_with fail
  refine hck.out.mono ?_
  rintro e w7 ⟨rfl, hb7⟩
  have hB7 := Lib.hid (bNext hB6.out hb7 (Nat.le_refl _))
  clear hb7 hck hB6
  go_wp2_with fail
  go_ret
  exact ⟨rfl, hB7.out⟩
end Go.Proofs.Ytbiodlhiilmgkaa
