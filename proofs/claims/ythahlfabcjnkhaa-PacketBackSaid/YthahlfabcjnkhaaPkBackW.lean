/- The walk of PacketBack. -/
import Derived.Test.YthahlfabcjnkhaaPkBack
import Derived.Deep.Cut
namespace Go.Proofs.Ythahlfabcjnkhaa
open Go.ChangeShapes Go.WideShapes Go.ChangeAt Go.RowKit
set_option linter.unusedVariables false
set_option linter.unusedSimpArgs false
open Pk BigFrame

set_option maxRecDepth 100000 in
set_option maxHeartbeats 4000000 in
theorem back_h (w : World) (num : Int) (t C : Nat) (pa : Option Addr) (n cap : Nat) (f : Nat → Nat) (at_ : Int) (to : Nat) (ht1 : 1 ≤ t) (ht2 : t ≤ 16) (hC : C ≤ 255) (hn : n ≤ 1492) (hto : to < 256) (hcap : n ≤ cap) (hrow : 0 < n → ∃ b off, pa = some ⟨b, off, none⟩ ∧ b < w.heap.size ∧ BytesAt w b off n f) :
    Calls Try.prog 5 #[.agg #[.int .i64 num, .int .i64 (t : Nat), .int .i64 (C : Nat), .slice pa n cap], .int .i64 at_, .int .u8 (to : Nat)] w fun e w' => e = .returned (.bool true) ∧ Below w.heap.size w w' := by
  have k0 : ¬ (3000 : Int) < (n : Int) := by omega
  have hB0 := (Below.refl w.heap.size w).alloc (Nat.le_refl _) (.cells #[.int .i64 num, .int .i64 (t : Nat), .int .i64 (C : Nat), .slice pa n cap] 25)
  have hrowU : ∀ u, Below w.heap.size w u → 0 < n → ∃ b off, pa = some ⟨b, off, none⟩ ∧ b < u.heap.size ∧ BytesAt u b off n f := fun u hu hp => by
    obtain ⟨b, off, h1, h2, h3⟩ := hrow hp
    exact ⟨b, off, h1, by have := hu.size; omega, fun i hi => ⟨(hu.cell (p := ⟨b, off + i, none⟩) h2).trans (h3 i hi).1, (h3 i hi).2⟩⟩
  obtain ⟨rb, off, hb⟩ : ∃ rb off, 0 < n → pa = some ⟨rb, off, none⟩ ∧ BytesAt (w.alloc (.cells #[.int .i64 num, .int .i64 (t : Nat), .int .i64 (C : Nat), .slice pa n cap] 25)) rb off n f ∧ rb < (w.alloc (.cells #[.int .i64 num, .int .i64 (t : Nat), .int .i64 (C : Nat), .slice pa n cap] 25)).heap.size := by
    by_cases hp : 0 < n
    · obtain ⟨b, off, h1, h2, h3⟩ := hrowU _ hB0 hp
      exact ⟨b, off, fun _ => ⟨h1, h3, h2⟩⟩
    · exact ⟨0, 0, fun h => absurd h hp⟩
  have hbd := build_ok num t C pa n cap rb off f _ ht1 ht2 hC hn hb
  have hf : ∀ i, i < n → f i < 256 := fun i hi => by obtain ⟨b, off, h1, h2, h3⟩ := hrow (by omega); exact (h3 i hi).2
  obtain ⟨hck, hc5⟩ := ck_whole t C n f
  have hcl : pkC t C n f ≤ 65535 := by unfold pkC; omega
  obtain ⟨c, hc⟩ : ∃ c, pkC t C n f = c := ⟨_, rfl⟩
  rw [hc] at hbd hck hc5 hcl
  clear hb hrow hc
  replace hrowU := Lib.hid hrowU
  replace hbd := Lib.hid hbd
  replace hf := Lib.hid hf
  replace hck := Lib.hid hck
  go_enter Try.func5, Try.ntmps5
  go_wp2_with fail
  refine hbd.out.mono ?_
  rintro e w1 ⟨g, cg, rfl, hg1, hg2, hown, hg3, hg4, hb1⟩
  have hB1 := bNext hB0 hb1 (by simp)
  rw [World.size_alloc] at hown hg3
  obtain ⟨F, hF⟩ : ∃ F, Fp t C n c f = F := ⟨_, rfl⟩
  have hFl : ∀ i, F i < 256 := by rw [← hF]; exact pkL_lt (by omega) (by omega) (by omega) (by omega) hf.out
  have hFt : ∀ i, i < n → F (8 + i) = f i := fun i hi => by rw [← hF]; exact Fp_tail hi
  have hby : ∀ u, Below w1.heap.size w1 u → BytesAt u g 0 (8 + n) F := fun u hu i hi => by
    refine ⟨?_, hFl i⟩
    rw [Nat.zero_add, hu.cell (p := ⟨g, i, none⟩) hg4, hown.cellAt i (by omega), ← hF]
    exact bvals_at _ i (by rw [pkL_len]; omega)
  have e0 : F 0 = 105 := by rw [← hF]; simp [Fp, pkL]
  have e1 : F 1 = t := by rw [← hF]; simp [Fp, pkL]
  have e2 : F 2 = C := by rw [← hF]; simp [Fp, pkL]
  have e3 : F 3 = 0 := by rw [← hF]; simp [Fp, pkL]
  have e4 : F 4 = n / 256 := by rw [← hF]; simp [Fp, pkL]
  have e5 : F 5 = n % 256 := by rw [← hF]; simp [Fp, pkL]
  have e6 : F 6 = c / 256 := by rw [← hF]; simp [Fp, pkL]
  have e7 : F 7 = c % 256 := by rw [← hF]; simp [Fp, pkL]
  have hck2 : ckS (tot F (8 + n)) = 65535 := by rw [← hF]; exact hck.out
  have hpa := parse_ok g 0 (8 + n) cg F w1 (by omega) (by omega) hg1 hg2 (hby _ (Below.refl _ _)) hg4 e0 (by omega) (by omega) e3 (by omega) hck2 (by omega)
  rw [e1, e2, Nat.add_sub_cancel_left] at hpa
  have p0 : w1.cell? ⟨w.heap.size, 0, none⟩ = some (.int .i64 num) := (hb1.cell (p := ⟨w.heap.size, 0, none⟩) (by simp)).trans (by go_simp)
  have p1 : w1.cell? ⟨w.heap.size, 1, none⟩ = some (.int .i64 (t : Nat)) := (hb1.cell (p := ⟨w.heap.size, 1, none⟩) (by simp)).trans (by go_simp)
  have p2 : w1.cell? ⟨w.heap.size, 2, none⟩ = some (.int .i64 (C : Nat)) := (hb1.cell (p := ⟨w.heap.size, 2, none⟩) (by simp)).trans (by go_simp)
  have p3 : w1.cell? ⟨w.heap.size, 3, none⟩ = some (.slice pa n cap) := (hb1.cell (p := ⟨w.heap.size, 3, none⟩) (by simp)).trans (by go_simp)
  have pf : ∀ o, w1.frozen? ⟨w.heap.size, o, none⟩ = false := fun o => (hb1.frozen (p := ⟨w.heap.size, o, none⟩) (by simp)).trans (by go_simp)
  obtain ⟨L, hL⟩ : ∃ L, 8 + n = L := ⟨_, rfl⟩
  have hL8 : 8 ≤ L := by omega
  have hL15 : L ≤ 1500 := by omega
  rw [hL] at hown hg1 hby hck2 hpa ⊢
  replace hpa := Lib.hid hpa
  replace hck2 := Lib.hid hck2
  replace hFl := Lib.hid hFl
  replace hFt := Lib.hid hFt
  replace hown := Lib.hid hown
  replace hby := Lib.hid hby
  replace hL := Lib.hid hL
  have hc1b := hb1.size
  clear e0 e1 e2 e3 e4 e5 e6 e7 hF hbd hf hck hb1
  go_wp2_with fail
  refine hpa.out.mono ?_
  rintro e w2 ⟨v, rfl, hownv, hnil, hb2⟩
  obtain ⟨a2, c2, rfl⟩ : ∃ a2 c2, v = .slice a2 n c2 := by
    rcases hownv.2 with ⟨h1, h2⟩ | ⟨g', cap', cur, h1, _⟩
    · subst h2; exact ⟨none, 0, h1⟩
    · exact ⟨_, _, h1⟩
  have hB2 := bNext hB1 hb2 (Nat.le_refl _)
  have hsz2 := hb2.size
  have hsw : w.heap.size < w2.heap.size := by omega
  have pf2 : w2.frozen? ⟨w.heap.size, 0, none⟩ = false := (hb2.frozen (p := ⟨w.heap.size, 0, none⟩) (by simp only; omega)).trans (pf 0)
  have pc2 : w2.cell? ⟨w.heap.size, 0, none⟩ = some (.int .i64 num) := (hb2.cell (p := ⟨w.heap.size, 0, none⟩) (by simp only; omega)).trans p0
  have hBV : Below w.heap.size w (w2.setCell ⟨w.heap.size, 0, none⟩ (.int .i64 0)) := hB2.setCell (p := ⟨w.heap.size, 0, none⟩) (Nat.le_refl _) _
  have hVs : (w2.setCell ⟨w.heap.size, 0, none⟩ (.int .i64 0)).heap.size = w2.heap.size := by simp
  have hVW : Below (w2.setCell ⟨w.heap.size, 0, none⟩ (.int .i64 0)).heap.size (w2.setCell ⟨w.heap.size, 0, none⟩ (.int .i64 0)) ((w2.setCell ⟨w.heap.size, 0, none⟩ (.int .i64 0)).alloc (.cells #[.int .i64 0, .int .i64 (t : Nat), .int .i64 (C : Nat), .slice a2 n c2] 25)) := (Below.refl _ _).alloc (Nat.le_refl _) _
  have hW : Below w.heap.size w ((w2.setCell ⟨w.heap.size, 0, none⟩ (.int .i64 0)).alloc (.cells #[.int .i64 0, .int .i64 (t : Nat), .int .i64 (C : Nat), .slice a2 n c2] 25)) := bNext hBV hVW (Nat.le_refl _)
  have r0 : ((w2.setCell ⟨w.heap.size, 0, none⟩ (.int .i64 0)).alloc (.cells #[.int .i64 0, .int .i64 (t : Nat), .int .i64 (C : Nat), .slice a2 n c2] 25)).cell? ⟨w.heap.size, 0, none⟩ = some (.int .i64 0) := (hVW.cell (p := ⟨w.heap.size, 0, none⟩) (by simp only; omega)).trans (World.cell?_setCell_same _ _ _ pc2)
  have ro : ∀ o, o ≠ 0 → ((w2.setCell ⟨w.heap.size, 0, none⟩ (.int .i64 0)).alloc (.cells #[.int .i64 0, .int .i64 (t : Nat), .int .i64 (C : Nat), .slice a2 n c2] 25)).cell? ⟨w.heap.size, o, none⟩ = w1.cell? ⟨w.heap.size, o, none⟩ := fun o ho =>
    (hVW.cell (p := ⟨w.heap.size, o, none⟩) (by simp only; omega)).trans ((World.cell?_setCell_other _ _ _ _ (by simp <;> omega)).trans (hb2.cell (p := ⟨w.heap.size, o, none⟩) (by simp only; omega)))
  have r1 := (ro 1 (by omega)).trans p1
  have r2 := (ro 2 (by omega)).trans p2
  have r3 := (ro 3 (by omega)).trans p3
  have q0 : ((w2.setCell ⟨w.heap.size, 0, none⟩ (.int .i64 0)).alloc (.cells #[.int .i64 0, .int .i64 (t : Nat), .int .i64 (C : Nat), .slice a2 n c2] 25)).cell? ⟨w2.heap.size, 0, none⟩ = some (.int .i64 0) := by go_simp
  have q1 : ((w2.setCell ⟨w.heap.size, 0, none⟩ (.int .i64 0)).alloc (.cells #[.int .i64 0, .int .i64 (t : Nat), .int .i64 (C : Nat), .slice a2 n c2] 25)).cell? ⟨w2.heap.size, 1, none⟩ = some (.int .i64 (t : Nat)) := by go_simp
  have q2 : ((w2.setCell ⟨w.heap.size, 0, none⟩ (.int .i64 0)).alloc (.cells #[.int .i64 0, .int .i64 (t : Nat), .int .i64 (C : Nat), .slice a2 n c2] 25)).cell? ⟨w2.heap.size, 2, none⟩ = some (.int .i64 (C : Nat)) := by go_simp
  have q3 : ((w2.setCell ⟨w.heap.size, 0, none⟩ (.int .i64 0)).alloc (.cells #[.int .i64 0, .int .i64 (t : Nat), .int .i64 (C : Nat), .slice a2 n c2] 25)).cell? ⟨w2.heap.size, 3, none⟩ = some (.slice a2 n c2) := by go_simp
  have hov := (ownsRow_setCell_below hownv (a := ⟨w.heap.size, 0, none⟩) (by simp only; omega) (.int .i64 0)).alloc (.cells #[.int .i64 0, .int .i64 (t : Nat), .int .i64 (C : Nat), .slice a2 n c2] 25)
  have hbz : BytesAt ((w2.setCell ⟨w.heap.size, 0, none⟩ (.int .i64 0)).alloc (.cells #[.int .i64 0, .int .i64 (t : Nat), .int .i64 (C : Nat), .slice a2 n c2] 25)) g 0 L F := fun i hi => ⟨(hVW.cell (p := ⟨g, 0 + i, none⟩) (by simp only; omega)).trans ((World.cell?_setCell_other _ _ _ _ (by simp <;> omega)).trans ((hby.out _ hb2) i hi).1), ((hby.out _ hb2) i hi).2⟩
  have hgf : ∀ o, ((w2.setCell ⟨w.heap.size, 0, none⟩ (.int .i64 0)).alloc (.cells #[.int .i64 0, .int .i64 (t : Nat), .int .i64 (C : Nat), .slice a2 n c2] 25)).frozen? ⟨g, o, none⟩ = false := fun o => (hVW.frozen (p := ⟨g, o, none⟩) (by simp only; omega)).trans ((World.frozen?_setCell _ _ _ _).trans ((hb2.frozen (p := ⟨g, o, none⟩) hg4).trans (hown.out.frozenAt o)))
  have hgl : g < ((w2.setCell ⟨w.heap.size, 0, none⟩ (.int .i64 0)).alloc (.cells #[.int .i64 0, .int .i64 (t : Nat), .int .i64 (C : Nat), .slice a2 n c2] 25)).heap.size := by have := hVW.size; omega
  replace hW := Lib.hid hW
  replace hov := Lib.hid hov
  replace hbz := Lib.hid hbz
  clear p0 p1 p2 p3 pf ro hownv hVW hBV hVs hb2 hB1 hB0 hpa
  go_upto_region 8 with fail
  generalize ((w2.setCell ⟨w.heap.size, 0, none⟩ (.int .i64 0)).alloc (.cells #[.int .i64 0, .int .i64 (t : Nat), .int .i64 (C : Nat), .slice a2 n c2] 25)) = W at hW r0 r1 r2 r3 q0 q1 q2 q3 hov hbz hgf hgl ⊢
  have hl5 : w.heap.size < W.heap.size := World.block_lt_of_cell? _ _ r0
  have htl : tailV F n = bvals ((List.range n).map f) := by
    unfold tailV
    congr 1
    refine List.map_congr_left (fun i hi => hFt.out i (by simpa using hi))
  have g1 := Lib.hid (fun u (hu : Below W.heap.size W u) => conv_arg (cap := cap) (hrowU.out u (bNext hW.out hu (Nat.le_refl _))))
  have g2 := Lib.hid (fun u (hu : Below W.heap.size W u) => conv_row (l := (List.range n).map f) (own_belowP (htl ▸ hov.out) hu))
  clear htl hov hrowU
  go_wp2_with fail
  refine (same23_c t C pa a2 n cap c2 (bstr n f) W g1.out g2.out).mono ?_
  rintro e w4 ⟨rfl, hb4⟩
  have s0 := (hb4.cell (p := ⟨w.heap.size, 0, none⟩) hl5).trans r0
  have s1 := (hb4.cell (p := ⟨w.heap.size, 1, none⟩) hl5).trans r1
  have s2 := (hb4.cell (p := ⟨w.heap.size, 2, none⟩) hl5).trans r2
  have s3 := (hb4.cell (p := ⟨w.heap.size, 3, none⟩) hl5).trans r3
  have hL0 : ¬ (L : Int) = 0 := by omega
  clear r0 r1 r2 r3 q0 q1 q2 q3 g1 g2
  go_wp2_with fail
  refine (size23_c 0 t C pa n cap _ (by omega)).mono ?_
  rw [hL.out]
  rintro e w5 ⟨rfl, hb5⟩
  have hW5 := bNext hb4 hb5 (Nat.le_refl _)
  have hbz5 : BytesAt w5 g 0 L F := fun i hi => ⟨(hW5.cell (p := ⟨g, 0 + i, none⟩) hgl).trans (hbz.out i hi).1, (hbz.out i hi).2⟩
  have hgf5 := fun o => (hW5.frozen (p := ⟨g, o, none⟩) hgl).trans (hgf o)
  have hgl5 : g < w5.heap.size := by have := hW5.size; omega
  have hB5 := bNext hW.out hW5 (Nat.le_refl _)
  clear s0 s1 s2 s3 hb4 hb5 hW5 hbz hgf hW hgl
  have t1 : -(L : Int) < at_.tmod (L : Int) := by have := Int.lt_tmod_of_pos at_ (show (0 : Int) < (L : Int) by omega); omega
  have t2 : at_.tmod (L : Int) < (L : Int) := Int.tmod_lt_of_pos _ (by omega)
  replace hbz5 := Lib.hid hbz5
  obtain ⟨k, hk, hkL⟩ : ∃ k : Nat, (at_.tmod (L : Int) + (L : Int)) % (L : Int) = (k : Nat) ∧ k < L := by
    have h1 := Int.emod_nonneg (at_.tmod (L : Int) + (L : Int)) (show (L : Int) ≠ 0 by omega)
    have h2 := Int.emod_lt_of_pos (at_.tmod (L : Int) + (L : Int)) (show (0 : Int) < (L : Int) by omega)
    exact ⟨((at_.tmod (L : Int) + (L : Int)) % (L : Int)).toNat, by omega, by omega⟩
  go_upto_region 11 with fail
  have hkL' : (k : Int) < (L : Int) := by omega
  obtain ⟨ck, fk⟩ := hbz5.out k hkL
  rw [Nat.zero_add] at ck
  have cf := hgf5 k
  replace hgf5 := Lib.hid hgf5
  simp only [hk]
  clear hk t1 t2
  by_cases hto2 : F k = to
  · rw [hto2] at ck
    go_wp2_with fail
    refine (wakes23_c _).mono ?_
    rintro e w9 ⟨rfl, hb9⟩
    go_wp2
    go_ret
    exact ⟨rfl, bNext hB5 hb9 (Nat.le_refl _)⟩
  · have hne : (((F k : Nat) : Int) == ((to : Nat) : Int)) = false := by simp; omega
    have hB6 := hB5.setCell (p := ⟨g, k, none⟩) (by simp only; omega) (.int .u8 (to : Nat))
    have hG : BytesAt (w5.setCell ⟨g, k, none⟩ (.int .u8 (to : Nat))) g 0 L (fun i => if i = k then to else F i) := fun i hi => by
      rw [Nat.zero_add]
      by_cases hik : i = k
      · subst hik
        refine ⟨(World.cell?_setCell_same _ _ _ ck).trans (by simp), by simp; omega⟩
      · have hz := hbz5.out i hi
        rw [Nat.zero_add] at hz
        exact ⟨(World.cell?_setCell_other _ _ _ _ (by simp <;> omega)).trans (hz.1.trans (by simp [hik])), by simp [hik]; exact hz.2⟩
    have hbad := parse_bad g 0 L cg _ _ hL8 hg1 hg2 hG (by simpa using hgl5) (ck_broken hck2.out hkL (hFl.out k) hto (by omega))
    replace hbad := Lib.hid hbad
    clear hG
    go_wp2_with fail
    refine hbad.out.mono ?_
    rintro e w6 ⟨rfl, hb6⟩
    have hB7 := bNext hB6 hb6 (Nat.le_refl _)
    go_wp2_with fail
    refine (wakes23_c _).mono ?_
    rintro e w9 ⟨rfl, hb9⟩
    go_wp2
    go_ret
    exact ⟨rfl, bNext (hB7.alloc (by have := hB7.size; omega) _) hb9 (Nat.le_refl _)⟩

set_option maxRecDepth 100000 in
set_option maxHeartbeats 4000000 in
theorem packetBack_walk (w : World) (v0 : Value) (a0 : XT_Packet) (at_ to : Int) (w0 : Is_Packet w v0 a0) (w1 : (Lit.int .i64 at_).wf = true) (w2 : (Lit.int .u8 to).wf = true) :
    Calls Try.prog 5 #[v0, .int .i64 at_, .int .u8 to] w fun e w' => e = .returned (.bool true) ∧ Below w.heap.size w w' := by
  obtain ⟨num, t, C, pa, n, cap, f⟩ := a0
  obtain ⟨rfl, f0, f1, f2, hl2, hm2, hrow⟩ := w0
  simp only at hl2 hm2 f0 f1 f2 hrow
  have hto := u8_b w2
  by_cases hbad : t < 1 ∨ 16 < t ∨ C < 0 ∨ 255 < C ∨ 1492 < n
  · have hB0 := (Below.refl w.heap.size w).alloc (Nat.le_refl _) (.cells #[.int .i64 num, .int .i64 t, .int .i64 C, .slice pa n cap] 25)
    by_cases h3 : 3000 < n
    · have h3' : (3000 : Int) < (n : Int) := by omega
      clear hbad
      go_enter Try.func5, Try.ntmps5
      go_wp2_with fail
      refine (wakes23_c _).mono ?_
      rintro e w9 ⟨rfl, hb9⟩
      go_wp2
      go_ret
      exact ⟨rfl, bNext hB0 hb9 (Nat.le_refl _)⟩
    · have h3' : ¬ (3000 : Int) < (n : Int) := by omega
      have hbd := Lib.hid (fun u => build_bad num t C pa n cap u (by omega) hbad)
      clear hbad
      go_enter Try.func5, Try.ntmps5
      go_wp2_with fail
      refine (hbd.out _).mono ?_
      rintro e w2 ⟨⟨x, rfl, hx⟩, hb2⟩
      have hB2 := bNext hB0 hb2 (Nat.le_refl _)
      have hxb : (x != 0) = true := by simp; exact hx
      go_wp2_with fail
      refine (wakes23_c _).mono ?_
      rintro e w9 ⟨rfl, hb9⟩
      go_wp2
      go_ret
      exact ⟨rfl, bNext hB2 hb9 (Nat.le_refl _)⟩
  · obtain ⟨tn, rfl⟩ : ∃ k : Nat, t = (k : Int) := ⟨t.toNat, by omega⟩
    obtain ⟨Cn, rfl⟩ : ∃ k : Nat, C = (k : Int) := ⟨C.toNat, by omega⟩
    obtain ⟨ton, rfl⟩ : ∃ k : Nat, to = (k : Int) := ⟨to.toNat, by omega⟩
    exact back_h w num tn Cn pa n cap f at_ ton (by omega) (by omega) (by omega) (by omega) (by omega) hl2 hrow
end Go.Proofs.Ythahlfabcjnkhaa
