/- The air and the document: Look. -/
import Derived.Test.YtnokojobiaddmaaP11
namespace Go.Proofs.Ytnokojobiaddmaa
open Go.ChangeShapes Go.WideShapes Go.ChangeAt Go.RowKit Go.Maps
set_option linter.unusedVariables false
set_option linter.unusedSimpArgs false
open BigFrame Bs By Am Ar

namespace Ar
def LookP (x : Mg) (w : World) (e : Ending) (w' : World) : Prop := ∃ r, e = .returned (.tuple #[.agg #[.int .i8 x.f.k, .int .i64 x.f.fr, .int .i64 x.f.to, .int .i64 x.f.te, .int .i64 x.f.ix, .int .i64 x.f.la, .int .i64 x.f.co, .bool x.f.ok, .slice r.ea r.en r.ec, .int .i64 x.f.si, .int .i64 x.f.st, .int .u8 x.f.su, .slice r.sa r.sn r.sc, .slice r.da r.dn r.dc], .int .i64 0]) ∧ TM w' r x ∧ Below w.heap.size w w'
def LookN (w : World) (e : Ending) (w' : World) : Prop := e = .returned (.tuple #[.agg #[.int .i8 0, .int .i64 0, .int .i64 0, .int .i64 0, .int .i64 0, .int .i64 0, .int .i64 0, .bool false, .slice none 0 0, .int .i64 0, .int .i64 0, .int .u8 0, .slice none 0 0, .slice none 0 0], .int .i64 4]) ∧ Below w.heap.size w w'
end Ar

set_option maxRecDepth 100000 in
set_option maxHeartbeats 4000000 in
theorem alook_ok {s2 : Value} {w : World} {g base : Nat} {lv : Value} {l : List RM} (h : RA 59 s2 w g base lv l) (i : Nat) (x : Mg) (hi : i < l.length) (hx : TM w (l.getD i rm0) x) (hm : Sm x) (hn : l.length ≤ 1024) :
    Calls Try.prog 11 #[.pointer (some ⟨g, 0, none⟩), .int .i64 (i : Nat)] w (LookP x w) := by
  have hb0 : Below w.heap.size w (w.alloc (.cells #[.int .i8 0, .int .i64 0, .int .i64 0, .int .i64 0, .int .i64 0, .int .i64 0, .int .i64 0, .bool false, .slice none 0 0, .int .i64 0, .int .i64 0, .int .u8 0, .slice none 0 0, .slice none 0 0] 34)) := (Below.refl _ _).alloc (Nat.le_refl _) _
  have rs := HT.new w #[.int .i8 0, .int .i64 0, .int .i64 0, .int .i64 0, .int .i64 0, .int .i64 0, .int .i64 0, .bool false, .slice none 0 0, .int .i64 0, .int .i64 0, .int .u8 0, .slice none 0 0, .slice none 0 0] 34
  have h2 := h.bel hb0
  obtain ⟨q, cap, rfl, _⟩ := h2.own.form (by omega)
  generalize hr0 : l.getD i rm0 = r0 at hx
  obtain ⟨rf, ea, en, ec, sa, sn, sc, da, dn, dc⟩ := r0
  obtain rfl : rf = x.f := hx.f
  have hx1 := (hx.bel hb0).is
  have cp := copiedM_c x ea en ec sa sn sc da dn dc _ hx1.e hx1.s hx1.d hm
  have x0 := h2.cell rfl i 0 hi (by omega) (.int .i8 x.f.k) (by rw [hr0]; rfl)
  have x1 := h2.cell rfl i 1 hi (by omega) (.int .i64 x.f.fr) (by rw [hr0]; rfl)
  have x2 := h2.cell rfl i 2 hi (by omega) (.int .i64 x.f.to) (by rw [hr0]; rfl)
  have x3 := h2.cell rfl i 3 hi (by omega) (.int .i64 x.f.te) (by rw [hr0]; rfl)
  have x4 := h2.cell rfl i 4 hi (by omega) (.int .i64 x.f.ix) (by rw [hr0]; rfl)
  have x5 := h2.cell rfl i 5 hi (by omega) (.int .i64 x.f.la) (by rw [hr0]; rfl)
  have x6 := h2.cell rfl i 6 hi (by omega) (.int .i64 x.f.co) (by rw [hr0]; rfl)
  have x7 := h2.cell rfl i 7 hi (by omega) (.bool x.f.ok) (by rw [hr0]; rfl)
  have x8 := h2.cell rfl i 8 hi (by omega) (.slice ea en ec) (by rw [hr0]; rfl)
  have x9 := h2.cell rfl i 9 hi (by omega) (.int .i64 x.f.si) (by rw [hr0]; rfl)
  have x10 := h2.cell rfl i 10 hi (by omega) (.int .i64 x.f.st) (by rw [hr0]; rfl)
  have x11 := h2.cell rfl i 11 hi (by omega) (.int .u8 x.f.su) (by rw [hr0]; rfl)
  have x12 := h2.cell rfl i 12 hi (by omega) (.slice sa sn sc) (by rw [hr0]; rfl)
  have x13 := h2.cell rfl i 13 hi (by omega) (.slice da dn dc) (by rw [hr0]; rfl)
  rw [Nat.add_zero] at x0
  have c0 := h2.c0
  have hiz : (i : Int) < (l.length : Int) := by omega
  have hi0 : (0 : Int) ≤ (i : Int) := by omega
  obtain ⟨N, hN⟩ : ∃ N, l.length = N := ⟨_, rfl⟩
  rw [hN] at c0 hiz
  replace hN := Lib.hid hN
  replace rs := Lib.hid rs
  replace cp := Lib.hid cp
  replace hb0 := Lib.hid hb0
  clear h h2 hx hr0 hx1
  go_enter Try.func11, Try.ntmps11
  go_upto_region 1 with fail
  have rs := rs.out
  have cp := cp.out
  have hb0 := hb0.out
  generalize (w.alloc (.cells #[.int .i8 0, .int .i64 0, .int .i64 0, .int .i64 0, .int .i64 0, .int .i64 0, .int .i64 0, .bool false, .slice none 0 0, .int .i64 0, .int .i64 0, .int .u8 0, .slice none 0 0, .slice none 0 0] 34)) = W1 at rs cp hb0 c0 x0 x1 x2 x3 x4 x5 x6 x7 x8 x9 x10 x11 x12 x13 ⊢
  obtain ⟨xb, hxb⟩ : ∃ xb, w.heap.size = xb := ⟨_, rfl⟩
  rw [hxb] at rs hb0 ⊢
  replace hxb := Lib.hid hxb
  replace hb0 := Lib.hid hb0
  go_wp2_with fail
  refine cp.mono ?_
  rintro e w3 ⟨r, rfl, hT, hb3⟩
  have rs2 := rs.bel hb3
  have hB := bNext hb0.out hb3 (Nat.le_of_eq hxb.out.symm)
  have z0 := rs2.c 0 _ rfl
  have z1 := rs2.c 1 _ rfl
  have z2 := rs2.c 2 _ rfl
  have z3 := rs2.c 3 _ rfl
  have z4 := rs2.c 4 _ rfl
  have z5 := rs2.c 5 _ rfl
  have z6 := rs2.c 6 _ rfl
  have z7 := rs2.c 7 _ rfl
  have z8 := rs2.c 8 _ rfl
  have z9 := rs2.c 9 _ rfl
  have z10 := rs2.c 10 _ rfl
  have z11 := rs2.c 11 _ rfl
  have z12 := rs2.c 12 _ rfl
  have z13 := rs2.c 13 _ rfl
  have qf := rs2.f
  obtain ⟨k1, k2, k3⟩ := put14 rs2 (.int .i8 x.f.k) (.int .i64 x.f.fr) (.int .i64 x.f.to) (.int .i64 x.f.te) (.int .i64 x.f.ix) (.int .i64 x.f.la) (.int .i64 x.f.co) (.bool x.f.ok) (.slice r.ea r.en r.ec) (.int .i64 x.f.si) (.int .i64 x.f.st) (.int .u8 x.f.su) (.slice r.sa r.sn r.sc) (.slice r.da r.dn r.dc)
  have s0 := Lib.hid (k1.c 0 _ rfl)
  have s1 := Lib.hid (k1.c 1 _ rfl)
  have s2 := Lib.hid (k1.c 2 _ rfl)
  have s3 := Lib.hid (k1.c 3 _ rfl)
  have s4 := Lib.hid (k1.c 4 _ rfl)
  have s5 := Lib.hid (k1.c 5 _ rfl)
  have s6 := Lib.hid (k1.c 6 _ rfl)
  have s7 := Lib.hid (k1.c 7 _ rfl)
  have s8 := Lib.hid (k1.c 8 _ rfl)
  have s9 := Lib.hid (k1.c 9 _ rfl)
  have s10 := Lib.hid (k1.c 10 _ rfl)
  have s11 := Lib.hid (k1.c 11 _ rfl)
  have s12 := Lib.hid (k1.c 12 _ rfl)
  have s13 := Lib.hid (k1.c 13 _ rfl)
  have kT := Lib.hid (hT.tf k2)
  have kB := Lib.hid (k3 _ _ hB (Nat.le_refl _))
  clear k1 k2 k3 hT hB rs2 hb3 rs cp x0 x1 x2 x3 x4 x5 x6 x7 x8 x9 x10 x11 x12 x13 c0
  go_wp2_with fail
  refine bodyPost_ret (v := .tuple #[.agg #[.int .i8 x.f.k, .int .i64 x.f.fr, .int .i64 x.f.to, .int .i64 x.f.te, .int .i64 x.f.ix, .int .i64 x.f.la, .int .i64 x.f.co, .bool x.f.ok, .slice r.ea r.en r.ec, .int .i64 x.f.si, .int .i64 x.f.st, .int .u8 x.f.su, .slice r.sa r.sn r.sc, .slice r.da r.dn r.dc], .int .i64 0]) (by simp [results, Try.results11, go_sem, s0.out, s1.out, s2.out, s3.out, s4.out, s5.out, s6.out, s7.out, s8.out, s9.out, s10.out, s11.out, s12.out, s13.out]) rfl ?_
  exact ⟨r, rfl, kT.out, by rw [hxb.out]; exact kB.out⟩

set_option maxRecDepth 100000 in
set_option maxHeartbeats 4000000 in
theorem alook_no {s2 : Value} {w : World} {g base : Nat} {lv : Value} {l : List RM} (h : RA 59 s2 w g base lv l) (i : Int) (hi : i < 0 ∨ (l.length : Int) ≤ i) :
    Calls Try.prog 11 #[.pointer (some ⟨g, 0, none⟩), .int .i64 i] w (LookN w) := by
  have hb0 : Below w.heap.size w (w.alloc (.cells #[.int .i8 0, .int .i64 0, .int .i64 0, .int .i64 0, .int .i64 0, .int .i64 0, .int .i64 0, .bool false, .slice none 0 0, .int .i64 0, .int .i64 0, .int .u8 0, .slice none 0 0, .slice none 0 0] 34)) := (Below.refl _ _).alloc (Nat.le_refl _) _
  have rs := HT.new w #[.int .i8 0, .int .i64 0, .int .i64 0, .int .i64 0, .int .i64 0, .int .i64 0, .int .i64 0, .bool false, .slice none 0 0, .int .i64 0, .int .i64 0, .int .u8 0, .slice none 0 0, .slice none 0 0] 34
  have c0 := (h.bel hb0).c0
  have hcase : ∃ a cap, lv = .slice a l.length cap := by
    rcases h.own.2 with ⟨e, e2⟩ | ⟨q, cap, cur, hh, _⟩
    · exact ⟨none, 0, by rw [e, e2]⟩
    · exact ⟨_, cap, hh⟩
  obtain ⟨a, cap, rfl⟩ := hcase
  obtain ⟨N, hN⟩ : ∃ N, l.length = N := ⟨_, rfl⟩
  rw [hN] at c0 hi
  replace hN := Lib.hid hN
  replace rs := Lib.hid rs
  replace hb0 := Lib.hid hb0
  clear h
  by_cases hneg : i < 0
  all_goals
    have hge : 0 ≤ i → (N : Int) ≤ i := fun _ => by omega
    try (have hge2 : (N : Int) ≤ i := by omega)
    clear hi hge
    go_enter Try.func11, Try.ntmps11
    go_upto_region 1 with fail
    have rs := rs.out
    have hb0 := hb0.out
    generalize (w.alloc (.cells #[.int .i8 0, .int .i64 0, .int .i64 0, .int .i64 0, .int .i64 0, .int .i64 0, .int .i64 0, .bool false, .slice none 0 0, .int .i64 0, .int .i64 0, .int .u8 0, .slice none 0 0, .slice none 0 0] 34)) = W1 at rs hb0 c0 ⊢
    obtain ⟨xb, hxb⟩ : ∃ xb, w.heap.size = xb := ⟨_, rfl⟩
    rw [hxb] at rs hb0 ⊢
    replace hxb := Lib.hid hxb
    have z0 := rs.c 0 _ rfl
    have z1 := rs.c 1 _ rfl
    have z2 := rs.c 2 _ rfl
    have z3 := rs.c 3 _ rfl
    have z4 := rs.c 4 _ rfl
    have z5 := rs.c 5 _ rfl
    have z6 := rs.c 6 _ rfl
    have z7 := rs.c 7 _ rfl
    have z8 := rs.c 8 _ rfl
    have z9 := rs.c 9 _ rfl
    have z10 := rs.c 10 _ rfl
    have z11 := rs.c 11 _ rfl
    have z12 := rs.c 12 _ rfl
    have z13 := rs.c 13 _ rfl
    have qf := rs.f
    obtain ⟨k1, k2, k3⟩ := put14 rs (.int .i8 0) (.int .i64 0) (.int .i64 0) (.int .i64 0) (.int .i64 0) (.int .i64 0) (.int .i64 0) (.bool false) (.slice none 0 0) (.int .i64 0) (.int .i64 0) (.int .u8 0) (.slice none 0 0) (.slice none 0 0)
    have s0 := Lib.hid (k1.c 0 _ rfl)
    have s1 := Lib.hid (k1.c 1 _ rfl)
    have s2 := Lib.hid (k1.c 2 _ rfl)
    have s3 := Lib.hid (k1.c 3 _ rfl)
    have s4 := Lib.hid (k1.c 4 _ rfl)
    have s5 := Lib.hid (k1.c 5 _ rfl)
    have s6 := Lib.hid (k1.c 6 _ rfl)
    have s7 := Lib.hid (k1.c 7 _ rfl)
    have s8 := Lib.hid (k1.c 8 _ rfl)
    have s9 := Lib.hid (k1.c 9 _ rfl)
    have s10 := Lib.hid (k1.c 10 _ rfl)
    have s11 := Lib.hid (k1.c 11 _ rfl)
    have s12 := Lib.hid (k1.c 12 _ rfl)
    have s13 := Lib.hid (k1.c 13 _ rfl)
    have kB := Lib.hid (k3 _ _ hb0 (Nat.le_refl _))
    clear k1 k2 k3 rs hb0
    go_wp2_with fail
    refine bodyPost_ret (v := .tuple #[.agg #[.int .i8 0, .int .i64 0, .int .i64 0, .int .i64 0, .int .i64 0, .int .i64 0, .int .i64 0, .bool false, .slice none 0 0, .int .i64 0, .int .i64 0, .int .u8 0, .slice none 0 0, .slice none 0 0], .int .i64 4]) (by simp [results, Try.results11, go_sem, s0.out, s1.out, s2.out, s3.out, s4.out, s5.out, s6.out, s7.out, s8.out, s9.out, s10.out, s11.out, s12.out, s13.out]) rfl ?_
    exact ⟨rfl, by rw [hxb.out]; exact kB.out⟩

set_option maxRecDepth 100000 in
set_option maxHeartbeats 4000000 in
theorem rlook_ok {s2 : Value} {w : World} {g base : Nat} {lv : Value} {l : List RM} (h : RA 52 s2 w g base lv l) (i : Nat) (x : Mg) (hi : i < l.length) (hx : TM w (l.getD i rm0) x) (hm : Sm x) (hn : l.length ≤ 1024) :
    Calls Try.prog 35 #[.pointer (some ⟨g, 0, none⟩), .int .i64 (i : Nat)] w (LookP x w) := by
  have hb0 : Below w.heap.size w (w.alloc (.cells #[.int .i8 0, .int .i64 0, .int .i64 0, .int .i64 0, .int .i64 0, .int .i64 0, .int .i64 0, .bool false, .slice none 0 0, .int .i64 0, .int .i64 0, .int .u8 0, .slice none 0 0, .slice none 0 0] 34)) := (Below.refl _ _).alloc (Nat.le_refl _) _
  have rs := HT.new w #[.int .i8 0, .int .i64 0, .int .i64 0, .int .i64 0, .int .i64 0, .int .i64 0, .int .i64 0, .bool false, .slice none 0 0, .int .i64 0, .int .i64 0, .int .u8 0, .slice none 0 0, .slice none 0 0] 34
  have h2 := h.bel hb0
  obtain ⟨q, cap, rfl, _⟩ := h2.own.form (by omega)
  generalize hr0 : l.getD i rm0 = r0 at hx
  obtain ⟨rf, ea, en, ec, sa, sn, sc, da, dn, dc⟩ := r0
  obtain rfl : rf = x.f := hx.f
  have hx1 := (hx.bel hb0).is
  have cp := rcopyM_c x ea en ec sa sn sc da dn dc _ hx1.e hx1.s hx1.d hm
  have x0 := h2.cell rfl i 0 hi (by omega) (.int .i8 x.f.k) (by rw [hr0]; rfl)
  have x1 := h2.cell rfl i 1 hi (by omega) (.int .i64 x.f.fr) (by rw [hr0]; rfl)
  have x2 := h2.cell rfl i 2 hi (by omega) (.int .i64 x.f.to) (by rw [hr0]; rfl)
  have x3 := h2.cell rfl i 3 hi (by omega) (.int .i64 x.f.te) (by rw [hr0]; rfl)
  have x4 := h2.cell rfl i 4 hi (by omega) (.int .i64 x.f.ix) (by rw [hr0]; rfl)
  have x5 := h2.cell rfl i 5 hi (by omega) (.int .i64 x.f.la) (by rw [hr0]; rfl)
  have x6 := h2.cell rfl i 6 hi (by omega) (.int .i64 x.f.co) (by rw [hr0]; rfl)
  have x7 := h2.cell rfl i 7 hi (by omega) (.bool x.f.ok) (by rw [hr0]; rfl)
  have x8 := h2.cell rfl i 8 hi (by omega) (.slice ea en ec) (by rw [hr0]; rfl)
  have x9 := h2.cell rfl i 9 hi (by omega) (.int .i64 x.f.si) (by rw [hr0]; rfl)
  have x10 := h2.cell rfl i 10 hi (by omega) (.int .i64 x.f.st) (by rw [hr0]; rfl)
  have x11 := h2.cell rfl i 11 hi (by omega) (.int .u8 x.f.su) (by rw [hr0]; rfl)
  have x12 := h2.cell rfl i 12 hi (by omega) (.slice sa sn sc) (by rw [hr0]; rfl)
  have x13 := h2.cell rfl i 13 hi (by omega) (.slice da dn dc) (by rw [hr0]; rfl)
  rw [Nat.add_zero] at x0
  have c0 := h2.c0
  have hiz : (i : Int) < (l.length : Int) := by omega
  have hi0 : (0 : Int) ≤ (i : Int) := by omega
  obtain ⟨N, hN⟩ : ∃ N, l.length = N := ⟨_, rfl⟩
  rw [hN] at c0 hiz
  replace hN := Lib.hid hN
  replace rs := Lib.hid rs
  replace cp := Lib.hid cp
  replace hb0 := Lib.hid hb0
  clear h h2 hx hr0 hx1
  go_enter Try.func35, Try.ntmps35
  go_upto_region 1 with fail
  have rs := rs.out
  have cp := cp.out
  have hb0 := hb0.out
  generalize (w.alloc (.cells #[.int .i8 0, .int .i64 0, .int .i64 0, .int .i64 0, .int .i64 0, .int .i64 0, .int .i64 0, .bool false, .slice none 0 0, .int .i64 0, .int .i64 0, .int .u8 0, .slice none 0 0, .slice none 0 0] 34)) = W1 at rs cp hb0 c0 x0 x1 x2 x3 x4 x5 x6 x7 x8 x9 x10 x11 x12 x13 ⊢
  obtain ⟨xb, hxb⟩ : ∃ xb, w.heap.size = xb := ⟨_, rfl⟩
  rw [hxb] at rs hb0 ⊢
  replace hxb := Lib.hid hxb
  replace hb0 := Lib.hid hb0
  go_wp2_with fail
  refine cp.mono ?_
  rintro e w3 ⟨r, rfl, hT, hb3⟩
  have rs2 := rs.bel hb3
  have hB := bNext hb0.out hb3 (Nat.le_of_eq hxb.out.symm)
  have z0 := rs2.c 0 _ rfl
  have z1 := rs2.c 1 _ rfl
  have z2 := rs2.c 2 _ rfl
  have z3 := rs2.c 3 _ rfl
  have z4 := rs2.c 4 _ rfl
  have z5 := rs2.c 5 _ rfl
  have z6 := rs2.c 6 _ rfl
  have z7 := rs2.c 7 _ rfl
  have z8 := rs2.c 8 _ rfl
  have z9 := rs2.c 9 _ rfl
  have z10 := rs2.c 10 _ rfl
  have z11 := rs2.c 11 _ rfl
  have z12 := rs2.c 12 _ rfl
  have z13 := rs2.c 13 _ rfl
  have qf := rs2.f
  obtain ⟨k1, k2, k3⟩ := put14 rs2 (.int .i8 x.f.k) (.int .i64 x.f.fr) (.int .i64 x.f.to) (.int .i64 x.f.te) (.int .i64 x.f.ix) (.int .i64 x.f.la) (.int .i64 x.f.co) (.bool x.f.ok) (.slice r.ea r.en r.ec) (.int .i64 x.f.si) (.int .i64 x.f.st) (.int .u8 x.f.su) (.slice r.sa r.sn r.sc) (.slice r.da r.dn r.dc)
  have s0 := Lib.hid (k1.c 0 _ rfl)
  have s1 := Lib.hid (k1.c 1 _ rfl)
  have s2 := Lib.hid (k1.c 2 _ rfl)
  have s3 := Lib.hid (k1.c 3 _ rfl)
  have s4 := Lib.hid (k1.c 4 _ rfl)
  have s5 := Lib.hid (k1.c 5 _ rfl)
  have s6 := Lib.hid (k1.c 6 _ rfl)
  have s7 := Lib.hid (k1.c 7 _ rfl)
  have s8 := Lib.hid (k1.c 8 _ rfl)
  have s9 := Lib.hid (k1.c 9 _ rfl)
  have s10 := Lib.hid (k1.c 10 _ rfl)
  have s11 := Lib.hid (k1.c 11 _ rfl)
  have s12 := Lib.hid (k1.c 12 _ rfl)
  have s13 := Lib.hid (k1.c 13 _ rfl)
  have kT := Lib.hid (hT.tf k2)
  have kB := Lib.hid (k3 _ _ hB (Nat.le_refl _))
  clear k1 k2 k3 hT hB rs2 hb3 rs cp x0 x1 x2 x3 x4 x5 x6 x7 x8 x9 x10 x11 x12 x13 c0
  go_wp2_with fail
  refine bodyPost_ret (v := .tuple #[.agg #[.int .i8 x.f.k, .int .i64 x.f.fr, .int .i64 x.f.to, .int .i64 x.f.te, .int .i64 x.f.ix, .int .i64 x.f.la, .int .i64 x.f.co, .bool x.f.ok, .slice r.ea r.en r.ec, .int .i64 x.f.si, .int .i64 x.f.st, .int .u8 x.f.su, .slice r.sa r.sn r.sc, .slice r.da r.dn r.dc], .int .i64 0]) (by simp [results, Try.results35, go_sem, s0.out, s1.out, s2.out, s3.out, s4.out, s5.out, s6.out, s7.out, s8.out, s9.out, s10.out, s11.out, s12.out, s13.out]) rfl ?_
  exact ⟨r, rfl, kT.out, by rw [hxb.out]; exact kB.out⟩

set_option maxRecDepth 100000 in
set_option maxHeartbeats 4000000 in
theorem rlook_no {s2 : Value} {w : World} {g base : Nat} {lv : Value} {l : List RM} (h : RA 52 s2 w g base lv l) (i : Int) (hi : i < 0 ∨ (l.length : Int) ≤ i) :
    Calls Try.prog 35 #[.pointer (some ⟨g, 0, none⟩), .int .i64 i] w (LookN w) := by
  have hb0 : Below w.heap.size w (w.alloc (.cells #[.int .i8 0, .int .i64 0, .int .i64 0, .int .i64 0, .int .i64 0, .int .i64 0, .int .i64 0, .bool false, .slice none 0 0, .int .i64 0, .int .i64 0, .int .u8 0, .slice none 0 0, .slice none 0 0] 34)) := (Below.refl _ _).alloc (Nat.le_refl _) _
  have rs := HT.new w #[.int .i8 0, .int .i64 0, .int .i64 0, .int .i64 0, .int .i64 0, .int .i64 0, .int .i64 0, .bool false, .slice none 0 0, .int .i64 0, .int .i64 0, .int .u8 0, .slice none 0 0, .slice none 0 0] 34
  have c0 := (h.bel hb0).c0
  have hcase : ∃ a cap, lv = .slice a l.length cap := by
    rcases h.own.2 with ⟨e, e2⟩ | ⟨q, cap, cur, hh, _⟩
    · exact ⟨none, 0, by rw [e, e2]⟩
    · exact ⟨_, cap, hh⟩
  obtain ⟨a, cap, rfl⟩ := hcase
  obtain ⟨N, hN⟩ : ∃ N, l.length = N := ⟨_, rfl⟩
  rw [hN] at c0 hi
  replace hN := Lib.hid hN
  replace rs := Lib.hid rs
  replace hb0 := Lib.hid hb0
  clear h
  by_cases hneg : i < 0
  all_goals
    have hge : 0 ≤ i → (N : Int) ≤ i := fun _ => by omega
    try (have hge2 : (N : Int) ≤ i := by omega)
    clear hi hge
    go_enter Try.func35, Try.ntmps35
    go_upto_region 1 with fail
    have rs := rs.out
    have hb0 := hb0.out
    generalize (w.alloc (.cells #[.int .i8 0, .int .i64 0, .int .i64 0, .int .i64 0, .int .i64 0, .int .i64 0, .int .i64 0, .bool false, .slice none 0 0, .int .i64 0, .int .i64 0, .int .u8 0, .slice none 0 0, .slice none 0 0] 34)) = W1 at rs hb0 c0 ⊢
    obtain ⟨xb, hxb⟩ : ∃ xb, w.heap.size = xb := ⟨_, rfl⟩
    rw [hxb] at rs hb0 ⊢
    replace hxb := Lib.hid hxb
    have z0 := rs.c 0 _ rfl
    have z1 := rs.c 1 _ rfl
    have z2 := rs.c 2 _ rfl
    have z3 := rs.c 3 _ rfl
    have z4 := rs.c 4 _ rfl
    have z5 := rs.c 5 _ rfl
    have z6 := rs.c 6 _ rfl
    have z7 := rs.c 7 _ rfl
    have z8 := rs.c 8 _ rfl
    have z9 := rs.c 9 _ rfl
    have z10 := rs.c 10 _ rfl
    have z11 := rs.c 11 _ rfl
    have z12 := rs.c 12 _ rfl
    have z13 := rs.c 13 _ rfl
    have qf := rs.f
    obtain ⟨k1, k2, k3⟩ := put14 rs (.int .i8 0) (.int .i64 0) (.int .i64 0) (.int .i64 0) (.int .i64 0) (.int .i64 0) (.int .i64 0) (.bool false) (.slice none 0 0) (.int .i64 0) (.int .i64 0) (.int .u8 0) (.slice none 0 0) (.slice none 0 0)
    have s0 := Lib.hid (k1.c 0 _ rfl)
    have s1 := Lib.hid (k1.c 1 _ rfl)
    have s2 := Lib.hid (k1.c 2 _ rfl)
    have s3 := Lib.hid (k1.c 3 _ rfl)
    have s4 := Lib.hid (k1.c 4 _ rfl)
    have s5 := Lib.hid (k1.c 5 _ rfl)
    have s6 := Lib.hid (k1.c 6 _ rfl)
    have s7 := Lib.hid (k1.c 7 _ rfl)
    have s8 := Lib.hid (k1.c 8 _ rfl)
    have s9 := Lib.hid (k1.c 9 _ rfl)
    have s10 := Lib.hid (k1.c 10 _ rfl)
    have s11 := Lib.hid (k1.c 11 _ rfl)
    have s12 := Lib.hid (k1.c 12 _ rfl)
    have s13 := Lib.hid (k1.c 13 _ rfl)
    have kB := Lib.hid (k3 _ _ hb0 (Nat.le_refl _))
    clear k1 k2 k3 rs hb0
    go_wp2_with fail
    refine bodyPost_ret (v := .tuple #[.agg #[.int .i8 0, .int .i64 0, .int .i64 0, .int .i64 0, .int .i64 0, .int .i64 0, .int .i64 0, .bool false, .slice none 0 0, .int .i64 0, .int .i64 0, .int .u8 0, .slice none 0 0, .slice none 0 0], .int .i64 4]) (by simp [results, Try.results35, go_sem, s0.out, s1.out, s2.out, s3.out, s4.out, s5.out, s6.out, s7.out, s8.out, s9.out, s10.out, s11.out, s12.out, s13.out]) rfl ?_
    exact ⟨rfl, by rw [hxb.out]; exact kB.out⟩

end Go.Proofs.Ytnokojobiaddmaa
