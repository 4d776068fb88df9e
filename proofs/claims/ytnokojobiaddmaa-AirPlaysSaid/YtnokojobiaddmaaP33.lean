/- A step of the law; acts that are too many. -/
import Derived.Test.YtnokojobiaddmaaP32
namespace Go.Proofs.Ytnokojobiaddmaa
open Go.ChangeShapes Go.WideShapes Go.ChangeAt Go.RowKit Go.Maps
set_option linter.unusedVariables false
set_option linter.unusedSimpArgs false
open BigFrame Bs By Am Ar

/-- **A step is answered as it should be.** -/
theorem step_c {m : Nat} {w : World} {g rg bp br c : Nat} (h : Ok m g rg bp br c w) (hc : c ≤ 4000) (x : Mg) (ea : Option Addr) (en ec : Nat) (sa : Option Addr) (sn sc : Nat) (da : Option Addr) (dn dc : Nat) (hI : ∀ u, Below m w u → IsM u ⟨x.f, ea, en, ec, sa, sn, sc, da, dn, dc⟩ x) (hm : Sm x) (dd kk : Int) :
    Calls Try.prog 19 #[.pointer (some ⟨g, 0, none⟩), .pointer (some ⟨rg, 0, none⟩), .agg #[.int .i64 dd, .int .i64 kk, .int .i8 x.f.k, .int .i64 x.f.fr, .int .i64 x.f.to, .int .i64 x.f.te, .int .i64 x.f.ix, .int .i64 x.f.la, .int .i64 x.f.co, .bool x.f.ok, .slice ea en ec, .int .i64 x.f.si, .int .i64 x.f.st, .int .u8 x.f.su, .slice sa sn sc, .slice da dn dc]] w (StepP m g rg bp br c w) := by
  obtain ⟨bm, n, lv, rv, cv, l, q, C, ps, ms, hT, hG⟩ := h
  by_cases hd : dd < 0 ∨ 7 < dd
  · exact step_all hT hG hc x ea en ec sa sn sc da dn dc dd kk hd
  have hdd : dd = 0 ∨ dd = 1 ∨ dd = 2 ∨ dd = 3 ∨ dd = 4 ∨ dd = 5 ∨ dd = 6 ∨ dd = 7 := by omega
  have hkk : (∃ k : Nat, kk = (k : Int) ∧ k < ms.length) ∨ (kk < 0 ∨ (ms.length : Int) ≤ kk) := by
    by_cases h1 : kk < 0 ∨ (ms.length : Int) ≤ kk
    · exact .inr h1
    · exact .inl ⟨kk.toNat, by omega, by omega⟩
  have hle := hG.le
  rcases hdd with rfl | rfl | rfl | rfl | rfl | rfl | rfl | rfl
  · by_cases hf : 1 ≤ x.f.fr ∧ x.f.fr ≤ 255
    · by_cases ht : 1 ≤ x.f.to ∧ x.f.to ≤ 255
      · by_cases hn : ms.length < 1024
        · exact step_send_ok hT hG hc x ea en ec sa sn sc da dn dc kk hI hm hf ht hn
        · exact step_send_full hT hG hc x ea en ec sa sn sc da dn dc kk hf ht (by omega)
      · exact step_send_bad2 hT hG hc x ea en ec sa sn sc da dn dc kk hf ht
    · exact step_send_bad1 hT hG hc x ea en ec sa sn sc da dn dc kk hf
  · rcases hkk with ⟨k, rfl, hk⟩ | hk
    · exact step_deliver_ok hT hG hc x ea en ec sa sn sc da dn dc k hk
    · exact step_deliver_no hT hG hc x ea en ec sa sn sc da dn dc kk hk
  · rcases hkk with ⟨k, rfl, hk⟩ | hk
    · exact step_lose_ok hT hG hc x ea en ec sa sn sc da dn dc k hk
    · exact step_lose_no hT hG hc x ea en ec sa sn sc da dn dc kk hk
  · rcases hkk with ⟨k, rfl, hk⟩ | hk
    · by_cases hn : ms.length < 1024
      · exact step_double_ok hT hG hc x ea en ec sa sn sc da dn dc k hk hn
      · exact step_double_full hT hG hc x ea en ec sa sn sc da dn dc k hk (by omega)
    · exact step_double_no hT hG hc x ea en ec sa sn sc da dn dc kk hk
  · by_cases hf : (1 ≤ x.f.fr ∧ x.f.fr ≤ 255) ∧ 1 ≤ x.f.to ∧ x.f.to ≤ 255
    · exact step_cut_ok hT hG hc x ea en ec sa sn sc da dn dc kk hf.1 hf.2
    · exact step_cut_no hT hG hc x ea en ec sa sn sc da dn dc kk hf
  · by_cases hf : (1 ≤ x.f.fr ∧ x.f.fr ≤ 255) ∧ 1 ≤ x.f.to ∧ x.f.to ≤ 255
    · exact step_mend_ok hT hG hc x ea en ec sa sn sc da dn dc kk hf.1 hf.2
    · exact step_mend_no hT hG hc x ea en ec sa sn sc da dn dc kk hf
  · exact step_clear hT hG hc x ea en ec sa sn sc da dn dc kk
  · rcases hkk with ⟨k, rfl, hk⟩ | hk
    · exact step_look_ok hT hG hc x ea en ec sa sn sc da dn dc k hk
    · exact step_look_no hT hG hc x ea en ec sa sn sc da dn dc kk hk

namespace Ar
/-- An act. -/
structure Ac where
  dd : Int
  kk : Int
  x : Mg
  ea : Option Addr
  en : Nat
  ec : Nat
  sa : Option Addr
  sn : Nat
  sc : Nat
  da : Option Addr
  dn : Nat
  dc : Nat
def Ac.r (y : Ac) : RM := ⟨y.x.f, y.ea, y.en, y.ec, y.sa, y.sn, y.sc, y.da, y.dn, y.dc⟩
def actL (y : Ac) : List Value := [.int .i64 y.dd, .int .i64 y.kk, .int .i8 y.x.f.k, .int .i64 y.x.f.fr, .int .i64 y.x.f.to, .int .i64 y.x.f.te, .int .i64 y.x.f.ix, .int .i64 y.x.f.la, .int .i64 y.x.f.co, .bool y.x.f.ok, .slice y.ea y.en y.ec, .int .i64 y.x.f.si, .int .i64 y.x.f.st, .int .u8 y.x.f.su, .slice y.sa y.sn y.sc, .slice y.da y.dn y.dc]
structure AcAt (w : World) (a : Option Addr) (n : Nat) (f : Nat → Ac) : Prop where
  row : 0 < n → ∃ b off, a = some ⟨b, off, none⟩ ∧ b < w.heap.size ∧ ∀ i, i < n → ∀ (j : Nat) (v : Value), (actL (f i))[j]? = some v → w.cell? ⟨b, off + i * 16 + j, none⟩ = some v
  is : ∀ i, i < n → IsM w (f i).r (f i).x
theorem AcAt.bel {w w' : World} {a : Option Addr} {n : Nat} {f : Nat → Ac} (h : AcAt w a n f) (k : Below w.heap.size w w') : AcAt w' a n f :=
  ⟨fun hn => by
    obtain ⟨b, off, ha, hb, hc⟩ := h.row hn
    exact ⟨b, off, ha, Nat.lt_of_lt_of_le hb k.size, fun i hi j v hv => (k.cell (p := ⟨b, _, none⟩) hb).trans (hc i hi j v hv)⟩, fun i hi => (h.is i hi).bel k⟩
/-- How long it may be. -/
structure Sz (y : Ac) : Prop where
  e : y.en ≤ reachBytes
  s : y.sn ≤ reachBytes
  d : y.dn ≤ reachBytes
  y : ∀ z ∈ y.x.es, z.d.length ≤ reachBytes
def GreatP (n : Nat) (f : Nat → Ac) (w : World) (e : Ending) (w' : World) : Prop := ∃ b : Bool, e = .returned (.bool b) ∧ (b = false → n ≤ 1100 ∧ ∀ i, i < n → Sm (f i).x) ∧ Below w.heap.size w w'
end Ar

set_option maxRecDepth 100000 in
set_option maxHeartbeats 8000000 in
theorem great02_c (a : Option Addr) (n c : Nat) (f : Nat → Ac) (w : World) (h : AcAt w a n f) (hn : n ≤ c) (hc : c ≤ 9223372036854775807) (hsz : ∀ i, i < n → Sz (f i)) :
    Calls Try.prog 18 #[.slice a n c] w (GreatP n f w) := by
  have b1 : (n : Int) ≤ 9223372036854775807 := by omega
  replace h := Lib.hid h
  replace hsz := Lib.hid hsz
  go_enter Try.func18, Try.ntmps18
  go_wp2_with fail
  go_loopw [3, 4] (fun s i wr => ∃ (k N : Nat), k ≤ n ∧ k ≤ 1101 ∧ s = .int .i64 (N : Nat) ∧ i = .int .i64 (k : Nat) ∧ N ≤ k * 500000000000000 + 500000000000000 ∧ RowKit.Hid (N ≤ 20000 → ∀ j, j < k → Sm (f j).x) ∧ RowKit.Hid (Below w.heap.size w wr)) (fun _ i _ => n - (intOf i).toNat)
  case atStart => exact ⟨0, 0, by omega, by omega, rfl, rfl, by omega, Lib.hid (fun _ j hj => by omega), Lib.hid (Below.refl _ _)⟩
  case round =>
    obtain ⟨k, N, hk, hk2, rfl, rfl, hN, hsm, hB⟩ := hrel
    have hNz : (N : Int) ≤ 1000000000000000000 := by omega
    by_cases hgo : k < n ∧ k ≤ 1100
    · obtain ⟨hlt, hk3⟩ := hgo
      have hlt' : (k : Int) < (n : Int) := by omega
      have hk3' : (k : Int) ≤ 1100 := by omega
      have hk0 : (0 : Int) ≤ (k : Int) := by omega
      have hA := h.out.bel hB.out
      obtain ⟨b, o, rfl, hb, hcc⟩ := hA.row (by omega)
      have hI := hA.is k hlt
      have hS := hsz.out k hlt
      have hcc2 := hcc k hlt
      obtain ⟨y, hy⟩ : ∃ y, f k = y := ⟨_, rfl⟩
      rw [hy] at hI hS hcc2
      obtain ⟨dd, kk, x, ea, en, ec, sa, sn, sc, da, dn, dc⟩ := y
      have x0 := hcc2 2 (.int .i8 x.f.k) rfl
      have x1 := hcc2 3 (.int .i64 x.f.fr) rfl
      have x2 := hcc2 4 (.int .i64 x.f.to) rfl
      have x3 := hcc2 5 (.int .i64 x.f.te) rfl
      have x4 := hcc2 6 (.int .i64 x.f.ix) rfl
      have x5 := hcc2 7 (.int .i64 x.f.la) rfl
      have x6 := hcc2 8 (.int .i64 x.f.co) rfl
      have x7 := hcc2 9 (.bool x.f.ok) rfl
      have x8 := hcc2 10 (.slice ea en ec) rfl
      have x9 := hcc2 11 (.int .i64 x.f.si) rfl
      have x10 := hcc2 12 (.int .i64 x.f.st) rfl
      have x11 := hcc2 13 (.int .u8 x.f.su) rfl
      have x12 := hcc2 14 (.slice sa sn sc) rfl
      have x13 := hcc2 15 (.slice da dn dc) rfl
      obtain ⟨he, hs, hd, hy2⟩ := hS
      have hrb : reachBytes = 140737488351232 := rfl
      rw [hrb] at he hs hd hy2
      simp only at he hs hd hy2
      have heI : (en : Int) ≤ 140737488351232 := by omega
      have hsI : (sn : Int) ≤ 140737488351232 := by omega
      have hdI : (dn : Int) ≤ 140737488351232 := by omega
      have hel := hI.e.len
      have hsl := hI.s.len
      have hdl := hI.d.len
      simp only [Ac.r] at hel hsl hdl
      have hal := (Below.refl wr.heap.size wr).alloc (Nat.le_refl _) (.cells #[.int .i8 x.f.k, .int .i64 x.f.fr, .int .i64 x.f.to, .int .i64 x.f.te, .int .i64 x.f.ix, .int .i64 x.f.la, .int .i64 x.f.co, .bool x.f.ok, .slice ea en ec, .int .i64 x.f.si, .int .i64 x.f.st, .int .u8 x.f.su, .slice sa sn sc, .slice da dn dc] 34)
      have hE1 := hI.e.bel hal
      simp only [Ac.r] at hE1
      have hB1 := hB.out.trans (hal.mono hB.out.size)
      have hbx := HT.new wr #[.int .i8 x.f.k, .int .i64 x.f.fr, .int .i64 x.f.to, .int .i64 x.f.te, .int .i64 x.f.ix, .int .i64 x.f.la, .int .i64 x.f.co, .bool x.f.ok, .slice ea en ec, .int .i64 x.f.si, .int .i64 x.f.st, .int .u8 x.f.su, .slice sa sn sc, .slice da dn dc] 34
      replace hE1 := Lib.hid hE1
      replace hB1 := Lib.hid hB1
      replace hbx := Lib.hid hbx
      replace hy2 := Lib.hid hy2
      replace hy := Lib.hid hy
      replace hel := Lib.hid hel
      replace hsl := Lib.hid hsl
      replace hdl := Lib.hid hdl
      clear hcc hcc2 hA hI hrb hal
      go_upto_region 6 with fail
      replace hE1 := hE1.out
      replace hB1 := hB1.out
      replace hbx := hbx.out
      generalize (wr.alloc (.cells #[.int .i8 x.f.k, .int .i64 x.f.fr, .int .i64 x.f.to, .int .i64 x.f.te, .int .i64 x.f.ix, .int .i64 x.f.la, .int .i64 x.f.co, .bool x.f.ok, .slice ea en ec, .int .i64 x.f.si, .int .i64 x.f.st, .int .u8 x.f.su, .slice sa sn sc, .slice da dn dc] 34)) = W1 at hE1 hB1 hbx ⊢
      generalize wr.heap.size = xb at hbx ⊢
      clear x0 x1 x2 x3 x4 x5 x6 x7 x8 x9 x10 x11 x12 x13
      have z8 := hbx.c 8 _ rfl
      have z12 := hbx.c 12 _ rfl
      have z13 := hbx.c 13 _ rfl
      replace hE1 := Lib.hid hE1
      replace hB1 := Lib.hid hB1
      clear hbx
      obtain ⟨N1, hN1⟩ : ∃ N1 : Nat, N1 = N + dn + sn + en := ⟨_, rfl⟩
      have hN1z : ((N : Int) + (dn : Int) + (sn : Int) + (en : Int)) = (N1 : Int) := by omega
      have hN1b : N1 ≤ (k + 1) * 500000000000000 + 500000000000000 := by omega
      have hN1i : (N1 : Int) ≤ 1000000000000000000 := by omega
      replace hN1 := Lib.hid hN1
      go_wp2_with fail
      replace hN1z := Lib.hid hN1z
      go_loop [3, 6] (fun s i => ∃ k2 N2 : Nat, k2 ≤ en ∧ s = .int .i64 (N2 : Nat) ∧ i = .int .i64 (k2 : Nat) ∧ N1 ≤ N2 ∧ (N2 ≤ N1 ∨ N2 ≤ 140737488371232) ∧ RowKit.Hid (∀ j, j < k2 → ∀ z, x.es[j]? = some z → N2 ≤ 20000 → z.d.length ≤ 20000)) (fun _ i => en - (intOf i).toNat)
      case atStart => exact ⟨0, N1, by omega, by first | rfl | (rw [← hN1z.out]; rfl), rfl, Nat.le_refl _, .inl (Nat.le_refl _), Lib.hid (fun j hj => by omega)⟩
      case round =>
        obtain ⟨k2, N2, hk2e, rfl, rfl, hN12, hN2, hin⟩ := hrel
        have hN2i : (N2 : Int) ≤ 1000000000000000000 := by omega
        have hk20 : (0 : Int) ≤ (k2 : Int) := by omega
        have hN20 : (0 : Int) ≤ (N2 : Int) := by omega
        by_cases hlt2 : k2 < en
        · have hlt2' : (k2 : Int) < (en : Int) := by omega
          by_cases hN2s : N2 ≤ 20000
          · have hN2s' : (N2 : Int) ≤ 20000 := by omega
            obtain ⟨z, hz⟩ : ∃ z, x.es[k2]? = some z := ⟨_, List.getElem?_eq_getElem (by have := hel.out; omega)⟩
            obtain ⟨b2, o2, xa, xn, xc, rfl, hb2, _, _, _, _, q4, hbyt⟩ := hE1.out.ent hz
            have hxn := hy2.out z (List.mem_of_getElem? hz)
            rw [← hbyt.len] at hxn
            have hxnI : (xn : Int) ≤ 140737488351232 := by omega
            have hin2 := Lib.hid (show ∀ j, j < k2 + 1 → ∀ z, x.es[j]? = some z → N2 + xn ≤ 20000 → z.d.length ≤ 20000 from fun j hj z' hz' hle => by
              rcases Nat.lt_or_ge j k2 with hq | hq
              · exact hin.out j hq z' hz' (by omega)
              · obtain rfl : j = k2 := by omega
                rw [hz] at hz'
                cases hz'
                rw [← hbyt.len]
                omega)
            clear hz hbyt
            go_wp2_with fail
            go_round
            case rel => exact ⟨k2 + 1, N2 + xn, by omega, by go_num, by go_num, by omega, by omega, hin2⟩
            case measure => simp [intOf]; omega
          · have hN2s' : ¬ (N2 : Int) ≤ 20000 := by omega
            go_wp2_with fail
            go_roundw
            case rel => exact ⟨k + 1, N2, by omega, by omega, rfl, by go_num, by omega, Lib.hid (fun hh => absurd hh hN2s), hB1⟩
            case measure => simp [intOf]; omega
        · obtain rfl : k2 = en := by omega
          have hfin := Lib.hid (show N2 ≤ 20000 → ∀ j, j < k + 1 → Sm (f j).x from fun hh j hj => by
            have hN1e := hN1.out
            rcases Nat.lt_or_ge j k with hq | hq
            · exact hsm.out (by omega) j hq
            · obtain rfl : j = k := by omega
              rw [hy.out]
              refine ⟨by have := hel.out; simp only; omega, fun z hz => ?_, by have := hsl.out; simp only; omega, by have := hdl.out; simp only; omega⟩
              obtain ⟨i, hi, rfl⟩ := List.getElem_of_mem hz
              exact hin.out i (by have := hel.out; simp only at hi; omega) _ (List.getElem?_eq_getElem hi) hh)
          go_wp2_with fail
          go_roundw
          case rel => exact ⟨k + 1, N2, by omega, by omega, rfl, by go_num, by omega, hfin, hB1⟩
          case measure => simp [intOf]; omega
    · have hk0 : (0 : Int) ≤ (k : Int) := by omega
      by_cases hlt : k < n
      · have hlt' : (k : Int) < (n : Int) := by omega
        have hk3 : ¬ (k : Int) ≤ 1100 := by omega
        have hn1 : (1100 : Int) < (n : Int) := by omega
        clear hgo
        go_wp2_with fail
        go_ret
        exact ⟨true, rfl, (fun hh => by cases hh), hB.out⟩
      · obtain rfl : k = n := by omega
        have hlt' : ¬ (k : Int) < (k : Int) := by omega
        clear hgo
        by_cases h11 : 1100 < k
        · have h11' : (1100 : Int) < (k : Int) := by omega
          go_wp2_with fail
          go_ret
          exact ⟨true, rfl, (fun hh => by cases hh), hB.out⟩
        · have h11' : ¬ (1100 : Int) < (k : Int) := by omega
          by_cases hN2 : 20000 < N
          · have hN2' : (20000 : Int) < (N : Int) := by omega
            go_wp2_with fail
            go_ret
            exact ⟨true, rfl, (fun hh => by cases hh), hB.out⟩
          · have hN2' : ¬ (20000 : Int) < (N : Int) := by omega
            go_wp2_with fail
            go_ret
            exact ⟨false, rfl, fun _ => ⟨by omega, hsm.out (by omega)⟩, hB.out⟩
end Go.Proofs.Ytnokojobiaddmaa
