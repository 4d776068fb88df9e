/- The air: messages stay in order: the law. -/
import Derived.Test.YtnokojobiaddmaaA12
namespace Go.Proofs.Ytnokojobiaddmaa
open Go.ChangeShapes Go.WideShapes Go.ChangeAt Go.RowKit Go.Maps
set_option linter.unusedVariables false
set_option linter.unusedSimpArgs false
open BigFrame Bs Ar

set_option maxRecDepth 100000 in
set_option maxHeartbeats 4000000 in
theorem airOrder_some (w : World) (a0 : Int) (f : Nat → Int) (a : Option Addr) (N cap : Nat) (hN : N ≤ 60) (hf : 0 < N → ∃ b off, a = some ⟨b, off, none⟩ ∧ b < w.heap.size ∧ ∀ i, i < N → w.cell? ⟨b, off + i, none⟩ = some (.int .i64 (f i))) :
    Calls Try.prog 3 #[.int .i64 a0, .slice a N cap] w fun e w' => e = .returned (.bool true) ∧ Below w.heap.size w w' := by
  obtain ⟨i0, hi0, hz0, hz1, hz2⟩ := info_parts info_int
  have hNi : (N : Int) ≤ 60 := by omega
  obtain ⟨n, hn, hne⟩ := ord_ex a0
  have hnew := air_new w
  replace hf := Lib.hid hf
  go_enter Try.func3, Try.ntmps3
  go_upto_region 4 with fail
  clear hne
  go_wp2_with fail
  refine hnew.mono ?_
  rintro e w1 ⟨g, bm, base, rfl, hA, hB⟩
  clear hnew
  have hT : Two w.heap.size w1 g base (.slice none 0 0) (.slice none 0 0) [] bm := ⟨hA, World.ownsRow_nil _ _ _ _, by simp [Value.ownBlock]⟩
  obtain ⟨m, hmw⟩ : ∃ m, w.heap.size = m := ⟨_, rfl⟩
  have hB1 : Below m w w1 := by rw [← hmw]; exact hB
  rw [hmw] at hT
  replace hmw := Lib.hid hmw
  clear hA hB
  go_wp2_with fail
  go_loopw [6, 7] (fun s6 s7 wr => ∃ (i : Nat) (lv li : Value), li = s6 ∧ s7 = .int .i64 (i : Nat) ∧ i ≤ n ∧ Two m wr g base lv li ((List.range i).map fun (j : Nat) => (j : Int)) bm ∧ Below m w wr) (fun _ s7 _ => n - (intOf s7).toNat)
  case atStart => exact ⟨0, _, _, rfl, rfl, Nat.zero_le _, hT, hB1⟩
  case round =>
    obtain ⟨i, lv, li, rfl, rfl, hi, hT2, hB2⟩ := hrel
    clear hT hB1
    by_cases hlt : i < n
    · have hltz : (i : Int) < (n : Int) := by omega
      have hlen : ((List.range i).map fun (j : Nat) => (j : Int)).length = i := by simp
      have hs := air_send_ok (mi i) hT2.air (by show (1 : Int) ≤ 1 ∧ (1 : Int) ≤ 255; omega) (by show (1 : Int) ≤ 2 ∧ (2 : Int) ≤ 255; omega) (by simp; omega)
      replace hT2 := Lib.hid hT2
      replace hlen := Lib.hid hlen
      go_wp2_with fail
      refine hs.mono ?_
      rintro e w3 ⟨lv2, rfl, hA2, hK⟩
      have hI2 := own_kpt hT2.out.ints hT2.out.air.h1 hT2.out.air.h2 hK hT2.out.dis
      have hd2 := dis_kpt hT2.out.ints hK hT2.out.dis
      rw [hlen.out] at hI2
      have hB3 := hB2.trans hK.bel
      have hb6 := hA2.h6
      have hsnoc : ((List.range (i + 1)).map fun (j : Nat) => (j : Int)) = ((List.range i).map fun (j : Nat) => (j : Int)) ++ [(i : Int)] := by rw [List.range_succ, List.map_append]; rfl
      have hA3 : AirAt m w3 g base lv2 (((List.range (i + 1)).map fun (j : Nat) => (j : Int)).map mi) bm 0 (fun _ _ => false) := by rw [hsnoc, List.map_append]; exact hA2
      have hal := Below.refl w3.heap.size w3 |>.alloc (Nat.le_refl _) (.cells #[.int .i64 (i : Nat)] 3)
      have hA4 := hA3.bel hal
      have hB4 := hB3.trans (hal.mono hA2.below)
      clear hs hK hA2 hA3 hB3 hal hB2
      replace hd2 := Lib.hid hd2
      replace hA4 := Lib.hid hA4
      replace hB4 := Lib.hid hB4
      replace hsnoc := Lib.hid hsnoc
      go_wp2_with (at_builtin; refine wpList_append_own_at _ rfl _ _ 22 (by rfl) base 3 i0 _ 1 8 Try.underlying22 hi0 hz0 hz1 hz2 (by rfl) (by omega) li i (iV ((List.range i).map fun (j : Nat) => (j : Int))) (by rfl) (hI2.alloc _) ⟨w3.heap.size, 0, none⟩ 1 1 [.int .i64 (i : Nat)] (by rfl) (by rfl) (World.news_of_block (cs := #[.int .i64 (i : Nat)]) (t := 3) (fr := (0, 0)) (heap_alloc_new w3 _)) (by intro u hu; simp at hu; subst hu; rfl) (by unfold maxLen; omega) (by omega) (by simp; omega) ?_; intro v5 w5 hown5 hgrow5 hnil5 hor5)
      have hr5 : ∀ b, li.ownBlock = some b → base ≤ b ∧ lv2.ownBlock ≠ some b := fun b hb => ⟨(hI2.lt b hb).1, hd2.out b hb⟩
      obtain ⟨hA6, hB6⟩ := hA4.out.beside hgrow5 hr5
      have hd6 : ∀ b, v5.ownBlock = some b → lv2.ownBlock ≠ some b := fun b hb e => by
        rcases hor5 with h | h
        · rw [h] at hb; exact hd2.out b hb e
        · rw [h] at hb
          have h1 := (hA4.out.own.lt b e).2
          simp at hb h1
          omega
      have hT6 : Two m w5 g base lv2 v5 ((List.range (i + 1)).map fun (j : Nat) => (j : Int)) bm := ⟨hA6, by rw [hsnoc.out, List.length_append, hlen.out]; simpa [iV] using hown5, hd6⟩
      have hBf := hB4.out.trans hB6
      clear hr5 hA6 hB6 hd6 hown5 hgrow5 hnil5 hor5 hI2
      replace hT6 := Lib.hid hT6
      go_wp2_with fail
      go_roundw
      case rel => exact ⟨i + 1, lv2, v5, rfl, by go_num, by omega, hT6.out, hBf⟩
      case measure => simp [intOf]; omega
    · have hltz : ¬ (i : Int) < (n : Int) := by omega
      obtain rfl : i = n := by omega
      obtain ⟨l, hl⟩ : ∃ l, ((List.range i).map fun (j : Nat) => (j : Int)) = l := ⟨_, rfl⟩
      have hl60 : l.length ≤ 60 := by rw [← hl]; simp; omega
      rw [hl] at hT2
      clear hl
      have hR : ∃ (lv : Value) (l : List Int), Two m wr g base lv li l bm ∧ l.length ≤ 60 := ⟨lv, l, hT2, hl60⟩
      clear hT2 hl60 hltz hlt hi
      replace hR := Lib.hid hR
      obtain ⟨W2, rfl⟩ : ∃ W2, W2 = wr := ⟨_, rfl⟩
      go_wp2_with fail
      go_loopw [6, 8] (fun s6 s8 wr => ∃ (i : Nat) (lv li : Value) (l : List Int), li = s6 ∧ s8 = .int .i64 (i : Nat) ∧ i ≤ N ∧ Two m wr g base lv li l bm ∧ l.length ≤ 60 ∧ Below m w wr) (fun _ s8 _ => N - (intOf s8).toNat)
      case atStart =>
        obtain ⟨lv, l, h1, h2⟩ := hR.out
        exact ⟨0, lv, li, l, rfl, rfl, Nat.zero_le _, h1, h2, hB2⟩
      case round =>
        obtain ⟨i, lv, li, l, rfl, rfl, hi, hT, hl60, hB⟩ := hrel
        clear hR hB2
        by_cases hgo : i < N ∧ 0 < l.length
        · obtain ⟨hiN, hl0⟩ := hgo
          have hltz : (i : Int) < (N : Int) := by omega
          rcases Ar.shape hT.ints with ⟨_, h0⟩ | ⟨q, cq, rfl, hq1, hq2⟩
          · omega
          unfold maxLen at hq2
          obtain ⟨b, off, rfl, hb, hc⟩ := hf.out (by omega)
          have hbl : Below w.heap.size w wr := by rw [hmw.out]; exact hB
          have x0 := (hbl.cell (p := ⟨b, off + i, none⟩) hb).trans (hc i hiN)
          clear hbl hc
          obtain ⟨p, hp⟩ : ∃ p, f i = p := ⟨_, rfl⟩
          rw [hp] at x0
          clear hp
          obtain ⟨k, hk, hke⟩ := at_ex p l.length hl0 hl60
          obtain ⟨v, hv⟩ : ∃ v, l.getD k 0 = v := ⟨_, rfl⟩
          have hd := air_deliver k hT.air (mi v) (by simpa using hk) (by rw [mi_at l k hk, hv]) (by simpa using (show l.length ≤ 1024 by omega)) (by show (Lit.int .i64 1).wf = true; decide) (by show (Lit.int .i64 2).wf = true; decide)
          rw [mi_erase] at hd
          have hcell := (iV_at l k hk)
          rw [hv] at hcell
          have hnz : ¬ (l.length : Int) = 0 := by omega
          have hlp : (0 : Int) < (l.length : Int) := by omega
          have hkz : (0 : Int) ≤ (k : Int) := by omega
          have hkl : (k : Int) < (l.length : Int) := by omega
          have hlc : (l.length : Int) ≤ (cq : Int) := by omega
          have hkc : (k : Int) ≤ (cq : Int) := by omega
          have hkc1 : (k : Int) + 1 ≤ (cq : Int) := by omega
          have hkl1 : (k : Int) + 1 ≤ (l.length : Int) := by omega
          have hl60i : (l.length : Int) ≤ 60 := by omega
          obtain ⟨A, hA, hsrc⟩ : ∃ A : Addr, (if cq = k + 1 then (some ⟨q, 0, none⟩ : Option Addr) else some ⟨q, k + 1, none⟩) = some A ∧ ∀ (W : World), W.ownsRow base 3 1 (.slice (some ⟨q, 0, none⟩) l.length cq) l.length (iV l) → ∀ t u, (iV (l.drop (k + 1)))[t]? = some u → W.cell? (A.add t) = some u := by
            have hsub : ∀ (W : World), W.ownsRow base 3 1 (.slice (some ⟨q, 0, none⟩) l.length cq) l.length (iV l) → ∀ t u, (iV (l.drop (k + 1)))[t]? = some u → W.cell? ⟨q, k + 1 + t, none⟩ = some u := fun W hW t u hu => by
              have ht := (List.getElem?_eq_some_iff.1 hu).1
              rw [iV_len, List.length_drop] at ht
              rw [hW.cellAt (k + 1 + t) (by omega), ← hu]
              simp [iV]
            by_cases hcc : cq = k + 1
            · refine ⟨⟨q, 0, none⟩, by rw [if_pos hcc], fun W hW t u hu => ?_⟩
              have ht := (List.getElem?_eq_some_iff.1 hu).1
              rw [iV_len, List.length_drop] at ht
              omega
            · refine ⟨⟨q, k + 1, none⟩, by rw [if_neg hcc], fun W hW t u hu => ?_⟩
              rw [Addr.add_lit]
              exact hsub W hW t u hu
          replace hsrc := Lib.hid hsrc
          replace hA := Lib.hid hA
          replace hcell := Lib.hid hcell
          replace hv := Lib.hid hv
          replace hT := Lib.hid hT
          go_wp2_with fail
          refine hd.mono ?_
          rintro e w3 ⟨lv2, rfl, hA2, hK⟩
          rw [show (!(fun (_ _ : Int) => false) (mi v).fr (mi v).to) = true from rfl]
          have hI2 := own_kpt hT.out.ints hT.out.air.h1 hT.out.air.h2 hK hT.out.dis
          have hd2 := dis_kpt hT.out.ints hK hT.out.dis
          have hB3 := hB.trans hK.bel
          have hal := (Below.refl w3.heap.size w3).alloc (Nat.le_refl _) (.cells #[.int .i8 (mi v).k, .int .i64 (mi v).fr, .int .i64 (mi v).to, .int .i64 (mi v).te, .int .i64 (mi v).ix, .int .i64 (mi v).la, .int .i64 (mi v).co, .bool (mi v).ok, .slice none 0 0, .int .i64 (mi v).si, .int .i64 (mi v).st, .int .u8 (mi v).su, .slice none 0 0, .slice none 0 0] 34)
          have hm : HB (w3.alloc (.cells #[.int .i8 (mi v).k, .int .i64 (mi v).fr, .int .i64 (mi v).to, .int .i64 (mi v).te, .int .i64 (mi v).ix, .int .i64 (mi v).la, .int .i64 (mi v).co, .bool (mi v).ok, .slice none 0 0, .int .i64 (mi v).si, .int .i64 (mi v).st, .int .u8 (mi v).su, .slice none 0 0, .slice none 0 0] 34)) w3.heap.size #[.int .i8 (mi v).k, .int .i64 (mi v).fr, .int .i64 (mi v).to, .int .i64 (mi v).te, .int .i64 (mi v).ix, .int .i64 (mi v).la, .int .i64 (mi v).co, .bool (mi v).ok, .slice none 0 0, .int .i64 (mi v).si, .int .i64 (mi v).st, .int .u8 (mi v).su, .slice none 0 0, .slice none 0 0] := HB.new w3 _
          have hA4 := hA2.bel hal
          have hI4 := own_bel hI2 hal
          have hB4 := hB3.trans (hal.mono hA2.below)
          have e1 : ((mi v).ix != v) = false := by show (v != v) = false; simp
          clear hd hA2 hK hI2 hB3 hal x0 hke
          replace hd2 := Lib.hid hd2
          replace hA4 := Lib.hid hA4
          replace hI4 := Lib.hid hI4
          replace hB4 := Lib.hid hB4
          replace hm := Lib.hid hm
          go_upto_region 17 with fail
          replace hA4 := hA4.out
          replace hI4 := hI4.out
          replace hB4 := hB4.out
          replace hm := hm.out
          generalize (w3.alloc (.cells #[.int .i8 (mi v).k, .int .i64 (mi v).fr, .int .i64 (mi v).to, .int .i64 (mi v).te, .int .i64 (mi v).ix, .int .i64 (mi v).la, .int .i64 (mi v).co, .bool (mi v).ok, .slice none 0 0, .int .i64 (mi v).si, .int .i64 (mi v).st, .int .u8 (mi v).su, .slice none 0 0, .slice none 0 0] 34)) = W4 at hA4 hI4 hB4 hm ⊢
          generalize w3.heap.size = mb at hm ⊢
          have y4 := hm.c 4 _ rfl
          have z0 := hI4.cellAt k (by omega)
          rw [hcell.out] at z0
          clear hm
          replace hA4 := Lib.hid hA4
          replace hI4 := Lib.hid hI4
          replace hB4 := Lib.hid hB4
          go_wp2_with fail
          go_big_quiet (fail)
          have hdr := bDrew (Below.refl W4.heap.size W4) nq
          have hA5 := hA4.out.bel hdr
          have hI5 := own_bel hI4.out hdr
          have hB5 := hB4.out.trans (hdr.mono hA4.out.below)
          clear hdr hA4 hI4 hB4 y4 z0 e1
          generalize W4.drewN nq = W5 at hA5 hI5 hB5 ⊢
          have hb6 := hA5.h6
          have hto : ((k : Int) + 1).toNat = k + 1 := by omega
          have hA := hA.out
          replace hA5 := Lib.hid hA5
          replace hB5 := Lib.hid hB5
          have hl1 : (iV (l.take k)).length = k * 1 := by rw [iV_len, List.length_take]; omega
          have hl2 : (iV (l.drop (k + 1))).length = (l.length - (k + 1)) * 1 := by rw [iV_len, List.length_drop]; omega
          have hn1 : ∀ t u, (iV (l.take k))[t]? = some u → W5.cell? ((⟨q, 0, none⟩ : Addr).add t) = some u := fun t u hu => by
            have ht := (List.getElem?_eq_some_iff.1 hu).1
            have e2 : (iV (l.take k))[t]? = (iV l)[t]? := by
              unfold iV
              rw [List.map_take, List.getElem?_take_of_lt (by omega)]
            rw [Addr.add_lit, Nat.zero_add, hI5.cellAt t (by omega), ← e2, hu]
          replace hl1 := Lib.hid hl1
          replace hl2 := Lib.hid hl2
          replace hn1 := Lib.hid hn1
          go_upto_region 21 with (at_builtin; refine wpList_append_own_at _ rfl _ _ 22 (by rfl) base 3 i0 _ 1 8 Try.underlying22 hi0 hz0 hz1 hz2 (by rfl) (by omega) (.slice none 0 0) 0 [] (by rfl) (World.ownsRow_nil _ _ _ _) ⟨q, 0, none⟩ k cq (iV (l.take k)) (by rfl) hl1.out hn1.out (iV_one _) (by unfold maxLen; omega) (by omega) hb6 ?_; intro v6 w6 hown6 hgrow6 hnil6 hor6)
          have hI6 := hI5.kept hgrow6 (.inr (by simp [Value.ownBlock]))
          obtain ⟨hA6, hB6⟩ := hA5.out.beside hgrow6 (fun b hb => by cases hb)
          have hb7 := hA6.h6
          have hor6' : ∀ b, v6.ownBlock = some b → b = W5.heap.size := fun b hb => by
            rcases hor6 with h | h
            · rw [h] at hb; cases hb
            · rw [h] at hb; cases hb; rfl
          have hlv5 : ∀ b, lv2.ownBlock = some b → b < W5.heap.size := fun b hb => (hA5.out.own.lt b hb).2
          have hs6 := hgrow6.size
          replace hA6 := Lib.hid hA6
          replace hB6 := Lib.hid hB6
          replace hor6' := Lib.hid hor6'
          replace hlv5 := Lib.hid hlv5
          clear hor6 hgrow6 hnil6
          go_wp2_with (at_builtin; refine wpList_append_own_at _ rfl _ _ 22 (by rfl) base 3 i0 _ 1 8 Try.underlying22 hi0 hz0 hz1 hz2 (by rfl) (by omega) v6 (0 + k) ([] ++ iV (l.take k)) (by rfl) hown6 A (l.length - (k + 1)) (cq - (k + 1)) (iV (l.drop (k + 1))) (by rfl) hl2.out (hsrc.out w6 hI6) (iV_one _) (by unfold maxLen; omega) (by omega) hb7 ?_; intro v7 w7 hown7 hgrow7 hnil7 hor7)
          obtain ⟨hA7, hB7⟩ := hA6.out.beside hgrow7 (fun b hb => ⟨(hown6.lt b hb).1, fun e => by have h1 := hor6'.out b hb; have h2 := hlv5.out b e; omega⟩)
          have hd7 : ∀ b, v7.ownBlock = some b → lv2.ownBlock ≠ some b := fun b hb e => by
            have h2 := hlv5.out b e
            rcases hor7 with h | h
            · rw [h] at hb; have h1 := hor6'.out b hb; omega
            · rw [h] at hb
              simp at hb
              omega
          have hT7 : Two m w7 g base lv2 v7 (l.eraseIdx k) bm := ⟨hA7, by
            have e : (l.eraseIdx k).length = 0 + k + (l.length - (k + 1)) := by rw [List.length_eraseIdx_of_lt hk]; omega
            have e2 : iV (l.eraseIdx k) = [] ++ iV (l.take k) ++ iV (l.drop (k + 1)) := by rw [List.eraseIdx_eq_take_drop_succ]; simp [iV]
            rw [e, e2]
            exact hown7, hd7⟩
          have hBf := (hB5.out.trans hB6.out).trans hB7
          have hlf : (l.eraseIdx k).length ≤ 60 := by rw [List.length_eraseIdx_of_lt hk]; omega
          clear hA7 hB7 hd7 hown7 hgrow7 hnil7 hor7 hown6 hI6 hA hto
          replace hT7 := Lib.hid hT7
          go_wp2_with fail
          go_roundw
          case rel => exact ⟨i + 1, lv2, v7, _, rfl, by go_num, by omega, hT7.out, hlf, hBf⟩
          case measure => simp [intOf]; omega
        · have hsh := Ar.shape hT.ints
          rcases hsh with ⟨rfl, h0⟩ | ⟨q, cq, rfl, hq1, hq2⟩
          · obtain rfl : l = [] := List.eq_nil_of_length_eq_zero h0
            replace hT := Lib.hid hT
            clear h0 hgo hl60
            by_cases hiN : (i : Int) < (N : Int)
            all_goals
              go_wp2_with fail
              obtain ⟨W3, rfl⟩ : ∃ W3, W3 = wr := ⟨_, rfl⟩
              go_loopw [14] (fun s14 wr => s14 = .int .i64 0 ∧ Two m wr g base lv (.slice none 0 0) [] bm ∧ Below m w wr) (fun s14 _ => 0)
              case atStart => exact ⟨rfl, hT.out, hB⟩
              case round =>
              obtain ⟨rfl, hT3, hB3⟩ := hrel
              have hlen := air_len hT3.air
              rw [List.length_map] at hlen
              have hm3 := hT3.air.below
              have hwk := wakes02_c wr
              have e1 : ((([] : List Int).length : Int) == 0) = true := by simp
              clear hT3
              go_wp2_with fail
              refine hlen.mono ?_
              rintro e wb ⟨rfl, rfl⟩
              go_wp2_with fail
              refine hwk.mono ?_
              rintro e wc ⟨rfl, hBc⟩
              go_wp2_with fail
              go_ret
              exact ⟨rfl, by rw [hmw.out]; exact hB3.trans (hBc.mono hm3)⟩
          · by_cases h0 : l.length = 0
            · obtain rfl : l = [] := List.eq_nil_of_length_eq_zero h0
              replace hT : Two m wr g base lv (.slice (some ⟨q, 0, none⟩) 0 cq) [] bm := hT
              rw [show (([] : List Int).length) = 0 from rfl]
              replace hT := Lib.hid hT
              clear h0 hgo hl60 hq1 hq2
              by_cases hiN : (i : Int) < (N : Int)
              all_goals
                go_wp2_with fail
                obtain ⟨W3, rfl⟩ : ∃ W3, W3 = wr := ⟨_, rfl⟩
                go_loopw [14] (fun s14 wr => s14 = .int .i64 0 ∧ Two m wr g base lv (.slice (some ⟨q, 0, none⟩) 0 cq) [] bm ∧ Below m w wr) (fun s14 _ => 0)
                case atStart => exact ⟨rfl, hT.out, hB⟩
                case round =>
                obtain ⟨rfl, hT3, hB3⟩ := hrel
                have hlen := air_len hT3.air
                rw [List.length_map] at hlen
                have hm3 := hT3.air.below
                have hwk := wakes02_c wr
                have e1 : ((([] : List Int).length : Int) == 0) = true := by simp
                clear hT3
                go_wp2_with fail
                refine hlen.mono ?_
                rintro e wb ⟨rfl, rfl⟩
                go_wp2_with fail
                refine hwk.mono ?_
                rintro e wc ⟨rfl, hBc⟩
                go_wp2_with fail
                go_ret
                exact ⟨rfl, by rw [hmw.out]; exact hB3.trans (hBc.mono hm3)⟩
            replace hT := Lib.hid hT
            have hl60i : (l.length : Int) ≤ 60 := by omega
            have g1 : ¬ (i : Int) < (N : Int) := by omega
            clear hgo h0
            all_goals
              go_wp2_with fail
              obtain ⟨W3, rfl⟩ : ∃ W3, W3 = wr := ⟨_, rfl⟩
              go_loopw [14] (fun s14 wr => ∃ k : Nat, k ≤ l.length ∧ s14 = .int .i64 (k : Nat) ∧ Two m wr g base lv (.slice (some ⟨q, 0, none⟩) l.length cq) l bm ∧ Below m w wr) (fun s14 _ => l.length - (intOf s14).toNat)
              case atStart => exact ⟨0, Nat.zero_le _, rfl, hT.out, hB⟩
              case round =>
              obtain ⟨k, hk, rfl, hT3, hB3⟩ := hrel
              by_cases hlk : k < l.length
              · have hlkz : (k : Int) < (l.length : Int) := by omega
                have hkz : (0 : Int) ≤ (k : Int) := by omega
                obtain ⟨v, hv⟩ : ∃ v, l.getD k 0 = v := ⟨_, rfl⟩
                have hd := air_look k hT3.air (mi v) (by simpa using hlk) (by rw [mi_at l k hlk, hv]) (by simpa using (show l.length ≤ 1024 by omega))
                have z0 := hT3.ints.cellAt k (by omega)
                rw [iV_at l k hlk, hv] at z0
                have e1 : ((mi v).ix != v) = false := by show (v != v) = false; simp
                replace hv := Lib.hid hv
                replace hT3 := Lib.hid hT3
                go_wp2_with fail
                refine hd.mono ?_
                rintro e w3 ⟨rfl, hbl⟩
                have hal := (Below.refl w3.heap.size w3).alloc (Nat.le_refl _) (.cells #[.int .i8 (mi v).k, .int .i64 (mi v).fr, .int .i64 (mi v).to, .int .i64 (mi v).te, .int .i64 (mi v).ix, .int .i64 (mi v).la, .int .i64 (mi v).co, .bool (mi v).ok, .slice none 0 0, .int .i64 (mi v).si, .int .i64 (mi v).st, .int .u8 (mi v).su, .slice none 0 0, .slice none 0 0] 34)
                have hb4 := bNext hbl hal (Nat.le_refl _)
                have hm : HB (w3.alloc (.cells #[.int .i8 (mi v).k, .int .i64 (mi v).fr, .int .i64 (mi v).to, .int .i64 (mi v).te, .int .i64 (mi v).ix, .int .i64 (mi v).la, .int .i64 (mi v).co, .bool (mi v).ok, .slice none 0 0, .int .i64 (mi v).si, .int .i64 (mi v).st, .int .u8 (mi v).su, .slice none 0 0, .slice none 0 0] 34)) w3.heap.size #[.int .i8 (mi v).k, .int .i64 (mi v).fr, .int .i64 (mi v).to, .int .i64 (mi v).te, .int .i64 (mi v).ix, .int .i64 (mi v).la, .int .i64 (mi v).co, .bool (mi v).ok, .slice none 0 0, .int .i64 (mi v).si, .int .i64 (mi v).st, .int .u8 (mi v).su, .slice none 0 0, .slice none 0 0] := HB.new w3 _
                have z1 := cellB hb4 z0
                have hm3 := hT3.out.air.below
                clear hal hbl hd z0
                replace hm := Lib.hid hm
                replace hb4 := Lib.hid hb4
                go_upto_region 26 with fail
                replace hm := hm.out
                replace hb4 := hb4.out
                generalize (w3.alloc (.cells #[.int .i8 (mi v).k, .int .i64 (mi v).fr, .int .i64 (mi v).to, .int .i64 (mi v).te, .int .i64 (mi v).ix, .int .i64 (mi v).la, .int .i64 (mi v).co, .bool (mi v).ok, .slice none 0 0, .int .i64 (mi v).si, .int .i64 (mi v).st, .int .u8 (mi v).su, .slice none 0 0, .slice none 0 0] 34)) = W4 at hm hb4 z1 ⊢
                generalize w3.heap.size = mb at hm ⊢
                have y4 := hm.c 4 _ rfl
                clear hm
                replace hb4 := Lib.hid hb4
                go_wp2_with fail
                go_big_quiet (fail)
                clear y4 z1 e1
                have hb5 := bDrew hb4.out nq
                have hT5 := hT3.out.bel hb5
                have hB5 := hB3.trans (hb5.mono hm3)
                clear hb4 hb5
                replace hT5 := Lib.hid hT5
                go_wp2_with fail
                go_roundw
                case rel => exact ⟨k + 1, by omega, by go_num, hT5.out, hB5⟩
                case measure => simp [intOf]; omega
              · have hlkz : ¬ (k : Int) < (l.length : Int) := by omega
                clear hlk hk
                have hlen := air_len hT3.air
                rw [List.length_map] at hlen
                have hm3 := hT3.air.below
                have hwk := wakes02_c wr
                have e1 : (((l.length : Nat) : Int) == ((l.length : Nat) : Int)) = true := by simp
                clear hT3
                go_wp2_with fail
                refine hlen.mono ?_
                rintro e wb ⟨rfl, rfl⟩
                go_wp2_with fail
                refine hwk.mono ?_
                rintro e wc ⟨rfl, hBc⟩
                go_wp2_with fail
                go_ret
                exact ⟨rfl, by rw [hmw.out]; exact hB3.trans (hBc.mono hm3)⟩

set_option maxRecDepth 100000 in
set_option maxHeartbeats 4000000 in
theorem airOrder_walk (w : World) (a0 : Int) (v1 : Value) (a1 : XT_Lint) (w0 : (Lit.int .i64 a0).wf = true) (w1 : Is_Lint w v1 a1) :
    Calls Try.prog 3 #[.int .i64 a0, v1] w fun e w' => e = .returned (.bool true) ∧ Below w.heap.size w w' := by
  obtain ⟨a, N, cap, rfl, _, _, hf⟩ := w1
  by_cases hN : (60 : Int) < (N : Int)
  · have hwk := wakes02_c w
    clear hf w0
    go_enter Try.func3, Try.ntmps3
    go_wp2_with fail
    refine hwk.mono ?_
    rintro e w' ⟨rfl, hB⟩
    go_wp2_with fail
    go_ret
    exact ⟨rfl, hB⟩
  · exact airOrder_some w a0 a1 a N cap (by omega) (fun h => by
      obtain ⟨b, off, h1, h2, h3⟩ := hf h
      exact ⟨b, off, h1, h2, fun i hi => (h3 i hi).1⟩)
end Go.Proofs.Ytnokojobiaddmaa
