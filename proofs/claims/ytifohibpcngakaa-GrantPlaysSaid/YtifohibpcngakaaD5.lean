/- A leader's desk: picked, Over. -/
import Derived.Test.YtifohibpcngakaaD4
namespace Go.Proofs.Ytifohibpcngakaa
open Go.ChangeShapes Go.WideShapes Go.ChangeAt Go.RowKit Go.Maps
set_option linter.unusedVariables false
set_option linter.unusedSimpArgs false
open BigFrame Bs Gr
attribute [local go_sem] Bs.max_fold Bs.min_fold

set_option maxRecDepth 100000 in
set_option maxHeartbeats 4000000 in
theorem picked_c {m : Nat → Prop} {w : World} {d bm n : Nat} {OV EL NO : Int} {T : Int → Option Int} (h : DK m w d bm n OV EL NO T) {tb : Nat} (htb : w.cell? ⟨tb, 0, none⟩ = some (.pointer (some ⟨d, 0, none⟩))) (a : Option Addr) (N c : Nat) (f : Nat → Int) (hN : N ≤ 1000) (hf : Lss m w a N f)
    (he : 0 ≤ EL ∧ EL ≤ 9223372036854775807) (hn : 0 ≤ NO ∧ NO ≤ 9223372036854775807) (hT : TOk EL NO T) :
    Calls Try.prog 23 #[.slice a N c, .func (.func 24) #[] #[], .func (.func 25) #[] #[.pointer (some ⟨tb, 0, none⟩)]] w (TellI w (srt (pk (isOv OV EL NO T) f N))) := by
  obtain ⟨i0, hi0, hz0, hz1, hz2⟩ := info_parts info_int
  have hNi : (N : Int) ≤ 1000 := by omega
  replace hf := Lib.hid hf
  replace h := Lib.hid h
  replace htb := Lib.hid htb
  replace he := Lib.hid he
  replace hn := Lib.hid hn
  replace hT := Lib.hid hT
  obtain ⟨P, hP⟩ : ∃ P, RowKit.Hid (P = isOv OV EL NO T) := ⟨_, Lib.hid rfl⟩
  go_enter Try.func23, Try.ntmps23
  go_wp2_with fail
  go_loopw [7, 13] (fun s7 s13 wr => ∃ (i : Nat) (v : Value), v = s7 ∧ s13 = .int .i64 (i : Nat) ∧ i ≤ N ∧ OwnI wr w.heap.size v (pk (isOv OV EL NO T) f i) ∧ Below w.heap.size w wr) (fun _ s13 _ => N - (intOf s13).toNat)
  case atStart => exact ⟨0, _, rfl, rfl, Nat.zero_le _, ⟨rfl, .inl ⟨rfl, rfl⟩⟩, Below.refl _ _⟩
  case round =>
    obtain ⟨i, v, rfl, rfl, hi, hO, hB⟩ := hrel
    have ii : (i : Int) ≤ (N : Int) := by omega
    by_cases hlt : i < N
    · have ii1 : (i : Int) < (N : Int) := by omega
      obtain ⟨b, off, rfl, hm, hb, hc⟩ := (hf.out.kp (Kp.of hB)) (by omega)
      obtain ⟨⟨x0, xs⟩, hwf⟩ := hc i hlt
      have x1 := xs 1 (by omega) (by omega)
      have x2 := xs 2 (by omega) (by omega)
      have x3 := xs 3 (by omega) (by omega)
      have x4 := xs 4 (by omega) (by omega)
      have x5 := xs 5 (by omega) (by omega)
      have x6 := xs 6 (by omega) (by omega)
      have hkk := hwf
      obtain ⟨k, hk⟩ : ∃ k, RowKit.Hid (f i = k) := ⟨_, Lib.hid rfl⟩
      rw [hk.out] at x0 hkk
      clear xs hc hwf
      have hd := (Below.refl wr.heap.size wr).alloc (Nat.le_refl _) (.cells #[.int .i64 k, .int .i64 0, .int .i64 0, .int .i64 0, .int .i64 0, .int .i64 0, .int .i64 0] 38)
      have bb := blk_new wr [.int .i64 k, .int .i64 0, .int .i64 0, .int .i64 0, .int .i64 0, .int .i64 0, .int .i64 0] 38
      have hO2 := Lib.hid (hO.bel hd)
      have hB2 := Lib.hid (bNext hB hd (Nat.le_refl _))
      replace hkk := Lib.hid hkk
      clear hO hB hd
      go_upto_region 5 with fail
      clear x0 x1 x2 x3 x4 x5 x6
      generalize wr.alloc (.cells #[.int .i64 k, .int .i64 0, .int .i64 0, .int .i64 0, .int .i64 0, .int .i64 0, .int .i64 0] 38) = W1 at bb hO2 hB2 ⊢
      generalize wr.heap.size = xb at bb ⊢
      have y0 := bb.c 0 _ rfl
      have y1 := bb.c 1 _ rfl
      have y2 := bb.c 2 _ rfl
      have y3 := bb.c 3 _ rfl
      have y4 := bb.c 4 _ rfl
      have y5 := bb.c 5 _ rfl
      have y6 := bb.c 6 _ rfl
      clear bb
      go_wp2_with fail
      refine (over1_c _ _).mono ?_
      rintro e w2 ⟨rfl, hb2⟩
      have hO3 := hO2.out.bel hb2
      have hB3 := bNext hB2.out hb2 (Nat.le_refl _)
      have h3 := h.out.bel hB3
      have htb3 := cellB hB3 htb.out
      have hov := Lib.hid (over2_c h3 htb3 k hkk.out he.out hn.out hT.out)
      replace hO3 := Lib.hid hO3
      replace hB3 := Lib.hid hB3
      clear y0 y1 y2 y3 y4 y5 y6 hO2 hB2 hb2 h3 htb3 hkk
      go_wp2_with fail
      refine hov.out.mono ?_
      rintro e w3 ⟨rfl, hb3⟩
      have hO4 := hO3.out.bel hb3
      have hB4 := bNext hB3.out hb3 (Nat.le_refl _)
      have hsz := hB4.size
      have hlen := pk_len (isOv OV EL NO T) f i
      have hps := pk_succ (isOv OV EL NO T) f i
      rw [hk.out] at hps
      replace hB4 := Lib.hid hB4
      clear hov hO3 hB3 hb3
      cases hyes : isOv OV EL NO T k with
      | true =>
        rw [hyes, if_pos rfl] at hps
        replace hps := Lib.hid hps
        replace hyes := Lib.hid hyes
        go_wp2_with (at_builtin; refine wpList_append_own_at _ rfl _ _ 35 (by rfl) w.heap.size 3 i0 _ 1 8 Try.underlying35 hi0 hz0 hz1 hz2 (by rfl) (by omega) v (pk (isOv OV EL NO T) f i).length (iV (pk (isOv OV EL NO T) f i)) (by rfl) (hO4.alloc _) ⟨w3.heap.size, 0, none⟩ 1 1 [.int .i64 k] (by rfl) (by rfl) (World.news_of_block (cs := #[.int .i64 k]) (t := 3) (fr := (0, 0)) (heap_alloc_new w3 _)) (by intro u hu; simp at hu; subst hu; rfl) (by unfold maxLen; omega) (by omega) (by simp; omega) ?_; intro v5 w5 hown5 hgrow5 hnil5 hor5)
        have hO5 : OwnI w5 w.heap.size v5 (pk (isOv OV EL NO T) f (i + 1)) := by
          unfold OwnI
          rw [hps.out, List.length_append]
          unfold iV at hown5 ⊢
          rw [List.map_append]
          exact hown5
        have hB5 : Below w.heap.size w w5 := (hB4.out.alloc (by omega) _).grown hgrow5 (by simp; omega) (fun q hq => (hO4.lt q hq).1)
        replace hO5 := Lib.hid hO5
        replace hB5 := Lib.hid hB5
        clear hown5 hgrow5 hnil5 hor5 hO4 hB4
        go_wp2_with fail
        go_roundw
        case rel => exact ⟨i + 1, v5, rfl, by go_num, hlt, hO5.out, hB5.out⟩
        case measure => simp [intOf]; omega
      | false =>
        rw [hyes] at hps
        simp only [Bool.false_eq_true, if_false, List.append_nil] at hps
        replace hps := Lib.hid hps
        replace hyes := Lib.hid hyes
        replace hO4 := Lib.hid hO4
        go_wp2_with fail
        go_roundw
        case rel => exact ⟨i + 1, v, rfl, by go_num, hlt, by rw [hps.out]; exact hO4.out, hB4.out⟩
        case measure => simp [intOf]; omega
    · obtain rfl : i = N := by omega
      have hl := pk_len (isOv OV EL NO T) f i
      have hso := Lib.hid (sort_own hO hB.size (by omega))
      replace hB := Lib.hid hB
      clear hO hl hf h htb
      go_wp2_with fail
      refine hso.out.mono ?_
      rintro e w2 ⟨rfl, hO2, hB2⟩
      have hB3 := Lib.hid (hB.out.trans hB2)
      replace hO2 := Lib.hid hO2
      clear hso hB hB2
      go_wp2_with fail
      go_ret
      exact ⟨_, rfl, hO2.out.tell, hB3.out⟩
end Go.Proofs.Ytifohibpcngakaa
