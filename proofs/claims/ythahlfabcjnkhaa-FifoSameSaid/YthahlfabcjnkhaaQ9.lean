/- The walk of FifoOrder. -/
import Derived.Test.YthahlfabcjnkhaaQ8
import Derived.Test.YthahlfabcjnkhaaOpenInts
namespace Go.Proofs.Ythahlfabcjnkhaa
open Go.ChangeShapes Go.WideShapes Go.ChangeAt Go.RowKit
set_option linter.unusedVariables false
set_option linter.unusedSimpArgs false
open Pk BigFrame Fq

abbrev XT_Lint := Nat → Int
abbrev Is_Lint (w : World) (v : Value) (f : XT_Lint) : Prop := IsInts .i64 w v f
set_option maxRecDepth 100000 in
theorem open_Lint {H : Type} {enc : TypeId × Value → H} {w : World} {r : Reach} {b0 : Nat} {v : Value} {d : DataW H} {p : List MemPlace} (hv : Value.okWide Try.prog w r b0 82 v) (h : DataW.Trod enc Try.prog w 0 (fun _ => true) true 82 v d p) : ∃ f, Is_Lint w v f :=
  open_row Try.underlying82 Try.underlying3 (by kernel_rfl) hv h

namespace Fq
theorem own_kept {base : Nat} {w w' : World} {e : TypeId} {size : Nat} {v : Value} {n : Nat} {xs : List Value} {qb rb : Nat} (h : w.ownsRow base e size v n xs) (k : Kept w w' qb rb) (h1 : qb < base) (h2 : rb < base) : w'.ownsRow base e size v n xs := by
  refine ⟨h.1, ?_⟩
  rcases h.2 with hh | ⟨g, cap, cur, e1, e2, e3, e4⟩
  · exact .inl hh
  · exact .inr ⟨g, cap, cur, e1, e2, (k.block g (Array.getElem?_eq_some_iff.1 e3).1 (by omega) (by omega)).trans e3, e4⟩
theorem own_belowQ {base : Nat} {w w' : World} {e : TypeId} {size : Nat} {v : Value} {n : Nat} {xs : List Value} (h : w.ownsRow base e size v n xs) (k : Below w.heap.size w w') : w'.ownsRow base e size v n xs := by
  refine ⟨h.1, ?_⟩
  rcases h.2 with hh | ⟨g, cap, cur, h1, h2, h3, h4⟩
  · exact .inl hh
  · exact .inr ⟨g, cap, cur, h1, h2, (k.block g (Array.getElem?_eq_some_iff.1 h3).1).trans h3, h4⟩
theorem QAt.same {W W' : World} {qb rb room pos n by_ dr : Nat} (h : QAt W qb rb room pos n by_ dr) (c : ∀ o, W'.cell? ⟨qb, o, none⟩ = W.cell? ⟨qb, o, none⟩) (f : ∀ o, W'.frozen? ⟨qb, o, none⟩ = W.frozen? ⟨qb, o, none⟩) (rf : ∀ o, W'.frozen? ⟨rb, o, none⟩ = W.frozen? ⟨rb, o, none⟩) (hs : W.heap.size ≤ W'.heap.size) : QAt W' qb rb room pos n by_ dr :=
  ⟨(c 0).trans h.c0, (c 1).trans h.c1, (c 2).trans h.c2, (c 3).trans h.c3, (c 4).trans h.c4, fun o => (f o).trans (h.f o), fun o => (rf o).trans (h.rf o), h.ne, Nat.lt_of_lt_of_le h.rl hs, h.room1, h.room2, h.pos1, h.n1, h.by1, h.dr1⟩
/-- What is in the ring, from its first packet on: the numbers l, counted from k on. -/
def InRing (pk : Nat → Nat → Value) (room pos n : Nat) (tk : List Nat) (out : Nat) : Prop := ∀ j, j < n → pk ((pos + j) % room) 0 = .int .i64 ((tk.getD (out + j) 0 : Nat) : Int) ∧ pk ((pos + j) % room) 1 = .int .i64 0 ∧ pk ((pos + j) % room) 2 = .int .i64 ((out + j : Nat) : Int) ∧ pk ((pos + j) % room) 3 = .slice none 0 0
theorem mod_inj {room pos i j : Nat} (hi : i < room) (hj : j < room) (h : (pos + i) % room = (pos + j) % room) : i = j := by
  have h1 := Nat.div_add_mod (pos + i) room
  have h2 := Nat.div_add_mod (pos + j) room
  rw [h] at h1
  rcases Nat.lt_trichotomy ((pos + i) / room) ((pos + j) / room) with hlt | heq | hgt
  · have := Nat.mul_le_mul_left room (show (pos + i) / room + 1 ≤ (pos + j) / room from hlt)
    rw [Nat.mul_add] at this
    omega
  · rw [heq] at h1; omega
  · have := Nat.mul_le_mul_left room (show (pos + j) / room + 1 ≤ (pos + i) / room from hgt)
    rw [Nat.mul_add] at this
    omega
theorem InRing.push {pk : Nat → Nat → Value} {room pos n : Nat} {tk : List Nat} {out : Nat} (h : InRing pk room pos n tk out) (hn : n < room) (ht : tk.length = out + n) (x c : Nat) (hc : c = out + n) :
    InRing (fun j i => if j = (pos + n) % room then (#[.int .i64 (x : Nat), .int .i64 0, .int .i64 ((c : Nat) : Int), .slice none 0 0] : Array Value).getD i undef else pk j i) room pos (n + 1) (tk ++ [x]) out := by
  subst hc
  intro j hj
  by_cases hjn : j = n
  · subst hjn
    simp only [if_true]
    refine ⟨?_, rfl, rfl, rfl⟩
    simp [List.getD, ht]
  · have hne : ¬ (pos + j) % room = (pos + n) % room := fun hh => hjn (mod_inj (by omega) hn hh)
    simp only [hne, if_false]
    have := h j (by omega)
    refine ⟨?_, this.2.1, this.2.2.1, this.2.2.2⟩
    rw [this.1]
    simp [List.getD, List.getElem?_append_left (show out + j < tk.length by omega)]
theorem InRing.pop {pk : Nat → Nat → Value} {room pos n : Nat} {tk : List Nat} {out : Nat} (h : InRing pk room pos (n + 1) tk out) : InRing pk room ((pos + 1) % room) n tk (out + 1) := by
  intro j hj
  have := h (j + 1) (by omega)
  rw [Nat.mod_add_mod, show pos + 1 + j = pos + (j + 1) by omega, show out + 1 + j = out + (j + 1) by omega]
  exact this
end Fq

set_option maxRecDepth 100000 in
set_option maxHeartbeats 8000000 in
theorem order_h (w : World) (room0 : Int) (a : Option Addr) (N cap : Nat) (f : Nat → Int) (hN : N ≤ 300) (hrow : 0 < N → ∃ b off, a = some ⟨b, off, none⟩ ∧ b < w.heap.size ∧ ∀ i, i < N → w.cell? ⟨b, off + i, none⟩ = some (.int .i64 (f i))) (hr1 : -9223372036854775808 ≤ room0) (hr2 : room0 ≤ 9223372036854775807) :
    Calls Try.prog 14 #[.int .i64 room0, .slice a N cap] w fun e w' => e = .returned (.bool true) ∧ Below w.heap.size w w' := by
  obtain ⟨R, hR, R1, R2⟩ : ∃ R : Nat, 1 + room0.tmod 64 % 64 = (R : Int) ∧ 1 ≤ R ∧ R ≤ 64 := ⟨(1 + room0.tmod 64 % 64).toNat, by omega, by omega, by omega⟩
  have t1 : -64 < room0.tmod 64 := by have := Int.lt_tmod_of_pos room0 (show (0 : Int) < 64 by omega); omega
  have t2 : room0.tmod 64 < 64 := Int.tmod_lt_of_pos _ (by omega)
  have hN' : ¬ (300 : Int) < (N : Int) := by omega
  obtain ⟨i0, hi0, hz0, hz1, hz2⟩ := info_parts info_int23
  replace hrow := Lib.hid hrow
  go_enter Try.func14, Try.ntmps14
  go_wp2_with fail
  try simp only [hR]
  refine (qnew_ok R w R1 R2).mono ?_
  rintro e w1 ⟨qb, rb, pk0, rfl, hQ1, hR1, hqb, hrb, hB1⟩
  have hq1 : qb < w1.heap.size := World.block_lt_of_cell? _ _ hQ1.c0
  have hrl1 := hQ1.rl
  have hqr := hQ1.ne
  replace hQ1 := Lib.hid hQ1
  replace hR1 := Lib.hid hR1
  replace hR := Lib.hid hR
  clear t1 t2
  go_wp2_with fail
  go_loopw [7, 8, 9, 10] (fun vi vo vt ix wr => ∃ (i inn out pos dr : Nat) (tk : List Nat) (tv : Value) (pk : Nat → Nat → Value), i ≤ N ∧ out ≤ inn ∧ inn ≤ i ∧ dr ≤ i ∧ vi = .int .i64 (inn : Nat) ∧ vo = .int .i64 (out : Nat) ∧ tv = vt ∧ ix = .int .i64 (i : Nat) ∧ tk.length = inn ∧ wr.ownsRow w1.heap.size 3 1 tv inn (ivals tk) ∧ (inn = 0 → tv = .slice none 0 0) ∧ QAt wr qb rb R pos (inn - out) (8 * (inn - out)) dr ∧ RingAt wr rb R pk ∧ InRing pk R pos (inn - out) tk out ∧ Below w.heap.size w wr ∧ w1.heap.size ≤ wr.heap.size) (fun _ _ _ ix _ => N - (intOf ix).toNat)
  case atStart => exact ⟨0, 0, 0, 0, 0, [], .slice none 0 0, pk0, by omega, by omega, by omega, by omega, rfl, rfl, rfl, rfl, rfl, World.ownsRow_nil _ _ _ _, fun _ => rfl, hQ1.out, hR1.out, fun j hj => absurd hj (by omega), hB1, Nat.le_refl _⟩
  case round =>
    clear hQ1 hR1
    obtain ⟨i, inn, out, pos, dr, tk, tv, pk, hi, ho, hin, hdr, rfl, rfl, rfl, rfl, htk, hown, hnil, hQ, hRg, hIn, hB, hsz⟩ := hrel
    by_cases hlt : i < N
    · have hlt' : (i : Int) < (N : Int) := by omega
      obtain ⟨b, off, haa, hbl, hrow1⟩ := hrow.out (by omega)
      subst haa
      have x0 := (hB.cell (p := ⟨b, off + i, none⟩) hbl).trans (hrow1 i hlt)
      have hq : qb < wr.heap.size := World.block_lt_of_cell? _ _ hQ.c0
      clear hrow1
      obtain ⟨F, hF⟩ : ∃ F, f i = F := ⟨_, rfl⟩
      rw [hF] at x0
      clear hF
      have hinI : (inn : Int) ≤ 300 := by omega
      have hoI : (out : Int) ≤ (inn : Int) := by omega
      have hsub : ((inn : Int) - (out : Int)) = ((inn - out : Nat) : Int) := by omega
      have hn1 := hQ.n1
      have hp1 := hQ.pos1
      by_cases h0 : 0 ≤ F
      · by_cases hfull : inn - out < R
        · have hcmp : (inn : Int) - (out : Int) < (R : Int) := by omega
          have hps := Lib.hid (qpush_ok qb rb R pos (inn - out) (8 * (inn - out)) dr (i : Nat) 0 (inn : Nat) none 0 0 pk wr hQ hRg hfull (by omega) (by omega) (copy_nil _ _ _ wr))
          clear hsub
          replace hQ := Lib.hid hQ
          replace hRg := Lib.hid hRg
          replace hIn := Lib.hid hIn
          replace hown := Lib.hid hown
          replace hnil := Lib.hid hnil
          replace htk := Lib.hid htk
          go_wp2_with fail
          refine hps.out.mono ?_
          rintro e w2 ⟨rfl, a1, c1, hz, hQ2, hR2, hK2⟩
          obtain ⟨rfl, rfl⟩ := hz rfl
          have hB2 := hK2.bel _ _ hB hqb hrb
          have hs2 := hK2.size
          have hown2 := own_kept hown.out hK2 hq1 hrl1
          replace hQ2 := Lib.hid hQ2
          replace hR2 := Lib.hid hR2
          clear hK2 hps hz hQ hRg hown
          go_wp2_with (at_builtin; refine wpList_append_lies _ rfl _ _ 82 (by rfl) w1.heap.size 3 i0 _ 1 8 Try.underlying82 hi0 hz0 hz1 hz2 (by rfl) (by omega) _ _ _ (by rfl) (hown2.alloc _) ⟨w2.heap.size, 0, none⟩ 1 1 [.int .i64 (i : Int)] (by rfl) (by rfl) (World.news_of_block (cs := #[.int .i64 (i : Int)]) (t := 3) (fr := (0, 0)) (heap_alloc_new w2 _)) (by intro u hu; simp at hu; subst hu; rfl) (by omega) (by unfold maxLen; omega) (by omega) (by simp; omega) (w2.heap.size + 1) (by simp) ?_; intro g1 cap1 w3 hown3 hgrow1 hat1 hlt1)
          have K1 := grow_keep2 hown2 hgrow1 qb hq1 (by omega)
          have K2 := grow_keep2 hown2 hgrow1 rb hrl1 (by omega)
          have hs3 : w2.heap.size ≤ w3.heap.size := by have := hgrow1.size; simp at this; omega
          have hQ3 := hQ2.out.same K1.1 K1.2 K2.2 hs3
          have hR3 : RingAt w3 rb R _ := fun j k hj hk => (K2.1 _).trans (hR2.out j k hj hk)
          have hb3 : Below w.heap.size w w3 := (hB2.alloc (by have := hB2.size; omega) _).grown hgrow1 (by have := hB2.size; simp; omega) (fun q hq => by have := (hown2.lt q hq).1; have := hB1.size; omega)
          have hI3 := hIn.out.push hfull (by have := htk.out; omega) i inn (by omega)
          replace hQ3 := Lib.hid hQ3
          replace hR3 := Lib.hid hR3
          replace hI3 := Lib.hid hI3
          clear K1 K2 hQ2 hR2 hIn hgrow1 hown2
          go_roundw
          case rel => exact ⟨i + 1, inn + 1, out, pos, dr, tk ++ [i], _, _, by omega, by omega, by omega, by omega, by simp, rfl, rfl, by simp, by simp [htk.out], by rw [ivals_snoc]; exact hown3, fun h => absurd h (by omega), by rw [show inn + 1 - out = inn - out + 1 by omega, show 8 * (inn - out + 1) = 8 * (inn - out) + 8 + 0 by omega]; exact hQ3.out, hR3.out, by rw [show inn + 1 - out = inn - out + 1 by omega]; exact hI3.out, hb3, by omega⟩
          case measure => simp [intOf]; omega
        · have hnR : inn - out = R := by omega
          have hcmp : ¬ (inn : Int) - (out : Int) < (R : Int) := by omega
          rw [hnR] at hQ
          have hps := Lib.hid (qpush_full qb rb R pos (8 * R) dr (i : Nat) 0 (inn : Nat) none 0 0 pk wr hQ hRg (by omega) (by omega) (copy_nil _ _ _ wr))
          clear hsub
          replace hQ := Lib.hid hQ
          replace hRg := Lib.hid hRg
          replace hIn := Lib.hid hIn
          replace hown := Lib.hid hown
          replace hnil := Lib.hid hnil
          replace htk := Lib.hid htk
          go_wp2_with fail
          refine hps.out.mono ?_
          rintro e w2 ⟨rfl, hQ2, hR2, hK2⟩
          have hB2 := hK2.bel _ _ hB hqb hrb
          have hs2 := hK2.size
          have hown2 := Lib.hid (own_kept hown.out hK2 hq1 hrl1)
          replace hQ2 := Lib.hid hQ2
          replace hR2 := Lib.hid hR2
          clear hK2 hps hQ hRg hown
          go_wp2_with fail
          go_roundw
          case rel => exact ⟨i + 1, inn, out, pos, dr + 1, tk, _, _, by omega, by omega, by omega, by omega, rfl, rfl, rfl, by simp, htk.out, hown2.out, hnil.out, by rw [hnR]; exact hQ2.out, hR2.out, hIn.out, hB2, by omega⟩
          case measure => simp [intOf]; omega
      · have h0' : F < 0 := by omega
        by_cases hem : inn - out = 0
        · have hio : inn = out := by omega
          rw [hem] at hQ
          have hps := Lib.hid (qpop_none qb rb R pos (8 * 0) dr wr hQ)
          subst hio
          clear hsub hoI
          replace hQ := Lib.hid hQ
          replace hRg := Lib.hid hRg
          replace hIn := Lib.hid hIn
          replace hown := Lib.hid hown
          replace hnil := Lib.hid hnil
          replace htk := Lib.hid htk
          go_wp2_with fail
          refine hps.out.mono ?_
          rintro e w2 ⟨rfl, hb2⟩
          have hbx := (Below.refl w2.heap.size w2).alloc (Nat.le_refl _) (.cells #[.int .i64 0, .int .i64 0, .int .i64 0, .slice none 0 0] 25)
          have hb3 := bNext hb2 hbx (Nat.le_refl _)
          clear hps hb2 hbx
          go_wp2_with fail
          go_big_quiet (fail)
          have hb4 := bDrew hb3 nq
          have hQ4 := Lib.hid (hQ.out.below hb4)
          have hR4 := Lib.hid (hRg.out.below hQ.out.rl hb4)
          have hO4 := Lib.hid (own_belowQ hown.out hb4)
          have hB4 := bNext hB hb4 (Nat.le_refl _)
          have hs4 := hb4.size
          generalize (w2.alloc (.cells #[.int .i64 0, .int .i64 0, .int .i64 0, .slice none 0 0] 25)).drewN nq = Z at hb4 hQ4 hR4 hO4 hB4 hs4 ⊢
          clear hb3 hb4 hQ hRg hown
          go_wp2_with fail
          go_roundw
          case rel => exact ⟨i + 1, inn, inn, pos, dr, tk, _, pk, by omega, by omega, by omega, by omega, rfl, rfl, rfl, by simp, htk.out, hO4.out, hnil.out, by rw [hem]; exact hQ4.out, hR4.out, hIn.out, hB4, by omega⟩
          case measure => simp [intOf]; omega
        · obtain ⟨m, hm⟩ : ∃ m, inn - out = m + 1 := ⟨inn - out - 1, by omega⟩
          have hv := hIn 0 (by omega)
          rw [Nat.add_zero, Nat.mod_eq_of_lt hp1, Nat.add_zero] at hv
          obtain ⟨X, hX⟩ : ∃ X, tk.getD out 0 = X := ⟨_, rfl⟩
          rw [hX] at hv
          rw [hm] at hQ hIn
          have hgt : (out : Int) < (inn : Int) := by omega
          obtain ⟨tg, tc, rfl, htg1, htg2⟩ := hown.form (by omega)
          have hcell : wr.cell? ⟨tg, out, none⟩ = some (.int .i64 (X : Nat)) := by rw [hown.cellAt out (by omega), ivals_at _ _ (by omega), hX]
          have hps := Lib.hid (qpop_ok qb rb R pos (m + 1) (8 * (m + 1)) dr (X : Nat) 0 (out : Nat) none 0 0 pk wr hQ hRg (by omega) (by omega) (by omega) hv.1 hv.2.1 hv.2.2.1 hv.2.2.2 (copy_nil _ _ _ wr))
          clear hsub hX hv
          replace hQ := Lib.hid hQ
          replace hRg := Lib.hid hRg
          replace hIn := Lib.hid hIn
          replace hown := Lib.hid hown
          replace hnil := Lib.hid hnil
          replace htk := Lib.hid htk
          go_wp2_with fail
          refine hps.out.mono ?_
          rintro e w2 ⟨a1, c1, rfl, hz, hQ2, hR2, hK2⟩
          obtain ⟨rfl, rfl⟩ := hz rfl
          have hB2 := hK2.bel _ _ hB hqb hrb
          have hs2 := hK2.size
          have hown2 := own_kept hown.out hK2 hq1 hrl1
          have hcell2 : w2.cell? ⟨tg, out, none⟩ = some (.int .i64 (X : Nat)) := (World.cell?_of_block (hK2.block tg htg2 (by omega) (by omega))).trans hcell
          have htg3 : tg < w2.heap.size := by omega
          have hbx := (Below.refl w2.heap.size w2).alloc (Nat.le_refl _) (.cells #[.int .i64 (X : Nat), .int .i64 0, .int .i64 (out : Nat), .slice none 0 0] 25)
          have hcell3 : (w2.alloc (.cells #[.int .i64 (X : Nat), .int .i64 0, .int .i64 (out : Nat), .slice none 0 0] 25)).cell? ⟨tg, out, none⟩ = some (.int .i64 (X : Nat)) := (hbx.cell (p := ⟨tg, out, none⟩) htg3).trans hcell2
          replace hQ2 := Lib.hid hQ2
          replace hR2 := Lib.hid hR2
          replace hown2 := Lib.hid hown2
          clear hK2 hps hz hQ hRg hown hcell hcell2
          go_wp2_with fail
          go_big_quiet (fail)
          have hb4 := bDrew hbx nq
          have hQ4 := Lib.hid (hQ2.out.below hb4)
          have hR4 := Lib.hid (hR2.out.below hQ2.out.rl hb4)
          have hO4 := Lib.hid (own_belowQ hown2.out hb4)
          have hB4 := bNext hB2 hb4 (Nat.le_refl _)
          have hs4 := hb4.size
          generalize (w2.alloc (.cells #[.int .i64 (X : Nat), .int .i64 0, .int .i64 (out : Nat), .slice none 0 0] 25)).drewN nq = Z at hb4 hQ4 hR4 hO4 hB4 hs4 ⊢
          clear hbx hb4 hQ2 hR2 hown2 hcell3
          go_wp2_with fail
          go_roundw
          case rel => exact ⟨i + 1, inn, out + 1, (pos + 1) % R, dr, tk, _, pk, by omega, by omega, by omega, by omega, rfl, by simp, rfl, by simp, htk.out, hO4.out, hnil.out, by rw [show inn - (out + 1) = m + 1 - 1 by omega, show 8 * (m + 1 - 1) = 8 * (m + 1) - (8 + 0) by omega]; exact hQ4.out, hR4.out, by rw [show inn - (out + 1) = m by omega]; exact hIn.out.pop, hB4, by omega⟩
          case measure => simp [intOf]; omega
    · obtain rfl : i = N := by omega
      have hinI : (inn : Int) ≤ 300 := by omega
      have hoI : (out : Int) ≤ (inn : Int) := by omega
      have hsub : ((inn : Int) - (out : Int)) = ((inn - out : Nat) : Int) := by omega
      have hln := Lib.hid (qlen_c _ _ _ _ _ _ _ _ hQ)
      replace hQ := Lib.hid hQ
      replace hRg := Lib.hid hRg
      replace hIn := Lib.hid hIn
      replace hown := Lib.hid hown
      replace hnil := Lib.hid hnil
      replace htk := Lib.hid htk
      go_wp2_with (go_at_call 53; refine hln.out.mono ?_; rintro e w7 ⟨rfl, rfl⟩)
      refine (wakes24_c _).mono ?_
      rintro e w9 ⟨rfl, hb9⟩
      go_wp2
      go_ret
      exact ⟨rfl, bNext hB hb9 (Nat.le_refl _)⟩

set_option maxRecDepth 100000 in
set_option maxHeartbeats 4000000 in
theorem fifoOrder_walk (w : World) (a0 : Int) (v1 : Value) (a1 : XT_Lint) (w0 : (Lit.int .i64 a0).wf = true) (w1 : Is_Lint w v1 a1) :
    Calls Try.prog 14 #[.int .i64 a0, v1] w fun e w' => e = .returned (.bool true) ∧ Below w.heap.size w w' := by
  obtain ⟨a, n, cap, rfl, hl, hm, hrow⟩ := w1
  have hr : -9223372036854775808 ≤ a0 ∧ a0 ≤ 9223372036854775807 := by
    simp [Lit.wf, IntKind.min, IntKind.max, IntKind.signed, IntKind.bits] at w0
    omega
  by_cases h3 : n ≤ 300
  · refine order_h w a0 a n cap a1 h3 (fun hp => ?_) hr.1 hr.2
    obtain ⟨b, off, h1, h2, h3⟩ := hrow hp
    exact ⟨b, off, h1, h2, fun i hi => (h3 i hi).1⟩
  · have h3' : (300 : Int) < (n : Int) := by omega
    obtain ⟨R, hR, R1, R2⟩ : ∃ R : Nat, 1 + a0.tmod 64 % 64 = (R : Int) ∧ 1 ≤ R ∧ R ≤ 64 := ⟨(1 + a0.tmod 64 % 64).toNat, by omega, by omega, by omega⟩
    have t1 : -64 < a0.tmod 64 := by have := Int.lt_tmod_of_pos a0 (show (0 : Int) < 64 by omega); omega
    have t2 : a0.tmod 64 < 64 := Int.tmod_lt_of_pos _ (by omega)
    go_enter Try.func14, Try.ntmps14
    go_wp2_with fail
    refine (wakes24_c _).mono ?_
    rintro e w9 ⟨rfl, hb9⟩
    go_wp2
    go_ret
    exact ⟨rfl, hb9⟩
end Go.Proofs.Ythahlfabcjnkhaa
