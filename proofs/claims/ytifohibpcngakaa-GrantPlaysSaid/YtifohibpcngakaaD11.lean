/- The reference's desk: Gone. -/
import Derived.Test.YtifohibpcngakaaD10
namespace Go.Proofs.Ytifohibpcngakaa
open Go.ChangeShapes Go.WideShapes Go.ChangeAt Go.RowKit Go.Maps
set_option linter.unusedVariables false
set_option linter.unusedSimpArgs false
open BigFrame Bs Gr

namespace Gr
theorem map_erase {α β : Type} (f : α → β) : ∀ (l : List α) (i : Nat), (l.eraseIdx i).map f = (l.map f).eraseIdx i
  | [], _ => rfl
  | _ :: _, 0 => rfl
  | x :: l, i + 1 => congrArg (f x :: ·) (map_erase f l i)
def ers (L : List Int) (i j : Nat) : List Int := (L.take j).eraseIdx i
theorem ers_zero (L : List Int) (i : Nat) : ers L i 0 = [] := by unfold ers; simp
theorem ers_all (L : List Int) (i : Nat) : ers L i L.length = L.eraseIdx i := by unfold ers; rw [List.take_length]
theorem ers_succ (L : List Int) (i j : Nat) (h : j < L.length) : ers L i (j + 1) = if j = i then ers L i j else ers L i j ++ [L.getD j 0] := by
  unfold ers
  rw [List.take_succ_eq_append_getElem h]
  have hl : (L.take j).length = j := by simp; omega
  have e : L.getD j 0 = L[j] := by simp [List.getD, h]
  rw [e]
  by_cases hj : j = i
  · subst hj
    rw [if_pos rfl, List.eraseIdx_append_of_length_le (by omega), hl, Nat.sub_self, List.eraseIdx_of_length_le (l := L.take j) (by omega)]
    simp
  · rw [if_neg hj]
    by_cases hlt : i < j
    · rw [List.eraseIdx_append_of_lt_length (by omega)]
    · rw [List.eraseIdx_append_of_length_le (by omega), hl, List.eraseIdx_of_length_le (l := [L[j]]) (by simp; omega), List.eraseIdx_of_length_le (l := L.take j) (by omega)]
theorem ers_len (L : List Int) (i j : Nat) : (ers L i j).length ≤ j := by
  unfold ers
  have := List.length_eraseIdx_le (L.take j) i
  simp at this
  omega
def delQ (Q : List (Int × Int)) (k : Int) : List (Int × Int) := Q.filter fun p => !(p.1 == k)
theorem erase_eq : ∀ (Q : List (Int × Int)) (i : Nat) (k : Int), (Q.map Prod.fst).Nodup → i < Q.length → (Q.map Prod.fst).getD i 0 = k → Q.eraseIdx i = delQ Q k
  | [], i, k, _, hi, _ => absurd hi (by simp)
  | p :: Q, 0, k, hn, _, hk => by
    simp only [List.map_cons, List.nodup_cons] at hn
    have e : p.1 = k := by simpa [List.getD] using hk
    unfold delQ
    rw [List.filter_cons, if_neg (by simp [e])]
    show Q = _
    refine (List.filter_eq_self.2 fun q hq => ?_).symm
    have : q.1 ≠ k := fun h => hn.1 (by rw [e, ← h]; exact List.mem_map_of_mem hq)
    simpa using this
  | p :: Q, i + 1, k, hn, hi, hk => by
    simp only [List.map_cons, List.nodup_cons] at hn
    have hi' : i < Q.length := by simpa using hi
    have hk' : (Q.map Prod.fst).getD i 0 = k := by simpa [List.getD] using hk
    have hne : p.1 ≠ k := fun h => hn.1 (by
      have : k ∈ Q.map Prod.fst := by
        rw [← hk']
        simp [List.getD, hi']
        exact ⟨Q[i].2, List.getElem_mem hi'⟩
      rwa [h])
    unfold delQ
    rw [List.filter_cons, if_pos (by simpa using hne), List.eraseIdx_cons_succ]
    exact congrArg _ (erase_eq Q i k hn.2 hi' hk')
theorem delQ_none {Q : List (Int × Int)} {k : Int} (h : ∀ j, j < (Q.map Prod.fst).length → (Q.map Prod.fst).getD j 0 ≠ k) : delQ Q k = Q := by
  unfold delQ
  refine List.filter_eq_self.2 fun p hp => ?_
  obtain ⟨i, hi, rfl⟩ := List.mem_iff_getElem.1 hp
  have := h i (by simpa using hi)
  simpa [List.getD, hi] using this
theorem delQ_nodup {Q : List (Int × Int)} {k : Int} (h : (Q.map Prod.fst).Nodup) : ((delQ Q k).map Prod.fst).Nodup := by
  unfold delQ
  exact List.Nodup.sublist (List.Sublist.map _ List.filter_sublist) h
theorem delQ_len (Q : List (Int × Int)) (k : Int) : (delQ Q k).length ≤ Q.length := by unfold delQ; exact List.length_filter_le _ _
theorem lk_del (Q : List (Int × Int)) (k : Int) : lk (delQ Q k) = delT (lk Q) k := by
  funext x
  unfold delT lk delQ
  rw [List.find?_filter]
  by_cases e : x = k
  · subst e
    rw [if_pos rfl]
    rw [List.find?_eq_none.2 (fun p hp => by simp)]
    rfl
  · rw [if_neg e]
    congr 1
    congr 1
    funext p
    by_cases h : p.1 = x
    · have h2 : ¬ p.1 = k := fun q => e (h.symm.trans q)
      simp [h, e]
    · simp [h]
def goneQ (Q : List (Int × Int)) (f : Nat → Int) : Nat → List (Int × Int)
  | 0 => Q
  | i + 1 => delQ (goneQ Q f i) (f i)
theorem goneQ_nodup {Q : List (Int × Int)} (f : Nat → Int) (h : (Q.map Prod.fst).Nodup) : ∀ i, ((goneQ Q f i).map Prod.fst).Nodup
  | 0 => h
  | i + 1 => delQ_nodup (goneQ_nodup f h i)
theorem goneQ_len {Q : List (Int × Int)} (f : Nat → Int) : ∀ i, (goneQ Q f i).length ≤ Q.length
  | 0 => Nat.le_refl _
  | i + 1 => Nat.le_trans (delQ_len _ _) (goneQ_len f i)
theorem goneQ_lk {Q : List (Int × Int)} (f : Nat → Int) : ∀ i, lk (goneQ Q f i) = goneT (lk Q) f i
  | 0 => rfl
  | i + 1 => by
    show lk (delQ (goneQ Q f i) (f i)) = delT (goneT (lk Q) f i) (f i)
    rw [lk_del, goneQ_lk f i]
theorem OwnI.ptr {w : World} {B : Nat} {a : Option Addr} {n c : Nat} {l : List Int} (h : OwnI w B (.slice a n c) l) (hl : 0 < l.length) : ∃ g, a = some ⟨g, 0, none⟩ ∧ n ≤ c ∧ (c : Int) ≤ 9223372036854775807 := by
  rcases h.shape with ⟨_, e⟩ | ⟨g, cap, cur, e, _, _, h3, h4, _⟩
  · subst e; simp at hl
  · cases e
    unfold maxLen at h4
    exact ⟨g, rfl, h3, by omega⟩
theorem OwnI.base {w : World} {B : Nat} {v : Value} {l : List Int} (h : OwnI w B v l) : OwnI w 0 v l := by
  refine ⟨h.1, ?_⟩
  rcases h.2 with hh | ⟨g, cap, cur, h1, _, h3⟩
  · exact .inl hh
  · exact .inr ⟨g, cap, cur, h1, Nat.zero_le _, h3⟩
/-- Two rows in the making. -/
structure Mk (B : Nat) (u wr : World) (a : Option Addr) (n c : Nat) (b : Option Addr) (n2 c2 : Nat) (L T : List Int) : Prop where
  l : OwnI wr B (.slice a n c) L
  t : OwnI wr B (.slice b n2 c2) T
  ap : ∀ q, (Value.slice a n c).ownBlock = some q → (Value.slice b n2 c2).ownBlock = some q → False
  k : Below B u wr
theorem Mk.appL {B : Nat} {u wr w5 : World} {a b a5 : Option Addr} {n c n2 c2 n5 c5 : Nat} {L T L2 : List Int} {O : Obj} (h : Mk B u wr a n c b n2 c2 L T) (hB : B ≤ wr.heap.size) (hg : (wr.alloc O).grownBy w5 (Value.slice a n c).ownBlock) (ho : OwnI w5 B (.slice a5 n5 c5) L2)
    (hor : (Value.slice a5 n5 c5).ownBlock = (Value.slice a n c).ownBlock ∨ (Value.slice a5 n5 c5).ownBlock = some (wr.alloc O).heap.size) : Mk B u w5 a5 n5 c5 b n2 c2 L2 T := by
  have hs : wr.heap.size < (wr.alloc O).heap.size := by simp
  refine ⟨ho, own_grown h.t hg (fun q hq e => h.ap q e hq), fun q h1 h2 => ?_, (h.k.alloc hB O).grown hg (by omega) (fun q hq => (h.l.lt q hq).1)⟩
  rcases hor with e | e
  · rw [e] at h1; exact h.ap q h1 h2
  · rw [e] at h1; simp only [Option.some.injEq] at h1; have := (h.t.lt q h2).2; omega
theorem Mk.appT {B : Nat} {u wr w5 : World} {a b a5 : Option Addr} {n c n2 c2 n5 c5 : Nat} {L T L2 : List Int} {O : Obj} (h : Mk B u wr a n c b n2 c2 L T) (hB : B ≤ wr.heap.size) (hg : (wr.alloc O).grownBy w5 (Value.slice b n2 c2).ownBlock) (ho : OwnI w5 B (.slice a5 n5 c5) L2)
    (hor : (Value.slice a5 n5 c5).ownBlock = (Value.slice b n2 c2).ownBlock ∨ (Value.slice a5 n5 c5).ownBlock = some (wr.alloc O).heap.size) : Mk B u w5 a n c a5 n5 c5 L L2 := by
  have hs : wr.heap.size < (wr.alloc O).heap.size := by simp
  refine ⟨own_grown h.l hg (fun q hq e => h.ap q hq e), ho, fun q h1 h2 => ?_, (h.k.alloc hB O).grown hg (by omega) (fun q hq => (h.t.lt q hq).1)⟩
  rcases hor with e | e
  · rw [e] at h2; exact h.ap q h1 h2
  · rw [e] at h2; simp only [Option.some.injEq] at h2; have := (h.l.lt q h1).2; omega
end Gr

set_option maxRecDepth 100000 in
set_option maxHeartbeats 40000000 in
theorem rgone_ok {m : Nat → Prop} {w : World} {r : Nat} {TI RH EL NO : Int} {lv tv : Value} {Q : List (Int × Int)} (h : RD m w r TI RH EL NO lv tv (Q.map Prod.fst) (Q.map Prod.snd)) (hQ : Q.length ≤ 1000) (hnd : (Q.map Prod.fst).Nodup) (a : Option Addr) (N c : Nat) (f : Nat → Int) (hN : N ≤ 1000000) (hf : Ints m w a N f) :
    Calls Try.prog 15 #[.pointer (some ⟨r, 0, none⟩), .slice a N c] w (RdP m r TI RH EL NO (goneQ Q f N) w 0) := by
  have hNi : (N : Int) ≤ 1000000 := by omega
  replace hf := Lib.hid hf
  replace h := Lib.hid h
  have hln := Lib.hid (fun i => goneQ_len (Q := Q) f i)
  have hnd2 := Lib.hid (fun i => goneQ_nodup f hnd i)
  replace hQ := Lib.hid hQ
  clear hnd
  go_enter Try.func15, Try.ntmps15
  go_wp2_with fail
  go_loopw [5, 6, 7, 8, 9] (fun s5 _ _ _ _ wr => ∃ i : Nat, s5 = .int .i64 (i : Nat) ∧ i ≤ N ∧ (∃ lv tv, RD m wr r TI RH EL NO lv tv ((goneQ Q f i).map Prod.fst) ((goneQ Q f i).map Prod.snd)) ∧ Kp m w wr) (fun s5 _ _ _ _ _ => N - (intOf s5).toNat)
  case atStart => exact ⟨0, rfl, Nat.zero_le _, ⟨_, _, h.out⟩, Kp.refl _ _⟩
  case round =>
    obtain ⟨i, rfl, hi, ⟨lv2, tv2, hD⟩, hK⟩ := hrel
    have ii : (i : Int) ≤ (N : Int) := by omega
    by_cases hlt : i < N
    · have ii1 : (i : Int) < (N : Int) := by omega
      obtain ⟨b, off, rfl, hm, hb, hc⟩ := (hf.out.kp hK) (by omega)
      obtain ⟨x0, _⟩ := hc i hlt
      obtain ⟨k, hk⟩ : ∃ k, RowKit.Hid (f i = k) := ⟨_, Lib.hid rfl⟩
      rw [hk.out] at x0
      clear hc h hf
      have e0 : goneQ Q f (i + 1) = delQ (goneQ Q f i) k := by show delQ (goneQ Q f i) (f i) = _; rw [hk.out]
      have hl1 := hln.out i
      have hn1 := hnd2.out i
      have hQ' := hQ.out
      obtain ⟨Q1, hQ1⟩ : ∃ Q1, goneQ Q f i = Q1 := ⟨_, rfl⟩
      rw [hQ1] at hD e0 hl1 hn1
      have hfd := Lib.hid (rfind_c hD k (by simp; omega))
      obtain ⟨L, hL⟩ : ∃ L, Q1.map Prod.fst = L := ⟨_, rfl⟩
      obtain ⟨T, hT⟩ : ∃ T, Q1.map Prod.snd = T := ⟨_, rfl⟩
      have hlL : L.length = Q1.length := by rw [← hL]; simp
      have hlT : T.length = Q1.length := by rw [← hT]; simp
      rw [hL] at hfd
      have hD2 := hD
      rw [hL, hT] at hD2
      obtain ⟨a1, n1, p1, rfl, hq1⟩ := hD2.l.slice
      obtain ⟨a2, n2, p2, rfl, hq2⟩ := hD2.t.slice
      have hn12 : n2 = n1 := by omega
      have hlLz : L.length = n1 := hq1.symm
      have hlTz : T.length = n1 := by omega
      subst hn12
      replace hD := Lib.hid hD
      replace hD2 := Lib.hid hD2
      replace hK := Lib.hid hK
      replace e0 := Lib.hid e0
      have hn1i : (n2 : Int) ≤ 1000 := by omega
      replace hlLz := Lib.hid hlLz
      replace hlTz := Lib.hid hlTz
      replace hl1 := Lib.hid hl1
      replace hn1 := Lib.hid hn1
      replace hL := Lib.hid hL
      replace hT := Lib.hid hT
      replace hQ' := Lib.hid hQ'
      clear hQ1 hlL hlT hq1 hq2
      go_wp2_with fail
      refine hfd.out.mono ?_
      rintro e w' ⟨rfl, ⟨i0, rfl, hi0, he0, _⟩ | ⟨rfl, hno⟩⟩
      · have hi0z : (0 : Int) ≤ (i0 : Int) := by omega
        have hdel : Q1.eraseIdx i0 = delQ Q1 k := erase_eq Q1 i0 k hn1.out (by rw [← hL.out] at hi0; simpa using hi0) (by rw [hL.out]; exact he0)
        have hi0n : i0 < n2 := by rw [← hlLz.out]; exact hi0
        obtain ⟨g1, rfl, hp1, hp1z⟩ := hD2.out.l.ptr (by omega)
        obtain ⟨g2, rfl, hp2, hp2z⟩ := hD2.out.t.ptr (by rw [hlTz.out]; omega)
        have hp1i : (n2 : Int) ≤ (p1 : Int) := by omega
        have hp2i : (n2 : Int) ≤ (p2 : Int) := by omega
        have hc4 := hD2.out.b.c 4 _ rfl
        obtain ⟨wo, rfl⟩ : ∃ wo : World, wo = w' := ⟨_, rfl⟩
        replace hdel := Lib.hid hdel
        clear hfd he0 x0 hi0 hp1 hp2
        go_wp2_with fail
        go_loopw [7, 8, 9] (fun s7 s8 s9 wx => ∃ (j : Nat) (b1 : Option Addr) (m1 k1 : Nat) (b2 : Option Addr) (m2 k2 : Nat), s7 = .slice b1 m1 k1 ∧ s8 = .slice b2 m2 k2 ∧ s9 = .int .i64 (j : Nat) ∧ j ≤ n2 ∧ Mk wo.heap.size wo wx b1 m1 k1 b2 m2 k2 (ers L i0 j) (ers T i0 j)) (fun _ _ s9 _ => n2 - (intOf s9).toNat)
        case atStart => exact ⟨0, none, 0, 0, none, 0, 0, rfl, rfl, rfl, Nat.zero_le _, ⟨by rw [ers_zero]; exact ⟨rfl, .inl ⟨rfl, rfl⟩⟩, by rw [ers_zero]; exact ⟨rfl, .inl ⟨rfl, rfl⟩⟩, fun q h => (nomatch h), Below.refl _ _⟩⟩
        case round =>
          obtain ⟨j, b1, m1, k1, b2, m2, k2, rfl, rfl, rfl, hj, hM⟩ := hrel
          have jj : (j : Int) ≤ (n2 : Int) := by omega
          have hDx := hD2.out.bel hM.k
          have hc4 := hDx.b.c 4 _ rfl
          have hc5 := hDx.b.c 5 _ rfl
          by_cases hjl : j < n2
          · have jj1 : (j : Int) < (n2 : Int) := by omega
            have x1 := hDx.l.at (g := g1) rfl (i := j) (by rw [hlLz.out]; exact hjl)
            have x2 := hDx.t.at (g := g2) rfl (i := j) (by rw [hlTz.out]; exact hjl)
            have eL := ers_succ L i0 j (by rw [hlLz.out]; exact hjl)
            have eT := ers_succ T i0 j (by rw [hlTz.out]; exact hjl)
            have lL := ers_len L i0 j
            have lT := ers_len T i0 j
            obtain ⟨y1, hy1⟩ : ∃ y, L.getD j 0 = y := ⟨_, rfl⟩
            obtain ⟨y2, hy2⟩ : ∃ y, T.getD j 0 = y := ⟨_, rfl⟩
            rw [hy1] at x1 eL
            rw [hy2] at x2 eT
            have hsz := hM.k.size
            by_cases hji : j = i0
            · have e1 : ((j : Int) == (i0 : Int)) = true := by simp [hji]
              have e2 : ((j : Int) != (i0 : Int)) = false := by simp [hji]
              rw [if_pos hji] at eL eT
              replace hji := Lib.hid hji
              replace eL := Lib.hid eL
              replace eT := Lib.hid eT
              replace hM := Lib.hid hM
              replace hDx := Lib.hid hDx
              clear hy1 hy2 lL lT
              go_wp2_with fail
              go_roundw
              case rel => exact ⟨j + 1, b1, m1, k1, b2, m2, k2, rfl, rfl, by go_num, hjl, by rw [eL.out, eT.out]; exact hM.out⟩
              case measure => simp [intOf]; omega
            · have e1 : ((j : Int) == (i0 : Int)) = false := by simp; omega
              have e2 : ((j : Int) != (i0 : Int)) = true := by simp; omega
              rw [if_neg hji] at eL eT
              replace hji := Lib.hid hji
              replace eL := Lib.hid eL
              replace eT := Lib.hid eT
              have hL5 := Lib.hid (hM.l.bel ((Below.refl _ _).alloc (Nat.le_refl _) (.cells #[.int .i64 y1] 3)))
              have lL2 := Lib.hid (show (ers L i0 j).length ≤ 1000000 by omega)
              have lT2 := Lib.hid (show (ers T i0 j).length ≤ 1000000 by omega)
              have hsz2 := Lib.hid (show wo.heap.size ≤ (wr.alloc (.cells #[.int .i64 y1] 3)).heap.size by simp; omega)
              have hsz3 := Lib.hid hsz
              replace hM := Lib.hid hM
              replace hy2 := Lib.hid hy2
              clear hy1 lL lT x2 hc5 hDx hsz
              go_upto_region 12 with (at_builtin; refine wpList_app1 rfl _ _ rfl wo.heap.size (.slice b1 m1 k1) (ers L i0 j) (by rfl) hL5.out hsz2.out (by rfl) y1 ((blk_new wr [.int .i64 y1] 3).c 0 _ rfl) lL2.out ?_; intro a5 n5 p5 w5 hown5 hgrow5 hor5; have hM5 := Lib.hid (hM.out.appL hsz3.out hgrow5 hown5 hor5); clear hown5 hgrow5 hor5 hM hL5 hsz2)
              have hDx := hD2.out.bel hM5.out.k
              have hc5 := hDx.b.c 5 _ rfl
              have x2 := hDx.t.at (g := g2) rfl (i := j) (by rw [hlTz.out]; exact hjl)
              rw [hy2.out] at x2
              have hT5 := Lib.hid (hM5.out.t.bel ((Below.refl _ _).alloc (Nat.le_refl _) (.cells #[.int .i64 y2] 3)))
              have hsz4 := Lib.hid hM5.out.k.size
              have hsz5 := Lib.hid (show wo.heap.size ≤ (w5.alloc (.cells #[.int .i64 y2] 3)).heap.size by have := hsz4.out; simp; omega)
              clear hDx hsz3
              go_wp2_with (at_builtin; refine wpList_app1 rfl _ _ rfl wo.heap.size (.slice b2 m2 k2) (ers T i0 j) (by rfl) hT5.out hsz5.out (by rfl) y2 ((blk_new w5 [.int .i64 y2] 3).c 0 _ rfl) lT2.out ?_; intro a6 n6 p6 w6 hown6 hgrow6 hor6; have hM6 := Lib.hid (hM5.out.appT hsz4.out hgrow6 hown6 hor6); clear hown6 hgrow6 hor6 hM5 hT5 hsz5)
              go_roundw
              case rel => exact ⟨j + 1, _, _, _, _, _, _, rfl, rfl, by go_num, hjl, by rw [eL.out, eT.out]; exact hM6.out⟩
              case measure => simp [intOf]; omega
          · obtain rfl : j = n2 := by omega
            have f4 := hDx.b.f 4
            have f5 := hDx.b.f 5
            have z1 : (Q1.eraseIdx i0).map Prod.fst = ers L i0 j := by rw [← hlLz.out, ers_all, ← hL.out, map_erase]
            have z2 : (Q1.eraseIdx i0).map Prod.snd = ers T i0 j := by rw [← hlTz.out, ers_all, ← hT.out, map_erase]
            have hB1 : ∀ q, (Value.slice b1 m1 k1).ownBlock = some q → wo.heap.size ≤ q := fun q hq => (hM.l.lt q hq).1
            have hB2 : ∀ q, (Value.slice b2 m2 k2).ownBlock = some q → wo.heap.size ≤ q := fun q hq => (hM.t.lt q hq).1
            have hr0 := hD2.out.b.l
            have nr1 : (Value.slice b1 m1 k1).ownBlock ≠ some r := fun e => by have := hB1 r e; omega
            have nr2 : (Value.slice b2 m2 k2).ownBlock ≠ some r := fun e => by have := hB2 r e; omega
            have hD3 := hDx.setL hM.l.base (fun q h1 h2 => by have := hB1 q h1; have := (hD2.out.t.lt q h2).2; omega) nr1 (fun q h1 h2 => by have := hB1 q h1; have := hD2.out.mw q h2; omega)
            have hD4 := hD3.setT (own_set hM.t.base nr2 4 (.slice b1 m1 k1)) hM.ap nr2 (fun q h1 h2 => by have := hB2 q h1; have := hD2.out.mw q h2; omega)
            have hK4 := ((hK.out.trans (Kp.of hM.k)).setCell (p := ⟨r, 4, none⟩) hDx.mr (.slice b1 m1 k1)).setCell (p := ⟨r, 5, none⟩) hDx.mr (.slice b2 m2 k2)
            have hfin : RD m ((wr.setCell ⟨r, 4, none⟩ (.slice b1 m1 k1)).setCell ⟨r, 5, none⟩ (.slice b2 m2 k2)) r TI RH EL NO (.slice b1 m1 k1) (.slice b2 m2 k2) ((goneQ Q f (i + 1)).map Prod.fst) ((goneQ Q f (i + 1)).map Prod.snd) := by
              rw [e0.out, ← hdel.out, z1, z2]
              exact hD4
            replace hfin := Lib.hid hfin
            replace hK4 := Lib.hid hK4
            clear hM hDx hD3 hD4 hB1 hB2 hr0 nr1 nr2 z1 z2 hD hD2 hK
            go_wp2_with fail
            go_roundw
            case rel => exact ⟨i + 1, by go_num, hlt, ⟨_, _, hfin.out⟩, hK4.out⟩
            case measure => simp [intOf]; omega
      · have hdel := Lib.hid (show delQ Q1 k = Q1 from delQ_none (by rw [hL.out]; exact hno))
        clear hfd hno x0
        go_wp2_with fail
        go_roundw
        case rel => exact ⟨i + 1, by go_num, hlt, ⟨_, _, by rw [e0.out, hdel.out]; exact hD.out⟩, hK.out⟩
        case measure => simp [intOf]; omega
    · obtain rfl : i = N := by omega
      replace hD := Lib.hid hD
      replace hK := Lib.hid hK
      clear h hf
      go_wp2_with fail
      go_ret
      exact ⟨rfl, ⟨_, _, hD.out⟩, hK.out⟩
end Go.Proofs.Ytifohibpcngakaa
