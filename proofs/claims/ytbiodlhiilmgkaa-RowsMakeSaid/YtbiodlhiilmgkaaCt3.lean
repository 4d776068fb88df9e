/- Entries with their bytes: the reference's copies. -/
import Derived.Test.YtbiodlhiilmgkaaCt2
namespace Go.Proofs.Ytbiodlhiilmgkaa
open Go.ChangeShapes Go.WideShapes Go.ChangeAt Go.RowKit
set_option linter.unusedVariables false
set_option linter.unusedSimpArgs false
open BigFrame Bs Rw Ct

namespace Ct
theorem Byt.of_own' {w : World} {base n n' : Nat} {v : Value} {d : List Nat} (h : w.ownsRow base 5 1 v n' ([] ++ bvals d)) (hd : ∀ x ∈ d, x < 256) (hn : n = d.length) (hn' : n' = n) : ∃ a c, v = .slice a n c ∧ Byt w a n c d := by
  subst hn'
  rw [List.nil_append] at h
  rcases h.2 with ⟨rfl, rfl⟩ | ⟨g, cap', cur, rfl, _⟩
  · have hd : d = [] := List.eq_nil_of_length_eq_zero hn.symm
    subst hd
    exact ⟨_, _, rfl, Byt.nil _ _ _ (by omega)⟩
  · exact ⟨_, _, rfl, Byt.of_own h hd hn⟩
theorem own_bel {w w' : World} {base : Nat} {e : TypeId} {size : Nat} {v : Value} {n : Nat} {xs : List Value} (h : w.ownsRow base e size v n xs) (k : Below w.heap.size w w') : w'.ownsRow base e size v n xs := by
  refine ⟨h.1, ?_⟩
  rcases h.2 with hh | ⟨g, cap, cur, h1, h2, h3, h4⟩
  · exact .inl hh
  · exact .inr ⟨g, cap, cur, h1, h2, (k.block g (Array.getElem?_eq_some_iff.1 h3).1).trans h3, h4⟩
theorem cellsE_one (x : Ent) : ∀ u ∈ cellsE x, u.oneCell' = true := by
  intro u hu
  simp [cellsE] at hu
  rcases hu with rfl | rfl | rfl | rfl | rfl <;> rfl
theorem news_set (w3 : World) (p : Addr) (v : Value) (cs : List Value) (t : TypeId) : ∀ (j : Nat) (u : Value), cs[j]? = some u → ((w3.setCell p v).alloc (.cells cs.toArray t)).cell? ((⟨w3.heap.size, 0, none⟩ : Addr).add j) = some u := by
  intro j u hu
  have h : ((w3.setCell p v).alloc (.cells cs.toArray t)).heap[w3.heap.size]? = some (.cells cs.toArray t (0, 0)) := by
    have := heap_alloc_new (w3.setCell p v) (.cells cs.toArray t (0, 0))
    simpa using this
  exact World.news_of_block h j u (by simpa using hu)
/-- The bytes of none of the entries lie in a row. -/
def Apart (row : Option Nat) (w : World) (es : List Ent) : Prop := ∀ x ∈ es, 0 < x.dl → ∀ ad, x.da = some ad → some ad.block ≠ row
theorem Byt.grown {w w' : World} {a : Option Addr} {n cap : Nat} {d : List Nat} {row : Option Nat} (h : Byt w a n cap d) (hg : w.grownBy w' row) (hne : 0 < n → ∀ ad, a = some ad → some ad.block ≠ row) : Byt w' a n cap d :=
  ⟨h.len, h.le, h.mx, fun hn => by
    obtain ⟨b, o, ha, hb, hc⟩ := h.row hn
    exact ⟨b, o, ha, Nat.lt_of_lt_of_le hb hg.size, fun i x hx => ⟨(World.cell?_of_block (a := ⟨b, o + i, none⟩) (hg.block b hb (hne hn _ ha))).trans (hc i x hx).1, (hc i x hx).2⟩⟩⟩
theorem HasL.grown {w w' : World} {es : List Ent} {l : List En} {row : Option Nat} (h : HasL w es l) (hg : w.grownBy w' row) (hne : Apart row w es) : HasL w' es l :=
  ⟨h.1, fun i x y hx hy => by
    have q := h.2 i x y hx hy
    exact ⟨q.t, q.k, q.s, q.u, q.d.grown hg (hne x (List.mem_of_getElem? hx))⟩⟩
/-- The blocks that the bytes lie in are there. -/
theorem HasL.blocks {w : World} {es : List Ent} {l : List En} (h : HasL w es l) : ∀ x ∈ es, 0 < x.dl → ∀ ad, x.da = some ad → ad.block < w.heap.size := by
  intro x hx hn ad had
  obtain ⟨i, hi, rfl⟩ := List.getElem_of_mem hx
  have q := h.2 i _ (l[i]'(by rw [← h.1]; exact hi)) (List.getElem?_eq_getElem hi) (List.getElem?_eq_getElem _)
  obtain ⟨b, o, ha, hb, _⟩ := q.d.row hn
  rw [had] at ha
  cases ha
  exact hb
theorem take_snocE {l : List En} {k : Nat} {y : En} (h : l[k]? = some y) : l.take (k + 1) = l.take k ++ [y] := by
  rw [List.take_add_one, h]; rfl
/-- A round of the copying: what is known at its head. -/
def Rnd (w : World) (l : List En) (v : Value) (k : Nat) (wr : World) : Prop := ∃ es, wr.ownsRow w.heap.size 39 5 v k (rowE es) ∧ HasL wr es (l.take k) ∧ Apart v.ownBlock wr es ∧ Below w.heap.size w wr ∧ ∀ x ∈ es, Far w.heap.size x.da x.dl
/-- Copies of entries, their bytes in new memory. -/
def CopLF (w : World) (n : Nat) (l : List En) (e : Ending) (w' : World) : Prop := ∃ a c, e = .returned (.slice a n c) ∧ (∃ es, EsAt w' a n c es ∧ HasL w' es l ∧ ∀ x ∈ es, Far w.heap.size x.da x.dl) ∧ Far w.heap.size a n ∧ Below w.heap.size w w'
/-- What a round does to it. -/
theorem Rnd.next {w : World} {l : List En} {es : List Ent} {k : Nat} {wr w3 w4 w5 : World} {v v5 : Value} {y : En} {a1 : Option Addr} {n1 c1 : Nat} (hy : l[k]? = some y) (h3 : Below wr.heap.size wr w3) (hbyt : Byt w3 a1 n1 c1 y.d) (hfar : 0 < n1 → ∀ ad, a1 = some ad → wr.heap.size ≤ ad.block)
    (h4 : Below wr.heap.size w3 w4) (hbyt4 : Byt w4 a1 n1 c1 y.d) (hown : w5.ownsRow w.heap.size 39 5 v5 (k + 1) (rowE es ++ cellsE ⟨y.term, y.kind, y.stamp, y.set, a1, n1, c1⟩)) (hg : w4.grownBy w5 v.ownBlock) (hat : v5.ownBlock = v.ownBlock ∨ v5.ownBlock = some w4.heap.size)
    (hes : wr.ownsRow w.heap.size 39 5 v k (rowE es)) (hl : HasL wr es (l.take k)) (ha : Apart v.ownBlock wr es) (hB : Below w.heap.size w wr) (hff : ∀ x ∈ es, Far w.heap.size x.da x.dl) : Rnd w l v5 (k + 1) w5 := by
  have hb4 : Below wr.heap.size wr w4 := h3.trans h4
  have hl4 := hl.bel hb4
  have hv : ∀ q, v.ownBlock = some q → q < wr.heap.size ∧ w.heap.size ≤ q := fun q hq => ⟨(hes.lt q hq).2, (hes.lt q hq).1⟩
  have hfar4 : 0 < n1 → ∀ ad, a1 = some ad → some ad.block ≠ v.ownBlock := fun hp ad had e => by
    have := hfar hp ad had
    have := (hv _ e.symm).1
    omega
  refine ⟨es ++ [⟨y.term, y.kind, y.stamp, y.set, a1, n1, c1⟩], by rw [rowE_snoc]; exact hown, ?_, ?_, ?_, ?_⟩
  · rw [take_snocE hy]
    exact (hl4.grown hg ha).app (HasL.one ⟨rfl, rfl, rfl, rfl, hbyt4.grown hg hfar4⟩)
  · intro x hx hp ad had
    rcases List.mem_append.1 hx with hx | hx
    · rcases hat with hat | hat
      · rw [hat]; exact ha x hx hp ad had
      · rw [hat]
        have := hl.blocks x hx hp ad had
        have := hb4.size
        intro e
        have e := Option.some.inj e
        omega
    · rw [List.mem_singleton] at hx
      subst hx
      rcases hat with hat | hat
      · rw [hat]; exact hfar4 hp ad had
      · rw [hat]
        obtain ⟨b, o, hh, hb, _⟩ := hbyt4.row hp
        simp only at had
        rw [hh] at had
        cases had
        intro e
        have e := Option.some.inj e
        simp only at e
        omega
  · have h5 : Below w.heap.size w w4 := hB.trans (hb4.mono hB.size)
    exact h5.grown hg h5.size (fun q hq => (hv q hq).2)
  · intro x hx
    rcases List.mem_append.1 hx with hx | hx
    · exact hff x hx
    · rw [List.mem_singleton] at hx
      subst hx
      intro hp
      obtain ⟨b, o, hh, hb, _⟩ := hbyt4.row hp
      have := hfar hp _ hh
      have := hB.size
      exact ⟨b, o, hh, by simp only at *; omega⟩
end Ct

set_option maxRecDepth 100000 in
set_option maxHeartbeats 4000000 in
/-- **The reference's 'copied'.** -/
theorem rcopied_f (a : Option Addr) (n cap : Nat) (l : List En) (w : World) (h : LAt w a n cap l) (hs : Sml l) :
    Calls Try.prog 32 #[.slice a n cap] w (CopLF w n l) := by
  have hn2 : n ≤ 5000 := by have := h.len; have := hs.1; omega
  have hn3 : (n : Int) ≤ 5000 := by omega
  have hlen := Lib.hid h.len
  obtain ⟨i0, hi0, hz0, hz1, hz2⟩ := info_parts info_u8'
  obtain ⟨j0, hj0, hy0, hy1, hy2⟩ := info_parts info_entry
  go_enter Try.func32, Try.ntmps32
  go_wp2_with fail
  go_loopw [3, 4] (fun v i wr => ∃ k : Nat, k ≤ n ∧ i = .int .i64 (k : Nat) ∧ Rnd w l v k wr) (fun _ i _ => n - (intOf i).toNat)
  case atStart => exact ⟨0, by omega, rfl, [], World.ownsRow_nil _ _ _ _, by rw [List.take_zero]; exact HasL.nil _, (fun x hx => by simp at hx), Below.refl _ _, (fun x hx => by simp at hx)⟩
  case round =>
    obtain ⟨k, hk, rfl, hR⟩ := hrel
    by_cases hlt : k < n
    · have hlt' : (k : Int) < (n : Int) := by omega
      have hR' := Lib.hid hR
      obtain ⟨es, hes, hl, hap, hB, hff⟩ := hR
      obtain ⟨y, hy⟩ : ∃ y, l[k]? = some y := ⟨_, List.getElem?_eq_getElem (show k < l.length by have := hlen.out; omega)⟩
      obtain ⟨b, o, x, rfl, hb, hx, hhas⟩ := (h.bel hB).ent hy
      obtain ⟨x0, x1, x2, x3, x4⟩ := hx
      obtain ⟨xt, xk, xs, xu, xa, xn, xc⟩ := x
      obtain ⟨e0, e1, e2, e3, hd⟩ := hhas
      simp only at x0 x1 x2 x3 x4 e0 e1 e2 e3 hd
      subst e0; subst e1; subst e2; subst e3
      have hds := hs.at hy
      have hdl : xn ≤ 1000000 := by rw [hd.len]; omega
      have hB1 : Below wr.heap.size wr (wr.alloc (.cells #[.int .i64 y.term, .int .i8 y.kind, .int .i64 y.stamp, .int .u8 y.set, .slice xa xn xc] 39)) := (Below.refl _ _).alloc (Nat.le_refl _) _
      have hlen1 : (bvals y.d).length = xn * 1 := by rw [bvals_len, hd.len]; omega
      have hcells1 : 0 < xn → ∃ ad, xa = some ad ∧ ∀ j u, (bvals y.d)[j]? = some u → (wr.alloc (.cells #[.int .i64 y.term, .int .i8 y.kind, .int .i64 y.stamp, .int .u8 y.set, .slice xa xn xc] 39)).cell? (ad.add j) = some u := fun hp => by
        obtain ⟨b', o', hh, hb', hc⟩ := (hd.bel hB1).row hp
        refine ⟨_, hh, fun j u hu => ?_⟩
        obtain ⟨z, hz, rfl⟩ := bvals_at hu
        rw [Addr.add_lit]
        exact (hc j z hz).1
      have hmx1 : 0 + xn ≤ maxLen := by unfold maxLen; omega
      have hmx2 : k + 1 ≤ maxLen := by unfold maxLen; omega
      have hd1 := Lib.hid hd.lt
      have hd2 := Lib.hid hd.len
      have hy' := Lib.hid hy
      have hes' := Lib.hid hes
      have hl' := Lib.hid hl
      have hap' := Lib.hid hap
      have hB' := Lib.hid hB
      have hff' := Lib.hid hff
      have hB1' := Lib.hid hB1
      clear hd hy hes hl hap hB hB1 hff
      go_wp2_with (first | (at_builtin; refine wpList_append_src rfl _ _ 37 (by rfl) (wr.heap.size + 1) 5 i0 _ 1 1 Try.underlying37 hi0 hz0 hz1 hz2 (by rfl) (by omega) (.slice none 0 0) 0 [] (by rfl) (World.ownsRow_nil _ _ _ _) xa xn xc _ (by rfl) hlen1 hcells1 (bvals_one _) hmx1 (by omega) (by simp) ?_; intro v1 w3 hown1 hgrow1 hat1; have hfar0 := Lib.hid (fun q hq => (hown1.lt q hq).1); obtain ⟨a1, c1, rfl, hbyt⟩ := Byt.of_own' hown1 hd1.out hd2.out (by omega); have hb3 := Lib.hid (hB1'.out.grown hgrow1 (by simp) (fun q hq => by cases hq)); have hk3 := hgrow1.block wr.heap.size (by simp) (by simp [Value.ownBlock]); have z0 : w3.cell? ⟨wr.heap.size, 0, none⟩ = some (.int .i64 y.term) := (World.cell?_of_block hk3).trans (by go_simp); have z1 : w3.cell? ⟨wr.heap.size, 1, none⟩ = some (.int .i8 y.kind) := (World.cell?_of_block hk3).trans (by go_simp); have z2 : w3.cell? ⟨wr.heap.size, 2, none⟩ = some (.int .i64 y.stamp) := (World.cell?_of_block hk3).trans (by go_simp); have z3 : w3.cell? ⟨wr.heap.size, 3, none⟩ = some (.int .u8 y.set) := (World.cell?_of_block hk3).trans (by go_simp); have z4 : w3.cell? ⟨wr.heap.size, 4, none⟩ = some (.slice xa xn xc) := (World.cell?_of_block hk3).trans (by go_simp); have zf : w3.frozen? ⟨wr.heap.size, 4, none⟩ = false := (World.frozen?_of_block hk3).trans (by go_simp); have hb4 : Below wr.heap.size w3 ((w3.setCell ⟨wr.heap.size, 4, none⟩ (.slice a1 xn c1)).alloc (.cells #[.int .i64 y.term, .int .i8 y.kind, .int .i64 y.stamp, .int .u8 y.set, .slice a1 xn c1] 39)) := ((Below.refl _ _).setCell (p := ⟨wr.heap.size, 4, none⟩) (Nat.le_refl _) _).alloc (by simpa using hb3.out.size) _; have hown4 := own_bel hes'.out (hb3.out.trans hb4); have hbyt4 := (hbyt.set z4 (fun _ hh => by cases hh) (.slice a1 xn c1)).bel ((Below.refl _ _).alloc (Nat.le_refl _) (.cells #[.int .i64 y.term, .int .i8 y.kind, .int .i64 y.stamp, .int .u8 y.set, .slice a1 xn c1] 39)); have hnew4 := news_set w3 ⟨wr.heap.size, 4, none⟩ (.slice a1 xn c1) (cellsE ⟨y.term, y.kind, y.stamp, y.set, a1, xn, c1⟩) 39; replace hb4 := Lib.hid hb4; replace hbyt4 := Lib.hid hbyt4; replace hbyt := Lib.hid hbyt; replace hown4 := Lib.hid hown4; replace hnew4 := Lib.hid hnew4; clear hown1 hgrow1 hat1 hk3 hcells1) | (at_builtin; refine wpList_append_src rfl _ _ 22 (by rfl) w.heap.size 39 j0 _ 5 56 Try.underlying22 hj0 hy0 hy1 hy2 (by rfl) (by omega) _ k _ (by rfl) hown4.out (some ⟨w3.heap.size, 0, none⟩) 1 1 (cellsE ⟨y.term, y.kind, y.stamp, y.set, a1, xn, c1⟩) (by rfl) (by rfl) (fun _ => ⟨_, rfl, hnew4.out⟩) (cellsE_one _) hmx2 (by omega) (by have := hb3.out.size; have := hB'.out.size; simp; omega) ?_; intro v5 w5 hown5 hgrow5 hat5))
      have hR5 := Lib.hid (Rnd.next hy'.out hb3.out hbyt.out (fun hp ad had => by subst had; have := hfar0.out _ rfl; omega) hb4.out hbyt4.out hown5 hgrow5 hat5 hes'.out hl'.out hap'.out hB'.out hff'.out)
      clear hown5 hgrow5 hat5
      go_wp2_with fail
      go_roundw
      case rel => exact ⟨k + 1, by omega, by go_num, hR5.out⟩
      case measure => simp [intOf]; omega
    · obtain rfl : k = n := by omega
      obtain ⟨es, hes, hl, hap, hB, hff⟩ := hR
      have htk : l.take k = l := List.take_of_length_le (by rw [← hlen.out]; exact Nat.le_refl _)
      rw [htk] at hl
      obtain ⟨a', c', rfl, hE⟩ := EsAt.of_own hes
      have hF := Lib.hid (show Far w.heap.size a' k from fun hp => by
        obtain ⟨g, cap2, hv, hg1, hg2⟩ := hes.form hp
        cases hv
        exact ⟨g, 0, rfl, hg1⟩)
      replace hl := Lib.hid hl
      replace hff := Lib.hid hff
      clear htk hes
      go_wp2_with fail
      go_ret
      exact ⟨_, _, rfl, ⟨es, hE, hl.out, hff.out⟩, hF.out, hB⟩
theorem rcopied_c (a : Option Addr) (n cap : Nat) (l : List En) (w : World) (h : LAt w a n cap l) (hs : Sml l) :
    Calls Try.prog 32 #[.slice a n cap] w (CopL w n l) :=
  (rcopied_f a n cap l w h hs).mono fun e w' ⟨a, c, h1, ⟨es, h2, h3, _⟩, h4, h5⟩ => ⟨a, c, h1, ⟨es, h2, h3⟩, h4, h5⟩
end Go.Proofs.Ytbiodlhiilmgkaa
