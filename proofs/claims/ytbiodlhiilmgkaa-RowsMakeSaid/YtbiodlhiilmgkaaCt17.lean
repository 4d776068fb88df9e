/- Rows by what they say: Put whole, Last; rows of terms; the law's heads. -/
import Derived.Test.YtbiodlhiilmgkaaCt16
namespace Go.Proofs.Ytbiodlhiilmgkaa
open Go.ChangeShapes Go.WideShapes Go.ChangeAt Go.RowKit
set_option linter.unusedVariables false
set_option linter.unusedSimpArgs false
open BigFrame Bs Rw Ct

theorem put_c (b t i τ : Int) (a a2 : Option Addr) (n c m c2 : Nat) (l l2 : List En) (w : World) (h : LAt w a n c l) (h2 : LAt w a2 m c2 l2) (hw : Wfl l) (hw2 : Wfl l2) (hb : I64 b) (ht : I64 t) (hi : I64 i) (hτ : I64 τ) :
    Calls Try.prog 10 #[.agg #[.int .i64 b, .int .i64 t, .slice a n c], .int .i64 i, .int .i64 τ, .slice a2 m c2] w (PutP w (putR b t l i τ l2)) := by
  cases hc : chk b t l with
  | false => exact put_rows b t i τ a a2 n c m c2 l l2 w h hw hb ht hc
  | true =>
    by_cases h16 : l2.length ≤ 16
    · cases hc2 : chk i τ l2 with
      | false => exact put_arg b t i τ a a2 n c m c2 l l2 w h h2 hw hw2 hb ht hi hτ hc (.inr hc2)
      | true => exact put_main b t i τ a a2 n c m c2 l l2 w h h2 hw hw2 hb ht hi hτ hc h16 hc2
    · exact put_arg b t i τ a a2 n c m c2 l l2 w h h2 hw hw2 hb ht hi hτ hc (.inl (by omega))
theorem rput_c (b t i τ : Int) (a a2 : Option Addr) (n c m c2 : Nat) (l l2 : List En) (w : World) (h : LAt w a n c l) (h2 : LAt w a2 m c2 l2) (hw : Wfl l) (hw2 : Wfl l2) (hb : I64 b) (ht : I64 t) (hi : I64 i) (hτ : I64 τ) :
    Calls Try.prog 11 #[.agg #[.int .i64 b, .int .i64 t, .slice a n c], .int .i64 i, .int .i64 τ, .slice a2 m c2] w (PutP w (putR b t l i τ l2)) := by
  cases hc : chk b t l with
  | false => exact rput_rows b t i τ a a2 n c m c2 l l2 w h hw hb ht hc
  | true =>
    by_cases h16 : l2.length ≤ 16
    · cases hc2 : chk i τ l2 with
      | false => exact rput_arg b t i τ a a2 n c m c2 l l2 w h h2 hw hw2 hb ht hi hτ hc (.inr hc2)
      | true => exact rput_main b t i τ a a2 n c m c2 l l2 w h h2 hw hw2 hb ht hi hτ hc h16 hc2
    · exact rput_arg b t i τ a a2 n c m c2 l l2 w h h2 hw hw2 hb ht hi hτ hc (.inl (by omega))

set_option maxRecDepth 100000 in
set_option maxHeartbeats 4000000 in
/-- 'Last' of rows that may be. -/
theorem plast_l (b t : Int) (a : Option Addr) (n c : Nat) (l : List En) (w : World) (h : LAt w a n c l) (hw : Wfl l) (hb : I64 b) (ht : I64 t) (hc : chk b t l = true) :
    Calls Try.prog 25 #[.agg #[.int .i64 b, .int .i64 t, .slice a n c]] w fun e w' => e = .returned (.tuple #[.int .i64 (b + l.length), .int .i64 (tl t l l.length)]) ∧ Below w.heap.size w w' := by
  have hB0 : Below w.heap.size w (w.alloc (.cells #[.int .i64 b, .int .i64 t, .slice a n c] 24)) := (Below.refl _ _).alloc (Nat.le_refl _) _
  have bx := Lib.hid (blk_new w [.int .i64 b, .int .i64 t, .slice a n c] 24)
  have hck := check_l b t a n c l _ (h.bel hB0) hw hb ht
  rw [hc] at hck
  replace hck := Lib.hid hck
  have hla := Lib.hid (fun u B (hu : Below w.heap.size w u) x0 x1 x2 => last_l b t a n c l B u (h.bel hu) hw hb ht hc x0 x1 x2)
  replace hB0 := Lib.hid hB0
  clear h hc
  go_enter Try.func25, Try.ntmps25
  go_wp2_with fail
  refine hck.out.mono ?_
  rintro e w1 ⟨rfl, hb1⟩
  have bx1 := bx.out.bel hb1
  have p0 := bx1.c 0 _ rfl
  have p1 := bx1.c 1 _ rfl
  have p2 := bx1.c 2 _ rfl
  have hB1 := Lib.hid (bNext hB0.out hb1 (Nat.le_refl _))
  have hl2 := Lib.hid (hla.out _ _ hB1.out p0 p1 p2)
  clear bx1 hb1 hla hck
  go_wp2_with fail
  refine hl2.out.mono ?_
  rintro e w2 ⟨rfl, hb2⟩
  have hB2 := Lib.hid (bNext hB1.out hb2 (Nat.le_refl _))
  clear hb2
  go_wp2_with fail
  go_ret2
  exact ⟨rfl, hB2.out⟩

namespace Ct
theorem own_set {w : World} {base : Nat} {e : TypeId} {size : Nat} {v : Value} {n : Nat} {xs : List Value} (h : w.ownsRow base e size v n xs) {p : Addr} (hp : p.block < base) (u : Value) : (w.setCell p u).ownsRow base e size v n xs := by
  refine ⟨h.1, ?_⟩
  rcases h.2 with hh | ⟨g, cap, cur, h1, h2, h3, h4⟩
  · exact .inl hh
  · exact .inr ⟨g, cap, cur, h1, h2, (Below.heap_setCell w p u g (by omega)).trans h3, h4⟩
/-- Entries of terms. -/
def tE (ts : List Int) : List En := ts.map fun t => ⟨t, 0, 0, 0, []⟩
def tX (ts : List Int) : List Ent := ts.map fun t => ⟨t, 0, 0, 0, none, 0, 0⟩
theorem tX_has (w : World) (ts : List Int) : HasL w (tX ts) (tE ts) :=
  ⟨by simp [tX, tE], fun i x y hx hy => by
    simp only [tX, tE, List.getElem?_map] at hx hy
    cases ht : ts[i]? with
    | none => rw [ht] at hx; cases hx
    | some t =>
      rw [ht] at hx hy
      cases hx; cases hy
      exact ⟨rfl, rfl, rfl, rfl, Byt.nil _ none 0 (by omega)⟩⟩
theorem tX_snoc (ts : List Int) (k : Nat) (t : Int) (h : ts[k]? = some t) : tX (ts.take (k + 1)) = tX (ts.take k) ++ [⟨t, 0, 0, 0, none, 0, 0⟩] := by
  rw [List.take_add_one, h]; simp [tX]
def TermsP (w : World) (ts : List Int) (e : Ending) (w' : World) : Prop := ∃ a c, e = .returned (.agg #[.int .i64 0, .int .i64 0, .slice a ts.length c]) ∧ LAt w' a ts.length c (tE ts) ∧ Below w.heap.size w w'
/-- What is known in the round of 'terms'. -/
def TRnd (w : World) (ts : List Int) (k : Nat) (wr : World) : Prop := ∃ v, Blk wr (w.heap.size + 1) [.int .i64 0, .int .i64 0, v] ∧ wr.ownsRow (w.heap.size + 2) 39 5 v k (rowE (tX (ts.take k))) ∧ Below w.heap.size w wr ∧ Blk wr w.heap.size [.int .i64 0, .int .i64 0, .slice none 0 0]
end Ct

set_option maxRecDepth 100000 in
set_option maxHeartbeats 4000000 in
theorem terms_c (ts : List Int) (g : Nat) (w : World) (h0 : ts.length ≤ 100) (hg : g < w.heap.size) (h : ∀ i t, ts[i]? = some t → w.cell? ⟨g, i, none⟩ = some (.int .i64 t)) :
    Calls Try.prog 27 #[.slice (some ⟨g, 0, none⟩) ts.length ts.length] w (TermsP w ts) := by
  obtain ⟨n, hn⟩ : ∃ n, ts.length = n := ⟨_, rfl⟩
  unfold TermsP
  rw [hn] at h0 ⊢
  replace hn := Lib.hid hn
  have hnI : (n : Int) ≤ 100 := by omega
  have hB0 : Below w.heap.size w ((w.alloc (.cells #[.int .i64 0, .int .i64 0, .slice none 0 0] 24)).alloc (.cells #[.int .i64 0, .int .i64 0, .slice none 0 0] 24)) := ((Below.refl _ _).alloc (Nat.le_refl _) _).alloc (by simp) _
  have b0 := ((blk_new w [.int .i64 0, .int .i64 0, .slice none 0 0] 24).bel ((Below.refl _ _).alloc (Nat.le_refl _) (.cells #[.int .i64 0, .int .i64 0, .slice none 0 0] 24)))
  have b1 := blk_new (w.alloc (.cells #[.int .i64 0, .int .i64 0, .slice none 0 0] 24)) [.int .i64 0, .int .i64 0, .slice none 0 0] 24
  rw [World.size_alloc] at b1
  have hR0 := Lib.hid (show TRnd w ts 0 ((w.alloc (.cells #[.int .i64 0, .int .i64 0, .slice none 0 0] 24)).alloc (.cells #[.int .i64 0, .int .i64 0, .slice none 0 0] 24)) from ⟨_, b1, World.ownsRow_nil _ _ _ _, hB0, b0⟩)
  clear b0 b1 hB0
  go_enter Try.func27, Try.ntmps27
  go_wp2_with fail
  go_loopw [8] (fun i wr => ∃ k : Nat, k ≤ n ∧ i = .int .i64 (k : Nat) ∧ TRnd w ts k wr) (fun i _ => n - (intOf i).toNat)
  case atStart => exact ⟨0, by omega, rfl, hR0.out⟩
  case round =>
    obtain ⟨k, hk, rfl, v, hb1, hown, hB, hb0⟩ := hrel
    by_cases hlt : k < n
    · have hltI : (k : Int) < (n : Int) := by omega
      obtain ⟨t, ht⟩ : ∃ t, ts[k]? = some t := ⟨_, List.getElem?_eq_getElem (show k < ts.length by have := hn.out; omega)⟩
      have x0 := (hB.cell (p := ⟨g, k, none⟩) hg).trans (h k t ht)
      obtain ⟨a, c, rfl, hE⟩ := EsAt.of_own hown
      have p2 := hb1.c 2 _ rfl
      have pf := hb1.f 2
      have hl1 := hb1.l
      have hba : Below wr.heap.size wr (wr.alloc (.cells #[.int .i64 t, .int .i8 0, .int .i64 0, .int .u8 0, .slice none 0 0] 39)) := (Below.refl _ _).alloc (Nat.le_refl _) _
      have hownA := own_bel hown hba
      have hesN : EsAt (wr.alloc (.cells #[.int .i64 t, .int .i8 0, .int .i64 0, .int .u8 0, .slice none 0 0] 39)) (some ⟨wr.heap.size, 0, none⟩) 1 1 [⟨t, 0, 0, 0, none, 0, 0⟩] :=
        EsAt.of_cells rfl (Nat.le_refl _) (by omega) (fun _ => ⟨wr.heap.size, 0, rfl, by simp, fun j u hu => by rw [Nat.zero_add]; exact (blk_new wr [.int .i64 t, .int .i8 0, .int .i64 0, .int .u8 0, .slice none 0 0] 39).c j u (by simpa [rowE, cellsE] using hu)⟩)
      have hlow := fun q (hq : (Value.slice a k c).ownBlock = some q) => (hown.lt q hq)
      have hts := Lib.hid (tX_snoc ts k t ht)
      replace hb1 := Lib.hid hb1
      replace hb0 := Lib.hid hb0
      replace hB := Lib.hid hB
      replace hba := Lib.hid hba
      replace hownA := Lib.hid hownA
      replace hesN := Lib.hid hesN
      replace hlow := Lib.hid hlow
      clear ht hown hE
      go_wp2_with (at_builtin; refine wpList_append_es rfl (.tmp 13) (.tmp 16) rfl (w.heap.size + 2) (.slice a k c) k (tX (ts.take k)) (by rfl) hownA.out (some ⟨wr.heap.size, 0, none⟩) 1 1 _ (by rfl) hesN.out (by omega) (by have := hb1.out.l; simp; omega) ?_; intro v2 w2 hown2 hgrow2 hat2; obtain ⟨a2, c2, rfl, hE2⟩ := EsAt.of_own hown2; have hs2 := hgrow2.size; have hbk := hgrow2.block (w.heap.size + 1) (by simp; omega) (fun e => by have := (hlow.out _ e.symm).1; omega); have hbk0 := hgrow2.block w.heap.size (by simp; omega) (fun e => by have := (hlow.out _ e.symm).1; omega); have b1A := hb1.out.bel hba.out; have b0A := hb0.out.bel hba.out; have b12 : Blk w2 (w.heap.size + 1) [.int .i64 0, .int .i64 0, .slice a k c] := ⟨fun i x hx => (World.cell?_of_block hbk).trans (b1A.c i x hx), fun o => (World.frozen?_of_block hbk).trans (b1A.f o), by have := b1A.l; omega⟩; have b02 : Blk w2 w.heap.size [.int .i64 0, .int .i64 0, .slice none 0 0] := ⟨fun i x hx => (World.cell?_of_block hbk0).trans (b0A.c i x hx), fun o => (World.frozen?_of_block hbk0).trans (b0A.f o), by have := b0A.l; omega⟩; have q2 := b12.c 2 _ rfl; have qf := b12.f 2; have hB2 := Lib.hid ((bNext hB.out hba.out (Nat.le_refl _)).grown hgrow2 (by have := hB.out.size; simp; omega) (fun q hq => by have := (hlow.out q hq).1; omega)); replace b12 := Lib.hid b12; replace b02 := Lib.hid b02; replace hown2 := Lib.hid hown2; clear hgrow2 hat2 hbk hbk0 b1A b0A hE2)
      have hown3 : (w2.setCell ⟨w.heap.size + 1, 2, none⟩ (.slice a2 (k + 1) c2)).ownsRow (w.heap.size + 2) 39 5 (.slice a2 (k + 1) c2) (k + 1) (rowE (tX (ts.take (k + 1)))) := by
        rw [hts.out]
        exact own_set hown2.out (p := ⟨w.heap.size + 1, 2, none⟩) (by simp) _
      have hR3 := Lib.hid (show TRnd w ts (k + 1) (w2.setCell ⟨w.heap.size + 1, 2, none⟩ (.slice a2 (k + 1) c2)) from ⟨_, b12.out.set (i := 2) (by simp) _, hown3, hB2.out.setCell (p := ⟨w.heap.size + 1, 2, none⟩) (by simp) _, b02.out.other (by simp) _⟩)
      clear hown3
      go_wp2_with fail
      go_roundw
      case rel => exact ⟨k + 1, by omega, by go_num, hR3.out⟩
      case measure => simp [intOf]; omega
    · obtain rfl : k = n := by omega
      have htk : ts.take k = ts := List.take_of_length_le (by rw [hn.out]; exact Nat.le_refl _)
      rw [htk] at hown
      obtain ⟨a, c, rfl, hE⟩ := EsAt.of_own hown
      have p0 := hb1.c 0 _ rfl
      have p1 := hb1.c 1 _ rfl
      have p2 := hb1.c 2 _ rfl
      have r0 := hb0.c 0 _ rfl
      have r1 := hb0.c 1 _ rfl
      have r2 := hb0.c 2 _ rfl
      have rf := hb0.f 0
      have rf1 := hb0.f 1
      have rf2 := hb0.f 2
      have rs4 := blk_set3 hb0 (.int .i64 0) (.int .i64 0) (.slice a k c)
      have s0 := Lib.hid (rs4.c 0 _ rfl)
      have s1 := Lib.hid (rs4.c 1 _ rfl)
      have s2 := Lib.hid (rs4.c 2 _ rfl)
      have hL : LAt wr a k c (tE ts) := ⟨_, hE, tX_has wr ts⟩
      have hF : Far (w.heap.size + 2) a k := fun hp => by
        obtain ⟨g', cap2, hv, hg1, hg2⟩ := hown.form hp
        cases hv
        exact ⟨g', 0, rfl, hg1⟩
      have hL4 := Lib.hid (hL.set3 hF (show w.heap.size < w.heap.size + 2 by omega) hb0 (.int .i64 0) (.int .i64 0) (.slice a k c))
      have hB4 := Lib.hid (below_set3 hB (Nat.le_refl _) (.int .i64 0) (.int .i64 0) (.slice a k c))
      clear htk hown hE hL hF rs4 hb1 hb0 hB
      go_wp2_with fail
      refine bodyPost_ret (v := .agg #[.int .i64 0, .int .i64 0, .slice a k c]) (by simp [results, Try.results27, go_sem, s0.out, s1.out, s2.out]) rfl ?_
      exact ⟨_, _, rfl, hL4.out, hB4.out⟩
end Go.Proofs.Ytbiodlhiilmgkaa
