/- Entries with their bytes: clones, and the program's copies. -/
import Derived.Test.YtbiodlhiilmgkaaCt1
import Derived.Deep.RegionLaw
namespace Go.Proofs.Ytbiodlhiilmgkaa
open Go.ChangeShapes Go.WideShapes Go.ChangeAt Go.RowKit
set_option linter.unusedVariables false
set_option linter.unusedSimpArgs false
open BigFrame Bs Rw Ct

namespace Ct
section
variable {P : Program}
theorem run_append_zero (w : World) (base : Nat) (t ty e : TypeId) (i : TypeInfo) (size : Nat) (ht : P.underlying t = some (.slice e)) (hi : P.info? e = some i)
    (v : Value) (n : Nat) (xs : List Value) (hown : w.ownsRow base e size v n xs) (b : Option Addr) (d : Nat) :
    (Builtin.append_ #[t, t] ty #[v, .slice b 0 d]).run P w = .ok v w := by
  have hf := run_firstCells_some (P := P) w i.size 0
  cases b with
  | none =>
    rcases hown.2 with ⟨rfl, rfl⟩ | ⟨g, cap, cur, rfl, _, _, hnc, _⟩
    · simp [Builtin.append_, run_underlying ht, sizeOf, typeInfo, hi, Builtin.lenOf, Builtin.firstCells]
    · simp [Builtin.append_, run_underlying ht, sizeOf, typeInfo, hi, Builtin.lenOf, Builtin.firstCells, hnc, storeCells]
  | some ad =>
    have hc := hf ad 0 d [] (by simp) (by intro j u h; simp at h)
    rcases hown.2 with ⟨rfl, rfl⟩ | ⟨g, cap, cur, rfl, _, _, hnc, _⟩
    · simp [Builtin.append_, run_underlying ht, sizeOf, typeInfo, hi, Builtin.lenOf, hc]
    · simp [Builtin.append_, run_underlying ht, sizeOf, typeInfo, hi, Builtin.lenOf, hnc, storeCells, hc]

/-- 'append(v, x...)' onto a row of the call's own, whatever the source: nil, empty or not. -/
theorem wpList_append_src {w : World} {ops : Array Oper} {rest : List Oper} {o : Oper} {a : Act} {Q : Exit → Act → World → Prop} (hgd : o.guard = none) (s x : Operand) (t : TypeId)
    (ho : o.op = .call { callee := .builtin .append, args := #[s, x], argTypes := #[t, t] })
    (base : Nat) (e : TypeId) (i : TypeInfo) (z : Value) (size bytes : Nat) (ht : P.underlying t = some (.slice e)) (hi : P.info? e = some i) (hz : i.zero = some z)
    (hsize : i.size = size) (hby : i.bytes = bytes) (hzs : z.cells.size = size) (hsz : 0 < size)
    (v : Value) (n : Nat) (xs : List Value) (hs : a.eval s = v) (hown : w.ownsRow base e size v n xs)
    (b : Option Addr) (m c : Nat) (news : List Value) (hx : a.eval x = .slice b m c) (hl : news.length = m * size) (hnews : 0 < m → ∃ ad, b = some ad ∧ ∀ j u, news[j]? = some u → w.cell? (ad.add j) = some u) (h1 : ∀ u ∈ news, u.oneCell' = true)
    (h63 : n + m ≤ maxLen) (hbytes : (n + m) * bytes ≤ 140737488355328) (hbase : base ≤ w.heap.size)
    (h : ∀ v' w', w'.ownsRow base e size v' (n + m) (xs ++ news) → w.grownBy w' v.ownBlock → (v'.ownBlock = v.ownBlock ∨ v'.ownBlock = some w.heap.size) → wpList P ops Q rest (a.put o.dst v') w') : wpList P ops Q (o :: rest) a w := by
  by_cases hm : m = 0
  · subst hm
    obtain rfl : news = [] := by simpa using hl
    have hrun := run_append_zero (P := P) w base t o.type e i size ht hi _ n xs hown b c
    refine wpList_plain hgd fun K hK => ?_
    unfold Oper.wp
    have hw : w.grownBy w v.ownBlock := ⟨rfl, rfl, rfl, Nat.le_refl _, fun _ _ _ => rfl⟩
    have hq := h v w (by simpa using hown) hw (.inl rfl)
    simp [execOp, ho, resolve, invoke, builtin, hs, hx, hrun, Result.andThen]
    exact hK _ _ hq
  · obtain ⟨ad, rfl, hcells⟩ := hnews (by omega)
    refine wpList_append_lies w hgd s x t ho base e i z size bytes ht hi hz hsize hby hzs hsz v n xs hs hown ad m c news hx hl hcells h1 (by omega) h63 hbytes hbase _ rfl (fun g cap w' h2 h3 h4 h5 => ?_)
    refine h _ w' h2 h3 ?_
    rcases h4 with h4 | h4
    · exact .inl (by rw [h4]; rfl)
    · exact .inr (by rw [h4]; rfl)
end
/-- What 'Clone' gives of bytes. -/
def CloB (w : World) (n : Nat) (d : List Nat) (e : Ending) (w' : World) : Prop := ∃ a c, e = .returned (.slice a n c) ∧ Byt w' a n c d ∧ Below w.heap.size w w'
/-- A new slice of entries that is the call's own. -/
def OwnL (w : World) (n : Nat) (l : List En) (e : Ending) (w' : World) : Prop := ∃ a c, e = .returned (.slice a n c) ∧ LAt w' a n c l ∧ (0 < n → ∃ g, a = some ⟨g, 0, none⟩ ∧ w.heap.size ≤ g ∧ g < w'.heap.size ∧ ∀ o, w'.frozen? ⟨g, o, none⟩ = false) ∧ Below w.heap.size w w'
/-- It lies from block m on, if it holds anything. -/
def Far (m : Nat) (a : Option Addr) (n : Nat) : Prop := 0 < n → ∃ g o, a = some ⟨g, o, none⟩ ∧ m ≤ g
theorem Far.mono {m m' : Nat} {a : Option Addr} {n : Nat} (h : Far m a n) (k : m' ≤ m) : Far m' a n := fun hn => by
  obtain ⟨g, o, h1, h2⟩ := h hn
  exact ⟨g, o, h1, by omega⟩
theorem Far.zero (m : Nat) (a : Option Addr) : Far m a 0 := fun h => absurd h (by omega)
/-- A store elsewhere. -/
theorem LAt.setFar {w : World} {a : Option Addr} {n c m b o : Nat} {l : List En} (h : LAt w a n c l) (hf : Far m a n) (hb : b < m) {v0 : Value} (hp : w.cell? ⟨b, o, none⟩ = some v0) (hv : ∀ x, v0 ≠ .int .u8 x) (v : Value) : LAt (w.setCell ⟨b, o, none⟩ v) a n c l := by
  obtain ⟨es, h1, h2⟩ := h
  refine ⟨es, ⟨h1.len, h1.le, h1.mx, fun hn => ?_⟩, h2.set' hp hv v⟩
  obtain ⟨b', o', ha, hb', hc⟩ := h1.row hn
  obtain ⟨g, o2, ha2, hg⟩ := hf hn
  rw [ha] at ha2
  cases ha2
  have q : ∀ k, (w.setCell ⟨b, o, none⟩ v).cell? ⟨b', k, none⟩ = w.cell? ⟨b', k, none⟩ := fun k => World.cell?_setCell_other _ _ _ _ (by simp <;> omega)
  exact ⟨b', o', ha, by simpa using hb', fun i x hx => by
    obtain ⟨c0, c1, c2, c3, c4⟩ := hc i x hx
    exact ⟨(q _).trans c0, (q _).trans c1, (q _).trans c2, (q _).trans c3, (q _).trans c4⟩⟩
/-- What copies of entries are. -/
def CopL (w : World) (n : Nat) (l : List En) (e : Ending) (w' : World) : Prop := ∃ a c, e = .returned (.slice a n c) ∧ LAt w' a n c l ∧ Far w.heap.size a n ∧ Below w.heap.size w w'
/-- So many, of so many bytes. -/
def Sml (l : List En) : Prop := l.length ≤ 5000 ∧ ∀ y ∈ l, y.d.length ≤ 100000
theorem Sml.at {l : List En} (h : Sml l) {k : Nat} {y : En} (hy : l[k]? = some y) : y.d.length ≤ 100000 := h.2 y (List.mem_of_getElem? hy)
end Ct
theorem info_u8' : (Try.prog.info? 5).map (fun i => (i.zero, i.size, i.bytes)) = some (some (.int .u8 0), 1, 1) := by kernel_rfl
theorem info_entry : (Try.prog.info? 39).map (fun i => (i.zero, i.size, i.bytes)) = some (some (.agg #[.int .i64 0, .int .i8 0, .int .i64 0, .int .u8 0, .slice none 0 0]), 5, 56) := by kernel_rfl
set_option maxRecDepth 100000 in
theorem eqlB_nil (c : Nat) (u : World) : Sem.run Try.prog (binOp BinOp.eql 37 (.slice none 0 c) (.slice none 0 0)) u = .ok (.bool true) u := by rfl
set_option maxRecDepth 100000 in
theorem eqlB_some (a : Addr) (l c : Nat) (u : World) : Sem.run Try.prog (binOp BinOp.eql 37 (.slice (some a) l c) (.slice none 0 0)) u = .ok (.bool false) u := by rfl
set_option maxRecDepth 100000 in
theorem eqlE_nil (c : Nat) (u : World) : Sem.run Try.prog (binOp BinOp.eql 22 (.slice none 0 c) (.slice none 0 0)) u = .ok (.bool true) u := by rfl
set_option maxRecDepth 100000 in
theorem eqlE_some (a : Addr) (l c : Nat) (u : World) : Sem.run Try.prog (binOp BinOp.eql 22 (.slice (some a) l c) (.slice none 0 0)) u = .ok (.bool false) u := by rfl
attribute [local go_sem] eqlB_nil eqlB_some eqlE_nil eqlE_some

set_option maxRecDepth 100000 in
set_option maxHeartbeats 2000000 in
theorem cloneB_c (a : Option Addr) (n cap : Nat) (d : List Nat) (w : World) (h : Byt w a n cap d) (hn2 : n ≤ 1000000) :
    Calls Try.prog 39 #[.slice a n cap] w (CloB w n d) := by
  cases a with
  | none =>
    have hn : n = 0 := by
      rcases Nat.eq_zero_or_pos n with h0 | h0
      · exact h0
      · obtain ⟨b, o, hh, _⟩ := h.row h0; cases hh
    subst hn
    have hd : d = [] := List.eq_nil_of_length_eq_zero h.len.symm
    subst hd
    go_enter Try.func39, Try.ntmps39
    go_wp2_with fail
    go_ret
    exact ⟨_, _, rfl, Byt.nil _ _ _ (by omega), Below.refl _ _⟩
  | some ad =>
    obtain ⟨i0, hi0, hz0, hz1, hz2⟩ := info_parts info_u8'
    have hown0 : (w.alloc (.cells #[] 5)).ownsRow w.heap.size 5 1 (.slice (some ⟨w.heap.size, 0, none⟩) 0 0) 0 [] := World.ownsRow_lit (base := w.heap.size) (e := 5) (size := 1) w #[] 0 (Nat.le_refl _) (by unfold maxLen; omega) (by rfl)
    have hB0 : Below w.heap.size w (w.alloc (.cells #[] 5)) := (Below.refl _ _).alloc (Nat.le_refl _) _
    have hcells : 0 < n → ∃ ad', some ad = some ad' ∧ ∀ j u, (bvals d)[j]? = some u → (w.alloc (.cells #[] 5)).cell? (ad'.add j) = some u := fun hp => by
      obtain ⟨b, o, hh, hb, hc⟩ := h.row hp
      cases hh
      refine ⟨_, rfl, fun j u hu => ?_⟩
      obtain ⟨x, hx, rfl⟩ := bvals_at hu
      rw [Addr.add_lit]
      exact (hB0.cell (p := ⟨b, o + j, none⟩) hb).trans (hc j x hx).1
    have hlen : (bvals d).length = n * 1 := by rw [bvals_len, h.len]; omega
    have hmx : 0 + n ≤ maxLen := by unfold maxLen; omega
    have hlt := h.lt
    have hdl := h.len
    replace hlt := Lib.hid hlt
    replace hdl := Lib.hid hdl
    clear h
    go_enter Try.func39, Try.ntmps39
    go_wp2_with (at_builtin; refine wpList_append_src rfl _ _ 37 (by rfl) w.heap.size 5 i0 _ 1 1 Try.underlying37 hi0 hz0 hz1 hz2 (by rfl) (by omega) _ _ _ (by rfl) hown0 _ n cap _ (by rfl) hlen hcells (bvals_one _) hmx (by omega) hB0.size ?_; intro v1 w3 hown1 hgrow1 hat1)
    rw [Nat.zero_add, List.nil_append] at hown1
    have hB3 : Below w.heap.size w w3 := hB0.grown hgrow1 hB0.size (fun q hq => by have := (hown0.lt q hq).1; omega)
    go_ret
    rcases hown1.2 with ⟨rfl, rfl⟩ | ⟨g, cap', cur, rfl, _⟩
    · have hd : d = [] := List.eq_nil_of_length_eq_zero hdl.out.symm
      subst hd
      exact ⟨_, _, rfl, Byt.nil _ _ _ (by omega), hB3⟩
    · exact ⟨_, _, rfl, Byt.of_own hown1 hlt.out hdl.out, hB3⟩

set_option maxRecDepth 100000 in
set_option maxHeartbeats 2000000 in
theorem cloneE_c (a : Option Addr) (n cap : Nat) (l : List En) (w : World) (h : LAt w a n cap l) (hn2 : n ≤ 5000) :
    Calls Try.prog 38 #[.slice a n cap] w (OwnL w n l) := by
  cases a with
  | none =>
    have hn : n = 0 := by
      obtain ⟨es, h1, h2⟩ := h
      rcases Nat.eq_zero_or_pos n with h0 | h0
      · exact h0
      · obtain ⟨b, o, hh, _⟩ := h1.row h0; cases hh
    subst hn
    have hd : l = [] := List.eq_nil_of_length_eq_zero h.len.symm
    subst hd
    clear h
    go_enter Try.func38, Try.ntmps38
    go_wp2_with fail
    go_ret
    exact ⟨_, _, rfl, LAt.nil _ _ _ (by omega), fun hh => absurd hh (by omega), Below.refl _ _⟩
  | some ad =>
    obtain ⟨es, h1, h2⟩ := h
    obtain ⟨i0, hi0, hz0, hz1, hz2⟩ := info_parts info_entry
    have hown0 : (w.alloc (.cells #[] 39)).ownsRow w.heap.size 39 5 (.slice (some ⟨w.heap.size, 0, none⟩) 0 0) 0 [] := World.ownsRow_lit (base := w.heap.size) (e := 39) (size := 5) w #[] 0 (Nat.le_refl _) (by unfold maxLen; omega) (by rfl)
    have hB0 : Below w.heap.size w (w.alloc (.cells #[] 39)) := (Below.refl _ _).alloc (Nat.le_refl _) _
    have hcells : 0 < n → ∃ ad', some ad = some ad' ∧ ∀ j u, (rowE es)[j]? = some u → (w.alloc (.cells #[] 39)).cell? (ad'.add j) = some u := fun hp => by
      obtain ⟨b, o, hh, hb, hc⟩ := (h1.bel hB0).cells hp
      cases hh
      refine ⟨_, rfl, fun j u hu => ?_⟩
      rw [Addr.add_lit]
      exact hc j u hu
    have hlen : (rowE es).length = n * 5 := by rw [rowE_len, h1.len]
    have hmx : 0 + n ≤ maxLen := by unfold maxLen; omega
    replace h2 := Lib.hid h2
    clear h1
    go_enter Try.func38, Try.ntmps38
    go_wp2_with (at_builtin; refine wpList_append_src rfl _ _ 22 (by rfl) w.heap.size 39 i0 _ 5 56 Try.underlying22 hi0 hz0 hz1 hz2 (by rfl) (by omega) _ _ _ (by rfl) hown0 _ n cap _ (by rfl) hlen hcells (rowE_one _) hmx (by omega) hB0.size ?_; intro v1 w3 hown1 hgrow1 hat1)
    rw [Nat.zero_add, List.nil_append] at hown1
    have hB3 : Below w.heap.size w w3 := hB0.grown hgrow1 hB0.size (fun q hq => by have := (hown0.lt q hq).1; omega)
    go_ret
    obtain ⟨a', c', rfl, hes⟩ := EsAt.of_own hown1
    refine ⟨_, _, rfl, ⟨es, hes, h2.out.bel hB3⟩, fun hp => ?_, hB3⟩
    obtain ⟨g, cap2, hv, hg1, hg2⟩ := hown1.form hp
    cases hv
    exact ⟨g, rfl, hg1, hg2, fun o => by
      rcases hown1.2 with ⟨hh, _⟩ | ⟨g', cap', cur, hh, _, hhp, _⟩
      · cases hh
      · cases hh
        unfold World.frozen?
        simp [hhp]⟩

set_option maxRecDepth 100000 in
set_option maxHeartbeats 4000000 in
/-- **The program's 'copied'.** -/
theorem copied_c (a : Option Addr) (n cap : Nat) (l : List En) (w : World) (h : LAt w a n cap l) (hs : Sml l) :
    Calls Try.prog 28 #[.slice a n cap] w (CopL w n l) := by
  have hn2 : n ≤ 5000 := by have := h.len; have := hs.1; omega
  have hn3 : (n : Int) ≤ 5000 := by omega
  have hlen := Lib.hid h.len
  have hc := cloneE_c a n cap l w h hn2
  clear h
  go_enter Try.func28, Try.ntmps28
  go_wp2_with fail
  refine hc.mono ?_
  rintro e w1 ⟨a1, c1, rfl, hL1, hg1, hB1⟩
  clear hc
  go_wp2_with fail
  go_loopw [9] (fun i wr => ∃ k : Nat, k ≤ n ∧ i = .int .i64 (k : Nat) ∧ LAt wr a1 n c1 l ∧ (0 < n → ∃ g, a1 = some ⟨g, 0, none⟩ ∧ w.heap.size ≤ g ∧ g < wr.heap.size ∧ ∀ o, wr.frozen? ⟨g, o, none⟩ = false) ∧ Below w.heap.size w wr) (fun i _ => n - (intOf i).toNat)
  case atStart => exact ⟨0, by omega, rfl, hL1, hg1, hB1⟩
  case round =>
    obtain ⟨k, hk, rfl, hL, hg, hB⟩ := hrel
    clear hg1 hL1 hB1
    by_cases hlt : k < n
    · have hlt' : (k : Int) < (n : Int) := by omega
      obtain ⟨g, rfl, hg2, hg3, hfz⟩ := hg (by omega)
      obtain ⟨y, hy⟩ : ∃ y, l[k]? = some y := ⟨_, List.getElem?_eq_getElem (show k < l.length by have := hlen.out; omega)⟩
      obtain ⟨b, o, x, hab, hb, hx, hhas⟩ := hL.ent hy
      cases hab
      have hd := hhas.d
      have hds := hs.at hy
      have hdl : x.dl ≤ 1000000 := by rw [hd.len]; omega
      have hcl := Lib.hid (fun u (hu : Below wr.heap.size wr u) => cloneB_c x.da x.dl x.dc y.d u (hd.bel hu) hdl)
      have x4 := hx.2.2.2.2
      rw [Nat.zero_add] at x4
      replace hL := Lib.hid hL
      replace hB := Lib.hid hB
      replace hfz := Lib.hid hfz
      clear hhas hd hx hg
      replace hy := Lib.hid hy
      go_wp2_with fail
      refine (hcl.out _ (Below.refl _ _)).mono ?_
      rintro e w2 ⟨da, dc, rfl, hbd, hb2⟩
      have z4 := (hb2.cell (p := ⟨g, k * 5 + 4, none⟩) hb).trans x4
      have zf := (hb2.frozen (p := ⟨g, k * 5 + 4, none⟩) hb).trans (hfz.out _)
      have hL2 := Lib.hid ((hL.out.bel hb2).redata hy.out hbd)
      have hB2 := Lib.hid ((bNext hB.out hb2 (Nat.le_refl _)).setCell (p := ⟨g, k * 5 + 4, none⟩) hg2 (.slice da x.dl dc))
      have hf2 := Lib.hid (fun o => (show (w2.setCell ⟨g, k * 5 + 4, none⟩ (.slice da x.dl dc)).frozen? ⟨g, o, none⟩ = _ from World.frozen?_setCell _ _ _ _).trans ((hb2.frozen (p := ⟨g, o, none⟩) hb).trans (hfz.out o)))
      have hs2 := hb2.size
      clear hb2 x4
      go_wp2_with fail
      go_roundw
      case rel => exact ⟨k + 1, by omega, by go_num, hL2.out, fun _ => ⟨g, rfl, hg2, by simp; omega, hf2.out⟩, hB2.out⟩
      case measure => simp [intOf]; omega
    · obtain rfl : k = n := by omega
      go_wp2_with fail
      go_ret
      exact ⟨_, _, rfl, hL, (fun hn => by obtain ⟨g, e1, e2, _⟩ := hg hn; exact ⟨g, 0, e1, e2⟩), hB⟩
end Go.Proofs.Ytbiodlhiilmgkaa
