/- Packets with what they hold: the document's Parse. -/
import Derived.Test.YtjdkpoggcpckcaaPc2
namespace Go.Proofs.Ytjdkpoggcpckcaa
open Go.ChangeShapes Go.WideShapes Go.ChangeAt Go.RowKit
set_option linter.unusedVariables false
set_option linter.unusedSimpArgs false
open Pk BigFrame
open Bs (cellB)

namespace Pk
theorem wp_append_nil {w : World} {o : Oper} {a : Act} {K : Act → World → Prop} {Q : Exit → Act → World → Prop} (hgd : o.guard = none) (s x : Operand) (t : TypeId)
    (ho : o.op = .call { callee := .builtin .append, args := #[s, x], argTypes := #[t, t] })
    (base : Nat) (e : TypeId) (i : TypeInfo) (z : Value) (size bytes : Nat) (ht : Try.prog.underlying t = some (.slice e)) (hi : Try.prog.info? e = some i) (hz : i.zero = some z)
    (hsize : i.size = size) (hby : i.bytes = bytes) (hzs : z.cells.size = size) (hsz : 0 < size) (hs : a.eval s = .slice none 0 0)
    (b : Option Addr) (m c : Nat) (news : List Value) (hx : a.eval x = .slice b m c) (hl : news.length = m * size) (hnews : 0 < m → ∃ ad, b = some ad ∧ ∀ j u, news[j]? = some u → w.cell? (ad.add j) = some u) (h1 : ∀ u ∈ news, u.oneCell' = true)
    (h63 : 0 + m ≤ maxLen) (hbytes : (0 + m) * bytes ≤ 140737488355328) (hbase : base ≤ w.heap.size)
    (h : ∀ a1 k1 w', w'.ownsRow base e size (.slice a1 m k1) m news → (m = 0 → a1 = none ∧ k1 = 0) → Below base w w' → K (a.put o.dst (.slice a1 m k1)) w') : o.wp Try.prog a w K Q := by
  have h := step_append_nil (ops := #[]) (Q := Q) (E := True) (K := K) hgd s x t ho base e i z size bytes ht hi hz hsize hby hzs hsz hs b m c news hx hl hnews h1 h63 hbytes hbase h
  rwa [if_pos (by simp [Region.wanted, hgd])] at h
theorem ba_neK {a b : ByteArray} (h : ¬ a = b) : ¬ a.toList = b.toList := fun hh => h (by
  rw [ByteArray.toList_eq, ByteArray.toList_eq] at hh
  exact ByteArray.ext (Array.ext' hh))
/-- What the document's Parse answers. -/
def RParseP (n : Nat) (F : Nat → Nat) (w : World) (e : Ending) (w' : World) : Prop := ((goodF n F ∧ ∃ a1 m1 c1, e = .returned (.tuple #[.agg #[.int .i64 0, .int .i64 (F 1 : Nat), .int .i64 (F 2 : Nat), .slice a1 m1 c1], .int .i64 0])) ∨ (¬ goodF n F ∧ e = .returned (.tuple #[.agg #[.int .i64 0, .int .i64 0, .int .i64 0, .slice none 0 0], .int .i64 230]))) ∧ Below w.heap.size w w'
end Pk

set_option maxRecDepth 100000 in
set_option maxHeartbeats 8000000 in
theorem rparse_ok (b o n cap : Nat) (F : Nat → Nat) (w : World) (h8 : 8 ≤ n) (h15 : n ≤ 100000) (hcap : n ≤ cap) (hc2 : cap ≤ 9223372036854775807) (hb : BytesAt w b o n F) (hbl : b < w.heap.size) :
    Calls Try.prog 6 #[.slice (some ⟨b, o, none⟩) n cap] w (RParseP n F w) := by
  obtain ⟨i0, hi0, hz0, hz1, hz2⟩ := info_parts info_u8
  have k : ¬ (n : Int) < 8 := by omega
  obtain ⟨c1, f1⟩ := hb 1 (by omega)
  obtain ⟨c2, f2⟩ := hb 2 (by omega)
  have k1 : (1 : Int) < (n : Int) := by omega
  have k2 : (2 : Int) < (n : Int) := by omega
  have k8 : (8 : Int) ≤ (n : Int) := by omega
  have k9 : (8 : Int) ≤ (cap : Int) := by omega
  have w1 : IntKind.i64.wrap ((F 1 : Nat) : Int) = ((F 1 : Nat) : Int) := IntWalk.i64_in _ ⟨by omega, by omega⟩
  have w2 : IntKind.i64.wrap ((F 2 : Nat) : Int) = ((F 2 : Nat) : Int) := IntWalk.i64_in _ ⟨by omega, by omega⟩
  have hB0 := (Below.refl w.heap.size w).alloc (Nat.le_refl _) (.cells #[.int .i64 0, .int .i64 0, .int .i64 0, .slice none 0 0] 29)
  have bz := By.blkN_new w [.int .i64 0, .int .i64 0, .int .i64 0, .slice none 0 0] 29
  have d1 := (hB0.cell (p := ⟨b, o + 1, none⟩) hbl).trans c1
  have d2 := (hB0.cell (p := ⟨b, o + 2, none⟩) hbl).trans c2
  replace bz := Lib.hid bz
  go_enter Try.func6, Try.ntmps6
  go_upto_region 3 with fail
  generalize (w.alloc (.cells #[.int .i64 0, .int .i64 0, .int .i64 0, .slice none 0 0] 29)) = W at hB0 bz d1 d2 ⊢
  refine wp_region_noPanic ?_
  refine Stg.wp_region_L [10] (Bs.SB W) (by kernel_rfl) (fun _ => (Below.refl _ _).drew) (fun hHeld => ?_)
  refine Stg.wpAnyL_start (n' := 11) (l' := #[false, false, false, false, false, false, false, false, false, false, false]) (by kernel_rfl) (by kernel_rfl) ?_
  refine Stg.wpAnyL_free (i := 0) (v := ?_) 0 rfl (by kernel_rfl) (by kernel_rfl) (by kernel_rfl) (by kernel_rfl) (by kernel_rfl) (fun _ _ _ h => h) (Or.inl ⟨by kernel_rfl, ?_⟩) (by assumption) ?_
  rotate_left
  · intro u _
    try simp only [List.getElem_toArray, List.getElem_cons_succ, List.getElem_cons_zero]
    go_simp
    try with_reducible rfl
  try simp only [Act.put, List.setIfInBounds_toArray, List.set_cons_zero, List.set_cons_succ]
  refine Stg.wpAnyL_free (i := 1) (v := ?_) 0 rfl (by kernel_rfl) (by kernel_rfl) (by kernel_rfl) (by kernel_rfl) (by kernel_rfl) (fun _ _ _ h => h) (Or.inl ⟨by kernel_rfl, ?_⟩) (by assumption) ?_
  rotate_left
  · intro u _
    try simp only [List.getElem_toArray, List.getElem_cons_succ, List.getElem_cons_zero]
    go_simp
    try with_reducible rfl
  try simp only [Act.put, List.setIfInBounds_toArray, List.set_cons_zero, List.set_cons_succ]
  refine Stg.wpAnyL_take (i := 2) (v := ?_) [3, 8, 10] 0 rfl (by kernel_rfl) (by kernel_rfl) (by kernel_rfl) (by kernel_rfl) (by kernel_rfl) (fun _ _ _ h => h) (Or.inl ⟨by kernel_rfl, ?_⟩) (by assumption) ?_
  rotate_left
  · intro u hSu
    skip
    have sB := hSu rfl
    have y0 := cellB sB d1
    have y1 := cellB sB d2
    try simp only [List.getElem_toArray, List.getElem_cons_succ, List.getElem_cons_zero]
    go_simp
    try with_reducible rfl
  try simp only [Act.put, List.setIfInBounds_toArray, List.set_cons_zero, List.set_cons_succ]
  refine Stg.wpAnyL_start (n' := 8) (l' := #[true, true, true, false, false, false, false, false, false, false, false]) (by kernel_rfl) (by kernel_rfl) ?_
  refine Stg.wpAnyL_free (i := 3) (v := ?_) 0 rfl (by kernel_rfl) (by kernel_rfl) (by kernel_rfl) (by kernel_rfl) (by kernel_rfl) (fun _ _ _ h => h) (Or.inl ⟨by kernel_rfl, ?_⟩) (by assumption) ?_
  rotate_left
  · intro u _
    try simp only [List.getElem_toArray, List.getElem_cons_succ, List.getElem_cons_zero]
    go_simp
    try with_reducible rfl
  try simp only [Act.put, List.setIfInBounds_toArray, List.set_cons_zero, List.set_cons_succ]
  refine Stg.wpAnyL_free (i := 4) (v := ?_) 0 rfl (by kernel_rfl) (by kernel_rfl) (by kernel_rfl) (by kernel_rfl) (by kernel_rfl) (fun _ _ _ h => h) (Or.inl ⟨by kernel_rfl, ?_⟩) (by assumption) ?_
  rotate_left
  · intro u _
    try simp only [List.getElem_toArray, List.getElem_cons_succ, List.getElem_cons_zero]
    go_simp
    try with_reducible rfl
  try simp only [Act.put, List.setIfInBounds_toArray, List.set_cons_zero, List.set_cons_succ]
  refine Stg.wpAnyL_free (i := 5) (v := ?_) 0 rfl (by kernel_rfl) (by kernel_rfl) (by kernel_rfl) (by kernel_rfl) (by kernel_rfl) (fun _ _ _ h => h) (Or.inl ⟨by kernel_rfl, ?_⟩) (by assumption) ?_
  rotate_left
  · intro u _
    try simp only [List.getElem_toArray, List.getElem_cons_succ, List.getElem_cons_zero]
    go_simp
    try with_reducible rfl
  try simp only [Act.put, List.setIfInBounds_toArray, List.set_cons_zero, List.set_cons_succ]
  refine Stg.wpAnyL_start (n' := 5) (l' := #[true, true, true, true, true, true, false, false, false, false, false]) (by kernel_rfl) (by kernel_rfl) ?_
  refine Stg.wpAnyL_take (i := 6) (v := ?_) [7, 8, 10] 0 rfl (by kernel_rfl) (by kernel_rfl) (by kernel_rfl) (by kernel_rfl) (by kernel_rfl) (fun _ _ _ h => h) (Or.inl ⟨by kernel_rfl, ?_⟩) (by assumption) ?_
  rotate_left
  · intro u hSu
    skip
    have sB := hSu rfl
    have y0 := cellB sB d1
    have y1 := cellB sB d2
    try simp only [List.getElem_toArray, List.getElem_cons_succ, List.getElem_cons_zero]
    go_simp
    try with_reducible rfl
  try simp only [Act.put, List.setIfInBounds_toArray, List.set_cons_zero, List.set_cons_succ]
  refine Stg.wpAnyL_free (i := 7) (v := ?_) 0 rfl (by kernel_rfl) (by kernel_rfl) (by kernel_rfl) (by kernel_rfl) (by kernel_rfl) (fun _ _ _ h => h) (Or.inl ⟨by kernel_rfl, ?_⟩) (by assumption) ?_
  rotate_left
  · intro u _
    try simp only [List.getElem_toArray, List.getElem_cons_succ, List.getElem_cons_zero]
    go_simp
    try with_reducible rfl
  try simp only [Act.put, List.setIfInBounds_toArray, List.set_cons_zero, List.set_cons_succ]
  refine Stg.wpAnyL_free (i := 8) (v := ?_) 0 rfl (by kernel_rfl) (by kernel_rfl) (by kernel_rfl) (by kernel_rfl) (by kernel_rfl) (fun _ _ _ h => h) (Or.inl ⟨by kernel_rfl, ?_⟩) (by assumption) ?_
  rotate_left
  · intro u _
    try simp only [List.getElem_toArray, List.getElem_cons_succ, List.getElem_cons_zero]
    go_simp
    try with_reducible rfl
  try simp only [Act.put, List.setIfInBounds_toArray, List.set_cons_zero, List.set_cons_succ]
  refine Stg.wpAnyL_start (n' := 2) (l' := #[true, true, true, true, true, true, true, true, true, false, false]) (by kernel_rfl) (by kernel_rfl) ?_
  refine Stg.wpAnyL_one (i := 9) 0 rfl (by kernel_rfl) (by kernel_rfl) (fun K hK => ?_)
  try simp only [List.getElem_toArray, List.getElem_cons_succ, List.getElem_cons_zero]
  go_simp
  refine hK.out _ _ ?_ (fun hHeld1 => ?_)
  · exact fun _ => bNext (hHeld rfl) ((Below.refl _ _).alloc (Nat.le_refl _) _) (Nat.le_refl _)
  clear hK K
  try simp only [Act.put, List.setIfInBounds_toArray, List.set_cons_zero, List.set_cons_succ]
  refine Stg.wpAnyL_one (i := 10) 1 rfl (by kernel_rfl) (by kernel_rfl) (fun K hK => ?_)
  try simp only [List.getElem_toArray, List.getElem_cons_succ, List.getElem_cons_zero]
  go_simp
  refine hK.out _ _ ?_ (fun hHeld2 => ?_)
  · exact fun h => absurd h (by decide)
  clear hK K
  try simp only [Act.put, List.setIfInBounds_toArray, List.set_cons_zero, List.set_cons_succ]
  refine Stg.wpAnyL_done (by kernel_rfl) ?_ _
  try simp only [List.getElem_toArray, List.getElem_cons_succ, List.getElem_cons_zero]
  try simp only [Act.put, List.setIfInBounds_toArray, List.set_cons_zero, List.set_cons_succ]
  refine NoPanic.normal ?_
  skip
  go_upto_region 4 with fail
  have hWU : Below W.heap.size W (W.alloc (.cells #[.int .i64 0, .int .i64 (F 1 : Nat), .int .i64 (F 2 : Nat), .slice none 0 0] 29)).drew := ((Below.refl W.heap.size W).alloc (Nat.le_refl _) _).drew
  have bz2 := Lib.hid (bz.out.bel hWU)
  have bp := (By.blkN_new W [.int .i64 0, .int .i64 (F 1 : Nat), .int .i64 (F 2 : Nat), .slice none 0 0] 29).drew
  have hBU := bNext hB0 hWU (Nat.le_refl _)
  have hbU : BytesAt (W.alloc (.cells #[.int .i64 0, .int .i64 (F 1 : Nat), .int .i64 (F 2 : Nat), .slice none 0 0] 29)).drew b o n F := fun i hi => ⟨(hBU.cell (p := ⟨b, o + i, none⟩) hbl).trans (hb i hi).1, (hb i hi).2⟩
  have hbW : w.heap.size < W.heap.size := bz.out.l
  clear d1 d2 hWU bz hHeld hHeld1
  generalize (W.alloc (.cells #[.int .i64 0, .int .i64 (F 1 : Nat), .int .i64 (F 2 : Nat), .slice none 0 0] 29)).drew = U at bz2 bp hBU hbU ⊢
  generalize W.heap.size = pb at hbW bp ⊢
  have y3 := bp.c 3 _ rfl
  have hpbU : pb < U.heap.size := bp.l
  obtain ⟨X, hX⟩ : ∃ X, (if cap = 8 then some (⟨b, o, none⟩ : Addr) else some ⟨b, o + 8, none⟩) = X := ⟨_, rfl⟩
  have hcells : 0 < n - 8 → ∃ ad, (if cap = 8 then some (⟨b, o, none⟩ : Addr) else some ⟨b, o + 8, none⟩) = some ad ∧ ∀ j u, (tailV F (n - 8))[j]? = some u → U.drew.cell? (ad.add j) = some u := fun hp => by
    refine ⟨⟨b, o + 8, none⟩, by rw [if_neg (by omega)], fun j u hu => ?_⟩
    have hj : j < n - 8 := by have := (List.getElem?_eq_some_iff.1 hu).1; rw [tailV_len] at this; omega
    have h2 := (hbU (8 + j) (by omega)).1
    rw [← Nat.add_assoc] at h2
    simp [tailV, bvals, hj] at hu
    subst hu
    rw [Addr.add_lit]
    simpa using h2
  rw [hX] at hcells
  replace hcells := Lib.hid hcells
  replace hbU := Lib.hid hbU
  replace bp := Lib.hid bp
  have hmx : 0 + (n - 8) ≤ maxLen := by unfold maxLen; omega
  have hby : (0 + (n - 8)) * 1 ≤ 140737488355328 := by omega
  refine wp_region_noPanic ?_
  refine Stg.wp_region_L [4, 6] (Bs.SB U) (by kernel_rfl) (fun _ => (Below.refl _ _).drew) (fun hHeld => ?_)
  refine Stg.wpAnyL_start (n' := 7) (l' := #[false, false, false, false, false, false, false]) (by kernel_rfl) (by kernel_rfl) ?_
  refine Stg.wpAnyL_free (i := 0) (v := ?_) 0 rfl (by kernel_rfl) (by kernel_rfl) (by kernel_rfl) (by kernel_rfl) (by kernel_rfl) (fun _ _ _ h => h) (Or.inl ⟨by kernel_rfl, ?_⟩) (by assumption) ?_
  rotate_left
  · intro u _
    try simp only [List.getElem_toArray, List.getElem_cons_succ, List.getElem_cons_zero]
    go_simp
    try with_reducible rfl
  try simp only [Act.put, List.setIfInBounds_toArray, List.set_cons_zero, List.set_cons_succ]
  refine Stg.wpAnyL_take (i := 1) (v := ?_) [4, 5, 6] 0 rfl (by kernel_rfl) (by kernel_rfl) (by kernel_rfl) (by kernel_rfl) (by kernel_rfl) (fun _ _ _ h => h) (Or.inl ⟨by kernel_rfl, ?_⟩) (by assumption) ?_
  rotate_left
  · intro u hSu
    skip
    have sB := hSu rfl
    have y0 := cellB sB y3
    try simp only [List.getElem_toArray, List.getElem_cons_succ, List.getElem_cons_zero]
    go_simp
    try with_reducible rfl
  try simp only [Act.put, List.setIfInBounds_toArray, List.set_cons_zero, List.set_cons_succ]
  refine Stg.wpAnyL_free (i := 2) (v := ?_) 0 rfl (by kernel_rfl) (by kernel_rfl) (by kernel_rfl) (by kernel_rfl) (by kernel_rfl) (fun _ _ _ h => h) (Or.inl ⟨by kernel_rfl, ?_⟩) (by assumption) ?_
  rotate_left
  · intro u _
    try simp only [List.getElem_toArray, List.getElem_cons_succ, List.getElem_cons_zero]
    go_simp
    try with_reducible rfl
  try simp only [Act.put, List.setIfInBounds_toArray, List.set_cons_zero, List.set_cons_succ]
  refine Stg.wpAnyL_start (n' := 4) (l' := #[true, true, true, false, false, false, false]) (by kernel_rfl) (by kernel_rfl) ?_
  refine Stg.wpAnyL_free (i := 3) (v := ?_) 0 rfl (by kernel_rfl) (by kernel_rfl) (by kernel_rfl) (by kernel_rfl) (by kernel_rfl) (fun _ _ _ h => h) (Or.inl ⟨by kernel_rfl, ?_⟩) (by assumption) ?_
  rotate_left
  · intro u _
    try simp only [List.getElem_toArray, List.getElem_cons_succ, List.getElem_cons_zero]
    go_simp
    try with_reducible rfl
  try simp only [Act.put, List.setIfInBounds_toArray, List.set_cons_zero, List.set_cons_succ]
  refine Stg.wpAnyL_one (i := 4) 1 rfl (by kernel_rfl) (by kernel_rfl) (fun K hK => ?_)
  try simp only [List.getElem_toArray, List.getElem_cons_succ, List.getElem_cons_zero]
  rw [if_pos (by kernel_rfl)]
  refine wp_append_nil rfl (.tmp 21) (.tmp 23) 26 rfl U.heap.size 5 i0 _ 1 1 Try.underlying26 hi0 hz0 hz1 hz2 (by rfl) (by omega) (by kernel_rfl) X (n - 8) (cap - 8) (tailV F (n - 8)) (by kernel_rfl) (tailV_len F _) hcells.out (bvals_one _) hmx hby (Nat.le_refl _) ?_
  intro a1 p1 w3 hown1 hnil1 hb1
  refine hK.out _ _ ?_ (fun hHeld1 => ?_)
  · exact fun h => absurd h (by decide)
  clear hK K
  try simp only [Act.put, List.setIfInBounds_toArray, List.set_cons_zero, List.set_cons_succ]
  refine Stg.wpAnyL_free (i := 5) (v := ?_) 1 rfl (by kernel_rfl) (by kernel_rfl) (by kernel_rfl) (by kernel_rfl) (by kernel_rfl) (fun _ _ _ h => h) (Or.inl ⟨by kernel_rfl, ?_⟩) (by assumption) ?_
  rotate_left
  · intro u _
    try simp only [List.getElem_toArray, List.getElem_cons_succ, List.getElem_cons_zero]
    go_simp
    try with_reducible rfl
  try simp only [Act.put, List.setIfInBounds_toArray, List.set_cons_zero, List.set_cons_succ]
  refine Stg.wpAnyL_start (n' := 1) (l' := #[true, true, true, true, true, true, false]) (by kernel_rfl) (by kernel_rfl) ?_
  refine Stg.wpAnyL_one (i := 6) 2 rfl (by kernel_rfl) (by kernel_rfl) (fun K hK => ?_)
  have z3 := (hb1.cell (p := ⟨pb, 3, none⟩) hpbU).trans (show U.drew.cell? _ = _ from y3)
  have zf := fun q => (hb1.frozen (p := ⟨pb, q, none⟩) hpbU).trans (show U.drew.frozen? _ = _ from bp.out.f q)
  try simp only [List.getElem_toArray, List.getElem_cons_succ, List.getElem_cons_zero]
  go_simp
  refine hK.out _ _ ?_ (fun hHeld2 => ?_)
  · exact fun h => absurd h (by decide)
  clear hK K
  try simp only [Act.put, List.setIfInBounds_toArray, List.set_cons_zero, List.set_cons_succ]
  refine Stg.wpAnyL_done (by kernel_rfl) ?_ _
  try simp only [List.getElem_toArray, List.getElem_cons_succ, List.getElem_cons_zero]
  try simp only [Act.put, List.setIfInBounds_toArray, List.set_cons_zero, List.set_cons_succ]
  refine NoPanic.normal ?_
  skip
  go_upto_region 5 with fail
  have hBW : Below w.heap.size w (w3.setCell ⟨pb, 3, none⟩ (.slice a1 (n - 8) p1)) := ((hBU.drew.trans (hb1.mono hBU.size))).setCell (p := ⟨pb, 3, none⟩) (show w.heap.size ≤ pb by omega) _
  have bp4 := ((bp.out.drew).below hb1 hpbU).set (i := 3) (by simp) (.slice a1 (n - 8) p1)
  have bz4 := ((bz2.out.drew).below hb1 bz2.out.l).other (o := 3) (show w.heap.size ≠ pb by omega) (.slice a1 (n - 8) p1)
  have hs3 := hb1.size
  obtain ⟨rb, off, hld⟩ : ∃ rb off, 0 < n - 8 → a1 = some ⟨rb, off, none⟩ ∧ BytesAt (w3.setCell ⟨pb, 3, none⟩ (.slice a1 (n - 8) p1)) rb off (n - 8) (fun i => F (8 + i)) ∧ rb < (w3.setCell ⟨pb, 3, none⟩ (.slice a1 (n - 8) p1)).heap.size := by
    rcases hown1.2 with ⟨h1, h2⟩ | ⟨g, cap', cur, h1, h2, _⟩
    · exact ⟨0, 0, fun hh => by omega⟩
    · cases h1
      have hlt := (hown1.lt g rfl)
      refine ⟨g, 0, fun hh => ⟨rfl, fun i hi => ⟨?_, (hbU.out (8 + i) (by omega)).2⟩, by simpa using hlt.2⟩⟩
      rw [Nat.zero_add]
      refine (World.cell?_setCell_other _ _ _ _ (by simp <;> omega)).trans ((hown1.cellAt i (by omega)).trans ?_)
      simp [tailV, bvals, hi]
  have hbV : BytesAt (w3.setCell ⟨pb, 3, none⟩ (.slice a1 (n - 8) p1)) b o n F := fun i hi => ⟨(hBW.cell (p := ⟨b, o + i, none⟩) hbl).trans (hb i hi).1, (hb i hi).2⟩
  have hszV : pb < (w3.setCell ⟨pb, 3, none⟩ (.slice a1 (n - 8) p1)).heap.size := bp4.l
  replace hld := Lib.hid hld
  replace hbV := Lib.hid hbV
  replace hb := Lib.hid hb
  clear y3 z3 zf hown1 hb1 hs3 hcells hbU bp bz2 hBU hX hHeld hHeld1 hB0 hnil1
  generalize w3.setCell ⟨pb, 3, none⟩ (.slice a1 (n - 8) p1) = V at hBW bp4 bz4 hld hbV hszV ⊢
  have v0 := bp4.c 0 _ rfl
  have v1 := bp4.c 1 _ rfl
  have v2 := bp4.c 2 _ rfl
  have v3 := bp4.c 3 _ rfl
  replace bp4 := Lib.hid bp4
  replace bz4 := Lib.hid bz4
  obtain ⟨m, hm⟩ : ∃ m, n - 8 = m := ⟨_, rfl⟩
  have hn8 : n = 8 + m := by omega
  rw [hm] at v3 hld bp4 ⊢
  have hmH := Lib.hid hm
  have hn8H := Lib.hid hn8
  clear hm hn8 hmx hby
  by_cases hbad : F 1 < 1 ∨ 16 < F 1 ∨ 1492 < m
  · have hno : RowKit.Hid (¬ goodF n F) := Lib.hid (fun g => by have := g.2.1; have := g.2.2.2.1; have := g.2.2.2.2.1; have := hn8H.out; omega)
    have hbc := Lib.hid (rbuild_bad 0 (F 1 : Nat) (F 2 : Nat) a1 m p1 V (by have := hn8H.out; omega) (by omega))
    go_wp2_with fail
    refine hbc.out.mono ?_
    rintro e w5 ⟨⟨x, rfl, hx⟩, hb5⟩
    have hxb : (x == 0) = false := by simpa using hx
    have bz5 := bz4.out.bel hb5
    have z0 := bz5.c 0 _ rfl
    have z1 := bz5.c 1 _ rfl
    have z2 := bz5.c 2 _ rfl
    have z3 := bz5.c 3 _ rfl
    have zf := bz5.f
    have hB5 := bNext hBW hb5 (by omega)
    clear hb5 hbc v0 v1 v2 v3
    go_wp2_with fail
    obtain ⟨s0, s1, s2, s3⟩ := set4 (.int .i64 0) (.int .i64 0) (.int .i64 0) (.slice none 0 0) z0 z1 z2 z3
    exact bodyPost_ret (v := .tuple #[.agg #[.int .i64 0, .int .i64 0, .int .i64 0, .slice none 0 0], .int .i64 230]) (by simp [results, Try.results6, go_sem, s0, s1, s2, s3]) rfl ⟨.inr ⟨hno.out, rfl⟩, below4 hB5 (Nat.le_refl _) _ _ _ _⟩
  · have hbc := Lib.hid (rbuild_ok 0 (F 1) (F 2) a1 m p1 rb off (fun i => F (8 + i)) V (by omega) (by omega) (by omega) (by omega) hld.out)
    go_wp2_with fail
    refine hbc.out.mono ?_
    rintro e w5 ⟨g, cg, rfl, hg1, hg2, hown5, hg3, hg4, hb5⟩
    have hlt : ∀ i, (pkL (F 1) (F 2) m (pkC (F 1) (F 2) m (fun i => F (8 + i))) (fun i => F (8 + i))).getD i 0 < 256 := pkL_lt (by omega) (by omega) (by omega) (by unfold pkC; omega) (fun i hi => (hb.out (8 + i) (by have := hn8H.out; omega)).2)
    have e1 : BytesAt w5 g 0 (8 + m) (fun i => FpK (F 1) (F 2) m (pkC (F 1) (F 2) m (fun i => F (8 + i))) (fun i => F (8 + i)) i) := fun i hi => by
      refine ⟨?_, hlt i⟩
      rw [Nat.zero_add, hown5.cellAt i (by omega)]
      exact bvals_at _ i (by rw [pkL_len]; omega)
    have e2 : BytesAt w5 b o n F := fun i hi => ⟨(hb5.cell (p := ⟨b, o + i, none⟩) (show b < V.heap.size by have := hBW.size; omega)).trans (hbV.out i hi).1, (hbV.out i hi).2⟩
    have g1 := conv_argK (cap := cg) (a := some ⟨g, 0, none⟩) (n := 8 + m) (w := w5) (fun _ => ⟨g, 0, rfl, hg4, e1⟩)
    have g2 := conv_argK (cap := cap) (a := some ⟨b, o, none⟩) (n := n) (w := w5) (fun _ => ⟨b, o, rfl, by have := hBW.size; have := hb5.size; omega, e2⟩)
    have hiff := bstr_eqK (n1 := 8 + m) (n2 := n) (f1 := fun i => FpK (F 1) (F 2) m (pkC (F 1) (F 2) m (fun i => F (8 + i))) (fun i => F (8 + i)) i) (f2 := F) (fun i hi => hlt i) (fun i hi => (hb.out i hi).2)
    have hgi : bstrK (8 + m) (fun i => FpK (F 1) (F 2) m (pkC (F 1) (F 2) m (fun i => F (8 + i))) (fun i => F (8 + i)) i) = bstrK n F ↔ goodF n F := by
      rw [hiff]
      have hq := good_iff (n := n) (F := F) (fun i hi => (hb.out i hi).2) h8 (by have := hn8H.out; omega) (by omega) (by omega)
      rw [hmH.out] at hq
      rw [← hq, hn8H.out]
      exact ⟨fun h => h.2, fun h => ⟨rfl, h⟩⟩
    generalize bstrK (8 + m) (fun i => FpK (F 1) (F 2) m (pkC (F 1) (F 2) m (fun i => F (8 + i))) (fun i => F (8 + i)) i) = S1 at g1 hgi
    generalize bstrK n F = S2 at g2 hgi
    have bz5 := bz4.out.bel hb5
    have bp5 := bp4.out.bel hb5
    have z0 := bz5.c 0 _ rfl
    have z1 := bz5.c 1 _ rfl
    have z2 := bz5.c 2 _ rfl
    have z3 := bz5.c 3 _ rfl
    have zf := bz5.f
    have u0 := bp5.c 0 _ rfl
    have u1 := bp5.c 1 _ rfl
    have u2 := bp5.c 2 _ rfl
    have u3 := bp5.c 3 _ rfl
    have hB5 := bNext hBW hb5 (by omega)
    clear hb5 hbc v0 v1 v2 v3 hown5 hlt e1 e2 hiff
    by_cases hS : S1 = S2
    · have hg := Lib.hid (hgi.1 hS)
      subst hS
      clear hgi
      go_wp2_with fail
      obtain ⟨s0, s1, s2, s3⟩ := set4 (.int .i64 0) (.int .i64 (F 1 : Nat)) (.int .i64 (F 2 : Nat)) (.slice a1 m p1) z0 z1 z2 z3
      exact bodyPost_ret (v := .tuple #[.agg #[.int .i64 0, .int .i64 (F 1 : Nat), .int .i64 (F 2 : Nat), .slice a1 m p1], .int .i64 0]) (by simp [results, Try.results6, go_sem, s0, s1, s2, s3]) rfl ⟨.inl ⟨hg.out, _, _, _, rfl⟩, below4 hB5 (Nat.le_refl _) _ _ _ _⟩
    · have hg := Lib.hid (fun q => hS (hgi.2 q))
      have hSn := ba_neK hS
      have hSb : (S1.toList == S2.toList) = false := by simpa using hSn
      clear hgi hS
      go_wp2_with fail
      obtain ⟨s0, s1, s2, s3⟩ := set4 (.int .i64 0) (.int .i64 0) (.int .i64 0) (.slice none 0 0) z0 z1 z2 z3
      exact bodyPost_ret (v := .tuple #[.agg #[.int .i64 0, .int .i64 0, .int .i64 0, .slice none 0 0], .int .i64 230]) (by simp [results, Try.results6, go_sem, s0, s1, s2, s3]) rfl ⟨.inr ⟨hg.out, rfl⟩, below4 hB5 (Nat.le_refl _) _ _ _ _⟩
end Go.Proofs.Ytjdkpoggcpckcaa
