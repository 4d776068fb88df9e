/- Messages with entries and bytes: what says the same is the same. -/
import Derived.Test.YtnokojobiaddmaaP4
import Derived.Laws.BytesArg
namespace Go.Proofs.Ytnokojobiaddmaa
open Go.ChangeShapes Go.WideShapes Go.ChangeAt Go.RowKit
set_option linter.unusedVariables false
set_option linter.unusedSimpArgs false
open BigFrame Bs By Am

namespace Am
theorem HT.drew {u : World} {b : Nat} {cs : Array Value} {t : TypeId} (h : HT u b cs t) : HT u.drew b cs t := ⟨h.h⟩
theorem put5 {u : World} {b : Nat} {a0 a1 a2 a3 a4 : Value} (h : HT u b #[a0, a1, a2, a3, a4] 69) (v0 v1 v2 v3 v4 : Value) : HT (((((u.setCell ⟨b, 0, none⟩ (v0)).setCell ⟨b, 1, none⟩ (v1)).setCell ⟨b, 2, none⟩ (v2)).setCell ⟨b, 3, none⟩ (v3)).setCell ⟨b, 4, none⟩ (v4)) b #[v0, v1, v2, v3, v4] 69 ∧ (∀ q cs t, q ≠ b → HT u q cs t → HT (((((u.setCell ⟨b, 0, none⟩ (v0)).setCell ⟨b, 1, none⟩ (v1)).setCell ⟨b, 2, none⟩ (v2)).setCell ⟨b, 3, none⟩ (v3)).setCell ⟨b, 4, none⟩ (v4)) q cs t) ∧ Ty 5 u (((((u.setCell ⟨b, 0, none⟩ (v0)).setCell ⟨b, 1, none⟩ (v1)).setCell ⟨b, 2, none⟩ (v2)).setCell ⟨b, 3, none⟩ (v3)).setCell ⟨b, 4, none⟩ (v4)) ∧ ∀ (m : Nat) (w : World), Below m w u → m ≤ b → Below m w (((((u.setCell ⟨b, 0, none⟩ (v0)).setCell ⟨b, 1, none⟩ (v1)).setCell ⟨b, 2, none⟩ (v2)).setCell ⟨b, 3, none⟩ (v3)).setCell ⟨b, 4, none⟩ (v4)) := by
  have h1 : HT (u.setCell ⟨b, 0, none⟩ (v0)) b #[v0, a1, a2, a3, a4] 69 := h.set 0 v0
  have h2 : HT ((u.setCell ⟨b, 0, none⟩ (v0)).setCell ⟨b, 1, none⟩ (v1)) b #[v0, v1, a2, a3, a4] 69 := h1.set 1 v1
  have h3 : HT (((u.setCell ⟨b, 0, none⟩ (v0)).setCell ⟨b, 1, none⟩ (v1)).setCell ⟨b, 2, none⟩ (v2)) b #[v0, v1, v2, a3, a4] 69 := h2.set 2 v2
  have h4 : HT ((((u.setCell ⟨b, 0, none⟩ (v0)).setCell ⟨b, 1, none⟩ (v1)).setCell ⟨b, 2, none⟩ (v2)).setCell ⟨b, 3, none⟩ (v3)) b #[v0, v1, v2, v3, a4] 69 := h3.set 3 v3
  have h5 : HT (((((u.setCell ⟨b, 0, none⟩ (v0)).setCell ⟨b, 1, none⟩ (v1)).setCell ⟨b, 2, none⟩ (v2)).setCell ⟨b, 3, none⟩ (v3)).setCell ⟨b, 4, none⟩ (v4)) b #[v0, v1, v2, v3, v4] 69 := h4.set 4 v4
  refine ⟨h5, fun q cs t hq hh => ?_, ?_, fun m w hb hm => ?_⟩
  · exact (((((hh.other (o := 0) hq v0).other (o := 1) hq v1).other (o := 2) hq v2).other (o := 3) hq v3).other (o := 4) hq v4)
  · exact (((((h.ty (o := 0) u8_ne_entry v0).trans (h1.ty (o := 1) u8_ne_entry v1)).trans (h2.ty (o := 2) u8_ne_entry v2)).trans (h3.ty (o := 3) u8_ne_entry v3)).trans (h4.ty (o := 4) u8_ne_entry v4))
  · exact (((((hb.setCell (p := ⟨b, 0, none⟩) hm v0).setCell (p := ⟨b, 1, none⟩) hm v1).setCell (p := ⟨b, 2, none⟩) hm v2).setCell (p := ⟨b, 3, none⟩) hm v3).setCell (p := ⟨b, 4, none⟩) hm v4)
def bs (d : List Nat) : ByteArray := strOfNums (d.map fun x : Nat => (x : Int))
theorem conv_byt {w : World} {a : Option Addr} {n cap : Nat} {d : List Nat} (h : Byt w a n cap d) : (convert 30 9 (.slice a n cap)).run Try.prog w = .ok (.string (bs d)) w := by
  by_cases hn : n = 0
  · have hd : d = [] := List.eq_nil_of_length_eq_zero (by rw [← h.len]; exact hn)
    subst hn; subst hd
    cases a with
    | none => exact run_convert_bytes_nil w 30 5 Try.underlying30 Try.underlying5 _ _ _ Try.underlying9
    | some ad => exact run_convert_bytes_back w 30 9 5 ad cap [] Try.underlying30 Try.underlying5 Try.underlying9 (fun j hj => absurd hj (by simp))
  · obtain ⟨b, off, rfl, _, hb⟩ := h.row (by omega)
    refine run_convert_bytes_arg w 30 5 Try.underlying30 Try.underlying5 b off n cap _ (by simp [h.len]) (fun i hi => ?_) _ Try.underlying9
    have hi' : i < d.length := by rw [← h.len]; exact hi
    rw [(hb i _ (List.getElem?_eq_getElem hi')).1]
    simp [List.getD, hi']
/-- The string of bytes, as a letter. -/
theorem conv_ex (d : List Nat) : ∃ S, ∀ w a n cap, Byt w a n cap d → (convert 30 9 (.slice a n cap)).run Try.prog w = .ok (.string S) w := ⟨bs d, fun w a n cap h => conv_byt h⟩
theorem Byt.ty' {w w' : World} {a : Option Addr} {n cap : Nat} {d : List Nat} (h : Byt w a n cap d) (k : ∀ b o v, w.cell? ⟨b, o, none⟩ = some v → w'.cell? ⟨b, o, none⟩ = some v) (hs : w.heap.size ≤ w'.heap.size) : Byt w' a n cap d :=
  ⟨h.len, h.le, h.mx, fun hn => by
    obtain ⟨b, o, ha, hb, hc⟩ := h.row hn
    exact ⟨b, o, ha, Nat.lt_of_lt_of_le hb hs, fun i x hx => ⟨k _ _ _ (hc i x hx).1, (hc i x hx).2⟩⟩⟩
end Am

set_option maxRecDepth 100000 in
set_option maxHeartbeats 8000000 in
theorem sameEs_c (a a' : Option Addr) (n c n' c' : Nat) (l : List En) (w : World) (h : LA w a n c l) (h' : LA w a' n' c' l) :
    Calls Try.prog 44 #[.slice a n c, .slice a' n' c'] w fun e w' => e = .returned (.bool true) ∧ Below w.heap.size w w' := by
  have b1 : (n : Int) ≤ 9223372036854775807 := by have := h.le; have := h.mx; omega
  obtain rfl : n = n' := by rw [h.len, h'.len]
  have H1 := Lib.hid h.len
  go_enter Try.func44, Try.ntmps44
  go_wp2_with fail
  go_loopw [5] (fun i wr => ∃ k : Nat, k ≤ n ∧ i = .int .i64 (k : Nat) ∧ Below w.heap.size w wr) (fun i _ => n - (intOf i).toNat)
  case atStart => exact ⟨0, by omega, rfl, Below.refl _ _⟩
  case round =>
    obtain ⟨k, hk, rfl, hB⟩ := hrel
    by_cases hlt : k < n
    · have hlt' : (k : Int) < (n : Int) := by omega
      obtain ⟨y, hy⟩ : ∃ y, l[k]? = some y := ⟨_, List.getElem?_eq_getElem (show k < l.length by have := H1.out; omega)⟩
      obtain ⟨b, o, xa, xn, xc, rfl, hb, x0, x1, x2, x3, x4, hbx⟩ := (h.bel hB).ent hy
      obtain ⟨b', o', za, zn, zc, rfl, hb', z0, z1, z2, z3, z4, hbz⟩ := (h'.bel hB).ent hy
      obtain ⟨S, hS⟩ := conv_ex y.d
      have S1 := Lib.hid (fun u (hu : Below wr.heap.size wr u) => hS _ _ _ _ (hbx.bel hu))
      have S2 := Lib.hid (fun u (hu : Below wr.heap.size wr u) => hS _ _ _ _ (hbz.bel hu))
      have HB := Lib.hid hB
      clear hy hbx hbz hS hB
      go_wp2_with fail
      refine wp_region_noPanic ?_
      refine Stg.wp_region_L [] (fun _ u => Below wr.heap.size wr u) (by kernel_rfl) ((Below.refl _ _).drew) (fun hHeld => ?_)
      refine Stg.wpAnyL_start (n' := 12) (l' := #[false, false, false, false, false, false, false, false, false, false, false, false]) (by kernel_rfl) (by kernel_rfl) ?_
      refine Stg.wpAnyL_free (i := 0) (v := ?_) 0 rfl (by kernel_rfl) (by kernel_rfl) (by kernel_rfl) (by kernel_rfl) (by kernel_rfl) (fun _ _ _ h => h) (Or.inl ⟨by kernel_rfl, ?_⟩) (by assumption) ?_
      rotate_left
      · intro u _
        try simp only [List.getElem_toArray, List.getElem_cons_succ, List.getElem_cons_zero]
        go_simp
        try with_reducible rfl
      try simp only [Act.put, List.setIfInBounds_toArray, List.set_cons_zero, List.set_cons_succ]
      refine Stg.wpAnyL_free (i := 1) (v := ?_) 0 rfl (by kernel_rfl) (by kernel_rfl) (by kernel_rfl) (by kernel_rfl) (by kernel_rfl) (fun _ _ _ h => h) (Or.inl ⟨by kernel_rfl, ?_⟩) (by assumption) ?_
      rotate_left
      · intro u _
        try simp only [List.getElem_toArray, List.getElem_cons_succ, List.getElem_cons_zero]
        go_simp
        try with_reducible rfl
      try simp only [Act.put, List.setIfInBounds_toArray, List.set_cons_zero, List.set_cons_succ]
      refine Stg.wpAnyL_free (i := 2) (v := ?_) 0 rfl (by kernel_rfl) (by kernel_rfl) (by kernel_rfl) (by kernel_rfl) (by kernel_rfl) (fun _ _ _ h => h) (Or.inl ⟨by kernel_rfl, ?_⟩) (by assumption) ?_
      rotate_left
      · intro u _
        try simp only [List.getElem_toArray, List.getElem_cons_succ, List.getElem_cons_zero]
        go_simp
        try with_reducible rfl
      try simp only [Act.put, List.setIfInBounds_toArray, List.set_cons_zero, List.set_cons_succ]
      refine Stg.wpAnyL_start (n' := 9) (l' := #[true, true, true, false, false, false, false, false, false, false, false, false]) (by kernel_rfl) (by kernel_rfl) ?_
      refine Stg.wpAnyL_take (i := 3) (v := ?_) [10, 11] 0 rfl (by kernel_rfl) (by kernel_rfl) (by kernel_rfl) (by kernel_rfl) (by kernel_rfl) (fun _ _ _ h => h) (Or.inl ⟨by kernel_rfl, ?_⟩) (by assumption) ?_
      rotate_left
      · intro u hSu
        skip
        have y0 := cellB hSu x0
        have y1 := cellB hSu x1
        have y2 := cellB hSu x2
        have y3 := cellB hSu x3
        have y4 := cellB hSu x4
        have w0 := cellB hSu z0
        have w1 := cellB hSu z1
        have w2 := cellB hSu z2
        have w3 := cellB hSu z3
        have w4 := cellB hSu z4
        try simp only [List.getElem_toArray, List.getElem_cons_succ, List.getElem_cons_zero]
        go_simp
        try with_reducible rfl
      try simp only [Act.put, List.setIfInBounds_toArray, List.set_cons_zero, List.set_cons_succ]
      refine Stg.wpAnyL_free (i := 4) (v := ?_) 0 rfl (by kernel_rfl) (by kernel_rfl) (by kernel_rfl) (by kernel_rfl) (by kernel_rfl) (fun _ _ _ h => h) (Or.inl ⟨by kernel_rfl, ?_⟩) (by assumption) ?_
      rotate_left
      · intro u _
        try simp only [List.getElem_toArray, List.getElem_cons_succ, List.getElem_cons_zero]
        go_simp
        try with_reducible rfl
      try simp only [Act.put, List.setIfInBounds_toArray, List.set_cons_zero, List.set_cons_succ]
      refine Stg.wpAnyL_free (i := 5) (v := ?_) 0 rfl (by kernel_rfl) (by kernel_rfl) (by kernel_rfl) (by kernel_rfl) (by kernel_rfl) (fun _ _ _ h => h) (Or.inl ⟨by kernel_rfl, ?_⟩) (by assumption) ?_
      rotate_left
      · intro u _
        try simp only [List.getElem_toArray, List.getElem_cons_succ, List.getElem_cons_zero]
        go_simp
        try with_reducible rfl
      try simp only [Act.put, List.setIfInBounds_toArray, List.set_cons_zero, List.set_cons_succ]
      refine Stg.wpAnyL_start (n' := 6) (l' := #[true, true, true, true, true, true, false, false, false, false, false, false]) (by kernel_rfl) (by kernel_rfl) ?_
      refine Stg.wpAnyL_free (i := 6) (v := ?_) 0 rfl (by kernel_rfl) (by kernel_rfl) (by kernel_rfl) (by kernel_rfl) (by kernel_rfl) (fun _ _ _ h => h) (Or.inl ⟨by kernel_rfl, ?_⟩) (by assumption) ?_
      rotate_left
      · intro u _
        try simp only [List.getElem_toArray, List.getElem_cons_succ, List.getElem_cons_zero]
        go_simp
        try with_reducible rfl
      try simp only [Act.put, List.setIfInBounds_toArray, List.set_cons_zero, List.set_cons_succ]
      refine Stg.wpAnyL_take (i := 7) (v := ?_) [11] 0 rfl (by kernel_rfl) (by kernel_rfl) (by kernel_rfl) (by kernel_rfl) (by kernel_rfl) (fun _ _ _ h => h) (Or.inl ⟨by kernel_rfl, ?_⟩) (by assumption) ?_
      rotate_left
      · intro u hSu
        skip
        have y0 := cellB hSu x0
        have y1 := cellB hSu x1
        have y2 := cellB hSu x2
        have y3 := cellB hSu x3
        have y4 := cellB hSu x4
        have w0 := cellB hSu z0
        have w1 := cellB hSu z1
        have w2 := cellB hSu z2
        have w3 := cellB hSu z3
        have w4 := cellB hSu z4
        try simp only [List.getElem_toArray, List.getElem_cons_succ, List.getElem_cons_zero]
        go_simp
        try with_reducible rfl
      try simp only [Act.put, List.setIfInBounds_toArray, List.set_cons_zero, List.set_cons_succ]
      refine Stg.wpAnyL_two (i := 8) (k := 9) 0 0 rfl rfl (by kernel_rfl) (by kernel_rfl) (by kernel_rfl) (fun K hK => ?_) (fun K hK => ?_)
      · try simp only [List.getElem_toArray, List.getElem_cons_succ, List.getElem_cons_zero]
        go_simp
        refine hK.out _ _ ?_ (fun hHeld1 => ?_)
        · exact Below.alloc hHeld (by simp) _
        clear hK K
        try simp only [Act.put, List.setIfInBounds_toArray, List.set_cons_zero, List.set_cons_succ]
        refine Stg.wpAnyL_start (n' := 3) (l' := #[true, true, true, true, true, true, true, true, true, false, false, false]) (by kernel_rfl) (by kernel_rfl) ?_
        refine Stg.wpAnyL_one (i := 9) 0 rfl (by kernel_rfl) (by kernel_rfl) (fun K hK => ?_)
        try simp only [List.getElem_toArray, List.getElem_cons_succ, List.getElem_cons_zero]
        go_simp
        refine hK.out _ _ ?_ (fun hHeld2 => ?_)
        · exact Below.alloc hHeld1 (by simp) _
        clear hK K
        try simp only [Act.put, List.setIfInBounds_toArray, List.set_cons_zero, List.set_cons_succ]
        refine Stg.wpAnyL_one (i := 10) 0 rfl (by kernel_rfl) (by kernel_rfl) (fun K hK => ?_)
        have hbz : Below wr.heap.size wr ((wr.alloc (.cells #[.int .i64 0, .int .i8 0, .int .i64 0, .int .u8 0, .slice none 0 0] 69)).alloc (.cells #[.int .i64 0, .int .i8 0, .int .i64 0, .int .u8 0, .slice none 0 0] 69)).drew := hHeld2
        have t6 : HT ((wr.alloc (.cells #[.int .i64 0, .int .i8 0, .int .i64 0, .int .u8 0, .slice none 0 0] 69)).alloc (.cells #[.int .i64 0, .int .i8 0, .int .i64 0, .int .u8 0, .slice none 0 0] 69)).drew wr.heap.size #[.int .i64 0, .int .i8 0, .int .i64 0, .int .u8 0, .slice none 0 0] 69 := ((HT.new wr #[.int .i64 0, .int .i8 0, .int .i64 0, .int .u8 0, .slice none 0 0] 69).bel ((Below.refl _ _).alloc (Nat.le_refl _) _)).drew
        have t7 : HT ((wr.alloc (.cells #[.int .i64 0, .int .i8 0, .int .i64 0, .int .u8 0, .slice none 0 0] 69)).alloc (.cells #[.int .i64 0, .int .i8 0, .int .i64 0, .int .u8 0, .slice none 0 0] 69)).drew (wr.heap.size + 1) #[.int .i64 0, .int .i8 0, .int .i64 0, .int .u8 0, .slice none 0 0] 69 := HT.drew (by have := HT.new (wr.alloc (.cells #[.int .i64 0, .int .i8 0, .int .i64 0, .int .u8 0, .slice none 0 0] 69)) #[.int .i64 0, .int .i8 0, .int .i64 0, .int .u8 0, .slice none 0 0] 69; simpa using this)
        generalize ((wr.alloc (.cells #[.int .i64 0, .int .i8 0, .int .i64 0, .int .u8 0, .slice none 0 0] 69)).alloc (.cells #[.int .i64 0, .int .i8 0, .int .i64 0, .int .u8 0, .slice none 0 0] 69)).drew = u2 at hbz t6 t7 ⊢
        obtain ⟨k1, k2, k3, k4⟩ := put5 t6 (.int .i64 y.term) (.int .i8 y.kind) (.int .i64 y.stamp) (.int .u8 y.set) (.slice xa xn xc)
        have t8 := k2 _ _ _ (by omega) t7
        obtain ⟨m1, m2, m3, m4⟩ := put5 t8 (.int .i64 y.term) (.int .i8 y.kind) (.int .i64 y.stamp) (.int .u8 y.set) (.slice za zn zc)
        have t9 := m2 _ _ _ (by omega) k1
        have hb8 := k4 _ _ hbz (by omega)
        have hb9 := m4 _ _ hb8 (by omega)
        replace hb8 := Lib.hid hb8
        clear k1 k2 k3 k4 m2 m3 m4 t8
        have q0 := t6.c 0 _ rfl
        have q1 := t6.c 1 _ rfl
        have q2 := t6.c 2 _ rfl
        have q3 := t6.c 3 _ rfl
        have q4 := t6.c 4 _ rfl
        have r0 := t7.c 0 _ rfl
        have r1 := t7.c 1 _ rfl
        have r2 := t7.c 2 _ rfl
        have r3 := t7.c 3 _ rfl
        have r4 := t7.c 4 _ rfl
        have qf := t6.f
        have rf := t7.f
        replace m1 := Lib.hid m1
        replace t9 := Lib.hid t9
        replace hb9 := Lib.hid hb9
        clear t6 t7
        try simp only [List.getElem_toArray, List.getElem_cons_succ, List.getElem_cons_zero]
        go_simp
        refine hK.out _ _ ?_ (fun hHeld3 => ?_)
        · exact hb8.out
        clear hK K
        try simp only [Act.put, List.setIfInBounds_toArray, List.set_cons_zero, List.set_cons_succ]
        refine Stg.wpAnyL_one (i := 11) 0 rfl (by kernel_rfl) (by kernel_rfl) (fun K hK => ?_)
        try simp only [List.getElem_toArray, List.getElem_cons_succ, List.getElem_cons_zero]
        go_simp
        refine hK.out _ _ ?_ (fun hHeld4 => ?_)
        · exact hb9.out
        clear hK K
        try simp only [Act.put, List.setIfInBounds_toArray, List.set_cons_zero, List.set_cons_succ]
        refine Stg.wpAnyL_done (by kernel_rfl) ?_ _
        try simp only [List.getElem_toArray, List.getElem_cons_succ, List.getElem_cons_zero]
        try simp only [Act.put, List.setIfInBounds_toArray, List.set_cons_zero, List.set_cons_succ]
        refine NoPanic.normal ?_
        have m1 := m1.out
        have t9 := t9.out
        have hb9 := hb9.out
        clear q0 q1 q2 q3 q4 r0 r1 r2 r3 r4 qf rf
        generalize ((((((((((u2.setCell ⟨wr.heap.size, 0, none⟩ (.int .i64 y.term)).setCell ⟨wr.heap.size, 1, none⟩ (.int .i8 y.kind)).setCell ⟨wr.heap.size, 2, none⟩ (.int .i64 y.stamp)).setCell ⟨wr.heap.size, 3, none⟩ (.int .u8 y.set)).setCell ⟨wr.heap.size, 4, none⟩ (.slice xa xn xc)).setCell ⟨(wr.heap.size + 1), 0, none⟩ (.int .i64 y.term)).setCell ⟨(wr.heap.size + 1), 1, none⟩ (.int .i8 y.kind)).setCell ⟨(wr.heap.size + 1), 2, none⟩ (.int .i64 y.stamp)).setCell ⟨(wr.heap.size + 1), 3, none⟩ (.int .u8 y.set)).setCell ⟨(wr.heap.size + 1), 4, none⟩ (.slice za zn zc)) = W9 at m1 t9 hb9 ⊢
        have q0 := t9.c 0 _ rfl
        have q1 := t9.c 1 _ rfl
        have q2 := t9.c 2 _ rfl
        have q3 := t9.c 3 _ rfl
        have q4 := t9.c 4 _ rfl
        have r0 := m1.c 0 _ rfl
        have r1 := m1.c 1 _ rfl
        have r2 := m1.c 2 _ rfl
        have r3 := m1.c 3 _ rfl
        have r4 := m1.c 4 _ rfl
        have g1 := S1.out _ hb9
        have g2 := S2.out _ hb9
        have hB9 := Lib.hid (bNext HB.out hb9 (Nat.le_refl _))
        clear m1 t9 hb9
        go_wp2_with fail
        go_roundw
        case rel => exact ⟨k + 1, by omega, by go_num, hB9.out⟩
        case measure => simp [intOf]; omega
      · try simp only [List.getElem_toArray, List.getElem_cons_succ, List.getElem_cons_zero]
        go_simp
        refine hK.out _ _ ?_ (fun hHeld1 => ?_)
        · exact Below.alloc hHeld (by simp) _
        clear hK K
        try simp only [Act.put, List.setIfInBounds_toArray, List.set_cons_zero, List.set_cons_succ]
        refine Stg.wpAnyL_start (n' := 3) (l' := #[true, true, true, true, true, true, true, true, false, true, false, false]) (by kernel_rfl) (by kernel_rfl) ?_
        refine Stg.wpAnyL_one (i := 8) 0 rfl (by kernel_rfl) (by kernel_rfl) (fun K hK => ?_)
        try simp only [List.getElem_toArray, List.getElem_cons_succ, List.getElem_cons_zero]
        go_simp
        refine hK.out _ _ ?_ (fun hHeld2 => ?_)
        · exact Below.alloc hHeld1 (by simp) _
        clear hK K
        try simp only [Act.put, List.setIfInBounds_toArray, List.set_cons_zero, List.set_cons_succ]
        refine Stg.wpAnyL_one (i := 10) 0 rfl (by kernel_rfl) (by kernel_rfl) (fun K hK => ?_)
        have hbz : Below wr.heap.size wr ((wr.alloc (.cells #[.int .i64 0, .int .i8 0, .int .i64 0, .int .u8 0, .slice none 0 0] 69)).alloc (.cells #[.int .i64 0, .int .i8 0, .int .i64 0, .int .u8 0, .slice none 0 0] 69)).drew := hHeld2
        have t6 : HT ((wr.alloc (.cells #[.int .i64 0, .int .i8 0, .int .i64 0, .int .u8 0, .slice none 0 0] 69)).alloc (.cells #[.int .i64 0, .int .i8 0, .int .i64 0, .int .u8 0, .slice none 0 0] 69)).drew (wr.heap.size + 1) #[.int .i64 0, .int .i8 0, .int .i64 0, .int .u8 0, .slice none 0 0] 69 := HT.drew (by have := HT.new (wr.alloc (.cells #[.int .i64 0, .int .i8 0, .int .i64 0, .int .u8 0, .slice none 0 0] 69)) #[.int .i64 0, .int .i8 0, .int .i64 0, .int .u8 0, .slice none 0 0] 69; simpa using this)
        have t7 : HT ((wr.alloc (.cells #[.int .i64 0, .int .i8 0, .int .i64 0, .int .u8 0, .slice none 0 0] 69)).alloc (.cells #[.int .i64 0, .int .i8 0, .int .i64 0, .int .u8 0, .slice none 0 0] 69)).drew wr.heap.size #[.int .i64 0, .int .i8 0, .int .i64 0, .int .u8 0, .slice none 0 0] 69 := ((HT.new wr #[.int .i64 0, .int .i8 0, .int .i64 0, .int .u8 0, .slice none 0 0] 69).bel ((Below.refl _ _).alloc (Nat.le_refl _) _)).drew
        generalize ((wr.alloc (.cells #[.int .i64 0, .int .i8 0, .int .i64 0, .int .u8 0, .slice none 0 0] 69)).alloc (.cells #[.int .i64 0, .int .i8 0, .int .i64 0, .int .u8 0, .slice none 0 0] 69)).drew = u2 at hbz t6 t7 ⊢
        obtain ⟨k1, k2, k3, k4⟩ := put5 t6 (.int .i64 y.term) (.int .i8 y.kind) (.int .i64 y.stamp) (.int .u8 y.set) (.slice xa xn xc)
        have t8 := k2 _ _ _ (by omega) t7
        obtain ⟨m1, m2, m3, m4⟩ := put5 t8 (.int .i64 y.term) (.int .i8 y.kind) (.int .i64 y.stamp) (.int .u8 y.set) (.slice za zn zc)
        have t9 := m2 _ _ _ (by omega) k1
        have hb8 := k4 _ _ hbz (by omega)
        have hb9 := m4 _ _ hb8 (by omega)
        replace hb8 := Lib.hid hb8
        clear k1 k2 k3 k4 m2 m3 m4 t8
        have q0 := t6.c 0 _ rfl
        have q1 := t6.c 1 _ rfl
        have q2 := t6.c 2 _ rfl
        have q3 := t6.c 3 _ rfl
        have q4 := t6.c 4 _ rfl
        have r0 := t7.c 0 _ rfl
        have r1 := t7.c 1 _ rfl
        have r2 := t7.c 2 _ rfl
        have r3 := t7.c 3 _ rfl
        have r4 := t7.c 4 _ rfl
        have qf := t6.f
        have rf := t7.f
        replace m1 := Lib.hid m1
        replace t9 := Lib.hid t9
        replace hb9 := Lib.hid hb9
        clear t6 t7
        try simp only [List.getElem_toArray, List.getElem_cons_succ, List.getElem_cons_zero]
        go_simp
        refine hK.out _ _ ?_ (fun hHeld3 => ?_)
        · exact hb8.out
        clear hK K
        try simp only [Act.put, List.setIfInBounds_toArray, List.set_cons_zero, List.set_cons_succ]
        refine Stg.wpAnyL_one (i := 11) 0 rfl (by kernel_rfl) (by kernel_rfl) (fun K hK => ?_)
        try simp only [List.getElem_toArray, List.getElem_cons_succ, List.getElem_cons_zero]
        go_simp
        refine hK.out _ _ ?_ (fun hHeld4 => ?_)
        · exact hb9.out
        clear hK K
        try simp only [Act.put, List.setIfInBounds_toArray, List.set_cons_zero, List.set_cons_succ]
        refine Stg.wpAnyL_done (by kernel_rfl) ?_ _
        try simp only [List.getElem_toArray, List.getElem_cons_succ, List.getElem_cons_zero]
        try simp only [Act.put, List.setIfInBounds_toArray, List.set_cons_zero, List.set_cons_succ]
        refine NoPanic.normal ?_
        have m1 := m1.out
        have t9 := t9.out
        have hb9 := hb9.out
        clear q0 q1 q2 q3 q4 r0 r1 r2 r3 r4 qf rf
        generalize ((((((((((u2.setCell ⟨(wr.heap.size + 1), 0, none⟩ (.int .i64 y.term)).setCell ⟨(wr.heap.size + 1), 1, none⟩ (.int .i8 y.kind)).setCell ⟨(wr.heap.size + 1), 2, none⟩ (.int .i64 y.stamp)).setCell ⟨(wr.heap.size + 1), 3, none⟩ (.int .u8 y.set)).setCell ⟨(wr.heap.size + 1), 4, none⟩ (.slice xa xn xc)).setCell ⟨wr.heap.size, 0, none⟩ (.int .i64 y.term)).setCell ⟨wr.heap.size, 1, none⟩ (.int .i8 y.kind)).setCell ⟨wr.heap.size, 2, none⟩ (.int .i64 y.stamp)).setCell ⟨wr.heap.size, 3, none⟩ (.int .u8 y.set)).setCell ⟨wr.heap.size, 4, none⟩ (.slice za zn zc)) = W9 at m1 t9 hb9 ⊢
        have q0 := t9.c 0 _ rfl
        have q1 := t9.c 1 _ rfl
        have q2 := t9.c 2 _ rfl
        have q3 := t9.c 3 _ rfl
        have q4 := t9.c 4 _ rfl
        have r0 := m1.c 0 _ rfl
        have r1 := m1.c 1 _ rfl
        have r2 := m1.c 2 _ rfl
        have r3 := m1.c 3 _ rfl
        have r4 := m1.c 4 _ rfl
        have g1 := S1.out _ hb9
        have g2 := S2.out _ hb9
        have hB9 := Lib.hid (bNext HB.out hb9 (Nat.le_refl _))
        clear m1 t9 hb9
        go_wp2_with fail
        go_roundw
        case rel => exact ⟨k + 1, by omega, by go_num, hB9.out⟩
        case measure => simp [intOf]; omega
    · obtain rfl : k = n := by omega
      go_wp2_with fail
      go_ret
      exact ⟨rfl, hB⟩
end Go.Proofs.Ytnokojobiaddmaa
