/- Entries with their bytes: are they the same (the reference's), are they many. -/
import Derived.Test.YtbiodlhiilmgkaaCt3
import Derived.Laws.BytesArg
namespace Go.Proofs.Ytbiodlhiilmgkaa
open Go.ChangeShapes Go.WideShapes Go.ChangeAt Go.RowKit
set_option linter.unusedVariables false
set_option linter.unusedSimpArgs false
open BigFrame Bs Rw Ct

namespace Ct
def bs (d : List Nat) : ByteArray := strOfNums (d.map fun x : Nat => (x : Int))
theorem strOfNums_size' (xs : List Int) : (strOfNums xs).size = xs.length := by simp [strOfNums, ByteArray.size]
theorem bs_eq {d d' : List Nat} (h : ∀ x ∈ d, x < 256) (h' : ∀ x ∈ d', x < 256) : bs d = bs d' ↔ d = d' := by
  constructor
  · intro e
    have e2 : (bs d).data.toList = (bs d').data.toList := by rw [e]
    simp only [bs, strOfNums, List.map_map] at e2
    have e3 : d.map (fun x => UInt8.ofNat x) = d'.map (fun x => UInt8.ofNat x) := by simpa [Function.comp_def] using e2
    have hl : d.length = d'.length := by simpa using congrArg List.length e3
    refine List.ext_getElem hl (fun i h1 h2 => ?_)
    have e4 := congrArg (fun l => l[i]?) e3
    simp [h1, h2] at e4
    have e5 := congrArg UInt8.toNat e4
    simp at e5
    have := h _ (List.getElem_mem h1)
    have := h' _ (List.getElem_mem h2)
    omega
  · rintro rfl; rfl
theorem ba_ne {a b : ByteArray} (h : ¬ a = b) : ¬ a.toList = b.toList := fun hh => h (by
  rw [ByteArray.toList_eq, ByteArray.toList_eq] at hh
  exact ByteArray.ext (Array.ext' hh))
theorem conv_byt {w : World} {a : Option Addr} {n cap : Nat} {d : List Nat} (h : Byt w a n cap d) : (convert 37 9 (.slice a n cap)).run Try.prog w = .ok (.string (bs d)) w := by
  by_cases hn : n = 0
  · have hd : d = [] := List.eq_nil_of_length_eq_zero (by rw [← h.len]; exact hn)
    subst hn; subst hd
    cases a with
    | none => exact run_convert_bytes_nil w 37 5 Try.underlying37 Try.underlying5 _ _ _ Try.underlying9
    | some ad => exact run_convert_bytes_back w 37 9 5 ad cap [] Try.underlying37 Try.underlying5 Try.underlying9 (fun j hj => absurd hj (by simp))
  · obtain ⟨b, off, rfl, _, hb⟩ := h.row (by omega)
    refine run_convert_bytes_arg w 37 5 Try.underlying37 Try.underlying5 b off n cap _ (by simp [h.len]) (fun i hi => ?_) _ Try.underlying9
    have hi' : i < d.length := by rw [← h.len]; exact hi
    rw [(hb i _ (List.getElem?_eq_getElem hi')).1]
    simp [List.getD, hi']
theorem en_eq (y y' : En) : y = y' ↔ (y.term = y'.term ∧ y.kind = y'.kind ∧ y.stamp = y'.stamp ∧ y.set = y'.set ∧ y.d = y'.d) := by
  cases y; cases y'; simp
def LongP (l : List En) (w : World) (e : Ending) (w' : World) : Prop := ∃ b : Bool, e = .returned (.bool b) ∧ (b = false → l.length ≤ 150) ∧ Below w.heap.size w w'
end Ct

set_option maxRecDepth 100000 in
set_option maxHeartbeats 1000000 in
theorem sameData_c (a a' : Option Addr) (n c n' c' : Nat) (d d' : List Nat) (w : World) (h : Byt w a n c d) (h' : Byt w a' n' c' d') :
    Calls Try.prog 36 #[.slice a n c, .slice a' n' c'] w fun e w' => e = .returned (.bool (decide (d = d'))) ∧ w = w' := by
  have g1 := conv_byt h
  have g2 := conv_byt h'
  have hiff := bs_eq h.lt h'.lt
  obtain ⟨S1, hS1⟩ : ∃ S, bs d = S := ⟨_, rfl⟩
  obtain ⟨S2, hS2⟩ : ∃ S, bs d' = S := ⟨_, rfl⟩
  rw [hS1, hS2] at hiff
  rw [hS1] at g1
  rw [hS2] at g2
  clear h h'
  by_cases hS : S1 = S2
  · have hE : decide (d = d') = true := decide_eq_true (hiff.1 hS)
    rw [hE]
    clear hE hiff hS1 hS2
    subst hS
    go_enter Try.func36, Try.ntmps36
    go_wp2_with fail
    exact bodyPost_ret (v := .bool true) (by simp [results, Try.results36, go_sem]) rfl ⟨rfl, rfl⟩
  · have hE : decide (d = d') = false := decide_eq_false (fun hh => hS (hiff.2 hh))
    have hSn := ba_ne hS
    have hSb : (S1.toList == S2.toList) = false := by simpa using hSn
    clear hS
    rw [hE]
    clear hE hiff hS1 hS2
    go_enter Try.func36, Try.ntmps36
    go_wp2_with fail
    exact bodyPost_ret (v := .bool false) (by simp [results, Try.results36, go_sem]) rfl ⟨rfl, rfl⟩

set_option maxRecDepth 100000 in
set_option maxHeartbeats 4000000 in
theorem sameEntry_c (y y' : En) (a a' : Option Addr) (n c n' c' : Nat) (w : World) (h : Byt w a n c y.d) (h' : Byt w a' n' c' y'.d) :
    Calls Try.prog 16 #[.agg #[.int .i64 y.term, .int .i8 y.kind, .int .i64 y.stamp, .int .u8 y.set, .slice a n c], .agg #[.int .i64 y'.term, .int .i8 y'.kind, .int .i64 y'.stamp, .int .u8 y'.set, .slice a' n' c']] w fun e w' => e = .returned (.bool (decide (y = y'))) ∧ Below w.heap.size w w' := by
  have hB : Below w.heap.size w ((w.alloc (.cells #[.int .i64 y.term, .int .i8 y.kind, .int .i64 y.stamp, .int .u8 y.set, .slice a n c] 39)).alloc (.cells #[.int .i64 y'.term, .int .i8 y'.kind, .int .i64 y'.stamp, .int .u8 y'.set, .slice a' n' c'] 39)) := ((Below.refl _ _).alloc (Nat.le_refl _) _).alloc (by simp) _
  have hc := Lib.hid (sameData_c a a' n c n' c' y.d y'.d _ (h.bel hB) (h'.bel hB))
  clear h h'
  have hE := en_eq y y'
  obtain ⟨v, hv⟩ : ∃ v, decide (y = y') = v := ⟨_, rfl⟩
  obtain ⟨v2, hv2⟩ : ∃ v, decide (y.d = y'.d) = v := ⟨_, rfl⟩
  rw [hv2] at hc
  rw [hv]
  obtain ⟨t, k, s, u, d⟩ := y
  obtain ⟨t', k', s', u', d'⟩ := y'
  simp only at hE hB hc hv2
  by_cases h1 : t = t'
  · subst h1
    by_cases h2 : k = k'
    · subst h2
      by_cases h3 : s = s'
      · subst h3
        by_cases h4 : u = u'
        · subst h4
          obtain rfl : v = v2 := by
            rw [← hv, ← hv2]
            rw [decide_eq_decide]
            exact ⟨fun q => (hE.1 q).2.2.2.2, fun q => hE.2 ⟨rfl, rfl, rfl, rfl, q⟩⟩
          clear hE hv hv2
          go_enter Try.func16, Try.ntmps16
          go_wp2_with fail
          refine hc.out.mono ?_
          rintro e w2 ⟨rfl, rfl⟩
          go_wp2_with fail
          go_ret
          exact ⟨rfl, hB⟩
        · obtain rfl : v = false := by rw [← hv]; exact decide_eq_false (fun q => h4 (hE.1 q).2.2.2.1)
          have hb : (u == u') = false := by simpa using h4
          clear hE hv hv2 h4 hc
          go_enter Try.func16, Try.ntmps16
          go_wp2_with fail
          go_ret
          exact ⟨rfl, hB⟩
      · obtain rfl : v = false := by rw [← hv]; exact decide_eq_false (fun q => h3 (hE.1 q).2.2.1)
        have hb : (s == s') = false := by simpa using h3
        clear hE hv hv2 h3 hc
        go_enter Try.func16, Try.ntmps16
        go_wp2_with fail
        go_ret
        exact ⟨rfl, hB⟩
    · obtain rfl : v = false := by rw [← hv]; exact decide_eq_false (fun q => h2 (hE.1 q).2.1)
      have hb : (k == k') = false := by simpa using h2
      clear hE hv hv2 h2 hc
      go_enter Try.func16, Try.ntmps16
      go_wp2_with fail
      go_ret
      exact ⟨rfl, hB⟩
  · obtain rfl : v = false := by rw [← hv]; exact decide_eq_false (fun q => h1 (hE.1 q).1)
    have hb : (t == t') = false := by simpa using h1
    clear hE hv hv2 h1 hc
    go_enter Try.func16, Try.ntmps16
    go_wp2_with fail
    go_ret
    exact ⟨rfl, hB⟩

set_option maxRecDepth 100000 in
set_option maxHeartbeats 4000000 in
theorem sameEntries_c (a a' : Option Addr) (n c n' c' : Nat) (l l' : List En) (w : World) (h : LAt w a n c l) (h' : LAt w a' n' c' l') :
    Calls Try.prog 23 #[.slice a n c, .slice a' n' c'] w fun e w' => e = .returned (.bool (decide (l = l'))) ∧ Below w.heap.size w w' := by
  have hl := h.len
  have hl' := h'.len
  have b1 : (n : Int) ≤ 9223372036854775807 := by have := h.le; have := h.mx; omega
  by_cases hn : n = n'
  · subst hn
    have H1 := Lib.hid hl
    have H2 := Lib.hid hl'
    clear hl hl'
    go_enter Try.func23, Try.ntmps23
    go_wp2_with fail
    go_loopw [5] (fun i wr => ∃ k : Nat, k ≤ n ∧ i = .int .i64 (k : Nat) ∧ l.take k = l'.take k ∧ Below w.heap.size w wr) (fun i _ => n - (intOf i).toNat)
    case atStart => exact ⟨0, by omega, rfl, rfl, Below.refl _ _⟩
    case round =>
      obtain ⟨k, hk, rfl, hsame, hB⟩ := hrel
      by_cases hlt : k < n
      · have hlt' : (k : Int) < (n : Int) := by omega
        obtain ⟨y, hy⟩ : ∃ y, l[k]? = some y := ⟨_, List.getElem?_eq_getElem (show k < l.length by have := H1.out; omega)⟩
        obtain ⟨y', hy'⟩ : ∃ y, l'[k]? = some y := ⟨_, List.getElem?_eq_getElem (show k < l'.length by have := H2.out; omega)⟩
        obtain ⟨b, o, x, rfl, hb, hx, hhas⟩ := (h.bel hB).ent hy
        obtain ⟨b', o', x', rfl, hb', hx', hhas'⟩ := (h'.bel hB).ent hy'
        obtain ⟨x0, x1, x2, x3, x4⟩ := hx
        obtain ⟨z0, z1, z2, z3, z4⟩ := hx'
        rw [hhas.t] at x0
        rw [hhas.k] at x1
        rw [hhas.s] at x2
        rw [hhas.u] at x3
        rw [hhas'.t] at z0
        rw [hhas'.k] at z1
        rw [hhas'.s] at z2
        rw [hhas'.u] at z3
        have hc := Lib.hid (fun u (hu : Below wr.heap.size wr u) => sameEntry_c y y' x.da x'.da x.dl x.dc x'.dl x'.dc u (hhas.d.bel hu) (hhas'.d.bel hu))
        have S1 := Lib.hid hsame
        have Y1 := Lib.hid hy
        have Y2 := Lib.hid hy'
        have HB := Lib.hid hB
        clear hsame hy hy' hhas hhas' hB
        by_cases he : y = y'
        · have hE : decide (y = y') = true := decide_eq_true he
          rw [hE] at hc
          have HE := Lib.hid he
          clear he hE
          go_wp2_with fail
          refine wp_region_noPanic ?_
          refine Stg.wp_region_L [] (Bs.SB wr) (by kernel_rfl) (fun _ => (Below.refl _ _).drew) (fun hHeld => ?_)
          refine Stg.wpAnyL_start (n' := 10) (l' := #[false, false, false, false, false, false, false, false, false, false]) (by kernel_rfl) (by kernel_rfl) ?_
          refine Stg.wpAnyL_free (i := 0) (v := ?_) 0 rfl (by kernel_rfl) (by kernel_rfl) (by kernel_rfl) (by kernel_rfl) (by kernel_rfl) (fun _ _ _ h => h) (Or.inl ⟨by kernel_rfl, ?_⟩) (by assumption) ?_
          rotate_left
          · intro u _
            try simp only [List.getElem_toArray, List.getElem_cons_succ, List.getElem_cons_zero]
            go_simp
            try with_reducible rfl
          try simp only [Act.put, List.setIfInBounds_toArray, List.set_cons_zero, List.set_cons_succ]
          refine Stg.wpAnyL_free (i := 1) (v := ?_) 0 rfl (by kernel_rfl) (by kernel_rfl) (by kernel_rfl) (by kernel_rfl) (by kernel_rfl) (fun _ _ _ h => h) (Or.inl ⟨by kernel_rfl, ?_⟩) (by assumption) ?_
          rotate_left
          · intro u _
            try simp only [List.getElem_toArray, List.getElem_cons_succ, List.getElem_cons_zero]
            go_simp
            try with_reducible rfl
          try simp only [Act.put, List.setIfInBounds_toArray, List.set_cons_zero, List.set_cons_succ]
          refine Stg.wpAnyL_free (i := 2) (v := ?_) 0 rfl (by kernel_rfl) (by kernel_rfl) (by kernel_rfl) (by kernel_rfl) (by kernel_rfl) (fun _ _ _ h => h) (Or.inl ⟨by kernel_rfl, ?_⟩) (by assumption) ?_
          rotate_left
          · intro u _
            try simp only [List.getElem_toArray, List.getElem_cons_succ, List.getElem_cons_zero]
            go_simp
            try with_reducible rfl
          try simp only [Act.put, List.setIfInBounds_toArray, List.set_cons_zero, List.set_cons_succ]
          refine Stg.wpAnyL_start (n' := 7) (l' := #[true, true, true, false, false, false, false, false, false, false]) (by kernel_rfl) (by kernel_rfl) ?_
          refine Stg.wpAnyL_take (i := 3) (v := ?_) [8, 9] 0 rfl (by kernel_rfl) (by kernel_rfl) (by kernel_rfl) (by kernel_rfl) (by kernel_rfl) (fun _ _ _ h => h) (Or.inl ⟨by kernel_rfl, ?_⟩) (by assumption) ?_
          rotate_left
          · intro u hSu
            skip
            have sB := hSu rfl
            have y0 := cellB sB x0
            have y1 := cellB sB x1
            have y2 := cellB sB x2
            have y3 := cellB sB x3
            have y4 := cellB sB x4
            have y5 := cellB sB z0
            have y6 := cellB sB z1
            have y7 := cellB sB z2
            have y8 := cellB sB z3
            have y9 := cellB sB z4
            try simp only [List.getElem_toArray, List.getElem_cons_succ, List.getElem_cons_zero]
            go_simp
            try with_reducible rfl
          try simp only [Act.put, List.setIfInBounds_toArray, List.set_cons_zero, List.set_cons_succ]
          refine Stg.wpAnyL_free (i := 4) (v := ?_) 0 rfl (by kernel_rfl) (by kernel_rfl) (by kernel_rfl) (by kernel_rfl) (by kernel_rfl) (fun _ _ _ h => h) (Or.inl ⟨by kernel_rfl, ?_⟩) (by assumption) ?_
          rotate_left
          · intro u _
            try simp only [List.getElem_toArray, List.getElem_cons_succ, List.getElem_cons_zero]
            go_simp
            try with_reducible rfl
          try simp only [Act.put, List.setIfInBounds_toArray, List.set_cons_zero, List.set_cons_succ]
          refine Stg.wpAnyL_free (i := 5) (v := ?_) 0 rfl (by kernel_rfl) (by kernel_rfl) (by kernel_rfl) (by kernel_rfl) (by kernel_rfl) (fun _ _ _ h => h) (Or.inl ⟨by kernel_rfl, ?_⟩) (by assumption) ?_
          rotate_left
          · intro u _
            try simp only [List.getElem_toArray, List.getElem_cons_succ, List.getElem_cons_zero]
            go_simp
            try with_reducible rfl
          try simp only [Act.put, List.setIfInBounds_toArray, List.set_cons_zero, List.set_cons_succ]
          refine Stg.wpAnyL_start (n' := 4) (l' := #[true, true, true, true, true, true, false, false, false, false]) (by kernel_rfl) (by kernel_rfl) ?_
          refine Stg.wpAnyL_free (i := 6) (v := ?_) 0 rfl (by kernel_rfl) (by kernel_rfl) (by kernel_rfl) (by kernel_rfl) (by kernel_rfl) (fun _ _ _ h => h) (Or.inl ⟨by kernel_rfl, ?_⟩) (by assumption) ?_
          rotate_left
          · intro u _
            try simp only [List.getElem_toArray, List.getElem_cons_succ, List.getElem_cons_zero]
            go_simp
            try with_reducible rfl
          try simp only [Act.put, List.setIfInBounds_toArray, List.set_cons_zero, List.set_cons_succ]
          refine Stg.wpAnyL_take (i := 7) (v := ?_) [8, 9] 0 rfl (by kernel_rfl) (by kernel_rfl) (by kernel_rfl) (by kernel_rfl) (by kernel_rfl) (fun _ _ _ h => h) (Or.inl ⟨by kernel_rfl, ?_⟩) (by assumption) ?_
          rotate_left
          · intro u hSu
            skip
            have sB := hSu rfl
            have y0 := cellB sB x0
            have y1 := cellB sB x1
            have y2 := cellB sB x2
            have y3 := cellB sB x3
            have y4 := cellB sB x4
            have y5 := cellB sB z0
            have y6 := cellB sB z1
            have y7 := cellB sB z2
            have y8 := cellB sB z3
            have y9 := cellB sB z4
            try simp only [List.getElem_toArray, List.getElem_cons_succ, List.getElem_cons_zero]
            go_simp
            try with_reducible rfl
          try simp only [Act.put, List.setIfInBounds_toArray, List.set_cons_zero, List.set_cons_succ]
          refine Stg.wpAnyL_one (i := 8) 0 rfl (by kernel_rfl) (by kernel_rfl) (fun K hK => ?_)
          try simp only [List.getElem_toArray, List.getElem_cons_succ, List.getElem_cons_zero]
          go_simp
          refine (hc.out _ (hHeld rfl)).mono ?_
          rintro e w4 ⟨rfl, hb1⟩
          refine hK.out _ _ ?_ (fun hHeld1 => ?_)
          · exact fun _ => bNext (hHeld rfl) hb1 (Nat.le_refl _)
          clear hK K
          try simp only [Act.put, List.setIfInBounds_toArray, List.set_cons_zero, List.set_cons_succ]
          refine Stg.wpAnyL_start (n' := 1) (l' := #[true, true, true, true, true, true, true, true, true, false]) (by kernel_rfl) (by kernel_rfl) ?_
          refine Stg.wpAnyL_free (i := 9) (v := ?_) 0 rfl (by kernel_rfl) (by kernel_rfl) (by kernel_rfl) (by kernel_rfl) (by kernel_rfl) (fun _ _ _ h => h) (Or.inl ⟨by kernel_rfl, ?_⟩) (by assumption) ?_
          rotate_left
          · intro u _
            try simp only [List.getElem_toArray, List.getElem_cons_succ, List.getElem_cons_zero]
            go_simp
            try with_reducible rfl
          try simp only [Act.put, List.setIfInBounds_toArray, List.set_cons_zero, List.set_cons_succ]
          refine Stg.wpAnyL_done (by kernel_rfl) ?_ _
          try simp only [List.getElem_toArray, List.getElem_cons_succ, List.getElem_cons_zero]
          try simp only [Act.put, List.setIfInBounds_toArray, List.set_cons_zero, List.set_cons_succ]
          refine NoPanic.normal ?_
          have hB9 := bNext HB.out (hHeld1 rfl) (Nat.le_refl _)
          go_wp2_with fail
          go_roundw
          case rel => exact ⟨k + 1, by omega, by go_num, by rw [take_snocE Y1.out, take_snocE Y2.out, S1.out, HE.out], hB9⟩
          case measure => simp [intOf]; omega
        · have hE : decide (y = y') = false := decide_eq_false he
          rw [hE] at hc
          have HN := Lib.hid (show decide (l = l') = false from decide_eq_false (fun q => he (by have h1 := Y1.out; have h2 := Y2.out; rw [q, h2] at h1; exact (Option.some.inj h1).symm)))
          clear he hE
          go_wp2_with fail
          refine wp_region_noPanic ?_
          refine Stg.wp_region_L [] (Bs.SB wr) (by kernel_rfl) (fun _ => (Below.refl _ _).drew) (fun hHeld => ?_)
          refine Stg.wpAnyL_start (n' := 10) (l' := #[false, false, false, false, false, false, false, false, false, false]) (by kernel_rfl) (by kernel_rfl) ?_
          refine Stg.wpAnyL_free (i := 0) (v := ?_) 0 rfl (by kernel_rfl) (by kernel_rfl) (by kernel_rfl) (by kernel_rfl) (by kernel_rfl) (fun _ _ _ h => h) (Or.inl ⟨by kernel_rfl, ?_⟩) (by assumption) ?_
          rotate_left
          · intro u _
            try simp only [List.getElem_toArray, List.getElem_cons_succ, List.getElem_cons_zero]
            go_simp
            try with_reducible rfl
          try simp only [Act.put, List.setIfInBounds_toArray, List.set_cons_zero, List.set_cons_succ]
          refine Stg.wpAnyL_free (i := 1) (v := ?_) 0 rfl (by kernel_rfl) (by kernel_rfl) (by kernel_rfl) (by kernel_rfl) (by kernel_rfl) (fun _ _ _ h => h) (Or.inl ⟨by kernel_rfl, ?_⟩) (by assumption) ?_
          rotate_left
          · intro u _
            try simp only [List.getElem_toArray, List.getElem_cons_succ, List.getElem_cons_zero]
            go_simp
            try with_reducible rfl
          try simp only [Act.put, List.setIfInBounds_toArray, List.set_cons_zero, List.set_cons_succ]
          refine Stg.wpAnyL_free (i := 2) (v := ?_) 0 rfl (by kernel_rfl) (by kernel_rfl) (by kernel_rfl) (by kernel_rfl) (by kernel_rfl) (fun _ _ _ h => h) (Or.inl ⟨by kernel_rfl, ?_⟩) (by assumption) ?_
          rotate_left
          · intro u _
            try simp only [List.getElem_toArray, List.getElem_cons_succ, List.getElem_cons_zero]
            go_simp
            try with_reducible rfl
          try simp only [Act.put, List.setIfInBounds_toArray, List.set_cons_zero, List.set_cons_succ]
          refine Stg.wpAnyL_start (n' := 7) (l' := #[true, true, true, false, false, false, false, false, false, false]) (by kernel_rfl) (by kernel_rfl) ?_
          refine Stg.wpAnyL_take (i := 3) (v := ?_) [8, 9] 0 rfl (by kernel_rfl) (by kernel_rfl) (by kernel_rfl) (by kernel_rfl) (by kernel_rfl) (fun _ _ _ h => h) (Or.inl ⟨by kernel_rfl, ?_⟩) (by assumption) ?_
          rotate_left
          · intro u hSu
            skip
            have sB := hSu rfl
            have y0 := cellB sB x0
            have y1 := cellB sB x1
            have y2 := cellB sB x2
            have y3 := cellB sB x3
            have y4 := cellB sB x4
            have y5 := cellB sB z0
            have y6 := cellB sB z1
            have y7 := cellB sB z2
            have y8 := cellB sB z3
            have y9 := cellB sB z4
            try simp only [List.getElem_toArray, List.getElem_cons_succ, List.getElem_cons_zero]
            go_simp
            try with_reducible rfl
          try simp only [Act.put, List.setIfInBounds_toArray, List.set_cons_zero, List.set_cons_succ]
          refine Stg.wpAnyL_free (i := 4) (v := ?_) 0 rfl (by kernel_rfl) (by kernel_rfl) (by kernel_rfl) (by kernel_rfl) (by kernel_rfl) (fun _ _ _ h => h) (Or.inl ⟨by kernel_rfl, ?_⟩) (by assumption) ?_
          rotate_left
          · intro u _
            try simp only [List.getElem_toArray, List.getElem_cons_succ, List.getElem_cons_zero]
            go_simp
            try with_reducible rfl
          try simp only [Act.put, List.setIfInBounds_toArray, List.set_cons_zero, List.set_cons_succ]
          refine Stg.wpAnyL_free (i := 5) (v := ?_) 0 rfl (by kernel_rfl) (by kernel_rfl) (by kernel_rfl) (by kernel_rfl) (by kernel_rfl) (fun _ _ _ h => h) (Or.inl ⟨by kernel_rfl, ?_⟩) (by assumption) ?_
          rotate_left
          · intro u _
            try simp only [List.getElem_toArray, List.getElem_cons_succ, List.getElem_cons_zero]
            go_simp
            try with_reducible rfl
          try simp only [Act.put, List.setIfInBounds_toArray, List.set_cons_zero, List.set_cons_succ]
          refine Stg.wpAnyL_start (n' := 4) (l' := #[true, true, true, true, true, true, false, false, false, false]) (by kernel_rfl) (by kernel_rfl) ?_
          refine Stg.wpAnyL_free (i := 6) (v := ?_) 0 rfl (by kernel_rfl) (by kernel_rfl) (by kernel_rfl) (by kernel_rfl) (by kernel_rfl) (fun _ _ _ h => h) (Or.inl ⟨by kernel_rfl, ?_⟩) (by assumption) ?_
          rotate_left
          · intro u _
            try simp only [List.getElem_toArray, List.getElem_cons_succ, List.getElem_cons_zero]
            go_simp
            try with_reducible rfl
          try simp only [Act.put, List.setIfInBounds_toArray, List.set_cons_zero, List.set_cons_succ]
          refine Stg.wpAnyL_take (i := 7) (v := ?_) [8, 9] 0 rfl (by kernel_rfl) (by kernel_rfl) (by kernel_rfl) (by kernel_rfl) (by kernel_rfl) (fun _ _ _ h => h) (Or.inl ⟨by kernel_rfl, ?_⟩) (by assumption) ?_
          rotate_left
          · intro u hSu
            skip
            have sB := hSu rfl
            have y0 := cellB sB x0
            have y1 := cellB sB x1
            have y2 := cellB sB x2
            have y3 := cellB sB x3
            have y4 := cellB sB x4
            have y5 := cellB sB z0
            have y6 := cellB sB z1
            have y7 := cellB sB z2
            have y8 := cellB sB z3
            have y9 := cellB sB z4
            try simp only [List.getElem_toArray, List.getElem_cons_succ, List.getElem_cons_zero]
            go_simp
            try with_reducible rfl
          try simp only [Act.put, List.setIfInBounds_toArray, List.set_cons_zero, List.set_cons_succ]
          refine Stg.wpAnyL_one (i := 8) 0 rfl (by kernel_rfl) (by kernel_rfl) (fun K hK => ?_)
          try simp only [List.getElem_toArray, List.getElem_cons_succ, List.getElem_cons_zero]
          go_simp
          refine (hc.out _ (hHeld rfl)).mono ?_
          rintro e w4 ⟨rfl, hb1⟩
          refine hK.out _ _ ?_ (fun hHeld1 => ?_)
          · exact fun _ => bNext (hHeld rfl) hb1 (Nat.le_refl _)
          clear hK K
          try simp only [Act.put, List.setIfInBounds_toArray, List.set_cons_zero, List.set_cons_succ]
          refine Stg.wpAnyL_start (n' := 1) (l' := #[true, true, true, true, true, true, true, true, true, false]) (by kernel_rfl) (by kernel_rfl) ?_
          refine Stg.wpAnyL_free (i := 9) (v := ?_) 0 rfl (by kernel_rfl) (by kernel_rfl) (by kernel_rfl) (by kernel_rfl) (by kernel_rfl) (fun _ _ _ h => h) (Or.inl ⟨by kernel_rfl, ?_⟩) (by assumption) ?_
          rotate_left
          · intro u _
            try simp only [List.getElem_toArray, List.getElem_cons_succ, List.getElem_cons_zero]
            go_simp
            try with_reducible rfl
          try simp only [Act.put, List.setIfInBounds_toArray, List.set_cons_zero, List.set_cons_succ]
          refine Stg.wpAnyL_done (by kernel_rfl) ?_ _
          try simp only [List.getElem_toArray, List.getElem_cons_succ, List.getElem_cons_zero]
          try simp only [Act.put, List.setIfInBounds_toArray, List.set_cons_zero, List.set_cons_succ]
          refine NoPanic.normal ?_
          have hB9 := bNext HB.out (hHeld1 rfl) (Nat.le_refl _)
          go_wp2_with fail
          go_ret
          exact ⟨by rw [HN.out]; rfl, hB9⟩
      · obtain rfl : k = n := by omega
        have hE : decide (l = l') = true := decide_eq_true (by
          have e1 : l.take k = l := List.take_of_length_le (by rw [← H1.out]; exact Nat.le_refl _)
          have e2 : l'.take k = l' := List.take_of_length_le (by rw [← H2.out]; exact Nat.le_refl _)
          rw [e1, e2] at hsame
          exact hsame)
        replace hE := Lib.hid hE
        clear hsame
        go_wp2_with fail
        go_ret
        exact ⟨by rw [hE.out]; rfl, hB⟩
  · have hE : decide (l = l') = false := decide_eq_false (fun hh => hn (by rw [hl, hl', hh]))
    have hnb : (((n : Nat) : Int) != ((n' : Nat) : Int)) = true := by simp; omega
    rw [hE]
    clear hE hl hl'
    go_enter Try.func23, Try.ntmps23
    go_wp2_with fail
    go_ret
    exact ⟨rfl, Below.refl _ _⟩

set_option maxRecDepth 100000 in
set_option maxHeartbeats 4000000 in
/-- The reference's 'Same'. -/
theorem same09_c (b t b' t' : Int) (a a' : Option Addr) (n c n' c' : Nat) (l l' : List En) (w : World) (h : LAt w a n c l) (h' : LAt w a' n' c' l') :
    Calls Try.prog 12 #[.agg #[.int .i64 b, .int .i64 t, .slice a n c], .agg #[.int .i64 b', .int .i64 t', .slice a' n' c']] w fun e w' => e = .returned (.bool (decide (b = b' ∧ t = t' ∧ l = l'))) ∧ Below w.heap.size w w' := by
  have hB : Below w.heap.size w ((w.alloc (.cells #[.int .i64 b, .int .i64 t, .slice a n c] 24)).alloc (.cells #[.int .i64 b', .int .i64 t', .slice a' n' c'] 24)) := ((Below.refl _ _).alloc (Nat.le_refl _) _).alloc (by simp) _
  have hc := Lib.hid (sameEntries_c a a' n c n' c' l l' _ (h.bel hB) (h'.bel hB))
  clear h h'
  obtain ⟨v, hv⟩ : ∃ v, decide (b = b' ∧ t = t' ∧ l = l') = v := ⟨_, rfl⟩
  obtain ⟨v2, hv2⟩ : ∃ v, decide (l = l') = v := ⟨_, rfl⟩
  rw [hv2] at hc
  rw [hv]
  by_cases h1 : b = b'
  · subst h1
    by_cases h2 : t = t'
    · subst h2
      obtain rfl : v = v2 := by rw [← hv, ← hv2, decide_eq_decide]; simp
      clear hv hv2
      go_enter Try.func12, Try.ntmps12
      go_wp2_with fail
      refine hc.out.mono ?_
      rintro e w2 ⟨rfl, hb2⟩
      go_wp2_with fail
      go_ret
      exact ⟨rfl, bNext hB hb2 (Nat.le_refl _)⟩
    · obtain rfl : v = false := by rw [← hv]; exact decide_eq_false (fun q => h2 q.2.1)
      have hb : (t == t') = false := by simpa using h2
      clear hv hv2 h2 hc
      go_enter Try.func12, Try.ntmps12
      go_wp2_with fail
      go_ret
      exact ⟨rfl, hB⟩
  · obtain rfl : v = false := by rw [← hv]; exact decide_eq_false (fun q => h1 q.1)
    have hb : (b == b') = false := by simpa using h1
    clear hv hv2 h1 hc
    go_enter Try.func12, Try.ntmps12
    go_wp2_with fail
    go_ret
    exact ⟨rfl, hB⟩

set_option maxRecDepth 100000 in
set_option maxHeartbeats 4000000 in
/-- Are they many? (some answer; if no, they are at most 150) -/
theorem long_c (a : Option Addr) (n c : Nat) (l : List En) (w : World) (h : LAt w a n c l) :
    Calls Try.prog 8 #[.slice a n c] w (LongP l w) := by
  have hl := Lib.hid h.len
  have b1 : (n : Int) ≤ 9223372036854775807 := by have := h.le; have := h.mx; omega
  go_enter Try.func8, Try.ntmps8
  go_wp2_with fail
  go_loopw [3, 7] (fun s i wr => ∃ k : Nat, k ≤ n ∧ k ≤ 150 ∧ i = .int .i64 (k : Nat) ∧ (∃ x, s = .int .i64 x) ∧ Below w.heap.size w wr) (fun _ i _ => n - (intOf i).toNat)
  case atStart => exact ⟨0, by omega, by omega, rfl, ⟨_, rfl⟩, Below.refl _ _⟩
  case round =>
    obtain ⟨k, hk, hk2, rfl, ⟨s, rfl⟩, hB⟩ := hrel
    by_cases hlt : k < n
    · have hlt' : (k : Int) < (n : Int) := by omega
      obtain ⟨y, hy⟩ : ∃ y, l[k]? = some y := ⟨_, List.getElem?_eq_getElem (show k < l.length by have := hl.out; omega)⟩
      obtain ⟨b, o, x, rfl, hb, hx, hhas⟩ := (h.bel hB).ent hy
      have x4 := hx.2.2.2.2
      clear hx hhas hy
      by_cases hge : 150 ≤ k
      · have hge' : (150 : Int) ≤ (k : Int) := by omega
        go_wp2_with fail
        go_ret
        exact ⟨true, rfl, (fun hh => by cases hh), hB⟩
      · have hge' : ¬ (150 : Int) ≤ (k : Int) := by omega
        go_wp2_with fail
        all_goals first
          | (go_ret; exact ⟨true, rfl, (fun hh => by cases hh), hB⟩)
          | (go_roundw
             case rel => exact ⟨k + 1, by omega, by omega, by go_num, ⟨_, rfl⟩, hB⟩
             case measure => simp [intOf]; omega)
    · obtain rfl : k = n := by omega
      go_wp2_with fail
      go_ret
      exact ⟨false, rfl, fun _ => by rw [← hl.out]; omega, hB⟩
theorem great09_c (b t : Int) (a : Option Addr) (n c : Nat) (l : List En) (w : World) (h : LAt w a n c l) :
    Calls Try.prog 7 #[.agg #[.int .i64 b, .int .i64 t, .slice a n c]] w (LongP l w) := by
  have hB : Below w.heap.size w (w.alloc (.cells #[.int .i64 b, .int .i64 t, .slice a n c] 24)) := (Below.refl _ _).alloc (Nat.le_refl _) _
  have hc := Lib.hid (long_c a n c l _ (h.bel hB))
  clear h
  go_enter Try.func7, Try.ntmps7
  go_wp2_with fail
  refine hc.out.mono ?_
  rintro e w2 ⟨b2, rfl, hb2, hb3⟩
  replace hb2 := Lib.hid hb2
  go_wp2_with fail
  go_ret
  exact ⟨b2, rfl, hb2.out, bNext hB hb3 (Nat.le_refl _)⟩
end Go.Proofs.Ytbiodlhiilmgkaa
