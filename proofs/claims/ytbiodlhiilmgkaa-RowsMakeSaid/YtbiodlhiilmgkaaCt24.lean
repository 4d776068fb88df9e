/- RowsMake: the reach of the entries' bytes; the walk of the law. -/
import Derived.Test.YtbiodlhiilmgkaaCt19
import Derived.Test.YtbiodlhiilmgkaaCt10
import Derived.SizedLaws
namespace Go.Proofs.Ytbiodlhiilmgkaa
open Go.ChangeShapes Go.WideShapes Go.ChangeAt Go.RowKit Go.Deep
set_option linter.unusedVariables false
set_option linter.unusedSimpArgs false
open BigFrame Bs Rw Ct

section
variable {H : Type} {enc : TypeId × Value → H} {w : World}
theorem wt_all {P : Program} {e : TypeId} : ∀ {ds : List (DataW H)} {d : DataW H}, d ∈ ds → ∀ n ∈ d.weights P e, n ∈ DataW.weightsAll P e ds
  | d0 :: ds, d, hd, n, hn => by
    simp only [DataW.weightsAll, List.mem_append]
    rcases List.mem_cons.1 hd with rfl | hd
    · exact .inl hn
    · exact .inr (wt_all hd n hn)
  | [], _, hd, _, _ => by simp at hd
set_option maxRecDepth 100000 in
theorem wt_bytes {n : Nat} {a : Option Addr} {l c : Nat} {z : DataW H × List MemPlace} (h : DataW.trod enc Try.prog w 0 (fun _ => true) true n 37 [.slice a l c] = some z) (hw : ∀ k ∈ z.1.weights Try.prog 37, k ≤ reachBytes) : l ≤ reachBytes := by
  have k1 : Try.prog.bytesOf 5 = 1 := by kernel_rfl
  rcases open_slice Try.underlying37 h with ⟨hcs, _⟩ | ⟨x, l', c', m, n, D, Pl, hcs, _, hl, hm, hmm, hz, hi⟩
  · simp at hcs
    omega
  · simp at hcs
    obtain ⟨_, rfl, rfl⟩ := hcs
    subst hz
    have := hw ((l + (m - l)) * 1) (by simp [DataW.weights, Try.underlying37, k1])
    omega
set_option maxRecDepth 100000 in
theorem wt_entry {n : Nat} {cs : List Value} {a : Option Addr} {l c : Nat} {z : DataW H × List MemPlace} (hl : cs.length = 5) (h4 : cs[4]? = some (.slice a l c)) (h : DataW.trod enc Try.prog w 0 (fun _ => true) true n 39 cs = some z) (hw : ∀ k ∈ z.1.weights Try.prog 39, k ≤ reachBytes) : l ≤ reachBytes := by
  obtain ⟨xs, n', _, hx, _, hlen, hg⟩ := DataW.trod_struct Try.underlying39 h
  subst hx
  have k4 : Try.prog.cellsOf 37 = 1 := by kernel_rfl
  obtain ⟨x0, x1, x2, x3, x4, rfl⟩ := ct_len5 hl
  simp at h4
  subst h4
  have t4 := hg 4 _ rfl
  simp only [k4, List.drop_succ_cons, List.drop_zero, List.take_succ_cons, List.take_zero, List.getElem_toArray, List.getElem_cons_zero, List.getElem_cons_succ] at t4
  have hx4 : 4 < xs.length := by rw [hlen]; decide
  rw [List.getElem?_eq_getElem hx4] at t4
  refine wt_bytes t4 (fun k hk => hw k ?_)
  simp only [DataW.weights, Try.underlying39]
  exact DataW.weights_mem_each (j := 4) (t := 37) (by rfl) (by rw [List.getElem?_map, List.getElem?_eq_getElem hx4]; rfl) k hk
set_option maxRecDepth 100000 in
theorem wt_es {n : Nat} {a : Option Addr} {len cap : Nat} {l : List En} {z : DataW H × List MemPlace} (hL : LAt w a len cap l) (h : DataW.trod enc Try.prog w 0 (fun _ => true) true n 22 [.slice a len cap] = some z) (hw : ∀ k ∈ z.1.weights Try.prog 22, k ≤ reachBytes) : ∀ y ∈ l, y.d.length ≤ reachBytes := by
  intro y hy
  obtain ⟨i, hi, rfl⟩ := List.getElem_of_mem hy
  obtain ⟨b, o, x, rfl, hb, hx, hhas⟩ := hL.ent (List.getElem?_eq_getElem hi)
  have k5 : Try.prog.cellsOf 39 = 5 := by kernel_rfl
  have hll := hL.len
  rcases open_slice Try.underlying22 h with ⟨hcs, _⟩ | ⟨x', l', c', m, n, D, Pl, hcs, _, hl, hm, hmm, hz, hi'⟩
  · simp at hcs
  · simp at hcs
    obtain ⟨rfl, rfl, rfl⟩ := hcs
    simp only [if_true] at hmm
    subst hmm
    subst hz
    obtain ⟨cs', h1, h2⟩ := hi' i (by omega)
    rw [k5] at h1
    obtain ⟨_, hlen, hat⟩ := World.cells?_some h1
    have h4 := hat 4 (by omega)
    rw [Addr.add_lit, Addr.add_lit, hx.2.2.2.2] at h4
    rw [← hhas.d.len]
    refine wt_entry hlen h4.symm h2 (fun k hk => hw k ?_)
    simp only [DataW.weights, Try.underlying22, List.mem_cons, List.mem_append]
    refine .inr (.inl (wt_all (List.mem_map.2 ⟨i, by simp; omega, rfl⟩) k hk))
end

namespace Ct
def LongS (l : List En) (w : World) (e : Ending) (w' : World) : Prop := ∃ b : Bool, e = .returned (.bool b) ∧ (b = false → Sml l) ∧ Below w.heap.size w w'
end Ct
set_option maxRecDepth 100000 in
set_option maxHeartbeats 4000000 in
theorem long_s (a : Option Addr) (n c : Nat) (l : List En) (w : World) (h : LAt w a n c l) (hsz : ∀ y ∈ l, y.d.length ≤ reachBytes) :
    Calls Try.prog 8 #[.slice a n c] w (LongS l w) := by
  have hl := Lib.hid h.len
  have b1 : (n : Int) ≤ 9223372036854775807 := by have := h.le; have := h.mx; omega
  have hrb : reachBytes = 140737488351232 := rfl
  rw [hrb] at hsz
  clear hrb
  go_enter Try.func8, Try.ntmps8
  go_wp2_with fail
  go_loopw [3, 7] (fun s i wr => ∃ k : Nat, k ≤ n ∧ k ≤ 150 ∧ i = .int .i64 (k : Nat) ∧ (∃ x : Int, s = .int .i64 x ∧ 0 ≤ x ∧ x ≤ 20000 ∧ ∀ y ∈ l.take k, (y.d.length : Int) ≤ x) ∧ Below w.heap.size w wr) (fun _ i _ => n - (intOf i).toNat)
  case atStart => exact ⟨0, by omega, by omega, rfl, ⟨_, rfl, by omega, by omega, fun y hy => by simp at hy⟩, Below.refl _ _⟩
  case round =>
    obtain ⟨k, hk, hk2, rfl, ⟨s, rfl, hs0, hs1, hsy⟩, hB⟩ := hrel
    by_cases hlt : k < n
    · have hlt' : (k : Int) < (n : Int) := by omega
      obtain ⟨y, hy⟩ : ∃ y, l[k]? = some y := ⟨_, List.getElem?_eq_getElem (show k < l.length by have := hl.out; omega)⟩
      obtain ⟨b, o, x, rfl, hb, hx, hhas⟩ := (h.bel hB).ent hy
      have x4 := hx.2.2.2.2
      have hdl := hsz y (List.mem_of_getElem? hy)
      rw [← hhas.d.len] at hdl
      obtain ⟨xa, xn, xc, hxa⟩ : ∃ a' n' c', Value.slice x.da x.dl x.dc = .slice a' n' c' ∧ n' = x.dl := ⟨_, _, _, rfl, rfl⟩
      obtain ⟨hxa, hxn⟩ := hxa
      rw [hxa] at x4
      rw [← hxn] at hdl
      have hyl : y.d.length = xn := by rw [← hhas.d.len, hxn]
      have hdlI : (xn : Int) ≤ 140737488351232 := by omega
      have hnew := Lib.hid (show ∀ z ∈ l.take (k + 1), (z.d.length : Int) ≤ s + (xn : Int) by
        intro z hz
        rw [take_snocE hy] at hz
        rcases List.mem_append.1 hz with hz | hz
        · have := hsy z hz; omega
        · rw [List.mem_singleton] at hz; subst hz; omega)
      replace hsy := Lib.hid hsy
      replace hsz := Lib.hid hsz
      clear hx hhas hy hxa hxn hyl hdl
      by_cases hge : 150 ≤ k
      · have hge' : (150 : Int) ≤ (k : Int) := by omega
        go_wp2_with fail
        go_ret
        exact ⟨true, rfl, (fun hh => by cases hh), hB⟩
      · have hge' : ¬ (150 : Int) ≤ (k : Int) := by omega
        by_cases hbig : 20000 < s + (xn : Int)
        · go_wp2_with fail
          go_ret
          exact ⟨true, rfl, (fun hh => by cases hh), hB⟩
        · go_wp2_with fail
          go_roundw
          case rel => exact ⟨k + 1, by omega, by omega, by go_num, ⟨_, rfl, by omega, by omega, hnew.out⟩, hB⟩
          case measure => simp [intOf]; omega
    · obtain rfl : k = n := by omega
      have hS := Lib.hid (show Sml l from ⟨by rw [← hl.out]; omega, fun y hy => by
        have e : l.take k = l := List.take_of_length_le (by rw [← hl.out]; exact Nat.le_refl _)
        have := hsy y (by rw [e]; exact hy)
        omega⟩)
      replace hsy := Lib.hid hsy
      replace hsz := Lib.hid hsz
      go_wp2_with fail
      go_ret
      exact ⟨false, rfl, fun _ => hS.out, hB⟩
end Go.Proofs.Ytbiodlhiilmgkaa
