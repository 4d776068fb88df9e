/- The record judged as a whole: both Parses over what bytes say. -/
import Derived.Test.YtjdkpoggcpckcaaPc4
import Derived.Test.YtjdkpoggcpckcaaPk4
namespace Go.Proofs.Ytjdkpoggcpckcaa
open Go.ChangeShapes Go.WideShapes Go.ChangeAt Go.RowKit
set_option linter.unusedVariables false
set_option linter.unusedSimpArgs false
open Pk BigFrame By
open Bs (cellB)

namespace Pk
def goodD (d : List Nat) : Prop := goodF d.length (fun i => d.getD i 0)
/-- What a Parse answers. -/
def ParseL (d : List Nat) (w : World) (e : Ending) (w' : World) : Prop := ((goodD d ∧ ∃ a1 m1 c1, e = .returned (.tuple #[.agg #[.int .i64 0, .int .i64 (d.getD 1 0 : Nat), .int .i64 (d.getD 2 0 : Nat), .slice a1 m1 c1], .int .i64 0])) ∨ (¬ goodD d ∧ e = .returned (.tuple #[.agg #[.int .i64 0, .int .i64 0, .int .i64 0, .slice none 0 0], .int .i64 230]))) ∧ Below w.heap.size w w'
theorem byt_at {w : World} {a : Option Addr} {n cap : Nat} {d : List Nat} (h : Byt w a n cap d) (hn : 0 < n) : ∃ b o, a = some ⟨b, o, none⟩ ∧ b < w.heap.size ∧ BytesAt w b o n (fun i => d.getD i 0) := by
  obtain ⟨b, o, ha, hb, hc⟩ := h.row hn
  refine ⟨b, o, ha, hb, fun i hi => ?_⟩
  have hl := h.len
  have hx : d[i]? = some (d.getD i 0) := by rw [List.getD_eq_getElem?_getD, List.getElem?_eq_getElem (by omega)]; rfl
  exact hc i _ hx
end Pk
theorem rparseL_c (a : Option Addr) (n cap : Nat) (d : List Nat) (w : World) (h : Byt w a n cap d) (hn : n ≤ 100000) :
    Calls Try.prog 6 #[.slice a n cap] w (ParseL d w) := by
  by_cases h8 : n < 8
  · refine (rparse_short a n cap w h8).mono ?_
    rintro e w' ⟨rfl, hb⟩
    exact ⟨.inr ⟨fun g => by have := g.1; have := h.len; omega, rfl⟩, hb⟩
  · obtain ⟨b, o, rfl, hb, hB⟩ := byt_at h (by omega)
    refine (rparse_ok b o n cap _ w (by omega) hn h.le h.mx hB hb).mono ?_
    rintro e w' ⟨hq, hbb⟩
    refine ⟨?_, hbb⟩
    unfold goodD
    rw [← h.len]
    exact hq
theorem parseL_c (a : Option Addr) (n cap : Nat) (d : List Nat) (w : World) (h : Byt w a n cap d) :
    Calls Try.prog 13 #[.slice a n cap] w (ParseL d w) := by
  by_cases h8 : n < 8
  · refine (parse_short a n cap w h8).mono ?_
    rintro e w' ⟨rfl, hb⟩
    exact ⟨.inr ⟨fun g => by have := g.1; have := h.len; omega, rfl⟩, hb⟩
  · obtain ⟨b, o, rfl, hb, hB⟩ := byt_at h (by omega)
    have hl := h.len
    by_cases hck : ckS (tot (fun i => d.getD i 0) n) = 65535
    · by_cases hh : n ≤ 1500 ∧ d.getD 0 0 = 105 ∧ 1 ≤ d.getD 1 0 ∧ d.getD 1 0 ≤ 16 ∧ d.getD 3 0 = 0 ∧ d.getD 4 0 * 256 + d.getD 5 0 = n - 8 ∧ ¬ (d.getD 6 0 = 255 ∧ d.getD 7 0 = 255)
      · refine (parse_ok b o n cap (fun i => d.getD i 0) w (by omega) hh.1 h.le h.mx hB hb hh.2.1 hh.2.2.1 hh.2.2.2.1 hh.2.2.2.2.1 hh.2.2.2.2.2.1 hck hh.2.2.2.2.2.2).mono ?_
        rintro e w' ⟨v, rfl, hown, _, hbb⟩
        have hg : goodD d := by
          unfold goodD
          rw [← hl]
          exact ⟨by omega, hh.1, hh.2.1, hh.2.2.1, hh.2.2.2.1, hh.2.2.2.2.1, hh.2.2.2.2.2.1, hck, hh.2.2.2.2.2.2⟩
        rcases hown.2 with ⟨rfl, _⟩ | ⟨g, cap', cur, rfl, _⟩
        · exact ⟨.inl ⟨hg, _, _, _, rfl⟩, hbb⟩
        · exact ⟨.inl ⟨hg, _, _, _, rfl⟩, hbb⟩
      · refine (parse_no b o n cap (fun i => d.getD i 0) w (by omega) h.le h.mx hB hb hck hh).mono ?_
        rintro e w' ⟨rfl, hbb⟩
        exact ⟨.inr ⟨fun g => hh (by unfold goodD at g; rw [← hl] at g; exact ⟨g.2.1, g.2.2.1, g.2.2.2.1, g.2.2.2.2.1, g.2.2.2.2.2.1, g.2.2.2.2.2.2.1, g.2.2.2.2.2.2.2.2⟩), rfl⟩, hbb⟩
    · refine (parse_bad b o n cap (fun i => d.getD i 0) w (by omega) h.le h.mx hB hb hck).mono ?_
      rintro e w' ⟨rfl, hbb⟩
      exact ⟨.inr ⟨fun g => hck (by unfold goodD at g; rw [← hl] at g; exact g.2.2.2.2.2.2.2.1), rfl⟩, hbb⟩
end Go.Proofs.Ytjdkpoggcpckcaa
