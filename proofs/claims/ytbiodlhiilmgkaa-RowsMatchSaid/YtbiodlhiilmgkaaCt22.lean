/- RowsMatch: plain laws of Put. -/
import Derived.Test.YtbiodlhiilmgkaaCt21
namespace Go.Proofs.Ytbiodlhiilmgkaa
open Go.ChangeShapes Go.WideShapes Go.ChangeAt Go.RowKit
set_option linter.unusedVariables false
set_option linter.unusedSimpArgs false
open BigFrame Bs Rw Ct

namespace Ct
theorem matchN_all : ∀ (xs ys : List En), xs.length = ys.length → (∀ (j : Nat) (x y : En), xs[j]? = some x → ys[j]? = some y → x.term = y.term) → matchN xs ys = ys.length
  | [], [], _, _ => rfl
  | [], _ :: _, h, _ => by simp at h
  | _ :: _, [], h, _ => by simp at h
  | x :: xs, y :: ys, h, hh => by
    have h0 := hh 0 x y rfl rfl
    have := matchN_all xs ys (by simpa using h) (fun j a b ha hb => hh (j + 1) a b (by simpa using ha) (by simpa using hb))
    unfold matchN
    rw [if_pos h0, this]
    simp
theorem putL_len (l m : List En) (k : Nat) (hk : k ≤ l.length) : (putL l m k).length = if matchN (l.drop k) m < m.length then k + m.length else l.length := by
  have := matchN_le (l.drop k) m
  have hd : (l.drop k).length = l.length - k := by simp
  unfold putL
  split
  · simp; omega
  · rfl
/-- What is ahead of the place stays. -/
theorem putL_ahead (l m : List En) (k j : Nat) (hk : k ≤ l.length) (hj : j < k) : (putL l m k)[j]? = l[j]? := by
  have := matchN_le (l.drop k) m
  have hd : (l.drop k).length = l.length - k := by simp
  unfold putL
  split
  · rw [List.getElem?_append_left (by simp; omega), List.getElem?_take, if_pos (by omega)]
  · rfl
/-- What is put stands where it belongs, by its terms. -/
theorem putL_there (l m : List En) (k j : Nat) (y : En) (hk : k ≤ l.length) (hy : m[j]? = some y) : ∃ x, (putL l m k)[k + j]? = some x ∧ x.term = y.term := by
  have hle := matchN_le (l.drop k) m
  have hd : (l.drop k).length = l.length - k := by simp
  have hj : j < m.length := (List.getElem?_eq_some_iff.1 hy).1
  by_cases hjm : j < matchN (l.drop k) m
  · obtain ⟨a, b, h1, h2, h3⟩ := matchN_in _ _ j hjm
    rw [hy] at h2
    cases h2
    rw [List.getElem?_drop] at h1
    refine ⟨a, ?_, h3⟩
    unfold putL
    split
    · rw [List.getElem?_append_left (by simp; omega), List.getElem?_take, if_pos (by omega)]
      exact h1
    · exact h1
  · refine ⟨y, ?_, rfl⟩
    unfold putL
    rw [if_pos (by omega), List.getElem?_append_right (by simp; omega), List.getElem?_drop, ← hy]
    congr 1
    simp
    omega
theorem putL_twice (l m : List En) (k : Nat) (hk : k ≤ l.length) : putL (putL l m k) m k = putL l m k := by
  have hlen := putL_len l m k hk
  by_cases h : matchN (l.drop k) m < m.length
  · rw [if_pos h] at hlen
    have hd : ((putL l m k).drop k).length = m.length := by rw [List.length_drop, hlen]; omega
    have hm : matchN ((putL l m k).drop k) m = m.length := matchN_all _ _ hd (fun j x y hx hy => by
      obtain ⟨z, h1, h2⟩ := putL_there l m k j y hk hy
      rw [List.getElem?_drop, h1] at hx
      cases hx
      exact h2)
    rw [show putL (putL l m k) m k = (if matchN ((putL l m k).drop k) m < m.length then (putL l m k).take (k + matchN ((putL l m k).drop k) m) ++ m.drop (matchN ((putL l m k).drop k) m) else putL l m k) from rfl, hm, if_neg (by omega)]
  · have e : putL l m k = l := by unfold putL; rw [if_neg h]
    rw [e, e]
theorem tl_putL (t : Int) (l m : List En) (k : Nat) (hk : k ≤ l.length) : tl t (putL l m k) k = tl t l k := by
  unfold tl
  by_cases h : k = 0
  · rw [if_pos h, if_pos h]
  · rw [if_neg h, if_neg h, List.getD_eq_getElem?_getD, List.getD_eq_getElem?_getD, putL_ahead l m k (k - 1) hk (by omega)]
theorem putL_wfl {l m : List En} (h : Wfl l) (h2 : Wfl m) (k : Nat) : Wfl (putL l m k) := by
  unfold putL
  split
  · exact (h.take _).app (h2.drop _)
  · exact h
theorem madeR_ok {b t : Int} {l : List En} (h : (madeR b t l).e = 0) : madeR b t l = ⟨b, t, l, 0⟩ ∧ chk b t l = true := by
  unfold madeR at h ⊢
  split
  · rename_i h1; rw [if_pos h1] at h; exact absurd h (by decide)
  · rename_i h1
    rw [if_neg h1] at h
    split
    · rename_i h2; exact ⟨rfl, h2⟩
    · rename_i h2; rw [if_neg h2] at h; exact absurd h (by decide)
theorem madeR_of {b t : Int} {l : List En} (h : chk b t l = true) : madeR b t l = ⟨b, t, l, 0⟩ := by
  obtain ⟨g, _⟩ := chk_iff.1 h
  unfold madeR
  rw [if_neg (by omega), if_pos h]
/-- What is so of rows that took entries. -/
structure Took (b t : Int) (l : List En) (i τ : Int) (l2 X : List En) : Prop where
  ck : chk b t X = true
  wf : Wfl l → Wfl l2 → Wfl X
  there : ∀ (j : Nat) (y : En), l2[j]? = some y → b < i + 1 + j → i + 1 + j ≤ b + X.length ∧ (X.getD (i + 1 + j - b - 1).toNat en0).term = y.term
  ahead : ∀ p : Int, b < p → p ≤ b + l.length → p ≤ i → p ≤ b + X.length ∧ l.getD (p - b - 1).toNat en0 = X.getD (p - b - 1).toNat en0
  again : putR b t X i τ l2 = ⟨⟨b, t, X, 0⟩, i + l2.length, true⟩
theorem took_mk {b t : Int} {l M l2 : List En} {i τ : Int} {k q : Nat} (hk : k ≤ l.length) (hM : M = l2.drop q) (hq : i + q = b + k) (hq0 : q = 0 ∨ k = 0) (hql : q ≤ l2.length) (hck : chk b t (putL l M k) = true)
    (hag : putR b t (putL l M k) i τ l2 = putT (madeR b t (putL (putL l M k) M k)) (i + l2.length)) : Took b t l i τ l2 (putL l M k) := by
  have hlen := putL_len l M k hk
  have hle := matchN_le (l.drop k) M
  have hd : (l.drop k).length = l.length - k := by simp
  have hMl : M.length = l2.length - q := by rw [hM]; simp
  have hge : k + M.length ≤ (putL l M k).length := by rw [hlen]; split <;> omega
  refine ⟨hck, fun h1 h2 => putL_wfl h1 (by rw [hM]; exact h2.drop q) k, fun j y hy hb => ?_, fun p h1 h2 h3 => ?_, ?_⟩
  · have hj : j < l2.length := (List.getElem?_eq_some_iff.1 hy).1
    have hjq : q ≤ j := by omega
    obtain ⟨x, e1, e2⟩ := putL_there l M k (j - q) y hk (by rw [hM, List.getElem?_drop, show q + (j - q) = j by omega]; exact hy)
    refine ⟨by omega, ?_⟩
    rw [show (i + 1 + (j : Int) - b - 1).toNat = k + (j - q) by omega, List.getD_eq_getElem?_getD, e1]
    exact e2
  · have hp : (p - b - 1).toNat < k := by omega
    refine ⟨by omega, ?_⟩
    rw [List.getD_eq_getElem?_getD, List.getD_eq_getElem?_getD, putL_ahead l M k _ hk hp]
  · rw [hag, putL_twice l M k hk, madeR_of hck]
    rfl
theorem put_cases {b t : Int} {l : List En} {i τ : Int} {l2 : List En} (hc : chk b t l = true) (he : (putR b t l i τ l2).r.e = 0) :
    (∃ s, putR b t l i τ l2 = ⟨⟨b, t, l, 0⟩, s, false⟩ ∧ b ≤ s ∧ s ≤ b + l.length ∧ (s < i ∨ i ≤ b)) ∨
    (∃ X, putR b t l i τ l2 = ⟨⟨b, t, X, 0⟩, i + l2.length, true⟩ ∧ Took b t l i τ l2 X ∧ l2.length ≤ 16 ∧ chk i τ l2 = true) := by
  obtain ⟨⟨g1, g2, g3, g4, g5⟩, _⟩ := chk_iff.1 hc
  unfold putR at he ⊢
  rw [if_neg (by simp [hc])] at he ⊢
  by_cases h2 : 16 < l2.length ∨ chk i τ l2 = false
  · rw [if_pos h2] at he; exact absurd he (by decide)
  have h16 : l2.length ≤ 16 := by omega
  have hci : chk i τ l2 = true := by
    cases hq : chk i τ l2 with
    | true => rfl
    | false => exact absurd (.inr hq) h2
  rw [if_neg h2] at he ⊢
  by_cases h3 : b + (l.length : Int) < i
  · rw [if_pos h3]; exact .inl ⟨_, rfl, by omega, by omega, by omega⟩
  rw [if_neg h3] at he ⊢
  by_cases h4 : i < b ∧ i + (l2.length : Int) < b
  · rw [if_pos h4]; exact .inl ⟨_, rfl, by omega, by omega, by omega⟩
  rw [if_neg h4] at he ⊢
  have fin : ∀ X s, (putT (madeR b t X) s).r.e = 0 → putT (madeR b t X) s = ⟨⟨b, t, X, 0⟩, s, true⟩ ∧ chk b t X = true := fun X s h => by
    have he2 : (madeR b t X).e = 0 := by
      unfold putT at h
      split at h
      · assumption
      · rename_i hh; exact absurd h hh
    obtain ⟨e1, e2⟩ := madeR_ok he2
    rw [e1]
    exact ⟨rfl, e2⟩
  by_cases h5 : i < b
  · rw [if_pos h5] at he ⊢
    obtain ⟨e1, e2⟩ := fin _ _ he
    rw [e1]
    refine .inr ⟨_, rfl, took_mk (q := (b - i).toNat) (Nat.zero_le _) rfl (by omega) (.inr rfl) (by omega) e2 ?_, h16, hci⟩
    unfold putR
    rw [if_neg (by simp [e2]), if_neg h2, if_neg (by omega), if_neg h4, if_pos h5]
  · rw [if_neg h5] at he ⊢
    by_cases h6 : termT b t l i ≠ τ
    · rw [if_pos h6]; exact .inl ⟨_, rfl, by omega, by omega, by omega⟩
    · rw [if_neg h6] at he ⊢
      obtain ⟨e1, e2⟩ := fin _ _ he
      rw [e1]
      have hk : (i - b).toNat ≤ l.length := by omega
      have hlen := putL_len l l2 (i - b).toNat hk
      refine .inr ⟨_, rfl, took_mk (q := 0) hk rfl (by omega) (.inl rfl) (Nat.zero_le _) e2 ?_, h16, hci⟩
      have hge : (i - b).toNat ≤ (putL l l2 (i - b).toNat).length := by rw [hlen]; split <;> omega
      unfold putR
      rw [if_neg (by simp [e2]), if_neg h2, if_neg (by omega), if_neg h4, if_neg h5, if_neg]
      intro hne
      apply hne
      have : ¬ termT b t l i ≠ τ := h6
      unfold termT at this ⊢
      rw [if_pos (by omega)] at this ⊢
      rw [tl_putL t l l2 _ hk]
      exact Classical.byContradiction fun q => this q
end Ct
end Go.Proofs.Ytbiodlhiilmgkaa
