/- The air at flat messages: small functions. -/
import Derived.Test.YtnokojobiaddmaaBase
namespace Go.Proofs.Ytnokojobiaddmaa
open Go.ChangeShapes Go.WideShapes Go.ChangeAt Go.RowKit
set_option linter.unusedVariables false
set_option linter.unusedSimpArgs false
open BigFrame Bs

theorem eql_bytes_nil (c : Nat) (u : World) : Sem.run Try.prog (binOp BinOp.eql 30 (.slice none 0 c) (.slice none 0 0)) u = .ok (.bool true) u := by rfl
theorem eql_bytes_some (a : Addr) (l c : Nat) (u : World) : Sem.run Try.prog (binOp BinOp.eql 30 (.slice (some a) l c) (.slice none 0 0)) u = .ok (.bool false) u := by rfl
attribute [local go_sem] eql_bytes_nil eql_bytes_some

theorem clone_nil (w : World) : Calls Try.prog 39 #[.slice none 0 0] w fun e w' => e = .returned (.slice none 0 0) ∧ w' = w := by
  go_enter Try.func39, Try.ntmps39
  go_wp2_with fail
  go_ret
  exact ⟨rfl, rfl⟩

set_option maxRecDepth 100000 in
theorem each_nil (f : Value) (w : World) : Calls Try.prog 37 #[.slice none 0 0, f] w fun e w' => e = .returned (.slice none 0 0) ∧ w' = w := by
  go_enter Try.func37, Try.ntmps37
  go_wp2_with fail
  go_loop [4, 9] (fun s4 s9 => s4 = .slice none 0 0 ∧ s9 = .int .i64 0) (fun _ _ => 0)
  case atStart => exact ⟨rfl, rfl⟩
  case round =>
    obtain ⟨rfl, rfl⟩ := hrel
    go_wp2_with fail
    go_ret
    exact ⟨rfl, rfl⟩

theorem address_yes (n : Int) (w : World) (h1 : 1 ≤ n) (h2 : n ≤ 255) : Calls Try.prog 21 #[.int .i64 n] w fun e w' => e = .returned (.bool true) ∧ w = w' := by
  go_enter Try.func21, Try.ntmps21
  go_wp2_with fail
  go_ret
  exact ⟨rfl, rfl⟩

theorem address_no (n : Int) (w : World) (h : ¬ (1 ≤ n ∧ n ≤ 255)) : Calls Try.prog 21 #[.int .i64 n] w fun e w' => e = .returned (.bool false) ∧ w = w' := by
  by_cases h1 : 1 ≤ n
  · have h2 : ¬ n ≤ 255 := by omega
    clear h
    go_enter Try.func21, Try.ntmps21
    go_wp2_with fail
    go_ret
    exact ⟨rfl, rfl⟩
  · clear h
    go_enter Try.func21, Try.ntmps21
    go_wp2_with fail
    go_ret
    exact ⟨rfl, rfl⟩

set_option maxRecDepth 100000 in
set_option maxHeartbeats 2000000 in
theorem copied_flat (k fr to te ix la co : Int) (ok : Bool) (si st su : Int) (w : World) :
    Calls Try.prog 22 #[.agg #[.int .i8 k, .int .i64 fr, .int .i64 to, .int .i64 te, .int .i64 ix, .int .i64 la, .int .i64 co, .bool ok, .slice none 0 0, .int .i64 si, .int .i64 st, .int .u8 su, .slice none 0 0, .slice none 0 0]] w fun e w' => e = .returned (.agg #[.int .i8 k, .int .i64 fr, .int .i64 to, .int .i64 te, .int .i64 ix, .int .i64 la, .int .i64 co, .bool ok, .slice none 0 0, .int .i64 si, .int .i64 st, .int .u8 su, .slice none 0 0, .slice none 0 0]) ∧ Below w.heap.size w w' := by
  have ce := fun f W => each_nil f W
  have cc := fun W => clone_nil W
  go_enter Try.func22, Try.ntmps22
  go_wp2_with fail
  refine (ce _ _).mono ?_
  rintro e w' ⟨rfl, rfl⟩
  go_wp2_with fail
  go_region_held3 (fun w' => w'.cell? ⟨w.heap.size, 12, none⟩ = some (.slice none 0 0) ∧ w'.cell? ⟨w.heap.size, 13, none⟩ = some (.slice none 0 0)) (go_keep) (first | (go_at_call 39; refine (cc _).mono ?_; rintro e w' ⟨rfl, rfl⟩))
  all_goals
    go_wp2_with fail
    refine bodyPost_ret (v := .agg #[.int .i8 k, .int .i64 fr, .int .i64 to, .int .i64 te, .int .i64 ix, .int .i64 la, .int .i64 co, .bool ok, .slice none 0 0, .int .i64 si, .int .i64 st, .int .u8 su, .slice none 0 0, .slice none 0 0]) (by simp [results, Try.results22, go_sem]) rfl ⟨rfl, ?_⟩
    repeat (first | exact Below.refl _ _ | (refine Below.setCell ?_ (by simp) _) | (refine Below.drew ?_) | (refine Below.alloc ?_ (by simp) _))
end Go.Proofs.Ytnokojobiaddmaa
