/- The small functions of instructions: what may be, and which parts an instruction has, at every number. -/
import Derived.Test.YthgalknkkhkefaaDoorChecked
import Derived.WalkKit
import Derived.OwnWalk
import Derived.RowKitTokens
import Derived.Lib.Hide
import Derived.Lib.Walk
namespace Go.Proofs.YthgalknkkhkefaaDoor
open Go Go.RowKit

def farB (v m : Int) : Bool := decide (v < 0) || decide (m < v)
def hasA (op : Int) : Bool := !(op == 0 || op == 12 || op == 14)
def hasB (op : Int) : Bool := !(op == 0 || op == 1 || op == 13 || op == 12 || op == 14)
def hasC (op : Int) : Bool := op == 1 || op == 13 || op == 10 || op == 11 || op == 12 || op == 14
def fitB (v : Int) (h : Bool) (lo hi : Int) : Bool := if h then decide (lo ≤ v) && decide (v ≤ hi) else v == 0

theorem ret_bool {a b : Bool} (h : a = b) : Ending.returned (.bool a) = .returned (.bool b) := by rw [h]
theorem ret_int {k : IntKind} {a b : Int} (h : a = b) : Ending.returned (.int k a) = .returned (.int k b) := by rw [h]

theorem far_any (v m : Int) (w : World) : Calls Tryd.prog 11 #[.int .i64 v, .int .i64 m] w fun e w' => e = .returned (.bool (farB v m)) ∧ w' = w := by
  go_enter Tryd.func11, Tryd.ntmps11
  go_wp2
  all_goals
    go_ret
    exact ⟨ret_bool (by simp [farB]; first | done | omega), rfl⟩

theorem fits_any (v lo hi : Int) (h : Bool) (w : World) : Calls Tryd.prog 28 #[.int .i64 v, .bool h, .int .i64 lo, .int .i64 hi] w fun e w' => e = .returned (.bool (fitB v h lo hi)) ∧ w' = w := by
  cases h
  · go_enter Tryd.func28, Tryd.ntmps28
    go_wp2
    all_goals
      go_ret
      exact ⟨ret_bool (by simp [fitB]; try omega), rfl⟩
  · go_enter Tryd.func28, Tryd.ntmps28
    go_wp2
    all_goals
      go_ret
      exact ⟨ret_bool (by simp [fitB]; try omega), rfl⟩

theorem has_any (op : Int) (w : World) : Calls Tryd.prog 17 #[.int .i64 op] w fun e w' => e = .returned (.tuple #[.bool (hasA op), .bool (hasB op), .bool (hasC op)]) ∧ w' = w := by
  go_enter Tryd.func17, Tryd.ntmps17
  go_wp2
  all_goals
    go_ret3
    refine ⟨?_, rfl⟩
    simp_all [hasA, hasB, hasC]

theorem fine_any (w : World) : Calls Tryd.prog 5 #[] w fun e w' => e = .returned (.agg #[.int .i64 0, .int .i64 (-1)]) ∧ Below w.heap.size w w' := by
  go_enter Tryd.func5, Tryd.ntmps5
  go_wp2
  exact bodyPost_ret (v := .agg #[.int .i64 0, .int .i64 (-1)]) (by simp [results, Tryd.results5, go_sem]) rfl ⟨rfl, (Below.refl _ _).alloc (Nat.le_refl _) _⟩

theorem err_any (c : Int) (w : World) : Calls Tryd.prog 6 #[.int .i64 c] w fun e w' => e = .returned (.agg #[.int .i64 c, .int .i64 (-1)]) ∧ Below w.heap.size w w' := by
  go_enter Tryd.func6, Tryd.ntmps6
  go_wp2
  exact bodyPost_ret (v := .agg #[.int .i64 c, .int .i64 (-1)]) (by simp [results, Tryd.results6, go_sem]) rfl ⟨rfl, (Below.refl _ _).alloc (Nat.le_refl _) _⟩

def insErr (op a b m : Int) : Int :=
  if farB op 14 then 1
  else if fitB a (hasA op) 0 7 && fitB b (hasB op) 0 7 && fitB m (hasC op) (-32768) 32767 then 0 else 2

theorem insMay_far (op a b m : Int) (w : World) (hf : farB op 14 = true) : Calls Tryd.prog 7 #[.agg #[.int .i64 op, .int .i64 a, .int .i64 b, .int .i64 m]] w fun e w' => e = .returned (.int .i64 (insErr op a b m)) ∧ Below w.heap.size w w' := by
  go_enter Tryd.func7, Tryd.ntmps7
  go_wp2_with (go_at_call 11; refine (far_any _ _ _).mono ?_; rintro e w' ⟨rfl, rfl⟩)
  go_ret
  exact ⟨ret_int (by simp [insErr, hf]), (Below.refl _ _).alloc (Nat.le_refl _) _⟩

set_option maxHeartbeats 8000000 in
theorem insMay_near (op a b m : Int) (w : World) (hf : farB op 14 = false) : Calls Tryd.prog 7 #[.agg #[.int .i64 op, .int .i64 a, .int .i64 b, .int .i64 m]] w fun e w' => e = .returned (.int .i64 (insErr op a b m)) ∧ Below w.heap.size w w' := by
  go_enter Tryd.func7, Tryd.ntmps7
  go_wp2_with (first
    | (go_at_call 11; refine (far_any _ _ _).mono ?_; rintro e w' ⟨rfl, rfl⟩)
    | (go_at_call 17; refine (has_any _ _).mono ?_; rintro e w' ⟨rfl, rfl⟩))
  all_goals
    go_ret
    refine ⟨ret_int ?_, (Below.refl _ _).alloc (Nat.le_refl _) _⟩
    simp only [insErr, fitB, farB] at *
    grind
end Go.Proofs.YthgalknkkhkefaaDoor
