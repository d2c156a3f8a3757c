/- isa.Check: whether an instruction may be, where the table of shapes holds what the text lays. -/
import Derived.Test.YthgalknkkhkefaaDoorDec
namespace Go.Proofs.YthgalknkkhkefaaDoor
open Go Go.RowKit

def nmL : List (List UInt8) := [[104, 97, 108, 116], [115, 101, 116], [109, 111, 118], [97, 100, 100], [115, 117, 98], [109, 117, 108], [97, 110, 100], [111, 114], [120, 111, 114], [108, 101, 115, 115], [108, 111, 97, 100], [115, 116, 111, 114, 101], [106, 117, 109, 112], [122, 101, 114, 111], [115, 121, 115]]
def nm (k : Nat) : List UInt8 := nmL.getD k []
def nmB (k : Nat) : ByteArray := ⟨(nm k).toArray⟩
theorem nm_len (k : Nat) : (nm k).length ≤ 5 := by
  rcases Nat.lt_or_ge k 15 with h | h
  · have : ∀ k : Fin 15, (nm k.1).length ≤ 5 := by decide
    exact this ⟨k, h⟩
  · unfold nm
    rw [List.getD_eq_getElem?_getD, List.getElem?_eq_none (by simpa [nmL] using h)]
    simp
theorem nmB_size (k : Nat) : (nmB k).size ≤ 5 := by simpa [nmB, ByteArray.size] using nm_len k

def ShapesAt (w : World) : Prop := ∀ k : Nat, k < 15 → w.cell? ⟨1, k * 4, none⟩ = some (.string (nmB k)) ∧ w.cell? ⟨1, k * 4 + 1, none⟩ = some (.bool (hasA k)) ∧ w.cell? ⟨1, k * 4 + 2, none⟩ = some (.bool (hasB k)) ∧ w.cell? ⟨1, k * 4 + 3, none⟩ = some (.bool (hasC k))
theorem ShapesAt.lt {w : World} (h : ShapesAt w) : 1 < w.heap.size := lt_of_cell (h 0 (by omega)).1
theorem ShapesAt.below {w w' : World} (h : ShapesAt w) (hb : Below w.heap.size w w') : ShapesAt w' := fun k hk => by
  have hl := h.lt
  obtain ⟨a, b, c, d⟩ := h k hk
  exact ⟨(hb.cell (p := ⟨1, k * 4, none⟩) hl).trans a, (hb.cell (p := ⟨1, k * 4 + 1, none⟩) hl).trans b, (hb.cell (p := ⟨1, k * 4 + 2, none⟩) hl).trans c, (hb.cell (p := ⟨1, k * 4 + 3, none⟩) hl).trans d⟩

def errV (c : Int) : Value := if c = 0 then .nilIface else .iface 23 (.int .i64 c)
theorem ret_val {a b : Value} (h : a = b) : Ending.returned a = .returned b := by rw [h]

set_option maxHeartbeats 1000000 in
theorem check_far (op a b m : Int) (w : World) (hf : farB op 14 = true) : Calls Tryd.prog 19 #[.agg #[.int .i64 op, .int .i64 a, .int .i64 b, .int .i64 m]] w fun e w' => e = .returned (errV (insErr op a b m)) ∧ Below w.heap.size w w' := by
  go_enter Tryd.func19, Tryd.ntmps19
  go_wp2
  all_goals
    first
      | (exfalso; simp_all [farB]; omega)
      | (go_ret
         exact ⟨ret_val (by simp [errV, insErr, hf]), (Below.refl _ _).alloc (Nat.le_refl _) _⟩)
theorem far_nat (k : Nat) (hk : k < 15) : farB k 14 = false := by simp [farB]; omega
set_option maxHeartbeats 4000000 in
theorem check_near (k : Nat) (a b m : Int) (w : World) (hk : k < 15) (hs : ShapesAt w) : Calls Tryd.prog 19 #[.agg #[.int .i64 k, .int .i64 a, .int .i64 b, .int .i64 m]] w fun e w' => e = .returned (errV (insErr k a b m)) ∧ Below w.heap.size w w' := by
  have hl := hs.lt
  obtain ⟨c0, c1, c2, c3⟩ := hs k hk
  go_enter Tryd.func19, Tryd.ntmps19
  go_wp2_with (go_at_call 28; refine (fits_any _ _ _ _ _).mono ?_; rintro e w' ⟨rfl, rfl⟩)
  all_goals
    go_ret
    refine ⟨ret_val ?_, ((Below.refl _ _).alloc (Nat.le_refl _) _).alloc (by simp) _⟩
    simp_all [errV, insErr, far_nat]
theorem check_any (op a b m : Int) (w : World) (hs : ShapesAt w) : Calls Tryd.prog 19 #[.agg #[.int .i64 op, .int .i64 a, .int .i64 b, .int .i64 m]] w fun e w' => e = .returned (errV (insErr op a b m)) ∧ Below w.heap.size w w' := by
  by_cases h : farB op 14 = true
  · exact check_far op a b m w h
  · have h' : 0 ≤ op ∧ op ≤ 14 := by simpa [farB] using h
    obtain ⟨k, rfl⟩ : ∃ k : Nat, op = k := ⟨op.toNat, by omega⟩
    exact check_near k a b m w (by omega) hs
theorem insMay_any (op a b m : Int) (w : World) : Calls Tryd.prog 7 #[.agg #[.int .i64 op, .int .i64 a, .int .i64 b, .int .i64 m]] w fun e w' => e = .returned (.int .i64 (insErr op a b m)) ∧ Below w.heap.size w w' := by
  by_cases h : farB op 14 = true
  · exact insMay_far op a b m w h
  · exact insMay_near op a b m w (by simpa using h)
end Go.Proofs.YthgalknkkhkefaaDoor
