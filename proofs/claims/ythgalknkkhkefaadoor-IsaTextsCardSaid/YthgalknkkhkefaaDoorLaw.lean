/- The law IsaTexts: for every list of instructions it returns true; what was there is as it was. -/
import Derived.Test.YthgalknkkhkefaaDoorCodeWalk
import Derived.Test.YthgalknkkhkefaaDoorText
namespace Go.Proofs.YthgalknkkhkefaaDoor
open Go Go.RowKit

set_option maxHeartbeats 1000000 in
theorem law_long (p : Option Addr) (n c : Nat) (w : World) (hn : 100 < n) (hn2 : n ≤ 9223372036854775807) :
    Calls Tryd.prog 3 #[.slice p n c] w fun e w' => e = .returned (.bool true) ∧ Below w.heap.size w w' := by
  go_enter Tryd.func3, Tryd.ntmps3
  go_wp2
  go_ret
  exact ⟨rfl, Below.refl _ _⟩

theorem is_same {v : Value} {e n : Int} {w : World} (hg : HandleAt w) (h : Errs w v e n) : Calls Tryd.prog 10 #[v, .agg #[.int .i64 e, .int .i64 n]] w fun r w' => r = .returned (.bool true) ∧ Below w.heap.size w w' :=
  (is_any e n hg h).mono fun _ _ r => ⟨by rw [r.1]; simp [isB], r.2⟩
theorem set2_cells {W : World} {n : Nat} {u v : Value} (h0 : W.cell? ⟨n, 0, none⟩ = some u) (h1 : W.cell? ⟨n, 1, none⟩ = some v) (a b : Value) :
    ((W.setCell ⟨n, 0, none⟩ a).setCell ⟨n, 1, none⟩ b).cell? ⟨n, 0, none⟩ = some a ∧ ((W.setCell ⟨n, 0, none⟩ a).setCell ⟨n, 1, none⟩ b).cell? ⟨n, 1, none⟩ = some b := by
  constructor
  · rw [World.cell?_setCell_other _ _ _ _ (by simp)]
    exact World.cell?_setCell_same _ _ _ h0
  · exact World.cell?_setCell_same _ _ _ ((World.cell?_setCell_other _ _ _ _ (by simp)).trans h1)
theorem isB_self (e n : Int) : isB e n e n = true := by simp [isB]

set_option maxRecDepth 100000 in
set_option maxHeartbeats 4000000 in
theorem law_mid (p : Option Addr) (n c : Nat) (w : World) (hn : 40 < n) (hn2 : n ≤ 100) (hg : HandleAt w) :
    Calls Tryd.prog 3 #[.slice p n c] w fun e w' => e = .returned (.bool true) ∧ Below w.heap.size w w' := by
  go_enter Tryd.func3, Tryd.ntmps3
  go_wp2_with fail
  refine (fine_any _).mono ?_
  rintro e w1 ⟨rfl, hb1⟩
  go_wp2_with fail
  refine (err_any _ _).mono ?_
  rintro e w2 ⟨rfl, hb2⟩
  obtain ⟨e2, bw2, z2⟩ := after_alloc hb2
  have c0 := cell_heap e2 0 rfl
  have c1 := cell_heap e2 1 rfl
  have f0 := Lib.frozen_of_heap e2 0
  have f1 := Lib.frozen_of_heap e2 1
  clear hb2
  go_wp2_with fail
  refine wp_loop_rounds 1 ?_
  rw [rounds_succ]
  go_wp2_with fail
  refine (text_long p n c _ hn hn2).mono ?_
  rintro e w3 ⟨v, rfl, herr, hb3⟩
  replace hb3 := hb3.mono (B' := w2.heap.size) (by simp [World.setCell])
  have d0 : w3.cell? ⟨w1.heap.size, 0, none⟩ = some (.int .i64 2) := (hb3.cell (p := ⟨w1.heap.size, 0, none⟩) z2).trans (set2_cells c0 c1 _ _).1
  have d1 : w3.cell? ⟨w1.heap.size, 1, none⟩ = some (.int .i64 (-1)) := (hb3.cell (p := ⟨w1.heap.size, 1, none⟩) z2).trans (set2_cells c0 c1 _ _).2
  have s1 := hb1.size
  have bw : Below w.heap.size w w3 := (((hb1.trans (bw2.mono s1)).setCell (p := ⟨w1.heap.size, 0, none⟩) s1 _).setCell (p := ⟨w1.heap.size, 1, none⟩) s1 _).trans (hb3.mono (by omega))
  have hg3 := hg.below bw
  go_wp2_with fail
  refine (is_same hg3 herr).mono ?_
  rintro e w4 ⟨rfl, hb4⟩
  go_wp2
  go_ret
  exact ⟨ret_bool (by rw [Lib.toList_data]; rfl), bw.trans (hb4.mono bw.size)⟩
end Go.Proofs.YthgalknkkhkefaaDoor
