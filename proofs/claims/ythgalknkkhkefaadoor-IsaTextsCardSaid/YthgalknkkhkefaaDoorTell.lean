/- api.Tell and keyholdref.Is: what is wrong, and where: of no error, of an Errno, of a *Fault whose error is an Errno. -/
import Derived.Test.YthgalknkkhkefaaDoorAs
import Derived.Test.YthgalknkkhkefaaDoorSmall
namespace Go.Proofs.YthgalknkkhkefaaDoor
open Go Go.RowKit

def HandleAt (w : World) : Prop := w.cell? ⟨2, 0, none⟩ = some (.iface 106 (.agg #[.pointer (some ⟨9, 33, none⟩)]))
theorem HandleAt.lt {w : World} (h : HandleAt w) : 2 < w.heap.size := by
  rcases Nat.lt_or_ge 2 w.heap.size with k | k
  · exact k
  · simp [HandleAt, World.cell?, Array.getElem?_eq_none k] at h
theorem HandleAt.below {w w' : World} (h : HandleAt w) (hb : Below w.heap.size w w') : HandleAt w' := (hb.cell (p := ⟨2, 0, none⟩) h.lt).trans h

/-- What a call that answers true leaves. -/
def Hit (B : Nat) (w : World) (t : Addr) (v : Value) (e : Ending) (w' : World) : Prop := e = .returned (.bool true) ∧ w'.cell? t = some v ∧ Below B w w'

theorem lt_of_cell {w : World} {t : Addr} {v : Value} (h : w.cell? t = some v) : t.block < w.heap.size := by
  rcases Nat.lt_or_ge t.block w.heap.size with k | k
  · exact k
  · simp [World.cell?, Array.getElem?_eq_none k] at h

theorem hit_of {w : World} {t : Addr} {old v : Value} {B : Nat} {o1 o2 o3 o4 : Obj} {e : Ending} {w' : World} (ht : w.cell? t = some old) (hB : B ≤ t.block) (he : e = .returned (.bool true)) (hw : w' = ((((w.alloc o1).alloc o2).alloc o3).alloc o4).setCell t v) : Hit B w t v e w' := by
  have htl := lt_of_cell ht
  subst hw
  refine ⟨he, World.cell?_setCell_same (u := old) _ _ _ ?_, ?_⟩
  · rw [World.cell?_alloc_lt _ _ t (by simp; omega), World.cell?_alloc_lt _ _ t (by simp; omega), World.cell?_alloc_lt _ _ t (by simp; omega), World.cell?_alloc_lt _ _ t htl]; exact ht
  · exact ((((((Below.refl _ _).alloc (by omega) _).alloc (by simp; omega) _).alloc (by simp; omega) _).alloc (by simp; omega) _).setCell hB _)

theorem as_ff_hit (B : Nat) (e t : Addr) (old : Value) (w : World) (hg : HandleAt w) (ht : w.cell? t = some old) (hf : w.frozen? t = false) (hB : B ≤ t.block) :
    Calls Tryd.prog 31 #[.iface 57 (.pointer (some e)), .iface 76 (.pointer (some t))] w (Hit B w t (.pointer (some e))) :=
  (as_ff e t old w hg ht hf).mono fun _ _ h => hit_of ht hB h.1 h.2
theorem as_ee_hit (B : Nat) (e : Int) (t : Addr) (old : Value) (w : World) (hg : HandleAt w) (ht : w.cell? t = some old) (hf : w.frozen? t = false) (hB : B ≤ t.block) :
    Calls Tryd.prog 31 #[.iface 23 (.int .i64 e), .iface 77 (.pointer (some t))] w (Hit B w t (.int .i64 e)) :=
  (as_ee e t old w hg ht hf).mono fun _ _ h => hit_of ht hB h.1 h.2
theorem as_ef_hit (B pb po : Nat) (e : Int) (t : Addr) (old : Value) (w : World) (hg : HandleAt w) (ht : w.cell? t = some old) (hf : w.frozen? t = false) (hp : w.cell? ⟨pb, po + 1, none⟩ = some (.iface 23 (.int .i64 e))) (hB : B ≤ t.block) :
    Calls Tryd.prog 31 #[.iface 57 (.pointer (some ⟨pb, po, none⟩)), .iface 77 (.pointer (some t))] w (Hit B w t (.int .i64 e)) :=
  (as_ef pb po e t old w hg ht hf hp).mono fun _ _ h => hit_of ht hB h.1 h.2
theorem as_fe_miss (B : Nat) (e : Int) (t : Addr) (old : Value) (w : World) (hg : HandleAt w) (ht : w.cell? t = some old) (hB : B ≤ w.heap.size) :
    Calls Tryd.prog 31 #[.iface 23 (.int .i64 e), .iface 76 (.pointer (some t))] w fun r w' => r = .returned (.bool false) ∧ Below B w w' :=
  (as_fe e t old w hg ht).mono fun _ _ h => ⟨h.1, by rw [h.2]; exact (((Below.refl _ _).alloc (by omega) _).alloc (by simp; omega) _).alloc (by simp; omega) _⟩

/-- The error value that speaks of (e, at) in a world. -/
inductive Errs (w : World) : Value → Int → Int → Prop
  | ok : Errs w .nilIface 0 (-1)
  | no (e : Int) : Errs w (.iface 23 (.int .i64 e)) e (-1)
  | at (pb po : Nat) (e n : Int) : w.cell? ⟨pb, po, none⟩ = some (.int .i64 n) → w.cell? ⟨pb, po + 1, none⟩ = some (.iface 23 (.int .i64 e)) → Errs w (.iface 57 (.pointer (some ⟨pb, po, none⟩))) e n

theorem tell_nil (w : World) : Calls Tryd.prog 24 #[.nilIface] w fun r w' => r = .returned (.tuple #[.int .i64 0, .int .i64 (-1)]) ∧ Below w.heap.size w w' := by
  go_enter Tryd.func24, Tryd.ntmps24
  go_wp2
  go_ret2
  exact ⟨rfl, Below.refl _ _⟩

set_option maxHeartbeats 4000000 in
theorem tell_no (e : Int) (w : World) (hg : HandleAt w) : Calls Tryd.prog 24 #[.iface 23 (.int .i64 e)] w fun r w' => r = .returned (.tuple #[.int .i64 e, .int .i64 (-1)]) ∧ Below w.heap.size w w' := by
  have hG := hg.lt
  have hg1 : HandleAt (w.alloc (.cells #[.pointer none] 57)) := hg.below ((Below.refl _ _).alloc (Nat.le_refl _) _)
  go_enter Tryd.func24, Tryd.ntmps24
  go_wp2_with fail
  refine (as_fe_miss w.heap.size e _ (.pointer none) _ hg1 (by simp) (by simp)).mono ?_
  rintro r w1 ⟨rfl, hb1⟩
  have hsz : w.heap.size + 1 ≤ w1.heap.size := by have := hb1.size; simpa using this
  have hbw : Below w.heap.size w w1 := ((Below.refl _ _).alloc (Nat.le_refl _) _).trans hb1
  have hg2 : HandleAt (w1.alloc (.cells #[.int .i64 0] 23)) := (hg.below hbw).below ((Below.refl _ _).alloc (Nat.le_refl _) _)
  go_wp2_with fail
  refine (as_ee_hit w.heap.size e _ (.int .i64 0) _ hg2 (by simp) (by simp) (by simp; omega)).mono ?_
  rintro r w2 ⟨rfl, hc2, hb2⟩
  go_wp2
  go_ret2
  exact ⟨rfl, (hbw.alloc (by omega) _).trans hb2⟩
set_option maxHeartbeats 4000000 in
theorem tell_at (pb po : Nat) (e n : Int) (w : World) (hg : HandleAt w) (h0 : w.cell? ⟨pb, po, none⟩ = some (.int .i64 n)) (h1 : w.cell? ⟨pb, po + 1, none⟩ = some (.iface 23 (.int .i64 e))) :
    Calls Tryd.prog 24 #[.iface 57 (.pointer (some ⟨pb, po, none⟩))] w fun r w' => r = .returned (.tuple #[.int .i64 e, .int .i64 n]) ∧ Below w.heap.size w w' := by
  have hG := hg.lt
  have hp := lt_of_cell h0
  have hg1 : HandleAt (w.alloc (.cells #[.pointer none] 57)) := hg.below ((Below.refl _ _).alloc (Nat.le_refl _) _)
  go_enter Tryd.func24, Tryd.ntmps24
  go_wp2_with fail
  refine (as_ff_hit w.heap.size _ _ (.pointer none) _ hg1 (by simp) (by simp) (by simp)).mono ?_
  rintro r w1 ⟨rfl, hc1, hb1⟩
  have hsz : w.heap.size + 1 ≤ w1.heap.size := by have := hb1.size; simpa using this
  have hbw : Below w.heap.size w w1 := ((Below.refl _ _).alloc (Nat.le_refl _) _).trans hb1
  have hg2 : HandleAt (w1.alloc (.cells #[.int .i64 0] 23)) := (hg.below hbw).below ((Below.refl _ _).alloc (Nat.le_refl _) _)
  have h0a : w1.cell? ⟨pb, po, none⟩ = some (.int .i64 n) := (hbw.cell (p := ⟨pb, po, none⟩) hp).trans h0
  have h1a : (w1.alloc (.cells #[.int .i64 0] 23)).cell? ⟨pb, po + 1, none⟩ = some (.iface 23 (.int .i64 e)) := by
    rw [World.cell?_alloc_lt _ _ ⟨pb, po + 1, none⟩ (by show pb < _; have : pb < w.heap.size := hp; omega)]
    exact (hbw.cell (p := ⟨pb, po + 1, none⟩) hp).trans h1
  go_wp2_with fail
  refine (as_ef_hit w.heap.size pb po e _ (.int .i64 0) _ hg2 (by simp) (by simp) h1a (by simp; omega)).mono ?_
  rintro r w2 ⟨rfl, hc2, hb2⟩
  go_wp2
  go_ret2
  exact ⟨rfl, (hbw.alloc (by omega) _).trans hb2⟩

theorem tell_any {v : Value} {e n : Int} {w : World} (hg : HandleAt w) (h : Errs w v e n) : Calls Tryd.prog 24 #[v] w fun r w' => r = .returned (.tuple #[.int .i64 e, .int .i64 n]) ∧ Below w.heap.size w w' := by
  cases h with
  | ok => exact tell_nil w
  | no => exact tell_no _ w hg
  | «at» pb po _ _ h0 h1 => exact tell_at pb po e n w hg h0 h1

def isB (e n c m : Int) : Bool := e == c && n == m
set_option maxHeartbeats 4000000 in
theorem is_any {v : Value} {e n : Int} (c m : Int) {w : World} (hg : HandleAt w) (h : Errs w v e n) : Calls Tryd.prog 10 #[v, .agg #[.int .i64 c, .int .i64 m]] w fun r w' => r = .returned (.bool (isB e n c m)) ∧ Below w.heap.size w w' := by
  have hg1 : HandleAt (w.alloc (.cells #[.int .i64 c, .int .i64 m] 25)) := hg.below ((Below.refl _ _).alloc (Nat.le_refl _) _)
  have he : Errs (w.alloc (.cells #[.int .i64 c, .int .i64 m] 25)) v e n := by
    cases h with
    | ok => exact .ok
    | no => exact .no _
    | «at» pb po _ _ h0 h1 =>
      have hp := lt_of_cell h0
      exact .at pb po _ _ ((World.cell?_alloc_lt _ _ ⟨pb, po, none⟩ hp).trans h0) ((World.cell?_alloc_lt _ _ ⟨pb, po + 1, none⟩ hp).trans h1)
  go_enter Tryd.func10, Tryd.ntmps10
  go_wp2_with fail
  refine (tell_any hg1 he).mono ?_
  rintro r w1 ⟨rfl, hb1⟩
  have hc0 : w1.cell? ⟨w.heap.size, 0, none⟩ = some (.int .i64 c) := (hb1.cell (p := ⟨w.heap.size, 0, none⟩) (by simp)).trans (by simp)
  have hc1 : w1.cell? ⟨w.heap.size, 1, none⟩ = some (.int .i64 m) := (hb1.cell (p := ⟨w.heap.size, 1, none⟩) (by simp)).trans (by simp)
  go_wp2
  all_goals
    go_ret
    refine ⟨ret_bool ?_, ((Below.refl _ _).alloc (Nat.le_refl _) _).trans (hb1.mono (by simp))⟩
    simp_all [isB]
end Go.Proofs.YthgalknkkhkefaaDoor
