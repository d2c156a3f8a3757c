/- keyholdref.Dec: a number's digits. -/
import Derived.Test.YthgalknkkhkefaaDoorTell
import Derived.Lib.ItoaNum
import Derived.Lib.Strings
namespace Go.Proofs.YthgalknkkhkefaaDoor
open Go Go.RowKit
theorem conv_one (x : Int) (w : World) : (convert 53 9 (.slice (some ⟨w.heap.size, 0, none⟩) 1 1)).run Tryd.prog (w.alloc (.cells #[.int .u8 x] 5)) = .ok (.string ⟨#[UInt8.ofNat x.toNat]⟩) (w.alloc (.cells #[.int .u8 x] 5)) := by
  rw [run_convert_bytes_string _ 53 9 5 _ _ _ Tryd.underlying53 Tryd.underlying5 Tryd.underlying9]
  have hl := run_loadCells_list (P := Tryd.prog) (w.alloc (.cells #[.int .u8 x] 5)) ⟨w.heap.size, 0, none⟩ ([x].map (Value.int .u8)) (fun j v hj => by
    rcases j with _ | j
    · simp at hj; subst hj; simp [Addr.add]
    · simp at hj)
  simp only [List.length_map] at hl
  rw [run_bytesToString _ _ 1 1 [x] hl]
  rfl

theorem decDigits_len : ∀ (k n : Nat), n < 10 ^ (k + 1) → (Lib.decDigits n).length ≤ k + 1
  | k, n, h => by
    by_cases h1 : n < 10
    · rw [Lib.decDigits, dif_pos h1]; simp
    · rw [Lib.decDigits, dif_neg h1]
      match k, h with
      | 0, h => exact absurd (by simpa using h) h1
      | k + 1, h =>
        have := decDigits_len k (n / 10) (by rw [Nat.pow_succ] at h; omega)
        simp; omega
theorem itoa_len (n : Int) (h0 : -100000 < n) (h1 : n < 100000) : (Lib.itoa n).length ≤ 6 := by
  unfold Lib.itoa
  split
  · have := decDigits_len 4 n.natAbs (by omega); simp; omega
  · have := decDigits_len 4 n.toNat (by omega); omega
theorem itoa_step (n : Int) (h : 10 ≤ n) : Lib.itoa n = Lib.itoa (n / 10) ++ [UInt8.ofNat (48 + n % 10).toNat] := by
  rw [Lib.itoa, if_neg (by omega), Lib.itoa, if_neg (by omega), Lib.decDigits, dif_neg (by omega), show (n / 10).toNat = n.toNat / 10 by omega, show (48 + n % 10).toNat = 48 + n.toNat % 10 by omega]
theorem itoa_neg_step (n : Int) (h : 10 ≤ n) : Lib.itoa (-n) = Lib.itoa (-(n / 10)) ++ [UInt8.ofNat (48 + n % 10).toNat] := by
  rw [Lib.itoa, if_pos (by omega), Lib.itoa, if_pos (by omega), Lib.decDigits, dif_neg (by omega), show (-(n / 10)).natAbs = (-n).natAbs / 10 by omega, show (48 + n % 10).toNat = 48 + (-n).natAbs % 10 by omega]
  rfl
theorem cat_str (l : List UInt8) (m : List UInt8) : ((⟨l.toArray⟩ : ByteArray) ++ (⟨m.toArray⟩ : ByteArray)) = ⟨(l ++ m).toArray⟩ := by
  apply ByteArray.ext; simp
theorem ret_str {a b : ByteArray} (h : a = b) : Ending.returned (.string a) = .returned (.string b) := by rw [h]

set_option maxRecDepth 100000 in
set_option maxHeartbeats 1000000 in
theorem dec_small (n : Int) (w : World) (h0 : 0 ≤ n) (h1 : n < 10) :
    Calls Tryd.prog 18 #[.int .i64 n] w fun e w' => e = .returned (.string ⟨(Lib.itoa n).toArray⟩) ∧ Below w.heap.size w w' := by
  have hc := fun x => conv_one x w
  go_enter Tryd.func18, Tryd.ntmps18
  go_wp2
  go_ret
  refine ⟨ret_str ?_, (Below.refl _ _).alloc (Nat.le_refl _) _⟩
  rw [Lib.itoa, if_neg (by omega), Lib.decDigits, dif_pos (by omega), show n % 10 = n by omega, show (48 + n).toNat = 48 + n.toNat by omega]

set_option maxRecDepth 100000 in
set_option maxHeartbeats 1000000 in
theorem dec_neg1 (n : Int) (w : World) (h0 : 0 < n) (h1 : n < 10) :
    Calls Tryd.prog 18 #[.int .i64 (-n)] w fun e w' => e = .returned (.string ⟨(Lib.itoa (-n)).toArray⟩) ∧ Below w.heap.size w w' := by
  have hc := fun x => conv_one x w
  have e1 : (-n).tmod 10 = -n := by rw [Int.neg_tmod, Int.tmod_eq_emod_of_nonneg (by omega)]; omega
  have e2 : (-n).tdiv 10 = 0 := by rw [Int.neg_tdiv, Int.tdiv_eq_ediv_of_nonneg (by omega)]; omega
  go_enter Tryd.func18, Tryd.ntmps18
  go_wp2
  go_ret
  refine ⟨ret_str ?_, (Below.refl _ _).alloc (Nat.le_refl _) _⟩
  rw [Lib.itoa, if_pos (by omega), Lib.decDigits, dif_pos (by omega), show (48 + n).toNat = 48 + (-n).natAbs by omega]
  exact cat_str [45] _
set_option maxRecDepth 100000 in
set_option maxHeartbeats 1000000 in
theorem dec_step (n : Int) (w : World) (h0 : 10 ≤ n) (h1 : n < 100000) (s : ByteArray) (hs : s.size ≤ 6) (ih : ∀ w, Calls Tryd.prog 18 #[.int .i64 (n / 10)] w fun e w' => e = .returned (.string s) ∧ Below w.heap.size w w'):
    Calls Tryd.prog 18 #[.int .i64 n] w fun e w' => e = .returned (.string (s ++ ⟨#[UInt8.ofNat (48 + n % 10).toNat]⟩)) ∧ Below w.heap.size w w' := by
  have hc := fun x => conv_one x w
  go_enter Tryd.func18, Tryd.ntmps18
  go_wp2_with (go_at_call 18; refine (ih _).mono ?_; rintro e w1 ⟨rfl, hb⟩)
  go_ret
  exact ⟨rfl, ((Below.refl _ _).alloc (Nat.le_refl _) _).trans (hb.mono (by simp))⟩
set_option maxRecDepth 100000 in
set_option maxHeartbeats 1000000 in
theorem dec_neg (n : Int) (w : World) (h0 : 10 ≤ n) (h1 : n < 100000) (s : ByteArray) (hs : s.size ≤ 6) (ih : ∀ w, Calls Tryd.prog 18 #[.int .i64 (-(n / 10))] w fun e w' => e = .returned (.string s) ∧ Below w.heap.size w w'):
    Calls Tryd.prog 18 #[.int .i64 (-n)] w fun e w' => e = .returned (.string (s ++ ⟨#[UInt8.ofNat (48 + n % 10).toNat]⟩)) ∧ Below w.heap.size w w' := by
  have hc := fun x => conv_one x w
  have e1 : (-n).tmod 10 = -(n % 10) := by rw [Int.neg_tmod, Int.tmod_eq_emod_of_nonneg (by omega)]
  have e2 : (-n).tdiv 10 = -(n / 10) := by rw [Int.neg_tdiv, Int.tdiv_eq_ediv_of_nonneg (by omega)]
  go_enter Tryd.func18, Tryd.ntmps18
  go_wp2_with (go_at_call 18; refine (ih _).mono ?_; rintro e w1 ⟨rfl, hb⟩)
  all_goals
    go_ret
    refine ⟨ret_str ?_, ((Below.refl _ _).alloc (Nat.le_refl _) _).trans (hb.mono (by simp))⟩
    first | rfl | rw [show -(n % 10) = n % 10 by omega]

theorem dec_any : ∀ (k : Nat) (n : Int) (w : World), -100000 < n → n < 100000 → n.natAbs ≤ k →
    Calls Tryd.prog 18 #[.int .i64 n] w fun e w' => e = .returned (.string ⟨(Lib.itoa n).toArray⟩) ∧ Below w.heap.size w w'
  | k, n, w, h0, h1, hk => by
    by_cases a : 0 ≤ n
    · by_cases b : n < 10
      · exact dec_small n w a b
      · match k, hk with
        | 0, hk => omega
        | k + 1, hk =>
          have ih := fun w => dec_any k (n / 10) w (by omega) (by omega) (by omega)
          have := dec_step n w (by omega) h1 _ (by have := itoa_len (n / 10) (by omega) (by omega); simpa [ByteArray.size] using this) ih
          rw [itoa_step n (by omega), ← cat_str]; exact this
    · obtain ⟨m, rfl⟩ : ∃ m : Int, n = -m := ⟨-n, by omega⟩
      by_cases b : m < 10
      · exact dec_neg1 m w (by omega) b
      · match k, hk with
        | 0, hk => omega
        | k + 1, hk =>
          have ih := fun w => dec_any k (-(m / 10)) w (by omega) (by omega) (by omega)
          have := dec_neg m w (by omega) (by omega) _ (by have := itoa_len (-(m / 10)) (by omega) (by omega); simpa [ByteArray.size] using this) ih
          rw [itoa_neg_step m (by omega), ← cat_str]; exact this
end Go.Proofs.YthgalknkkhkefaaDoor
