/- keyholdref.CodeText's walk. -/
import Derived.Test.YthgalknkkhkefaaDoorCodeText
namespace Go.Proofs.YthgalknkkhkefaaDoor
open Go Go.RowKit
theorem val_str {a b : ByteArray} (h : a = b) : Value.string a = .string b := by rw [h]
theorem dec_B (B : Nat) (n : Int) (w : World) (h0 : -100000 < n) (h1 : n < 100000) (hB : B ≤ w.heap.size) :
    Calls Tryd.prog 18 #[.int .i64 n] w fun e w' => e = .returned (.string (ctB (Lib.itoa n))) ∧ Below B w w' :=
  (dec_any _ n w h0 h1 (Nat.le_refl _)).mono fun _ _ h => ⟨h.1, h.2.mono hB⟩
set_option maxRecDepth 100000 in
set_option maxHeartbeats 4000000 in
theorem codeText_any (l : List I4) (b o c nb no nc : Nat) (w : World) (hl : l.length ≤ 40) (hok : ∀ i ∈ l, okI i) (hi : InsAt w b o l) (hb : b < w.heap.size) (hn : NamesAt w nb no nc) (hnb : nb < w.heap.size) (h0 : 0 < w.heap.size) (p : Option Addr) (hpp : 0 < l.length → p = some ⟨b, o, none⟩) :
    Calls Tryd.prog 8 #[.slice p l.length c] w fun e w' => e = .returned (.string (ctB (codeT l))) ∧ Below w.heap.size w w' := by
  have HPP := Lib.hid hpp
  clear hpp
  go_enter Tryd.func8, Tryd.ntmps8
  go_wp2
  go_loopw [3, 4] (fun s i wr => ∃ k : Nat, k ≤ l.length ∧ i = .int .i64 k ∧ s = .string (ctB (codeT (l.take k))) ∧ Below w.heap.size w wr) (fun _ i _ => l.length - (intOf i).toNat)
  case atStart => exact ⟨0, Nat.zero_le _, rfl, rfl, Below.refl _ _⟩
  case round =>
    obtain ⟨k, hk, rfl, rfl, hbw⟩ := hrel
    by_cases hlt : k < l.length
    · obtain rfl := HPP.out (by omega)
      have hi' := hi.below hbw hb
      have hn' := hn.below hbw h0 hnb
      obtain ⟨f0, f1, f2, f3⟩ := hi' k hlt
      have hok' := hok l[k] (List.getElem_mem hlt)
      have hop := okI_op hok'
      obtain ⟨q, hq⟩ : ∃ q : Nat, l[k].1 = (q : Int) := ⟨l[k].1.toNat, by omega⟩
      rw [hq] at f0
      have g0 := hn'.1
      have g1 := hn'.2 q (by omega)
      have hsz : (ctB (codeT (l.take k))).size ≤ 1200 := by
        rw [ctB_size]
        have := codeT_len (l.take k) (fun i hi => hok i (List.mem_of_mem_take hi))
        have h2 : (l.take k).length ≤ k := List.length_take_le _ _
        omega
      have hnq := nmB_size q
      have hq15 : (q : Int) < 15 := by omega
      have hws := hbw.size
      have ra : hasA q = true → -100000 < l[k].2.1 ∧ l[k].2.1 < 100000 := fun h => by have := okI_a hok' (by rw [hq]; exact h); omega
      have rb : hasB q = true → -100000 < l[k].2.2.1 ∧ l[k].2.2.1 < 100000 := fun h => by have := okI_b hok' (by rw [hq]; exact h); omega
      have rc : hasC q = true → -100000 < l[k].2.2.2 ∧ l[k].2.2.2 < 100000 := fun h => by have := okI_c hok' (by rw [hq]; exact h); omega
      have sa : hasA q = true → (ctB (Lib.itoa l[k].2.1)).size ≤ 6 := fun h => by rw [ctB_size]; exact itoa_len _ (ra h).1 (ra h).2
      have sb : hasB q = true → (ctB (Lib.itoa l[k].2.2.1)).size ≤ 6 := fun h => by rw [ctB_size]; exact itoa_len _ (rb h).1 (rb h).2
      have sc : hasC q = true → (ctB (Lib.itoa l[k].2.2.2)).size ≤ 6 := fun h => by rw [ctB_size]; exact itoa_len _ (rc h).1 (rc h).2
      have RA := Lib.hid ra
      have RB := Lib.hid rb
      have RC := Lib.hid rc
      have SA := Lib.hid sa
      have SB := Lib.hid sb
      have SC := Lib.hid sc
      have ST := Lib.hid (show codeT (l.take (k + 1)) = codeT (l.take k) ++ (nm q ++ (if hasA q then [32, 114] ++ Lib.itoa l[k].2.1 else []) ++ (if hasB q then [32, 114] ++ Lib.itoa l[k].2.2.1 else []) ++ (if hasC q then [32] ++ Lib.itoa l[k].2.2.2 else []) ++ [10]) by
        rw [codeT_snoc l k hlt, lineT, partA, partB, partC, hq]; rfl)
      clear ra rb rc sa sb sc hok' hop hq hi' hn' hi hn hok
      go_wp2
      go_region
      cases hA : hasA q <;> cases hB : hasB q <;> cases hC : hasC q
      all_goals
        try have za := SA.out hA
        try have zb := SB.out hB
        try have zc := SC.out hC
        go_wp2_with (first
          | (go_at_call 17; refine (has_any _ _).mono ?_; rintro e w' ⟨rfl, rfl⟩)
          | (go_at_call 18; refine (dec_B w.heap.size _ _ (by first | exact (RA.out hA).1 | exact (RB.out hB).1 | exact (RC.out hC).1) (by first | exact (RA.out hA).2 | exact (RB.out hB).2 | exact (RC.out hC).2) (by first | exact hws | assumption)).mono ?_; rintro e w1 ⟨rfl, hb1⟩; have hr1 := fun o' => hb1.cell (p := ⟨b, o', none⟩) hb; have hz1 : w.heap.size ≤ w1.heap.size := Nat.le_trans (by first | exact hws | assumption) hb1.size; have hx1 : Below w.heap.size w w1 := (by first | exact hbw.drew.trans hb1 | exact Below.trans (by assumption) hb1); clear hb1))
      all_goals
        refine ⟨⟨k + 1, by omega, by go_num, ?_, by first | exact hbw.drew | assumption⟩, by simp [intOf]; omega⟩
        rw [ST.out, hA, hB, hC]
        refine val_str (ByteArray.ext ?_)
        simp [ctB, nmB]
    · go_wp2
      go_ret
      obtain rfl : k = l.length := by omega
      exact ⟨by simp, hbw⟩
end Go.Proofs.YthgalknkkhkefaaDoor
