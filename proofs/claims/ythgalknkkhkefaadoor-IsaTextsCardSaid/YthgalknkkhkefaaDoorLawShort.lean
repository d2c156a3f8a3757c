/- The law IsaTexts at a list of at most 40 instructions. -/
import Derived.Test.YthgalknkkhkefaaDoorLaw
namespace Go.Proofs.YthgalknkkhkefaaDoor
open Go Go.RowKit

/-- How far the law's loop has come: nothing is wrong so far, or the first wrong one is behind. -/
def LR (l : List I4) (k0 k : Nat) (E A : Int) : Prop := (k ≤ k0 ∧ E = 0 ∧ A = -1) ∨ (k = k0 + 1 ∧ ∃ h : k0 < l.length, E = insErr l[k0].1 l[k0].2.1 l[k0].2.2.1 l[k0].2.2.2 ∧ A = k0 ∧ E ≠ 0)

theorem may_ok (op a b m : Int) (w : World) (h : insErr op a b m = 0) : Calls Tryd.prog 7 #[.agg #[.int .i64 op, .int .i64 a, .int .i64 b, .int .i64 m]] w fun e w' => e = .returned (.int .i64 0) ∧ Below w.heap.size w w' :=
  (insMay_any op a b m w).mono fun _ _ r => ⟨by rw [r.1, h], r.2⟩
theorem may_bad (op a b m : Int) (w : World) (E : Int) (h : insErr op a b m = E) : Calls Tryd.prog 7 #[.agg #[.int .i64 op, .int .i64 a, .int .i64 b, .int .i64 m]] w fun e w' => e = .returned (.int .i64 E) ∧ Below w.heap.size w w' :=
  (insMay_any op a b m w).mono fun _ _ r => ⟨by rw [r.1, h], r.2⟩

set_option maxRecDepth 100000 in
set_option maxHeartbeats 8000000 in
theorem law_short (l : List I4) (k0 : Nat) (b o c nb no nc : Nat) (w : World) (hl : l.length ≤ 40) (hk0 : k0 ≤ l.length) (hok : ∀ j (h : j < l.length), j < k0 → okI l[j]) (hbad : ∀ h : k0 < l.length, ¬ okI l[k0])
    (hi : InsAt w b o l) (hb : b < w.heap.size) (hs : ShapesAt w) (hp : PowAt w) (hn : NamesAt w nb no nc) (hnb : nb < w.heap.size) (h0 : 0 < w.heap.size) (hg : HandleAt w) (p : Option Addr) (hpp : 0 < l.length → p = some ⟨b, o, none⟩) :
    Calls Tryd.prog 3 #[.slice p l.length c] w fun e w' => e = .returned (.bool true) ∧ Below w.heap.size w w' := by
  have HPP := Lib.hid hpp
  clear hpp
  go_enter Tryd.func3, Tryd.ntmps3
  go_wp2_with fail
  refine (fine_any _).mono ?_
  rintro e w1 ⟨rfl, hb1⟩
  have z1 := hb1.size
  go_wp2_with fail
  go_loopw [4] (fun i wr => ∃ (k : Nat) (E A : Int), i = .int .i64 k ∧ LR l k0 k E A ∧ wr.heap[w1.heap.size]? = some (.cells #[.int .i64 E, .int .i64 A] 25 (0, 0)) ∧ Below w1.heap.size w1 wr) (fun i _ => l.length - (intOf i).toNat)
  case atStart => exact ⟨0, 0, -1, rfl, Or.inl ⟨Nat.zero_le _, rfl, rfl⟩, heap_alloc_new w1 _, (Below.refl _ _).alloc (Nat.le_refl _) _⟩
  case round =>
    obtain ⟨k, E, A, rfl, hlr, e1, hbw⟩ := hrel
    have hbww := hb1.trans (hbw.mono z1)
    have hz2 := lt_of_heap e1
    have c0 := cell_heap e1 0 rfl
    have c1 := cell_heap e1 1 rfl
    have f0 := Lib.frozen_of_heap e1 0
    have f1 := Lib.frozen_of_heap e1 1
    have E1 := Lib.hid e1
    clear e1
    rcases hlr with ⟨hk, rfl, rfl⟩ | ⟨rfl, hlt, hE, rfl, hE0⟩
    · by_cases hend : k = l.length
      · obtain rfl : k = k0 := by omega
        have HI := Lib.hid (hi.below hbww hb)
        have HOK := Lib.hid hok
        have HBAD := Lib.hid hbad
        have HS := Lib.hid (hs.below (hbww.mono (Nat.le_refl _)))
        have HP := Lib.hid (hp.below hbww hp.lt)
        have HG := Lib.hid (hg.below hbww)
        have HN := Lib.hid (hn.below hbww h0 hnb)
        have HEND := Lib.hid hend
        have hge : l.length ≤ k := by omega
        have hbz := hbww.size
        clear hi hok hbad hs hp hn hend
        go_wp2_with fail
        refine (codeText_any l b o c nb no nc _ hl (fun i hi => by
          obtain ⟨j, hj, rfl⟩ := List.getElem_of_mem hi
          exact HOK.out j hj (by omega)) HI.out (by omega) HN.out (by omega) (by omega) p HPP.out).mono ?_
        rintro e w2 ⟨rfl, hb2⟩
        have hz4 := hb2.size
        go_wp2_with fail
        refine (text_any l k b o c _ hl hk0 HOK.out HBAD.out (HI.out.below hb2 (by omega)) (by omega) (HS.out.below hb2) (HP.out.below hb2 HP.out.lt) p HPP.out).mono ?_
        rintro e w3 ⟨v, rfl, herr, hb3⟩
        have hnl : ¬ k < l.length := by omega
        rw [if_neg hnl, dif_neg hnl] at herr
        rw [if_neg hnl]
        have e3 := (hb3.block _ (by omega)).trans ((hb2.block _ hz2).trans E1.out)
        have d0 := cell_heap e3 0 rfl
        have d1 := cell_heap e3 1 rfl
        have hg3 := (HG.out.below hb2).below hb3
        clear e3 hnl
        go_wp2_with fail
        refine (is_same hg3 herr).mono ?_
        rintro e w4 ⟨rfl, hb4⟩
        go_wp2
        go_ret
        exact ⟨rfl, ((hbww.trans (hb2.mono (by omega))).trans (hb3.mono (by omega))).trans (hb4.mono (by have := hb3.size; omega))⟩
      · have hlt : k < l.length := by omega
        obtain rfl := HPP.out (by omega)
        obtain ⟨g0, g1, g2, g3⟩ := hi.below hbww hb k hlt
        by_cases hkk : k < k0
        · have HO := Lib.hid (hok k hlt hkk)
          go_wp2_with (go_at_call 7; refine (may_ok _ _ _ _ _ HO.out).mono ?_; rintro e w2 ⟨rfl, hb2⟩)
          refine ⟨⟨k + 1, 0, -1, by go_num, Or.inl ⟨by omega, rfl, rfl⟩, (hb2.block _ hz2).trans E1.out, hbw.trans (hb2.mono (by omega))⟩, by simp [intOf]; omega⟩
        · obtain rfl : k = k0 := by omega
          obtain ⟨E, hE⟩ : ∃ E, insErr l[k].1 l[k].2.1 l[k].2.2.1 l[k].2.2.2 = E := ⟨_, rfl⟩
          have hE0 : E ≠ 0 := fun h => hbad hlt (by rw [okI, hE, h])
          have HE := Lib.hid hE
          have HBAD := Lib.hid hbad
          clear hE hbad hok hi
          go_wp2_with (go_at_call 7; refine (may_bad _ _ _ _ _ _ HE.out).mono ?_; rintro e w2 ⟨rfl, hb2⟩; have e2 := (hb2.block _ hz2).trans E1.out; have d0 := cell_heap e2 0 rfl; have d1 := cell_heap e2 1 rfl; have k0 := Lib.frozen_of_heap e2 0; have k1 := Lib.frozen_of_heap e2 1; clear e2)
          have hz3 := hb2.size
          refine ⟨⟨k + 1, E, k, by go_num, Or.inr ⟨rfl, hlt, HE.out.symm, rfl, hE0⟩, ?_, ?_⟩, by simp [intOf]; omega⟩
          · have e2 := (hb2.block _ hz2).trans E1.out
            have e3 := heap_setCell_same w2 w1.heap.size 0 _ 25 (.int .i64 E) e2
            exact heap_setCell_same _ w1.heap.size 1 _ 25 (.int .i64 k) e3
          · exact ((hbw.trans (hb2.mono (by omega))).setCell (p := ⟨w1.heap.size, 0, none⟩) (Nat.le_refl _) _).setCell (p := ⟨w1.heap.size, 1, none⟩) (Nat.le_refl _) _
    · have HE := Lib.hid hE
      have HI := Lib.hid (hi.below hbww hb)
      have HOK := Lib.hid hok
      have HBAD := Lib.hid hbad
      have HS := Lib.hid (hs.below (hbww.mono (Nat.le_refl _)))
      have HP := Lib.hid (hp.below hbww hp.lt)
      have HG := Lib.hid (hg.below hbww)
      have hbz := hbww.size
      clear hE hi hok hbad hs hp hn
      rcases Nat.lt_or_ge (k0 + 1) l.length with hq | hq
      all_goals
        go_wp2_with fail
        refine (text_any l k0 b o c _ hl hk0 HOK.out HBAD.out HI.out (by omega) HS.out HP.out p HPP.out).mono ?_
        rintro e w3 ⟨v, rfl, herr, hb3⟩
        rw [if_pos hlt, dif_pos hlt, HE.out.symm] at herr
        rw [if_pos hlt]
        have e3 := (hb3.block _ hz2).trans E1.out
        have d0 := cell_heap e3 0 rfl
        have d1 := cell_heap e3 1 rfl
        have hg3 := HG.out.below hb3
        clear e3
        go_wp2_with fail
        refine (is_same hg3 herr).mono ?_
        rintro e w4 ⟨rfl, hb4⟩
        go_wp2
        go_ret
        exact ⟨ret_bool (by rw [Lib.toList_data]; rfl), (hbww.trans (hb3.mono (by omega))).trans (hb4.mono (by have := hb3.size; omega))⟩
end Go.Proofs.YthgalknkkhkefaaDoor
