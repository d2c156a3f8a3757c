/- IsaTexts: for every list of instructions the law returns true, and the list reads afterwards as before; where the listed variables read as the program's text lays them (the card ties that). -/
import Derived.Test.YthgalknkkhkefaaDoorLaid
import Derived.Test.YthgalknkkhkefaaDoorTie
import Derived.Test.YthgalknkkhkefaaDoorCards
import Derived.ChangeSame
import Derived.ChangeVars
import Derived.JoinedOf
import Derived.RowKit
import Derived.Stop.Joined
import Derived.Carry
import Derived.Deep.Slices
import Derived.SevenTiedAt
namespace Go.Proofs.YthgalknkkhkefaaDoor
open Go Go.ChangeShapes Go.WideShapes Go.RowKit

theorem own : ownKnob Tryd.prog.godebug = none := by kernel_rfl
theorem laidOut : laidOutB Tryd.prog = true := by kernel_rfl
theorem c30 : Tryd.prog.cellsOf 30 = 4 := by kernel_rfl
theorem c3 : Tryd.prog.cellsOf 3 = 1 := by kernel_rfl

/-- Lists out of what is so at each place. -/
theorem list_of {P : Nat → I4 → Prop} : ∀ n : Nat, (∀ i, i < n → ∃ x, P i x) → ∃ l : List I4, l.length = n ∧ ∀ i (h : i < l.length), P i l[i]
  | 0, _ => ⟨[], rfl, fun i h => absurd h (by simp)⟩
  | n + 1, h => by
    obtain ⟨l, hl, hp⟩ := list_of n fun i hi => h i (by omega)
    obtain ⟨x, hx⟩ := h n (by omega)
    refine ⟨l ++ [x], by simp [hl], fun i hi => ?_⟩
    by_cases hc : i < l.length
    · rw [List.getElem_append_left hc]; exact hp i hc
    · have : i = n := by simp at hi; omega
      subst this
      rw [List.getElem_append_right (by omega)]
      simpa [hl] using hx

section
variable {H : Type} {enc : TypeId × Value → H} {w : World} {base : Nat} {spare : Nat → Bool} {held : Bool}
theorem field_at {fuel : Nat} {cs' : List Value} {y : DataW H × List MemPlace} {j : Nat} (h : DataW.trod enc Tryd.prog w base spare held fuel 3 ((cs'.drop j).take (Tryd.prog.cellsOf 3)) = some y) : ∃ n : Int, cs'[j]? = some (.int .i64 n) := by
  rw [c3] at h
  obtain ⟨n, hn, _⟩ := DataW.trod_int Tryd.underlying3 h
  refine ⟨n, ?_⟩
  have h0 : ((cs'.drop j).take 1)[0]? = some (.int .i64 n) := by rw [hn]; rfl
  rw [List.getElem?_take_of_lt (by omega), List.getElem?_drop] at h0
  simpa using h0
theorem open_codes {fuel : Nat} {cs : List Value} {x : DataW H × List MemPlace} (h : DataW.trod enc Tryd.prog w base spare held fuel 22 cs = some x) :
    (cs = [.slice none 0 0]) ∨ ∃ (a : Addr) (c : Nat) (l : List I4), cs = [.slice (some a) l.length c] ∧ l.length ≤ maxLen ∧
      ∀ i (h : i < l.length), w.cell? (a.add (i * 4)) = some (.int .i64 l[i].1) ∧ w.cell? (a.add (i * 4 + 1)) = some (.int .i64 l[i].2.1) ∧ w.cell? (a.add (i * 4 + 2)) = some (.int .i64 l[i].2.2.1) ∧ w.cell? (a.add (i * 4 + 3)) = some (.int .i64 l[i].2.2.2) := by
  rcases Deep.open_slice Tryd.underlying22 h with ⟨h0, _⟩ | ⟨a, len, cap, m, n, D, Pl, hcs, hb, hl, hm, hmm, hx, hi⟩
  · exact .inl h0
  · have hml : len ≤ m := by rw [hmm]; split <;> omega
    obtain ⟨l, hll, hP⟩ := list_of (P := fun i (x : I4) => w.cell? (a.add (i * 4)) = some (.int .i64 x.1) ∧ w.cell? (a.add (i * 4 + 1)) = some (.int .i64 x.2.1) ∧ w.cell? (a.add (i * 4 + 2)) = some (.int .i64 x.2.2.1) ∧ w.cell? (a.add (i * 4 + 3)) = some (.int .i64 x.2.2.2)) len fun i hil => by
      obtain ⟨cs', hc, ht⟩ := hi i (by omega)
      rw [c30] at hc
      obtain ⟨_, hcl, hat⟩ := World.cells?_some hc
      obtain ⟨ys, n', hn', hy, hlen, hyl, hf⟩ := DataW.trod_struct Tryd.underlying30 ht
      have g : ∀ j : Nat, j < 4 → ∃ n : Int, cs'[j]? = some (.int .i64 n) := by
        intro j hj
        have hyj : ∃ y, ys[j]? = some y := ⟨ys[j]'(by rw [hyl]; exact hj), List.getElem?_eq_getElem _⟩
        obtain ⟨y, hyj⟩ := hyj
        match j, hj, hyj with
        | 0, _, hyj => exact field_at (j := 0) ((hf 0 _ rfl).trans hyj)
        | 1, _, hyj => exact field_at (j := 1) ((hf 1 _ rfl).trans hyj)
        | 2, _, hyj => exact field_at (j := 2) ((hf 2 _ rfl).trans hyj)
        | 3, _, hyj => exact field_at (j := 3) ((hf 3 _ rfl).trans hyj)
      obtain ⟨n0, e0⟩ := g 0 (by omega)
      obtain ⟨n1, e1⟩ := g 1 (by omega)
      obtain ⟨n2, e2⟩ := g 2 (by omega)
      obtain ⟨n3, e3⟩ := g 3 (by omega)
      refine ⟨(n0, n1, n2, n3), ?_, ?_, ?_, ?_⟩
      · have := hat 0 (by omega); rw [Go.Deep.add_add] at this; exact this.trans e0
      · have := hat 1 (by omega); rw [Go.Deep.add_add] at this; exact this.trans e1
      · have := hat 2 (by omega); rw [Go.Deep.add_add] at this; exact this.trans e2
      · have := hat 3 (by omega); rw [Go.Deep.add_add] at this; exact this.trans e3
    exact .inr ⟨a, cap, l, by rw [hll]; exact hcs, by omega, hP⟩
end

theorem door_met (os : Os) (args : Array Value) : laidMetH Tryd.prog Rows.isaTextsRow.laid ((World.doorLaid Tryd.prog 400 os).forCall (fun _ _ => 0) ⟨#[], args, []⟩).memory :=
  laidMetH_of_parts3 (fuel := 8) (laidMet_of_run' 8 (by kernel_rfl) (by kernel_rfl)) (by kernel_rfl) (by kernel_rfl)

/-- How far the list goes before the first one that may not be. -/
theorem first_bad (l : List I4) : ∃ k0, k0 ≤ l.length ∧ (∀ j (h : j < l.length), j < k0 → okI l[j]) ∧ ∀ h : k0 < l.length, ¬ okI l[k0] := by
  induction l with
  | nil => exact ⟨0, by simp, by simp, by simp⟩
  | cons i l ih =>
    by_cases hi : okI i
    · obtain ⟨k, h1, h2, h3⟩ := ih
      refine ⟨k + 1, by simpa using h1, fun j hj hk => ?_, fun h => ?_⟩
      · match j with
        | 0 => exact hi
        | j + 1 => exact h2 j (by simpa using hj) (by omega)
      · exact h3 (by simpa using h)
    · exact ⟨0, by simp, fun j _ hk => absurd hk (by omega), fun _ => hi⟩

/-- The law's walk at whatever list. -/
theorem law_any (W : World) (p : Option Addr) (l : List I4) (c : Nat) (hl : l.length ≤ maxLen) (hL : laidMetH Tryd.prog Rows.isaTextsRow.laid W) (hp : 0 < l.length → ∃ a, p = some a ∧ ∀ i (h : i < l.length), W.cell? (a.add (i * 4)) = some (.int .i64 l[i].1) ∧ W.cell? (a.add (i * 4 + 1)) = some (.int .i64 l[i].2.1) ∧ W.cell? (a.add (i * 4 + 2)) = some (.int .i64 l[i].2.2.1) ∧ W.cell? (a.add (i * 4 + 3)) = some (.int .i64 l[i].2.2.2)) :
    Calls Tryd.prog 3 #[.slice p l.length c] W fun e w' => e = .returned (.bool true) ∧ Below W.heap.size W w' := by
  obtain ⟨hg, hs, hpow, nb, no, nc, hn, hnb⟩ := of_laid hL
  unfold maxLen at hl
  by_cases h1 : 100 < l.length
  · exact law_long p _ c W h1 hl
  by_cases h2 : 40 < l.length
  · exact law_mid p _ c W h2 (by omega) hg
  obtain ⟨k0, k1, k2, k3⟩ := first_bad l
  have h0 : 0 < W.heap.size := by have := hs.lt; omega
  by_cases h3 : 0 < l.length
  · obtain ⟨a, rfl, hc⟩ := hp h3
    have hsp := spot_none (hc 0 h3).1
    obtain ⟨b, o, sp⟩ := a
    obtain rfl : sp = none := by simpa [Addr.add] using hsp
    have hadd : ∀ n : Nat, (⟨b, o, none⟩ : Addr).add n = ⟨b, o + n, none⟩ := fun n => by
      by_cases h : n = 0
      · subst h; simp [Addr.add]
      · simp [Addr.add, h]
    simp only [hadd] at hc
    exact law_short l k0 b o c nb no nc W (by omega) k1 k2 k3 hc (lt_of_cell (hc 0 h3).1) hs hpow hn hnb h0 hg _ fun _ => rfl
  · exact law_short l k0 0 0 c nb no nc W (by omega) k1 k2 k3 (fun j hj => absurd hj (by omega)) h0 hs hpow hn hnb h0 hg p fun h => absurd h h3

set_option maxRecDepth 100000 in
theorem lifted (os : Os) (started : os.Started) (H : Type) (enc : TypeId × Value → H) :
    ReturnsInHanded {} Tryd.checked os 3 .any (fun w args => (Rows.isaTextsSpec.pre enc Tryd.prog Tryd.f3 [] false w args ∧ laidMetH Tryd.prog Rows.isaTextsRow.laid w) ∧ sizedMet enc Tryd.prog Tryd.f3 (OpenSpec.ofChange Rows.isaTextsSpec) false w args)
      (Rows.isaTextsSpec.post enc Tryd.prog Tryd.f3 false true false false) := by
  refine returnsInHanded_of_change_and (C := Tryd.checked) (X := fun w _ => laidMetH Tryd.prog Rows.isaTextsRow.laid w) (fun _ _ _ hh h => h.of_heap hh) own started (by kernel_rfl) Tryd.func3
    (ChangeSpec.witness_shaped (enc := enc) (C := Tryd.checked) (os := os) (X := fun w _ => laidMetH Tryd.prog Rows.isaTextsRow.laid w) false (World.doorLaid Tryd.prog 400 os) #[.slice none 0 0] 8 rfl (World.shaped_of_RefB (by kernel_rfl) (by kernel_rfl)) (by kernel_rfl) (by kernel_rfl) (by kernel_rfl) (door_met os _)) ?_
  intro W base args ds gs before hval0 hW _ _ hL _
  have hval : ∀ (j : Nat) t v, Tryd.f3.params[j]? = some t → args[j]? = some v → Value.okWide Tryd.prog W .any base t v := hval0
  have hW' := hW
  obtain ⟨p, q, hA0, hV, rfl, hfz, hnd⟩ := hW
  have hA : DataW.TrodAll enc Tryd.prog W 0 (fun _ => true) true Tryd.f3.params.toList args.toList ds p := hA0
  rw [Tryd.params3] at hA hval
  obtain ⟨v0, d0, rfl, rfl, h0⟩ := trodAll_one hA
  obtain ⟨rfl, rfl⟩ := trodVars_none hV
  obtain ⟨a0, len, cap, rfl⟩ := okWide_slice Tryd.underlying22 (hval 0 22 v0 rfl rfl)
  have h0k := h0
  obtain ⟨fuel, hf⟩ := h0
  clear hA0 hval0
  simp only [List.append_nil] at hW'
  have hlt : ∀ x ∈ p, x.block < W.heap.size := fun x hx => by simpa using hW'.lt x hx
  have hargs : ∀ (W' : World), Below W.heap.size W W' → DataW.Trod enc Tryd.prog W' 0 (fun b => decide (b < W.heap.size)) true 22 (.slice a0 len cap) d0 p :=
    fun W' hn => Below.trod laidOut (by kernel_rfl) (of_decide_eq_true (by kernel_rfl)) h0k hn hlt
  have walk : Calls Tryd.prog 3 #[.slice a0 len cap] W fun e w' => e = .returned (.bool true) ∧ Below W.heap.size W w' := by
    rcases open_codes hf with hcs | ⟨a, c, l, hcs, hm, hc⟩
    · simp [Value.cells] at hcs
      obtain ⟨rfl, rfl, rfl⟩ := hcs
      exact law_any W none [] 0 (by simp) hL (fun h => absurd h (by simp))
    · simp [Value.cells] at hcs
      obtain ⟨rfl, rfl, rfl⟩ := hcs
      exact law_any W (some a) l _ hm hL (fun _ => ⟨a, rfl, hc⟩)
  have e1 : Rows.isaTextsSpec.fn H ([d0] ++ []) = { results := [.lit (.bool true)], args := [d0] } := by simp [Rows.isaTextsSpec]
  refine walk.mono fun e W' ⟨he, hb⟩ => ?_
  subst he
  refine ⟨_, rfl, _, _, _, [], p, [], hW', ?_, ?_, ?_, hb.frame _, fun h => by cases h⟩
  · rw [e1]; exact trodAll_mk1 (shut_bool Tryd.underlying4 true)
  · rw [e1]; exact trodAll_mk1 (hargs _ hb)
  · rw [e1]; rfl

theorem isaTexts_row : Rows.IsaTextsSaid :=
  OpenClaim.holds_of_wide 3 Tryd.f3 rfl rfl rfl rfl rfl rfl rfl ⟨rfl, rfl, rfl, rfl, rfl⟩ rfl rfl rfl rfl rfl (by kernel_rfl) Tryd.func3 (by kernel_rfl)
    (of_decide_eq_true (by kernel_rfl)) (by unfold Func.isWrapper; first | (rw [if_pos (by decide +kernel)]; kernel_rfl) | (rw [if_neg (by decide +kernel)]; exact ⟨rfl, rfl⟩))
    (fun os started H enc _ => lifted os started H enc)

theorem isaTexts_holds : Rows.IsaTextsCardSaid :=
  Claim7.holds_tied_plain_at .later [] [.data, .data, .data, .handle, .data, .data] true (true, "5f9dce16e111f4687e1a088fa87c4b085333ec30053ed42e4c527679031f0545") true
    isaTexts_row (fun _ h => by cases h) (by kernel_rfl) (fun _ h => by cases h) isaTexts_row_tie rfl ⟨rfl, rfl⟩ (by kernel_rfl) rfl
    (fun f fn hf hfn => by
      obtain rfl : f = 3 := Option.some.inj ((show Tryd.prog.funcNamed "keyhold/keyholdlaw.IsaTexts" = some 3 by kernel_rfl).symm.trans hf) |>.symm
      obtain rfl : fn = Tryd.f3 := (Option.some.inj (Tryd.func3.symm.trans hfn)).symm
      exact ⟨by kernel_rfl, fun j t ht => by
        rw [Tryd.params3] at ht
        have hm : t ∈ [22] := by simpa using Array.mem_of_getElem? ht
        have hall : ([22].all fun u => !Tryd.prog.wantsStandIn u) = true := by kernel_rfl
        exact (show Tryd.prog.wantsStandIn t = false by simpa using List.all_eq_true.1 hall t hm)⟩)
    (by kernel_rfl)
end Go.Proofs.YthgalknkkhkefaaDoor
