/- isa.Text: the text of instructions, or which one may not be; at most 40 of them. -/
import Derived.Test.YthgalknkkhkefaaDoorCodeText
import Derived.Test.YthgalknkkhkefaaDoorBld
import Derived.Test.YthgalknkkhkefaaDoorShelf
namespace Go.Proofs.YthgalknkkhkefaaDoor
open Go Go.RowKit

def PowAt (w : World) : Prop := Lib.TabIs Tryd.prog w "internal/strconv.uint64pow10" .u64 Lib.pow10Tab
theorem gPow : Tryd.prog.globalNamed "internal/strconv.uint64pow10" = some 4 := by kernel_rfl
theorem PowAt.lt {w : World} (h : PowAt w) : 4 < w.heap.size := lt_of_cell (Lib.TabIs.cell h gPow 0 (by decide))
theorem PowAt.below {w w' : World} {B : Nat} (h : PowAt w) (hb : Below B w w') (hB : 4 < B) : PowAt w' := by
  unfold PowAt Lib.TabIs World.var? at h ⊢
  rw [gPow] at h ⊢
  simp only [Option.bind_some] at h ⊢
  rw [hb.block 4 hB]; exact h

theorem bld_below {B b : Nat} {p : Value} {bs : List Value} {w w' : World} (h : Lib.BuilderAt 55 5 B b p bs w) (hb : Below w.heap.size w w') : Lib.BuilderAt 55 5 B b p bs w' := by
  have hlt := h.lt
  obtain ⟨hB, v, hbk, hown, hne⟩ := h
  exact ⟨hB, v, (hb.block b hlt).trans hbk, hown.kept (row := some b) ⟨hb.os, hb.tape, hb.output, hb.size, fun k hk _ => hb.block k hk⟩ (Or.inr hne), hne⟩
theorem isBld_below {B b : Nat} {bs : List Value} {w w' : World} (h : Lib.IsBuilder 55 5 B b bs w) (hb : Below w.heap.size w w') : Lib.IsBuilder 55 5 B b bs w' := by
  rcases h with h | h
  · exact Or.inl (bld_below h hb)
  · exact Or.inr (bld_below h hb)
theorem isBld_lt {B b : Nat} {bs : List Value} {w : World} (h : Lib.IsBuilder 55 5 B b bs w) : b < w.heap.size := by
  rcases h with h | h
  · exact h.lt
  · exact h.lt

theorem below_more (w : World) (q : Nat) (os : Array Obj) : Below w.heap.size w (Go.Sort.grow (w.drewN q) os) :=
  ⟨rfl, rfl, rfl, by simp [Go.Sort.grow], fun i hi => by
    show ((w.drewN q).heap ++ os)[i]? = _
    rw [Array.getElem?_append_left (by show i < w.heap.size; omega)]
    rfl⟩
theorem itoa_any (n : Int) (w : World) (h0 : -100000 < n) (h1 : n < 100000) (hp : PowAt w) :
    Calls Tryd.prog 21 #[.int .i64 n] w fun e w' => e = .returned (.string (ctB (Lib.itoa n))) ∧ Below w.heap.size w w' :=
  (Tryd.strconv_Itoa n (by omega) (by omega) w hp).mono fun _ _ ⟨he, k, os, hw⟩ => ⟨he, by rw [hw]; exact below_more w k os⟩

theorem check_ok (op a b m : Int) (w : World) (hs : ShapesAt w) (h : insErr op a b m = 0) : Calls Tryd.prog 19 #[.agg #[.int .i64 op, .int .i64 a, .int .i64 b, .int .i64 m]] w fun e w' => e = .returned .nilIface ∧ Below w.heap.size w w' :=
  (check_any op a b m w hs).mono fun _ _ r => ⟨by rw [r.1, h]; rfl, r.2⟩
theorem check_bad (op a b m : Int) (w : World) (hs : ShapesAt w) (h : insErr op a b m ≠ 0) : Calls Tryd.prog 19 #[.agg #[.int .i64 op, .int .i64 a, .int .i64 b, .int .i64 m]] w fun e w' => e = .returned (.iface 23 (.int .i64 (insErr op a b m))) ∧ Below w.heap.size w w' :=
  (check_any op a b m w hs).mono fun _ _ r => ⟨by rw [r.1, errV, if_neg h], r.2⟩

/-- What Text gives: the text and the error, both as the world behind it has them. -/
def TextPost (t : List UInt8) (c n : Int) (B : Nat) (w : World) (e : Ending) (w' : World) : Prop := ∃ v, e = .returned (.tuple #[.string (ctB t), v]) ∧ Errs w' v c n ∧ Below B w w'

set_option maxRecDepth 100000 in
set_option maxHeartbeats 4000000 in
theorem text_long (p : Option Addr) (n c : Nat) (w : World) (hn : 40 < n) (hn2 : n ≤ 100) :
    Calls Tryd.prog 9 #[.slice p n c] w (TextPost [] 2 (-1) w.heap.size w) := by
  go_enter Tryd.func9, Tryd.ntmps9
  go_wp2
  go_ret2
  exact ⟨_, rfl, .no 2, Below.refl _ _⟩

theorem cell_heap {w : World} {b : Nat} {cs : Array Value} {T : TypeId} {fr : Nat × Nat} (hb : w.heap[b]? = some (.cells cs T fr)) (j : Nat) {v : Value} (hv : cs[j]? = some v) : w.cell? ⟨b, j, none⟩ = some v := by
  simp [World.cell?, hb, hv]

theorem after_alloc {wr w1 : World} {cs : Array Value} {T : TypeId} (hb : Below (wr.alloc (.cells cs T)).heap.size (wr.alloc (.cells cs T)) w1) :
    w1.heap[wr.heap.size]? = some (.cells cs T (0, 0)) ∧ Below wr.heap.size wr w1 ∧ wr.heap.size + 1 ≤ w1.heap.size := by
  refine ⟨(hb.block _ (by simp)).trans (heap_alloc_new wr _), ((Below.refl _ _).alloc (Nat.le_refl _) _).trans (hb.mono (by simp)), by have := hb.size; simpa using this⟩

/-- How it stands inside a round: the builder, the instruction's own copy, the shape's own copy. -/
structure St (w : World) (b0 n1 n2 : Nat) (i : I4) (t : List UInt8) (W : World) : Prop where
  bld : Lib.IsBuilder 55 5 w.heap.size b0 (Lib.byteCells t) W
  one : W.heap[n1]? = some (.cells #[.int .i64 i.1, .int .i64 i.2.1, .int .i64 i.2.2.1, .int .i64 i.2.2.2] 30 (0, 0))
  two : W.heap[n2]? = some (.cells #[.string (nmB i.1.toNat), .bool (hasA i.1), .bool (hasB i.1), .bool (hasC i.1)] 61 (0, 0))
  bel : Below w.heap.size w W
  ne1 : n1 ≠ b0
  ne2 : n2 ≠ b0
theorem lt_of_heap {w : World} {k : Nat} {o : Obj} (h : w.heap[k]? = some o) : k < w.heap.size := by
  rcases Nat.lt_or_ge k w.heap.size with h' | h'
  · exact h'
  · simp [Array.getElem?_eq_none h'] at h
theorem St.below {w : World} {b0 n1 n2 : Nat} {i : I4} {t : List UInt8} {W W' : World} (h : St w b0 n1 n2 i t W) (hb : Below W.heap.size W W') : St w b0 n1 n2 i t W' :=
  ⟨isBld_below h.bld hb, (hb.block _ (lt_of_heap h.one)).trans h.one, (hb.block _ (lt_of_heap h.two)).trans h.two, h.bel.trans (hb.mono h.bel.size), h.ne1, h.ne2⟩
theorem St.cells {w : World} {b0 n1 n2 : Nat} {i : I4} {t : List UInt8} {W : World} (h : St w b0 n1 n2 i t W) :
    W.cell? ⟨n1, 1, none⟩ = some (.int .i64 i.2.1) ∧ W.cell? ⟨n1, 2, none⟩ = some (.int .i64 i.2.2.1) ∧ W.cell? ⟨n1, 3, none⟩ = some (.int .i64 i.2.2.2) ∧ W.cell? ⟨n2, 1, none⟩ = some (.bool (hasA i.1)) ∧ W.cell? ⟨n2, 2, none⟩ = some (.bool (hasB i.1)) ∧ W.cell? ⟨n2, 3, none⟩ = some (.bool (hasC i.1)) :=
  ⟨cell_heap h.one 1 rfl, cell_heap h.one 2 rfl, cell_heap h.one 3 rfl, cell_heap h.two 1 rfl, cell_heap h.two 2 rfl, cell_heap h.two 3 rfl⟩
theorem bld_str {B b : Nat} {t u : List UInt8} {W : World} (h : u = t) (hb : Lib.IsBuilder 55 5 B b (Lib.byteCells t) W) : Lib.IsBuilder 55 5 B b (Lib.byteCells u) W := by rw [h]; exact hb
theorem ret_two {a b a' b' : Value} (h : a = a') (h' : b = b') : Ending.returned (.tuple #[a, b]) = .returned (.tuple #[a', b']) := by rw [h, h']
theorem str_of {t u : List UInt8} (h : t = u) : Value.string ⟨t.toArray⟩ = .string (ctB u) := by rw [h]; rfl
theorem itoa_st {w : World} {b0 n1 n2 : Nat} {i : I4} {t : List UInt8} {W : World} (h : St w b0 n1 n2 i t W) (hp : PowAt w) (n : Int) (h0 : -100000 < n) (h1 : n < 100000) :
    Calls Tryd.prog 21 #[.int .i64 n] W fun e w' => e = .returned (.string (ctB (Lib.itoa n))) ∧ St w b0 n1 n2 i t w' :=
  (itoa_any n W h0 h1 (hp.below h.bel hp.lt)).mono fun _ _ r => ⟨r.1, h.below r.2⟩
theorem wstr_st {w : World} {b0 n1 n2 : Nat} {i : I4} {t : List UInt8} {W : World} (h : St w b0 n1 n2 i t W) (s : ByteArray) (hl : t.length ≤ 100000) (hs : s.size ≤ 100) :
    Calls Tryd.prog 20 #[.pointer (some ⟨b0, 0, none⟩), .string s] W fun e w' => e = .returned (.tuple #[.int .i64 s.size, .nilIface]) ∧ St w b0 n1 n2 i (t ++ s.data.toList) w' :=
  (write_string w.heap.size b0 _ s W h.bld (by rw [Lib.byteCells_length]; omega) h.bel.size).mono fun _ _ r =>
    ⟨r.1, Or.inr (by have := r.2.1; simpa [Lib.byteCells, Lib.strCells] using this), r.2.2.2.cells h.one (by decide) h.ne1, r.2.2.2.cells h.two (by decide) h.ne2, h.bel.trans r.2.2.1, h.ne1, h.ne2⟩
theorem wbyte_st {w : World} {b0 n1 n2 : Nat} {i : I4} {t : List UInt8} {W : World} (h : St w b0 n1 n2 i t W) (hl : t.length ≤ 100000) :
    Calls Tryd.prog 22 #[.pointer (some ⟨b0, 0, none⟩), .int .u8 10] W fun e w' => e = .returned .nilIface ∧ St w b0 n1 n2 i (t ++ [10]) w' :=
  (write_byte w.heap.size b0 _ 10 W h.bld (by rw [Lib.byteCells_length]; omega) h.bel.size).mono fun _ _ r =>
    ⟨r.1, Or.inr (by have := r.2.1; simpa [Lib.byteCells] using this), r.2.2.2.cells h.one (by decide) h.ne1, r.2.2.2.cells h.two (by decide) h.ne2, h.bel.trans r.2.2.1, h.ne1, h.ne2⟩

set_option maxRecDepth 100000 in
set_option maxHeartbeats 8000000 in
theorem text_any (l : List I4) (k0 : Nat) (b o c : Nat) (w : World) (hl : l.length ≤ 40) (hk0 : k0 ≤ l.length) (hok : ∀ j (h : j < l.length), j < k0 → okI l[j]) (hbad : ∀ h : k0 < l.length, ¬ okI l[k0])
    (hi : InsAt w b o l) (hb : b < w.heap.size) (hs : ShapesAt w) (hp : PowAt w) (p : Option Addr) (hpp : 0 < l.length → p = some ⟨b, o, none⟩) :
    Calls Tryd.prog 9 #[.slice p l.length c] w (TextPost (if k0 < l.length then [] else codeT l) (if h : k0 < l.length then insErr l[k0].1 l[k0].2.1 l[k0].2.2.1 l[k0].2.2.2 else 0) (if k0 < l.length then k0 else -1) w.heap.size w) := by
  have hws := hs.lt
  have HPP := Lib.hid hpp
  clear hpp
  go_enter Tryd.func9, Tryd.ntmps9
  go_wp2
  go_loopw [15] (fun i wr => ∃ k : Nat, k ≤ k0 ∧ i = .int .i64 k ∧ Lib.IsBuilder 55 5 w.heap.size w.heap.size (Lib.byteCells (codeT (l.take k))) wr ∧ Below w.heap.size w wr) (fun i _ => l.length - (intOf i).toNat)
  case atStart => exact ⟨0, Nat.zero_le _, rfl, Lib.fresh_isBuilder 55 5 w, (Below.refl _ _).alloc (Nat.le_refl _) _⟩
  case round =>
    obtain ⟨k, hk, rfl, hbd, hbw⟩ := hrel
    have hbl := isBld_lt hbd
    by_cases hend : k = l.length
    · have HBW := Lib.hid hbw
      have HSZ := Lib.hid hbw.size
      obtain rfl : k = k0 := by omega
      have HE := Lib.hid hend
      have HBD := Lib.hid hbd
      have hge : l.length ≤ k := by omega
      clear hbd hend hbad hok hi hbw
      go_wp2_with (go_at_call 23; refine (Tryd.Builder_String_any w.heap.size w.heap.size _ _ HBD.out HSZ.out).mono ?_; rintro e w2 ⟨rfl, hb2⟩)
      go_ret2
      have et : codeT (l.take k) = codeT l := by rw [List.take_of_length_le hge]
      exact ⟨.nilIface, ret_two (str_of et) rfl, .ok, HBW.out.trans hb2⟩
    · have hlt : k < l.length := by omega
      obtain rfl := HPP.out (by omega)
      obtain ⟨f0, f1, f2, f3⟩ := hi.below hbw hb k hlt
      have hws' : ShapesAt wr := hs.below hbw
      have HSH := Lib.hid (show ∀ o, ShapesAt (wr.alloc o) from fun o => hws'.below ((Below.refl _ _).alloc (Nat.le_refl _) _))
      by_cases hkk : k < k0
      · have hok' := hok k hlt hkk
        have hop := okI_op hok'
        obtain ⟨q, hq⟩ : ∃ q : Nat, l[k].1 = (q : Int) := ⟨l[k].1.toNat, by omega⟩
        have hq15 : q < 15 := by omega
        have HI := Lib.hid (show ShapesAt wr from hws')
        have HQ := Lib.hid hq
        have HOK := Lib.hid (show insErr q l[k].2.1 l[k].2.2.1 l[k].2.2.2 = 0 from by have := hok'; rw [okI, hq] at this; exact this)
        have ra : hasA q = true → -100000 < l[k].2.1 ∧ l[k].2.1 < 100000 := fun h => by have := okI_a hok' (by rw [hq]; exact h); omega
        have rb : hasB q = true → -100000 < l[k].2.2.1 ∧ l[k].2.2.1 < 100000 := fun h => by have := okI_b hok' (by rw [hq]; exact h); omega
        have rc : hasC q = true → -100000 < l[k].2.2.2 ∧ l[k].2.2.2 < 100000 := fun h => by have := okI_c hok' (by rw [hq]; exact h); omega
        have SA := Lib.hid (show hasA q = true → (Lib.itoa l[k].2.1).length ≤ 6 from fun h => itoa_len _ (ra h).1 (ra h).2)
        have SB := Lib.hid (show hasB q = true → (Lib.itoa l[k].2.2.1).length ≤ 6 from fun h => itoa_len _ (rb h).1 (rb h).2)
        have SC := Lib.hid (show hasC q = true → (Lib.itoa l[k].2.2.2).length ≤ 6 from fun h => itoa_len _ (rc h).1 (rc h).2)
        have RA := Lib.hid ra
        have RB := Lib.hid rb
        have RC := Lib.hid rc
        have HP := Lib.hid hp
        have ST := Lib.hid (show codeT (l.take (k + 1)) = codeT (l.take k) ++ (nm q ++ (if hasA q then [32, 114] ++ Lib.itoa l[k].2.1 else []) ++ (if hasB q then [32, 114] ++ Lib.itoa l[k].2.2.1 else []) ++ (if hasC q then [32] ++ Lib.itoa l[k].2.2.2 else []) ++ [10]) by
          rw [codeT_snoc l k hlt, lineT, partA, partB, partC, hq]; rfl)
        have HLN := Lib.hid (show (codeT (l.take k)).length ≤ 1200 by
          have := codeT_len (l.take k) (fun i hi => by
            obtain ⟨j, hj, rfl⟩ := List.mem_take_iff_getElem.1 hi
            exact hok j (by omega) (by omega))
          have h2 : (l.take k).length ≤ k := List.length_take_le _ _
          omega)
        have HBD := Lib.hid hbd
        have HBW := Lib.hid hbw
        rw [hq] at f0
        clear hws' hok' hop hq hbd hbw hi hok hbad ra rb rc hp
        go_wp2_with (go_at_call 19; refine (check_ok _ _ _ _ _ (HSH.out _) HOK.out).mono ?_; rintro e w1 ⟨rfl, hb1⟩; obtain ⟨e1, bw1, z1⟩ := after_alloc hb1; have z0 := cell_heap e1 0 rfl; obtain ⟨s0, s1, s2, s3⟩ := (HI.out.below bw1) q hq15; clear hb1)
        have hst : St w w.heap.size wr.heap.size w1.heap.size ((q : Int), l[k].2) (codeT (l.take k)) (w1.alloc (.cells #[.string (nmB q), .bool (hasA q), .bool (hasB q), .bool (hasC q)] 61)) :=
          St.mk (isBld_below (isBld_below HBD.out bw1) ((Below.refl _ _).alloc (Nat.le_refl _) _)) ((Lib.alloc_old w1 _ _ (by omega)).trans e1) (heap_alloc_new w1 _) ((HBW.out.trans (bw1.mono HBW.out.size)).alloc (by have := HBW.out.size; omega) _) (by omega) (by omega)
        have hln : (codeT (l.take k)).length ≤ 1200 := HLN.out
        have hnq := nm_len q
        have hnb := nmB_size q
        cases hA : hasA q <;> cases hB : hasB q <;> cases hC : hasC q
        all_goals
          try have za := SA.out hA
          try have zb := SB.out hB
          try have zc := SC.out hC
          try have ya : (ctB (Lib.itoa l[k].2.1)).size ≤ 6 := by rw [ctB_size]; exact za
          try have yb : (ctB (Lib.itoa l[k].2.2.1)).size ≤ 6 := by rw [ctB_size]; exact zb
          try have yc : (ctB (Lib.itoa l[k].2.2.2)).size ≤ 6 := by rw [ctB_size]; exact zc
          rw [hA, hB, hC] at hst
          clear z0 s0 s1 s2 s3 f0 f1 f2 f3
          refine (wstr_st hst _ (by omega) (by omega)).mono ?_
          rintro e w2 ⟨rfl, hst2⟩
          obtain ⟨a1, a2, a3, a4, a5, a6⟩ := hst2.cells
          clear hst
          simp only [hA, hB, hC] at a4 a5 a6
          go_wp2_with (first
            | (go_at_call 20; refine (wstr_st (by assumption) _ (by first | omega | (simp [ctB, nmB]; omega)) (by first | omega | (simp [ctB_size, ByteArray.size_append]; omega) | (simp [ctB, ByteArray.size]; omega))).mono ?_; rintro e w2 ⟨rfl, hst2⟩; obtain ⟨a1, a2, a3, a4, a5, a6⟩ := hst2.cells; simp only [hA, hB, hC] at a4 a5 a6)
            | (go_at_call 22; refine (wbyte_st (by assumption) (by first | omega | (simp [ctB, nmB]; omega))).mono ?_; rintro e w2 ⟨rfl, hst2⟩)
            | (go_at_call 21; refine (itoa_st (by assumption) HP.out _ (by first | exact (RA.out hA).1 | exact (RB.out hB).1 | exact (RC.out hC).1) (by first | exact (RA.out hA).2 | exact (RB.out hB).2 | exact (RC.out hC).2)).mono ?_; rintro e w2 ⟨rfl, hst2⟩))
        all_goals
          refine ⟨⟨k + 1, by omega, by go_num, ?_, by exact St.bel (by assumption)⟩, by simp [intOf]; omega⟩
          refine bld_str ?_ (St.bld (by assumption))
          rw [ST.out, hA, hB, hC]
          simp [ctB, nmB]
      · have hbk := hbad (by omega)
        obtain rfl : k = k0 := by omega
        have HI := Lib.hid (show ShapesAt wr from hws')
        have HOK := Lib.hid (show insErr l[k].1 l[k].2.1 l[k].2.2.1 l[k].2.2.2 ≠ 0 from hbk)
        have HBW := Lib.hid hbw
        clear hws' hbd hbw hi hok hbad hbk hkk
        go_wp2_with (go_at_call 19; refine (check_bad _ _ _ _ _ (HSH.out _) HOK.out).mono ?_; rintro e w1 ⟨rfl, hb1⟩; obtain ⟨e1, bw1, z1⟩ := after_alloc hb1; clear hb1)
        go_ret2
        refine ⟨.iface 57 (.pointer (some ⟨w1.heap.size, 0, none⟩)), ret_two rfl rfl, ?_, ?_⟩
        · exact .at _ _ _ _ (by simp) (by simp)
        · exact (HBW.out.trans (bw1.mono HBW.out.size)).alloc (by have := HBW.out.size; omega) _
end Go.Proofs.YthgalknkkhkefaaDoor
