/- What the condition on the listed variables gives the law's walk: the two tables of names and shapes, the powers of ten, the type's handle. -/
import Derived.Test.YthgalknkkhkefaaDoorLawShort
import Derived.Test.YthgalknkkhkefaaDoorRows
import Derived.LaidLaws
import Derived.OpenShut
import Derived.LaidMore
import Derived.LaidHandle
import Derived.ProofKit
import Derived.Lib.LaidTab
namespace Go.Proofs.YthgalknkkhkefaaDoor
open Go Go.RowKit Go.ChangeShapes Go.WideShapes

theorem gNames : Tryd.prog.globalNamed "keyhold/keyholdref.names" = some 0 := by kernel_rfl
theorem gShapes : Tryd.prog.globalNamed "keyhold/isa.shapes" = some 1 := by kernel_rfl
theorem gErr : Tryd.prog.globalNamed "errors.errorType" = some 2 := by kernel_rfl
theorem tNames : (Tryd.prog.globals[0]?).map (·.type) = some 50 := by kernel_rfl
theorem tShapes : (Tryd.prog.globals[1]?).map (·.type) = some 62 := by kernel_rfl
theorem tPow : (Tryd.prog.globals[4]?).map (·.type) = some 123 := by kernel_rfl
theorem rtT : (Tryd.prog.cutTypes.find? (·.1 == "internal/reflectlite.rtype")).map (·.2) = some 106 := by kernel_rfl
theorem oneRow : ((List.range 164).filter fun t => Tryd.prog.rowNamed t [101, 114, 114, 111, 114]) = [33] := by kernel_rfl
theorem sizeT : Tryd.prog.types.size = 164 := by kernel_rfl
theorem c61 : Tryd.prog.cellsOf 61 = 4 := by kernel_rfl
theorem c9 : Tryd.prog.cellsOf 9 = 1 := by kernel_rfl
theorem c4 : Tryd.prog.cellsOf 4 = 1 := by kernel_rfl
theorem c62 : Tryd.prog.cellsOf 62 = 60 := by kernel_rfl

theorem shapeD : (Rows.laid_keyhold_isa_shapes : DataW Unit) = .agg ((List.range 15).map fun k => .agg [.lit (.string (nm k)), .lit (.bool (hasA k)), .lit (.bool (hasB k)), .lit (.bool (hasC k))]) := rfl
theorem nameD : (Rows.laid_keyhold_keyholdref_names : DataW Unit) = .slice ((List.range 15).map fun k => .lit (.string (nm k))) [] := rfl
set_option maxRecDepth 100000 in
theorem powD : (Rows.laid_internal_strconv_uint64pow10 : DataW Unit) = Lib.tabData .u64 Lib.pow10Tab := by kernel_rfl

theorem handle_of {W : World} (h : handlesMet Tryd.prog [("errors.errorType", Rows.laid_errors_errorType)] W) : HandleAt W := by
  obtain ⟨name, u, ty, e1, e2, e3, e4, e5⟩ := h _ (List.mem_singleton.2 rfl)
  have en : name = [101, 114, 114, 111, 114] := (Option.some.inj e1).symm
  subst en
  obtain rfl := Option.some.inj (rtT.symm.trans e2)
  have hm : ty ∈ (List.range 164).filter fun t => Tryd.prog.rowNamed t [101, 114, 114, 111, 114] := List.mem_filter.2 ⟨List.mem_range.2 (by rw [← sizeT]; exact e3), e4⟩
  rw [oneRow] at hm
  obtain rfl := List.mem_singleton.1 hm
  have hh : typeHandle Tryd.prog 33 = .pointer (some ⟨9, 33, none⟩) := by kernel_rfl
  rw [hh] at e5
  unfold HandleAt
  simpa using World.var?_cell gErr e5 0

theorem spot_none {w : World} {a : Addr} {v : Value} (h : w.cell? a = some v) : a.spot = none := by
  unfold World.cell? at h
  split at h
  · cases hs : a.spot with
    | none => rfl
    | some x => simp [hs] at h
  · simp at h
theorem str_nm {s : ByteArray} {k : Nat} (h : s.data.toList = nm k) : s = nmB k := by
  apply ByteArray.ext
  simp [nmB, ← h]

theorem take_at {cs : Array Value} {k j i : Nat} {v : Value} (hj : j < 4) (h : ((((cs.toList.drop (k * 4)).take 4).drop j).take 1) = [v]) (hi : i = k * 4 + j) : cs[i]? = some v := by
  subst hi
  have h0 : ((((cs.toList.drop (k * 4)).take 4).drop j).take 1)[0]? = some v := by rw [h]; rfl
  rw [List.getElem?_take_of_lt (by omega), List.getElem?_drop, List.getElem?_take_of_lt (by omega), List.getElem?_drop] at h0
  simpa using h0
theorem names_of {W : World} {fuel : Nat} {cs : Array Value} {p : List MemPlace} (hv : W.var? Tryd.prog "keyhold/keyholdref.names" = some cs)
    (hd : DataW.trod (fun _ => ()) Tryd.prog W 0 (fun _ => true) false fuel 50 cs.toList = some (Rows.laid_keyhold_keyholdref_names, p)) : ∃ nb no nc, NamesAt W nb no nc ∧ nb < W.heap.size := by
  rw [nameD] at hd
  obtain ⟨a, cap, hcs, hcap, hel⟩ := open_row Tryd.underlying50 c9 hd
  have h0 := World.var?_cell gNames hv 0
  have e0 : cs[0]? = some (.slice (some a) 15 cap) := by
    have : cs.toList[0]? = some (.slice (some a) 15 cap) := by rw [hcs]; simp
    simpa using this
  have hall : ∀ k : Nat, k < 15 → W.cell? (a.add k) = some (.string (nmB k)) := fun k hk => by
    obtain ⟨v, n, q, hc, ht⟩ := hel k (.lit (.string (nm k))) (by simp [hk])
    obtain ⟨s, hs, hx, _⟩ := DataW.trod_string Tryd.underlying9 ht
    obtain rfl : v = .string s := by simpa using hs
    simp only [Prod.mk.injEq, DataW.lit.injEq, Lit.string.injEq] at hx
    rw [hc, str_nm hx.1.symm]
  have hsp := spot_none (hall 0 (by omega))
  obtain ⟨nb, no, sp⟩ := a
  obtain rfl : sp = none := hsp
  refine ⟨nb, no, cap, ⟨h0.trans e0, fun k hk => by
    by_cases h : k = 0
    · subst h; simpa [Addr.add] using hall 0 hk
    · simpa [Addr.add, h] using hall k hk⟩, ?_⟩
  exact lt_of_cell (hall 0 (by omega))

theorem shapes_of {W : World} {fuel : Nat} {cs : Array Value} {p : List MemPlace} (hv : W.var? Tryd.prog "keyhold/isa.shapes" = some cs)
    (hd : DataW.trod (fun _ => ()) Tryd.prog W 0 (fun _ => true) false fuel 62 cs.toList = some (Rows.laid_keyhold_isa_shapes, p)) : ShapesAt W := by
  intro k hk
  rw [shapeD] at hd
  obtain ⟨xs, m, rfl, hx, hlen, hn, hel⟩ := DataW.trod_array Tryd.underlying62 hd
  have hk1 := hel k hk
  have hkx : xs[k]? = some (xs[k]'(by omega)) := List.getElem?_eq_getElem (by omega)
  rw [hkx, c61] at hk1
  obtain ⟨ys, m2, rfl, hy, hyl, hyn, hyf⟩ := DataW.trod_struct Tryd.underlying61 hk1
  simp only [Prod.mk.injEq, DataW.agg.injEq] at hx
  have hxk : (xs[k]'(by omega)).1 = .agg [.lit (.string (nm k)), .lit (.bool (hasA k)), .lit (.bool (hasB k)), .lit (.bool (hasC k))] := by
    have h1 : (xs.map (·.1))[k]? = some (xs[k]'(by omega)).1 := by simp [hkx]
    rw [← hx.1] at h1
    simp [hk] at h1
    exact h1.symm
  rw [hy] at hxk
  simp only [DataW.agg.injEq] at hxk
  have c0 := World.var?_cell gShapes hv (k * 4)
  have c1 := World.var?_cell gShapes hv (k * 4 + 1)
  have c2 := World.var?_cell gShapes hv (k * 4 + 2)
  have c3 := World.var?_cell gShapes hv (k * 4 + 3)
  match ys, hyn, hxk, hyf with
  | [y0, y1, y2, y3], _, hxk, hyf =>
    simp only [List.map_cons, List.map_nil, List.cons.injEq, and_true] at hxk
    obtain ⟨x0, x1, x2, x3⟩ := hxk
    obtain ⟨s, hs, hx0, _⟩ := DataW.trod_string Tryd.underlying9 (hyf 0 _ rfl)
    obtain ⟨b1, hb1, hx1⟩ := DataW.trod_bool Tryd.underlying4 (hyf 1 _ rfl)
    obtain ⟨b2, hb2, hx2⟩ := DataW.trod_bool Tryd.underlying4 (hyf 2 _ rfl)
    obtain ⟨b3, hb3, hx3⟩ := DataW.trod_bool Tryd.underlying4 (hyf 3 _ rfl)
    simp only [hx0, hx1, hx2, hx3, DataW.lit.injEq, Lit.string.injEq, Lit.bool.injEq] at x0 x1 x2 x3
    subst x1; subst x2; subst x3
    obtain rfl := str_nm x0
    have h0s : ((((cs.toList.drop (k * 4)).take 4).drop 0).take (Tryd.prog.cellsOf 9)) = [.string (nmB k)] := hs
    rw [c9] at h0s
    have h1s : ((((cs.toList.drop (k * 4)).take 4).drop 1).take (Tryd.prog.cellsOf 4)) = [.bool (hasA k)] := hb1
    rw [c4] at h1s
    have h2s : ((((cs.toList.drop (k * 4)).take 4).drop 2).take (Tryd.prog.cellsOf 4)) = [.bool (hasB k)] := hb2
    rw [c4] at h2s
    have h3s : ((((cs.toList.drop (k * 4)).take 4).drop 3).take (Tryd.prog.cellsOf 4)) = [.bool (hasC k)] := hb3
    rw [c4] at h3s
    exact ⟨c0.trans (take_at (j := 0) (by decide) h0s rfl), c1.trans (take_at (j := 1) (by decide) h1s rfl), c2.trans (take_at (j := 2) (by decide) h2s rfl), c3.trans (take_at (j := 3) (by decide) h3s rfl)⟩

set_option maxRecDepth 100000 in
theorem of_laid {W : World} (h : laidMetH Tryd.prog Rows.isaTextsRow.laid W) : HandleAt W ∧ ShapesAt W ∧ PowAt W ∧ ∃ nb no nc, NamesAt W nb no nc ∧ nb < W.heap.size := by
  have h' : laidMet Tryd.prog [("math/bits.deBruijn32tab", Rows.laid_math_bits_deBruijn32tab), ("math/bits.deBruijn64tab", Rows.laid_math_bits_deBruijn64tab), ("internal/strconv.uint64pow10", Rows.laid_internal_strconv_uint64pow10), ("keyhold/keyholdref.names", Rows.laid_keyhold_keyholdref_names), ("keyhold/isa.shapes", Rows.laid_keyhold_isa_shapes)] W ∧ handlesMet Tryd.prog [("errors.errorType", Rows.laid_errors_errorType)] W := h
  obtain ⟨⟨ps, ⟨_, _, _, _, _, _, _, _, _, _, ⟨_, _, _, _, _, _, _, _, _, _, ⟨g1, t1, cs1, f1, p1, q1, hg1, ht1, hv1, hd1, ⟨g2, t2, cs2, f2, p2, q2, hg2, ht2, hv2, hd2, ⟨g3, t3, cs3, f3, p3, q3, hg3, ht3, hv3, hd3, _, _⟩, _⟩, _⟩, _⟩, _⟩, _⟩, hh⟩ := h'
  obtain rfl := Option.some.inj (gPow.symm.trans hg1)
  obtain rfl := Option.some.inj (tPow.symm.trans ht1)
  obtain rfl := Option.some.inj (gNames.symm.trans hg2)
  obtain rfl := Option.some.inj (tNames.symm.trans ht2)
  obtain rfl := Option.some.inj (gShapes.symm.trans hg3)
  obtain rfl := Option.some.inj (tShapes.symm.trans ht3)
  refine ⟨handle_of hh, shapes_of hv3 hd3, ?_, names_of hv2 hd2⟩
  rw [powD] at hd1
  unfold PowAt Lib.TabIs
  rw [hv1, ← Lib.cells_of_tab Tryd.underlying123 Tryd.underlying100 (by kernel_rfl) (by kernel_rfl) hd1]
end Go.Proofs.YthgalknkkhkefaaDoor
