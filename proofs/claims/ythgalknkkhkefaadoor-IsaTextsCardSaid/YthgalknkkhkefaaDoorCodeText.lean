/- keyholdref.CodeText: the text of instructions that may be, at most 40 of them. -/
import Derived.Test.YthgalknkkhkefaaDoorCheck
import Derived.Deep.QuietTactic
import Derived.BigQuiet
import Derived.IntWalk
namespace Go.Proofs.YthgalknkkhkefaaDoor
open Go Go.RowKit

abbrev I4 := Int × Int × Int × Int
def partA (i : I4) : List UInt8 := if hasA i.1 then [32, 114] ++ Lib.itoa i.2.1 else []
def partB (i : I4) : List UInt8 := if hasB i.1 then [32, 114] ++ Lib.itoa i.2.2.1 else []
def partC (i : I4) : List UInt8 := if hasC i.1 then [32] ++ Lib.itoa i.2.2.2 else []
def lineT (i : I4) : List UInt8 := nm i.1.toNat ++ partA i ++ partB i ++ partC i ++ [10]
def codeT (l : List I4) : List UInt8 := l.flatMap lineT
def ctB (l : List UInt8) : ByteArray := ⟨l.toArray⟩
theorem ctB_add (l m : List UInt8) : ctB l ++ ctB m = ctB (l ++ m) := cat_str l m
theorem ctB_size (l : List UInt8) : (ctB l).size = l.length := by simp [ctB, ByteArray.size]

def InsAt (w : World) (b o : Nat) (l : List I4) : Prop := ∀ j (h : j < l.length), w.cell? ⟨b, o + j * 4, none⟩ = some (.int .i64 l[j].1) ∧ w.cell? ⟨b, o + j * 4 + 1, none⟩ = some (.int .i64 l[j].2.1) ∧ w.cell? ⟨b, o + j * 4 + 2, none⟩ = some (.int .i64 l[j].2.2.1) ∧ w.cell? ⟨b, o + j * 4 + 3, none⟩ = some (.int .i64 l[j].2.2.2)
theorem InsAt.below {w w' : World} {B b o : Nat} {l : List I4} (h : InsAt w b o l) (hb : Below B w w') (hB : b < B) : InsAt w' b o l := fun j hj => by
  obtain ⟨a, c, d, e⟩ := h j hj
  exact ⟨(hb.cell (p := ⟨b, o + j * 4, none⟩) hB).trans a, (hb.cell (p := ⟨b, o + j * 4 + 1, none⟩) hB).trans c, (hb.cell (p := ⟨b, o + j * 4 + 2, none⟩) hB).trans d, (hb.cell (p := ⟨b, o + j * 4 + 3, none⟩) hB).trans e⟩

def NamesAt (w : World) (nb no nc : Nat) : Prop := w.cell? ⟨0, 0, none⟩ = some (.slice (some ⟨nb, no, none⟩) 15 nc) ∧ ∀ k : Nat, k < 15 → w.cell? ⟨nb, no + k, none⟩ = some (.string (nmB k))
theorem NamesAt.below {w w' : World} {B nb no nc : Nat} (h : NamesAt w nb no nc) (hb : Below B w w') (h0 : 0 < B) (hB : nb < B) : NamesAt w' nb no nc :=
  ⟨(hb.cell (p := ⟨0, 0, none⟩) h0).trans h.1, fun k hk => (hb.cell (p := ⟨nb, no + k, none⟩) hB).trans (h.2 k hk)⟩

def okI (i : I4) : Prop := insErr i.1 i.2.1 i.2.2.1 i.2.2.2 = 0
theorem okI_op {i : I4} (h : okI i) : 0 ≤ i.1 ∧ i.1 ≤ 14 := by
  unfold okI insErr at h
  by_cases hf : farB i.1 14 = true
  · simp [hf] at h
  · simpa [farB] using hf
theorem okI_a {i : I4} (h : okI i) (ha : hasA i.1 = true) : 0 ≤ i.2.1 ∧ i.2.1 ≤ 7 := by
  unfold okI insErr at h
  by_cases hf : farB i.1 14 = true
  · simp [hf] at h
  · simp only [hf, ha, fitB] at h; grind
theorem okI_b {i : I4} (h : okI i) (ha : hasB i.1 = true) : 0 ≤ i.2.2.1 ∧ i.2.2.1 ≤ 7 := by
  unfold okI insErr at h
  by_cases hf : farB i.1 14 = true
  · simp [hf] at h
  · simp only [hf, ha, fitB] at h; grind
theorem okI_c {i : I4} (h : okI i) (ha : hasC i.1 = true) : -32768 ≤ i.2.2.2 ∧ i.2.2.2 ≤ 32767 := by
  unfold okI insErr at h
  by_cases hf : farB i.1 14 = true
  · simp [hf] at h
  · simp only [hf, ha, fitB] at h; grind
theorem partA_len {i : I4} (h : okI i) : (partA i).length ≤ 8 := by
  unfold partA
  split
  · rename_i ha
    have := itoa_len i.2.1 (by have := okI_a h ha; omega) (by have := okI_a h ha; omega)
    simp; omega
  · simp
theorem partB_len {i : I4} (h : okI i) : (partB i).length ≤ 8 := by
  unfold partB
  split
  · rename_i ha
    have := itoa_len i.2.2.1 (by have := okI_b h ha; omega) (by have := okI_b h ha; omega)
    simp; omega
  · simp
theorem partC_len {i : I4} (h : okI i) : (partC i).length ≤ 8 := by
  unfold partC
  split
  · rename_i ha
    have := itoa_len i.2.2.2 (by have := okI_c h ha; omega) (by have := okI_c h ha; omega)
    simp; omega
  · simp
theorem lineT_len {i : I4} (h : okI i) : (lineT i).length ≤ 30 := by
  have := partA_len h; have := partB_len h; have := partC_len h; have := nm_len i.1.toNat
  simp [lineT]; omega
theorem codeT_len : ∀ (l : List I4), (∀ i ∈ l, okI i) → (codeT l).length ≤ 30 * l.length
  | [], _ => by simp [codeT]
  | i :: l, h => by
    have h1 := lineT_len (h i (by simp))
    have h2 := codeT_len l (fun j hj => h j (by simp [hj]))
    simp only [codeT, List.flatMap_cons, List.length_append, List.length_cons] at *
    omega
theorem codeT_snoc (l : List I4) (k : Nat) (h : k < l.length) : codeT (l.take (k + 1)) = codeT (l.take k) ++ lineT l[k] := by
  rw [List.take_succ_eq_append_getElem h, codeT, List.flatMap_append]; simp [codeT]
end Go.Proofs.YthgalknkkhkefaaDoor
