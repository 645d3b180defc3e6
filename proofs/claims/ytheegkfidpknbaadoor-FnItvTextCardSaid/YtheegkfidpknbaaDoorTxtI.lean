/-
  Bounds' text and what is read of a text, as plain functions on bytes, and what holds of them. No program is in sight here. No conditions.
-/
import Derived.Test.YtheegkfidpknbaaDoorTxt
import Derived.Lib.CutLaws
namespace Go.Proofs.YtheegkfidpknbaaDoor
set_option linter.unusedSimpArgs false
set_option linter.unusedVariables false
open Go.Lib

abbrev dots : List UInt8 := [46, 46]
/-- The text of bounds; of what are no bounds, nothing. -/
def textI (a : Int × Int) : List UInt8 := if okI a = true then itoa a.1 ++ (dots ++ itoa a.2) else []
/-- The bounds of a text, of the text ahead of its first two dots and of that behind them. -/
def readB (x y : List UInt8) : (Int × Int) × Bool :=
  if (readN x).2 = true ∧ (readN y).2 = true ∧ okI ((readN x).1, (readN y).1) = true then (((readN x).1, (readN y).1), true) else ((0, 0), false)
def readI (l : List UInt8) : (Int × Int) × Bool := readB (cut l dots).1 (cut l dots).2.1
theorem textI_ok {a : Int × Int} (h : okI a = true) : textI a = itoa a.1 ++ (dots ++ itoa a.2) := by unfold textI; rw [if_pos h]
theorem textI_bad {a : Int × Int} (h : okI a = false) : textI a = [] := by unfold textI; rw [if_neg (by simp [h])]
theorem occ_iff {l : List UInt8} {i : Nat} : occAt l dots i = true ↔ l[i]? = some 46 ∧ l[i + 1]? = some 46 := by
  have e0 : (l.drop i)[0]? = l[i]? := by rw [List.getElem?_drop]; rfl
  have e1 : (l.drop i)[1]? = l[i + 1]? := by rw [List.getElem?_drop]
  unfold occAt
  rw [← e0, ← e1]
  cases l.drop i with
  | nil => simp
  | cons a r =>
    cases r with
    | nil => simp
    | cons b r => simp; constructor <;> (rintro ⟨h1, h2⟩; exact ⟨h1.symm, h2.symm⟩)
theorem cut_hit {l : List UInt8} {i : Nat} (h : index l dots = i) : cut l dots = (l.take i, l.drop (i + 2), true) := by
  unfold cut
  rw [h, if_pos (by omega)]
  rfl
theorem cut_miss {l : List UInt8} (h : index l dots = -1) : cut l dots = (l, [], false) := by
  unfold cut
  rw [h, if_neg (by omega)]
theorem readI_hit {l : List UInt8} {i : Nat} (h : NoOcc l dots i) (ho : occAt l dots i = true) (hi : i ≤ l.length) : readI l = readB (l.take i) (l.drop (i + 2)) := by
  unfold readI
  rw [cut_hit (index_first hi ho h)]
theorem readB_no1 {x y : List UInt8} (h : (readN x).2 = false) : readB x y = ((0, 0), false) := by unfold readB; rw [if_neg (by simp [h])]
theorem readB_no2 {x y : List UInt8} (h : (readN y).2 = false) : readB x y = ((0, 0), false) := by unfold readB; rw [if_neg (by simp [h])]
theorem readI_miss {l : List UInt8} (h : index l dots = -1) : readI l = ((0, 0), false) := by
  unfold readI
  rw [cut_miss h]
  exact readB_no2 rfl
theorem occ_room {l : List UInt8} {i : Nat} (h : occAt l dots i = true) : i + 2 ≤ l.length := by
  have h2 := (occ_iff.1 h).2
  have := (List.getElem?_eq_some_iff.1 h2).1
  omega
theorem readI_far {l : List UInt8} (h : NoOcc l dots 8) : readI l = ((0, 0), false) := by
  rcases index_spec l dots with ⟨k, _⟩ | ⟨i, k, _, ho, _⟩
  · exact readI_miss k
  · have hi : 8 ≤ i := by
      rcases Nat.lt_or_ge i 8 with h8 | h8
      · have := h i h8; rw [ho] at this; cases this
      · exact h8
    have hr := occ_room ho
    unfold readI
    rw [cut_hit k]
    exact readB_no1 (by rw [readN_long]; simp; omega)
theorem readI_end {l : List UInt8} {k : Nat} (h : NoOcc l dots k) (hk : l.length ≤ k + 1) : readI l = ((0, 0), false) := by
  rcases index_spec l dots with ⟨e, _⟩ | ⟨i, e, _, ho, _⟩
  · exact readI_miss e
  · have hr := occ_room ho
    have := h i (by omega)
    rw [ho] at this
    cases this
theorem noOcc_succ {l : List UInt8} {k : Nat} (h : NoOcc l dots k) (hk : occAt l dots k = false) : NoOcc l dots (k + 1) := fun j hj => by
  rcases Nat.lt_or_ge j k with h1 | h1
  · exact h j h1
  · obtain rfl : j = k := by omega
    exact hk
/-- As the reference asks: both are numbers, in order. -/
theorem readB_le {x y : List UInt8} (h1 : (readN x).2 = true) (h2 : (readN y).2 = true) : okI ((readN x).1, (readN y).1) = decide ((readN x).1 ≤ (readN y).1) := by
  have k1 := (numOk_iff _).1 (readN_ok h1).1
  have k2 := (numOk_iff _).1 (readN_ok h2).1
  rw [Bool.eq_iff_iff, okI_iff, decide_eq_true_eq]
  simp only
  omega
theorem readB_yes {x y : List UInt8} {a b : Int} (h1 : readN x = (a, true)) (h2 : readN y = (b, true)) (h : okI (a, b) = true) : readB x y = ((a, b), true) := by
  unfold readB
  rw [h1, h2, if_pos ⟨rfl, rfl, h⟩]
theorem readB_no3 {x y : List UInt8} {a b : Int} (h1 : readN x = (a, true)) (h2 : readN y = (b, true)) (h : okI (a, b) = false) : readB x y = ((0, 0), false) := by
  unfold readB
  rw [h1, h2, if_neg (by simp [h])]
theorem itoa_no_dot {n : Int} {j : Nat} (h : (itoa n)[j]? = some 46) : False := by
  have hm := List.mem_of_getElem? h
  unfold itoa at hm
  split at hm
  · rcases List.mem_cons.1 hm with e | e
    · cases e
    · have := digit_bd (decFrom_digits _) _ e; simp at this
  · have := digit_bd (decFrom_digits _) _ hm; simp at this
theorem index_text (x y : Int) : index (itoa x ++ (dots ++ itoa y)) dots = ((itoa x).length : Nat) := by
  refine index_first (by simp) (occ_iff.2 ⟨?_, ?_⟩) (fun j hj => ?_)
  · rw [List.getElem?_append_right (Nat.le_refl _)]; simp
  · rw [List.getElem?_append_right (by omega)]; simp
  · rw [← Bool.not_eq_true]
    intro ho
    have h0 := (occ_iff.1 ho).1
    rw [List.getElem?_append_left hj] at h0
    exact itoa_no_dot h0
theorem readI_text {a : Int × Int} (h : okI a = true) : readI (textI a) = (a, true) := by
  have k := (okI_iff a).1 h
  rw [textI_ok h]
  unfold readI
  rw [cut_hit (index_text a.1 a.2)]
  simp only [List.take_left']
  have e : (itoa a.1 ++ (dots ++ itoa a.2)).drop ((itoa a.1).length + 2) = itoa a.2 := by
    rw [← List.drop_drop, List.drop_left' rfl]
    rfl
  rw [e]
  exact readB_yes (readN_text ((numOk_iff _).2 (by omega))) (readN_text ((numOk_iff _).2 (by omega))) h
theorem readI_ok {l : List UInt8} (h : (readI l).2 = true) : okI (readI l).1 = true ∧ textI (readI l).1 = l := by
  unfold readI at h ⊢
  rcases index_spec l dots with ⟨e, _⟩ | ⟨i, e, hi, ho, _⟩
  · rw [cut_miss e] at h
    have : readB l [] = ((0, 0), false) := readB_no2 rfl
    rw [show ((l, ([] : List UInt8), false) : List UInt8 × List UInt8 × Bool).1 = l from rfl, show ((l, ([] : List UInt8), false) : List UInt8 × List UInt8 × Bool).2.1 = [] from rfl, this] at h
    cases h
  · rw [cut_hit e] at h ⊢
    simp only at h ⊢
    unfold readB at h ⊢
    split at h
    · rename_i k
      rw [if_pos k]
      refine ⟨k.2.2, ?_⟩
      rw [textI_ok k.2.2]
      simp only
      rw [(readN_ok k.1).2, (readN_ok k.2.1).2]
      have hr := occ_room ho
      obtain ⟨g0, g1⟩ := occ_iff.1 ho
      have e1 : l.drop i = 46 :: 46 :: l.drop (i + 2) := by
        rw [List.drop_eq_getElem_cons (by omega), List.drop_eq_getElem_cons (by omega)]
        have a0 : l[i]'(by omega) = 46 := by rw [List.getElem?_eq_getElem (by omega)] at g0; exact Option.some.inj g0
        have a1 : l[i + 1]'(by omega) = 46 := by rw [List.getElem?_eq_getElem (by omega)] at g1; exact Option.some.inj g1
        rw [a0, a1]
      have := List.take_append_drop i l
      rw [e1] at this
      exact this
    · cases h
theorem readI_bad {l : List UInt8} (h : (readI l).2 = false) : (readI l).1 = (0, 0) := by
  unfold readI readB at h ⊢
  split at h
  · cases h
  · rename_i k; rw [if_neg k]
theorem textI_len (a : Int × Int) : (textI a).length ≤ 14 := by
  rcases Bool.eq_false_or_eq_true (okI a) with h | h
  · have k := (okI_iff a).1 h
    have h1 := itoa_len (n := a.1) ((numOk_iff _).2 (by omega))
    have h2 := itoa_len (n := a.2) ((numOk_iff _).2 (by omega))
    rw [textI_ok h]
    simp
    omega
  · rw [textI_bad h]; simp
end Go.Proofs.YtheegkfidpknbaaDoor
