/-
  What ItvDo computes, the program's and the reference's. No conditions.
-/
import Derived.Test.YtempklcflcpjaaaCorn
import Derived.Test.YtempklcflcpjaaaPlainLaws2
namespace Go.Proofs.Ytempklcflcpjaaa
set_option linter.unusedSimpArgs false
set_option linter.unusedVariables false
open Go.ChangeShapes Go.WideShapes Go.ChangeAt Go.RowKit

def rsL (op : Int) (ps : List (Int × Int)) : List Int := ps.map fun p => rawN op p.1 p.2
def minL (xs : List Int) (k : Nat) : Int := (xs.take k).foldl min (xs.getD 0 0)
def maxL (xs : List Int) (k : Nat) : Int := (xs.take k).foldl max (xs.getD 0 0)
theorem minL_succ (xs : List Int) (k : Nat) (h : k < xs.length) : minL xs (k + 1) = min (minL xs k) (xs.getD k 0) := by
  unfold minL; rw [take_snoc_int xs k h, List.foldl_append]; rfl
theorem maxL_succ (xs : List Int) (k : Nat) (h : k < xs.length) : maxL xs (k + 1) = max (maxL xs k) (xs.getD k 0) := by
  unfold maxL; rw [take_snoc_int xs k h, List.foldl_append]; rfl
theorem rsL_len (op : Int) (ps : List (Int × Int)) : (rsL op ps).length = ps.length := by simp [rsL]
theorem rsL_snoc (op : Int) (ps : List (Int × Int)) (k : Nat) (h : k < ps.length) : rsL op (ps.take (k + 1)) = rsL op (ps.take k) ++ [rawN op (ps.getD k (0, 0)).1 (ps.getD k (0, 0)).2] := by
  unfold rsL
  rw [List.take_succ_eq_append_getElem h, List.map_append, List.getD_eq_getElem?_getD, List.getElem?_eq_getElem h, Option.getD_some]; rfl
theorem pairV_at (ps : List (Int × Int)) (k : Nat) (h : k < ps.length) : (pairV ps)[k * 2]? = some (.int .i64 (ps.getD k (0, 0)).1) ∧ (pairV ps)[k * 2 + 1]? = some (.int .i64 (ps.getD k (0, 0)).2) := by
  induction ps generalizing k with
  | nil => simp at h
  | cons p ps ih =>
    cases k with
    | zero => simp [pairV]
    | succ k =>
      have := ih k (by simpa using h)
      simp only [pairV, List.flatMap_cons] at this ⊢
      rw [show (k + 1) * 2 = k * 2 + 2 by omega, show k * 2 + 2 + 1 = (k * 2 + 1) + 2 by omega]
      simpa using this
/- The least and the greatest of what comes of the corners. -/
set_option maxHeartbeats 2000000 in
theorem corn_ends {op : Int} {a b : Int × Int} (ha : okI a = true) (hb : okI b = true) (hop : op = 1 ∨ op = 3 ∨ op = 4) (hne : rsL op (cornL a (secsL op b)) ≠ []) :
    minL (rsL op (cornL a (secsL op b))) (rsL op (cornL a (secsL op b))).length = (rawI op a b).1 ∧ maxL (rsL op (cornL a (secsL op b))) (rsL op (cornL a (secsL op b))).length = (rawI op a b).2 := by
  have kb := (okI_iff _).1 hb
  have ka := (okI_iff _).1 ha
  have m1 : max (0 : Int) 1 = 1 := by omega
  have m2 : min (0 : Int) (-1) = -1 := by omega
  obtain ⟨al, ah⟩ := a
  obtain ⟨bl, bh⟩ := b
  simp only at ka kb
  rcases hop with rfl | rfl | rfl
  · simp [rsL, cornL, secsL, rawN, rawI, minL, maxL]
    omega
  · simp [rsL, cornL, secsL, rawN, rawI, minL, maxL, mulS, span, mn4, mx4]
    omega
  · have hh : ∀ n, hasI (bl, bh) n = (decide (bl ≤ n) && decide (n ≤ bh)) := fun n => by simp [hasI, hb]
    have one : ∀ x : Int, x.tdiv 1 = x := Int.tdiv_one
    by_cases c1 : bl = 0 <;> by_cases c2 : bh = 0
    · exfalso; apply hne; subst c1; subst c2
      simp [rsL, cornL, secsL, candL, goodC, hh]
    · subst c1
      have e1 : 1 ≤ bh := by omega
      have e2 : ¬ (bh ≤ -1) := by omega
      have e3 : (bh != 0) = true := by simpa using c2
      have e4 : (0 : Int) ≤ bh := by omega
      simp [rsL, cornL, secsL, candL, goodC, hh, rawN, rawI, minL, maxL, divS, span, mn4, mx4, c2, e1, e4, m1]
      omega
    · subst c2
      have e1 : bl ≤ -1 := by omega
      have e2 : ¬ (0 ≤ bl) := by omega
      have e4 : bl ≤ 0 := by omega
      have e5 : ¬ (1 : Int) ≤ 0 := by omega
      simp [rsL, cornL, secsL, candL, goodC, hh, rawN, rawI, minL, maxL, divS, span, mn4, mx4, c1, e1, e2, e4, m2]
      omega
    · by_cases c3 : 0 ≤ bl
      · have e2 : ¬ (bl ≤ -1) := by omega
        have e6 : max bl 1 = bl := by omega
        have e7 : bl ≤ bh := kb.2.1
        by_cases c4 : bl ≤ 1
        · have e8 : bl = 1 := by omega
          subst e8
          have e9 : (1 : Int) ≤ bh := by omega
          simp [rsL, cornL, secsL, candL, goodC, hh, rawN, rawI, minL, maxL, divS, span, mn4, mx4, c2, e9]
          omega
        · simp [rsL, cornL, secsL, candL, goodC, hh, rawN, rawI, minL, maxL, divS, span, mn4, mx4, c1, c2, c3, c4, e2, e6, e7]
          omega
      · by_cases c4 : bh ≤ 0
        · have e6 : min bh (-1) = bh := by omega
          have e7 : bl ≤ bh := kb.2.1
          have e10 : ¬ (1 ≤ bh) := by omega
          by_cases c5 : -1 ≤ bh
          · have e8 : bh = -1 := by omega
            subst e8
            simp [rsL, cornL, secsL, candL, goodC, hh, rawN, rawI, minL, maxL, divS, span, mn4, mx4, c1, c3, e7]
            omega
          · simp [rsL, cornL, secsL, candL, goodC, hh, rawN, rawI, minL, maxL, divS, span, mn4, mx4, c1, c2, c3, c4, c5, e6, e7, e10]
            omega
        · have e6 : min bh (-1) = -1 := by omega
          have e7 : bl ≤ bh := kb.2.1
          have e8 : bl ≤ -1 := by omega
          have e9 : -1 ≤ bh := by omega
          have e10 : 1 ≤ bh := by omega
          have e11 : bl ≤ 1 := by omega
          simp [rsL, cornL, secsL, candL, goodC, hh, rawN, rawI, minL, maxL, divS, span, mn4, mx4, c1, c2, c3, c4, e6, e7, e8, e9, e10, e11]
          omega
/-- The results lie so in memory. -/
def ResAt (w : World) (v : Value) (rs : List Int) : Prop :=
  ∃ A cap, v = .slice A rs.length cap ∧ rs.length ≤ 8 ∧ (0 < rs.length → ∃ g, A = some ⟨g, 0, none⟩ ∧ g < w.heap.size ∧ ∀ j, j < rs.length → w.cell? ⟨g, j, none⟩ = some (.int .i64 (rs.getD j 0)))
theorem ResAt.of_own {w : World} {base : Nat} {e : TypeId} {v : Value} {n : Nat} {ns : List Int} (hn : n = ns.length) (h : w.ownsRow base e 1 v n (ns.map (Value.int .i64))) (hl : ns.length ≤ 8) : ResAt w v ns := by
  subst hn
  rcases h.2 with ⟨rfl, h0⟩ | ⟨g, cap, cur, rfl, hb, hg, hnc, hcm, hcs, htake⟩
  · exact ⟨none, 0, by rw [h0], hl, fun h => by omega⟩
  · refine ⟨_, cap, rfl, hl, fun hp => ⟨g, rfl, ?_, fun j hj => ?_⟩⟩
    · rcases Nat.lt_or_ge g w.heap.size with h' | h'
      · exact h'
      · rw [Array.getElem?_eq_none h'] at hg; cases hg
    · rw [h.cellAt j (by omega), List.getElem?_map, List.getElem?_eq_getElem hj, List.getD_eq_getElem?_getD, List.getElem?_eq_getElem hj]; rfl
/-- The results of an operation: those at the corners, or the two of a difference. -/
def resL (op : Int) (a b : Int × Int) : List Int := if op = 2 then [a.1 - b.2, a.2 - b.1] else rsL op (cornL a (secsL op b))
theorem resL_ends {op : Int} {a b : Int × Int} (ha : okI a = true) (hb : okI b = true) (hop : op = 1 ∨ op = 2 ∨ op = 3 ∨ op = 4) (hne : resL op a b ≠ []) :
    minL (resL op a b) (resL op a b).length = (rawI op a b).1 ∧ maxL (resL op a b) (resL op a b).length = (rawI op a b).2 := by
  by_cases h2 : op = 2
  · subst h2
    have ka := (okI_iff _).1 ha
    have kb := (okI_iff _).1 hb
    simp [resL, rawI, minL, maxL]
    omega
  · have e : resL op a b = rsL op (cornL a (secsL op b)) := if_neg h2
    rw [e] at hne ⊢
    exact corn_ends ha hb (by omega) hne
theorem resL_nil {op : Int} {a b : Int × Int} (hb : okI b = true) (hop : op = 1 ∨ op = 2 ∨ op = 3 ∨ op = 4) : resL op a b = [] ↔ op = 4 ∧ b.1 = 0 ∧ b.2 = 0 := by
  have kb := (okI_iff _).1 hb
  have hh : ∀ n, hasI b n = (decide (b.1 ≤ n) && decide (n ≤ b.2)) := fun n => by simp [hasI, hb]
  rcases hop with rfl | rfl | rfl | rfl
  · simp [resL, rsL, cornL, secsL]
  · simp [resL]
  · simp [resL, rsL, cornL, secsL]
  · constructor
    · intro h
      refine ⟨rfl, ?_⟩
      apply Decidable.byContradiction
      intro k
      have : b.1 ≠ 0 ∨ b.2 ≠ 0 := by omega
      rcases this with c | c
      · have hm : b.1 ∈ secsL 4 b := by
          rw [secsL, if_pos rfl, List.mem_filter]
          exact ⟨by simp [candL], by simp [goodC, hh, c]; omega⟩
        have : (rawN 4 a.1 b.1) ∈ resL 4 a b := by
          rw [resL, if_neg (by decide), rsL, List.mem_map]
          exact ⟨(a.1, b.1), by simp only [cornL, List.mem_flatMap]; exact ⟨b.1, hm, by simp⟩, rfl⟩
        rw [h] at this; cases this
      · have hm : b.2 ∈ secsL 4 b := by
          rw [secsL, if_pos rfl, List.mem_filter]
          exact ⟨by simp [candL], by simp [goodC, hh, c]; omega⟩
        have : (rawN 4 a.1 b.2) ∈ resL 4 a b := by
          rw [resL, if_neg (by decide), rsL, List.mem_map]
          exact ⟨(a.1, b.2), by simp only [cornL, List.mem_flatMap]; exact ⟨b.2, hm, by simp⟩, rfl⟩
        rw [h] at this; cases this
    · rintro ⟨_, h1, h2⟩
      have e : secsL 4 b = [] := by
        rw [secsL, if_pos rfl]
        simp [candL, goodC, hh, h1, h2]
      rw [resL, if_neg (by decide), e]; rfl
theorem secs_ok {op : Int} {b : Int × Int} (hb : okI b = true) : (∀ n ∈ secsL op b, -32768 ≤ n ∧ n ≤ 32767 ∧ (op = 4 → n ≠ 0)) ∧ (secsL op b).length ≤ 4 := by
  have kb := (okI_iff _).1 hb
  constructor
  · intro n hn
    by_cases h4 : op = 4
    · rw [secsL, if_pos h4, List.mem_filter] at hn
      have h1 : (n != 0) = true ∧ hasI b n = true := by simpa [goodC] using hn.2
      have h2 := (hasI_iff _ _).1 h1.2
      exact ⟨by omega, by omega, fun _ => by simpa using h1.1⟩
    · rw [secsL, if_neg h4] at hn
      simp at hn
      exact ⟨by omega, by omega, fun h => absurd h h4⟩
  · by_cases h4 : op = 4
    · rw [secsL, if_pos h4]
      exact Nat.le_trans (List.length_filter_le _ _) (by simp [candL])
    · rw [secsL, if_neg h4]; simp
theorem corn_ok {op : Int} {a b : Int × Int} (ha : okI a = true) (hb : okI b = true) : ∀ p ∈ cornL a (secsL op b), (-32768 ≤ p.1 ∧ p.1 ≤ 32767) ∧ (-32768 ≤ p.2 ∧ p.2 ≤ 32767) ∧ (op = 4 → p.2 ≠ 0) := by
  have ka := (okI_iff _).1 ha
  intro p hp
  simp only [cornL, List.mem_flatMap] at hp
  obtain ⟨n, hn, hp⟩ := hp
  have k := (secs_ok hb).1 n hn
  simp at hp
  rcases hp with rfl | rfl
  · exact ⟨by simp only; omega, by simp only; omega, k.2.2⟩
  · exact ⟨by simp only; omega, by simp only; omega, k.2.2⟩
theorem raw_bdN {op u v : Int} (hu : -32768 ≤ u ∧ u ≤ 32767) (hv : -32768 ≤ v ∧ v ≤ 32767) : -1099511627776 ≤ rawN op u v ∧ rawN op u v ≤ 1099511627776 := by
  have hm := mul_bd (u := u) (v := v) (by omega) (by omega)
  have hd := tdiv_bd (u := u) (v := v) (by omega)
  unfold rawN
  repeat' split
  all_goals omega
end Go.Proofs.Ytempklcflcpjaaa
