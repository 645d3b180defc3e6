/-
  PrgAt: the program's and the reference's answer, in one form. No conditions but those that each theorem says.
-/
import Derived.Test.YthbbakmohcjblaaPrgAt3
import Derived.Test.YthbbakmohcjblaaPrgAt4
import Derived.Test.YthbbakmohcjblaaPrgAt5
namespace Go.Proofs.Ythbbakmohcjblaa
set_option linter.unusedSimpArgs false
set_option linter.unusedVariables false
open Go.ChangeShapes Go.WideShapes Go.ChangeAt Go.RowKit Go.Sort

/-- Is there such an instruction? -/
def atB (P : Nat → Prc) (len : Nat) (i k : Int) : Bool := decide (0 ≤ i) && decide (i < len) && decide (0 ≤ k) && decide (k < ((P i.toNat).n : Int))
/-- Its numbers. -/
def atV (P : Nat → Prc) (F : Nat → Nat → Nat → Int) (len : Nat) (i k : Int) (j : Nat) : Int := if atB P len i k then F i.toNat k.toNat j else 0
theorem at_no {P : Nat → Prc} {F : Nat → Nat → Nat → Int} {len : Nat} {i k : Int} {V : Nat → Int} {ok : Bool} (hV : atV P F len i k = V) (hB : atB P len i k = ok) (h : i < 0 ∨ (len : Int) ≤ i ∨ k < 0 ∨ ((P i.toNat).n : Int) ≤ k) : ok = false ∧ ∀ j, V j = 0 := by
  have h0 : atB P len i k = false := by
    simp only [atB, Bool.and_eq_false_iff, decide_eq_false_iff_not]
    omega
  subst hV hB
  exact ⟨h0, fun j => by simp [atV, h0]⟩
theorem at_yes {P : Nat → Prc} {F : Nat → Nat → Nat → Int} {len i k : Nat} {V : Nat → Int} {ok : Bool} (hV : atV P F len i k = V) (hB : atB P len i k = ok) (hi : i < len) (hk : k < (P i).n) : ok = true ∧ ∀ j, V j = F i k j := by
  have h0 : atB P len i k = true := by
    simp [atB, hi, hk]
  subst hV hB
  exact ⟨h0, fun j => by simp [atV, h0]⟩

theorem prgAt_s {G : Nat} {a : Option Addr} {len cap : Nat} {P : Nat → Prc} {F : Nat → Nat → Nat → Int} {i k : Int} {V : Nat → Int} {ok : Bool} (hV : atV P F len i k = V) (hB : atB P len i k = ok) (w : World) (hq : RdQ G w a len P F) : Calls Try.prog 25 #[.agg #[.slice a len cap], .int .i64 i, .int .i64 k] w fun e w' => e = .returned (.tuple #[.agg #[.int .i64 (V 0), .int .i64 (V 1), .int .i64 (V 2), .int .i64 (V 3), .int .i64 (V 4), .int .i64 (V 5), .int .i64 (V 6), .int .i64 (V 7)], .bool ok]) ∧ Below w.heap.size w w' := by
  by_cases h : i < 0 ∨ (len : Int) ≤ i ∨ k < 0 ∨ ((P i.toNat).n : Int) ≤ k
  · obtain ⟨rfl, hv⟩ := at_no hV hB h
    simp only [hv]
    by_cases h0 : i < 0 ∨ (len : Int) ≤ i ∨ k < 0
    · exact prgAt_s0 a len cap i k w h0
    · obtain ⟨i, rfl⟩ := Int.eq_ofNat_of_zero_le (show 0 ≤ i by omega)
      obtain ⟨k, rfl⟩ := Int.eq_ofNat_of_zero_le (show 0 ≤ k by omega)
      exact prgAt_s1 G a len cap P F i k w hq (by omega) (by simp only [Int.toNat_natCast] at h; omega)
  · obtain ⟨i, rfl⟩ := Int.eq_ofNat_of_zero_le (show 0 ≤ i by omega)
    obtain ⟨k, rfl⟩ := Int.eq_ofNat_of_zero_le (show 0 ≤ k by omega)
    simp only [Int.toNat_natCast] at h
    obtain ⟨rfl, hv⟩ := at_yes hV hB (show i < len by omega) (show k < (P i).n by omega)
    simp only [hv]
    exact prgAt_s2 G a len cap P F i k w hq (by omega) (by omega)
theorem prgAt_i {G : Nat} {a : Option Addr} {len cap : Nat} {P : Nat → Prc} {F : Nat → Nat → Nat → Int} {i k : Int} {V : Nat → Int} {ok : Bool} (hV : atV P F len i k = V) (hB : atB P len i k = ok) (w : World) (hq : RdQ G w a len P F) : Calls Try.prog 26 #[.agg #[.slice a len cap], .int .i64 i, .int .i64 k] w fun e w' => e = .returned (.tuple #[.agg #[.int .i64 (V 0), .int .i64 (V 1), .int .i64 (V 2), .int .i64 (V 3), .int .i64 (V 4), .int .i64 (V 5), .int .i64 (V 6), .int .i64 (V 7)], .bool ok]) ∧ Below w.heap.size w w' := by
  by_cases h : i < 0 ∨ (len : Int) ≤ i ∨ k < 0 ∨ ((P i.toNat).n : Int) ≤ k
  · obtain ⟨rfl, hv⟩ := at_no hV hB h
    simp only [hv]
    by_cases h0 : (decide (0 ≤ i) && decide (i < (len : Int))) = false
    · exact prgAt_i0 a len cap i k w h0
    · simp only [Bool.and_eq_false_iff, decide_eq_false_iff_not] at h0
      obtain ⟨i, rfl⟩ := Int.eq_ofNat_of_zero_le (show 0 ≤ i by omega)
      exact prgAt_i1 G a len cap P F i k w hq (by omega) (by simp only [Bool.and_eq_false_iff, decide_eq_false_iff_not]; simp only [Int.toNat_natCast] at h; omega)
  · obtain ⟨i, rfl⟩ := Int.eq_ofNat_of_zero_le (show 0 ≤ i by omega)
    obtain ⟨k, rfl⟩ := Int.eq_ofNat_of_zero_le (show 0 ≤ k by omega)
    simp only [Int.toNat_natCast] at h
    obtain ⟨rfl, hv⟩ := at_yes hV hB (show i < len by omega) (show k < (P i).n by omega)
    simp only [hv]
    exact prgAt_i2 G a len cap P F i k w hq (by omega) (by omega)
end Go.Proofs.Ythbbakmohcjblaa
