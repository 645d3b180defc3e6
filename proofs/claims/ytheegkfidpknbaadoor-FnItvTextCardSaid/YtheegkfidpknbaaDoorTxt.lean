/-
  A number's text and what is read of a text, as plain functions on bytes, and what holds of them. No program is in sight here. No conditions.
-/
import Derived.Test.YtheegkfidpknbaaDoorPlain
import Derived.Lib.AtoiTie
import Derived.Lib.ItoaLen
import Derived.Lib.IndexMore
namespace Go.Proofs.YtheegkfidpknbaaDoor
set_option linter.unusedSimpArgs false
set_option linter.unusedVariables false
open Go.Lib

/-- The text of a number; of no number, nothing. -/
def txtN (n : Int) : List UInt8 := if numOk n = true then itoa n else []
/-- The number of a text. -/
def readN (l : List UInt8) : Int × Bool := match atoi l with
  | some n => if numOk n = true ∧ itoa n = l then (n, true) else (0, false)
  | none => (0, false)

theorem decFrom_snoc : ∀ (l : List UInt8) (acc : Nat) (c : UInt8), decFrom acc (l ++ [c]) = match decFrom acc l with
    | some n => (digitVal c).map fun d => n * 10 + d
    | none => none
  | [], acc, c => by simp only [List.nil_append, decFrom]; cases digitVal c <;> rfl
  | b :: r, acc, c => by
    simp only [List.cons_append, decFrom]
    cases digitVal b with
    | none => rfl
    | some d => exact decFrom_snoc r _ c
theorem digit_ofNat {d : Nat} (h : d < 10) : digitVal (UInt8.ofNat (48 + d)) = some d := by
  unfold digitVal
  rw [UInt8.toNat_ofNat']
  rw [if_pos (by omega)]
  congr 1
  omega
theorem decFrom_digits (u : Nat) : decFrom 0 (decDigits u) = some u := by
  induction u using Nat.strongRecOn with
  | _ u ih =>
    by_cases h : u < 10
    · rw [decDigits_one h]
      simp only [decFrom, digit_ofNat h, Nat.zero_mul, Nat.zero_add]
    · rw [decDigits, dif_neg h, decFrom_snoc, ih (u / 10) (by omega)]
      simp only [digit_ofNat (show u % 10 < 10 by omega), Option.map_some]
      congr 1
      omega
theorem digits_ne (u : Nat) : decDigits u ≠ [] := fun h => by
  have h1 := decDigits_length u
  have h2 := nDigits_pos u
  rw [h] at h1
  simp at h1
  omega
theorem decNat_digits (u : Nat) : decNat (decDigits u) = some u := by
  unfold decNat
  cases h : decDigits u with
  | nil => exact absurd h (digits_ne u)
  | cons b r => rw [if_neg (by simp), ← h, decFrom_digits]
theorem digit_bd {l : List UInt8} {acc n : Nat} (h : decFrom acc l = some n) : ∀ b ∈ l, 48 ≤ b.toNat ∧ b.toNat ≤ 57 := by
  intro b hb
  obtain ⟨k, hk, rfl⟩ := List.mem_iff_getElem.1 hb
  obtain ⟨d, hd⟩ := digit_of_decFrom l acc n h k _ (List.getElem?_eq_getElem hk)
  unfold digitVal at hd
  split at hd
  · assumption
  · cases hd
theorem atoi_itoa (n : Int) : atoi (itoa n) = some n := by
  unfold itoa
  by_cases h : n < 0
  · rw [if_pos h]
    simp only [atoi, beq_self_eq_true, if_true, decNat_digits, Option.map_some]
    congr 1
    omega
  · rw [if_neg h]
    cases hd : decDigits n.toNat with
    | nil => exact absurd hd (digits_ne _)
    | cons b r =>
      have hb := digit_bd (decFrom_digits n.toNat) b (by rw [hd]; simp)
      have h1 : (b == 45) = false := by rw [beq_eq_false_iff_ne]; intro e; subst e; simp at hb
      have h2 : (b == 43) = false := by rw [beq_eq_false_iff_ne]; intro e; subst e; simp at hb
      simp only [atoi, h1, h2, Bool.false_eq_true, if_false]
      rw [← hd, decNat_digits]
      simp
      omega
theorem digits_len {u : Nat} (h : u ≤ 32768) : (decDigits u).length ≤ 5 := by
  rw [decDigits_length]
  by_cases h1 : u < 10
  · rw [nDigits_small h1]; omega
  rw [nDigits_big h1]
  by_cases h2 : u / 10 < 10
  · rw [nDigits_small h2]; omega
  rw [nDigits_big h2]
  by_cases h3 : u / 10 / 10 < 10
  · rw [nDigits_small h3]; omega
  rw [nDigits_big h3]
  by_cases h4 : u / 10 / 10 / 10 < 10
  · rw [nDigits_small h4]; omega
  rw [nDigits_big h4, nDigits_small (by omega)]
  omega
theorem itoa_len {n : Int} (h : numOk n = true) : (itoa n).length ≤ 6 := by
  have k := (numOk_iff n).1 h
  unfold itoa
  split
  · simp only [List.length_cons]
    have := digits_len (u := n.natAbs) (by omega)
    omega
  · have := digits_len (u := n.toNat) (by omega)
    omega
theorem readN_yes {n : Int} {l : List UInt8} (h : numOk n = true) (e : itoa n = l) : readN l = (n, true) := by
  subst e
  unfold readN
  rw [atoi_itoa]
  simp [h]
theorem readN_no {l : List UInt8} (h : ∀ n, numOk n = true → itoa n ≠ l) : readN l = (0, false) := by
  unfold readN
  cases atoi l with
  | none => rfl
  | some n =>
    simp only
    rw [if_neg (fun k => h n k.1 k.2)]
theorem readN_ok {l : List UInt8} (h : (readN l).2 = true) : numOk (readN l).1 = true ∧ itoa (readN l).1 = l := by
  unfold readN at h ⊢
  cases hl : atoi l with
  | none => rw [hl] at h; simp at h
  | some n =>
    rw [hl] at h
    simp only at h ⊢
    split at h
    · rename_i k; rw [if_pos k]; exact k
    · simp at h
theorem readN_bad {l : List UInt8} (h : (readN l).2 = false) : (readN l).1 = 0 := by
  unfold readN at h ⊢
  cases hl : atoi l with
  | none => rfl
  | some n =>
    rw [hl] at h
    simp only at h ⊢
    split at h
    · simp at h
    · rename_i k; rw [if_neg k]
theorem readN_text {n : Int} (h : numOk n = true) : readN (itoa n) = (n, true) := readN_yes h rfl
theorem itoa_ne (n : Int) : itoa n ≠ [] := fun h => by have := atoi_itoa n; rw [h] at this; cases this
theorem txt_ok {n : Int} (h : numOk n = true) : txtN n = itoa n := by unfold txtN; rw [if_pos h]
theorem txt_bad {n : Int} (h : numOk n = false) : txtN n = [] := by unfold txtN; rw [if_neg (by simp [h])]
theorem txt_len (n : Int) : (txtN n).length ≤ 6 := by
  rcases Bool.eq_false_or_eq_true (numOk n) with h | h
  · rw [txt_ok h]; exact itoa_len h
  · rw [txt_bad h]; simp

/-! ### As the program reads -/

theorem readN_long {l : List UInt8} (h : 6 < l.length) : readN l = (0, false) := readN_no fun n hn e => by
  have := itoa_len hn
  rw [e] at this
  omega
/-- strconv.Atoi's number, if its text is the text. -/
theorem impl_ok {l : List UInt8} {n : Int} (h : atoiAll l = .ok n) (e : txtN n = l) : readN l = (n, true) := by
  rcases Bool.eq_false_or_eq_true (numOk n) with k | k
  · exact readN_yes k (by rw [← txt_ok k]; exact e)
  · rw [txt_bad k] at e
    subst e
    cases h
theorem impl_no {l : List UInt8} {n : Int} (h : atoiAll l = .ok n) (e : txtN n ≠ l) : readN l = (0, false) := readN_no fun m hm em => by
  have hl : l.length ≤ 18 := by have := itoa_len hm; rw [em] at this; omega
  rw [atoiAll_short l hl, ← em, atoi_itoa] at h
  cases h
  exact e (by rw [txt_ok hm, em])
theorem impl_err {l : List UInt8} (h : ∀ n, atoiAll l ≠ .ok n) : readN l = (0, false) := readN_no fun m hm em => by
  have hl : l.length ≤ 18 := by have := itoa_len hm; rw [em] at this; omega
  exact h m (by rw [atoiAll_short l hl, ← em, atoi_itoa]; rfl)

/-! ### As the reference reads -/

/-- What at most six bytes say, if all are digits. -/
def valD (l : List UInt8) : Int × Bool :=
  if l.length = 0 ∨ 6 < l.length then (0, false) else match decFrom 0 l with
  | some n => ((n : Int), true)
  | none => (0, false)
theorem valD_bd (l : List UInt8) : 0 ≤ (valD l).1 ∧ (valD l).1 < 1000000 := by
  unfold valD
  split
  · simp
  · rename_i h
    cases hd : decFrom 0 l with
    | none => simp
    | some n =>
      have h1 := decFrom_lt l 0 n hd
      have h2 : 10 ^ l.length ≤ 10 ^ 6 := Nat.pow_le_pow_right (by decide) (by omega)
      have h3 : (10 : Nat) ^ 6 = 1000000 := by decide
      simp only
      omega
theorem valD_digits {u : Nat} (h : u ≤ 32768) : valD (decDigits u) = ((u : Int), true) := by
  have h1 := digits_len h
  have h2 : (decDigits u).length ≠ 0 := fun e => digits_ne u (List.length_eq_zero_iff.1 e)
  unfold valD
  rw [if_neg (by omega), decFrom_digits]
theorem spec_neg {n : Int} {r : List UInt8} (h : numOk n = true) (e : itoa n = 45 :: r) : valD r = (-n, true) := by
  have k := (numOk_iff n).1 h
  unfold itoa at e
  split at e
  · obtain rfl := (List.cons.inj e).2
    rw [valD_digits (by omega)]
    congr 1
    omega
  · have hb := digit_bd (decFrom_digits n.toNat) 45 (by rw [e]; simp)
    simp at hb
theorem spec_pos {n : Int} {l : List UInt8} (h : numOk n = true) (e : itoa n = l) (hl : l.head? ≠ some 45) : valD l = (n, true) := by
  have k := (numOk_iff n).1 h
  unfold itoa at e
  split at e
  · subst e; simp at hl
  · subst e
    rw [valD_digits (by omega)]
    congr 1
    omega
theorem spec_neg_no {r : List UInt8} (h : (valD r).2 = false) : readN (45 :: r) = (0, false) := readN_no fun n hn e => by
  rw [spec_neg hn e] at h; cases h
theorem spec_pos_no {l : List UInt8} (h : (valD l).2 = false) (hl : l.head? ≠ some 45) : readN l = (0, false) := readN_no fun n hn e => by
  rw [spec_pos hn e hl] at h; cases h
theorem spec_yes {l : List UInt8} {n : Int} (h0 : l ≠ []) (e : txtN n = l) : readN l = (n, true) := by
  rcases Bool.eq_false_or_eq_true (numOk n) with k | k
  · exact readN_yes k (by rw [← txt_ok k]; exact e)
  · rw [txt_bad k] at e
    exact absurd e.symm h0
theorem spec_neg_ne {r : List UInt8} (e : txtN (-(valD r).1) ≠ 45 :: r) : readN (45 :: r) = (0, false) := readN_no fun n hn en => e (by
  rw [spec_neg hn en]
  simp only [Int.neg_neg]
  rw [txt_ok hn, en])
theorem spec_pos_ne {l : List UInt8} (hl : l.head? ≠ some 45) (e : txtN (valD l).1 ≠ l) : readN l = (0, false) := readN_no fun n hn en => e (by
  rw [spec_pos hn en hl]
  simp only
  rw [txt_ok hn, en])

/-! ### The digits, from behind -/

/-- What is written in front: the digits of all but the last ones. -/
theorem digits_step {n : Nat} (h : 9 < n) (out : List UInt8) : decDigits n ++ out = decDigits (n / 10) ++ ([UInt8.ofNat (48 + n % 10)] ++ out) := by
  rw [decDigits, dif_neg (by omega), List.append_assoc]
theorem digits_last {n : Nat} (h : n ≤ 9) : decDigits n = [UInt8.ofNat (48 + n)] := decDigits_one (by omega)
end Go.Proofs.YtheegkfidpknbaaDoor
