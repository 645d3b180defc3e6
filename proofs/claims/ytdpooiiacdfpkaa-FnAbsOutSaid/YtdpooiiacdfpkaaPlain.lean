/-
  Plain functions on numbers and bounds, and what holds of them. No program is in sight here. No conditions.
-/
namespace Go.Proofs.Ytdpooiiacdfpkaa
set_option linter.unusedSimpArgs false
set_option linter.unusedVariables false

/-! ### Numbers -/

/-- It is a number of sixteen bits. -/
def numOk (n : Int) : Bool := decide (-32768 ≤ n) && decide (n ≤ 32767)
theorem numOk_iff (n : Int) : numOk n = true ↔ -32768 ≤ n ∧ n ≤ 32767 := by simp [numOk]
theorem numOk_no (n : Int) : numOk n = false ↔ n < -32768 ∨ 32767 < n := by
  rw [← Bool.not_eq_true, numOk_iff]; omega

/-- The number that n is but for so many times 65536. -/
def wrapN (n : Int) : Int := (n + 32768) % 65536 - 32768
theorem wrapN_bd (n : Int) : -32768 ≤ wrapN n ∧ wrapN n ≤ 32767 := by unfold wrapN; omega
theorem wrapN_ok (n : Int) : numOk (wrapN n) = true := (numOk_iff _).2 (wrapN_bd n)
theorem wrapN_self {n : Int} (h : numOk n = true) : wrapN n = n := by
  have := (numOk_iff n).1 h; unfold wrapN; omega
theorem wrapN_mod (n : Int) : wrapN n % 65536 = n % 65536 := by unfold wrapN; omega

/-- Go's remainder, by the sign of the first number. -/
theorem tmod_pos {n : Int} (m : Int) (h : 0 ≤ n) : n.tmod m = n % m := Int.tmod_eq_emod_of_nonneg h
theorem tmod_neg {n : Int} (m : Int) (h : n ≤ 0) : n.tmod m = -((-n) % m) := by
  rw [← Int.tmod_eq_emod_of_nonneg (show 0 ≤ -n by omega), Int.neg_tmod]; omega
theorem tmod_65536 (n : Int) : (0 ≤ n → n.tmod 65536 = n % 65536) ∧ (n ≤ 0 → n.tmod 65536 = -((-n) % 65536)) := ⟨tmod_pos _, tmod_neg _⟩
theorem tdiv_pos {n : Int} (m : Int) (h : 0 ≤ n) : n.tdiv m = n / m := Int.tdiv_eq_ediv_of_nonneg h
theorem tdiv_neg {n : Int} (m : Int) (h : n ≤ 0) : n.tdiv m = -((-n) / m) := by
  rw [← Int.tdiv_eq_ediv_of_nonneg (show 0 ≤ -n by omega), Int.neg_tdiv]; omega

/-- What is reckoned with two numbers. -/
def numDo (op a b : Int) : Int × Bool :=
  if numOk a = true ∧ numOk b = true then
    if op = 1 then (wrapN (a + b), true)
    else if op = 2 then (wrapN (a - b), true)
    else if op = 3 then (wrapN (a * b), true)
    else if op = 4 ∧ b ≠ 0 then (wrapN (a.tdiv b), true)
    else (0, false)
  else (0, false)

/-- How two integers stand. -/
def relHolds (rel a b : Int) : Bool :=
  if rel = 1 then decide (a < b) else if rel = 2 then decide (a ≤ b) else if rel = 3 then a == b else if rel = 4 then a != b else false

/-! ### Bounds -/

/-- Bounds that are numbers, in order. -/
def okI (a : Int × Int) : Bool := numOk a.1 && numOk a.2 && decide (a.1 ≤ a.2)
theorem okI_iff (a : Int × Int) : okI a = true ↔ -32768 ≤ a.1 ∧ a.1 ≤ a.2 ∧ a.2 ≤ 32767 := by
  simp only [okI, Bool.and_eq_true, numOk_iff, decide_eq_true_eq]; omega
theorem okI_no (a : Int × Int) : okI a = false ↔ ¬ (-32768 ≤ a.1 ∧ a.1 ≤ a.2 ∧ a.2 ≤ 32767) := by
  rw [← okI_iff, Bool.not_eq_true]

/-- Both bounds are some. -/
def okB (a b : Int × Int) : Bool := okI a && okI b
theorem okB_iff (a b : Int × Int) : okB a b = true ↔ okI a = true ∧ okI b = true := by simp [okB]
theorem okB_no (a b : Int × Int) : okB a b = false ↔ ¬ (okI a = true ∧ okI b = true) := by rw [← okB_iff, Bool.not_eq_true]

def hasI (a : Int × Int) (n : Int) : Bool := okI a && decide (a.1 ≤ n) && decide (n ≤ a.2)
theorem hasI_iff (a : Int × Int) (n : Int) : hasI a n = true ↔ okI a = true ∧ a.1 ≤ n ∧ n ≤ a.2 := by
  simp only [hasI, Bool.and_eq_true, decide_eq_true_eq, and_assoc]

def inI (a b : Int × Int) : Bool := okI a && okI b && decide (b.1 ≤ a.1) && decide (a.2 ≤ b.2)
theorem inI_iff (a b : Int × Int) : inI a b = true ↔ okI a = true ∧ okI b = true ∧ b.1 ≤ a.1 ∧ a.2 ≤ b.2 := by
  simp only [inI, Bool.and_eq_true, decide_eq_true_eq, and_assoc]

def joinI (a b : Int × Int) : Int × Int :=
  if okI a = true ∧ okI b = true then (min a.1 b.1, max a.2 b.2) else (0, 0)

theorem joinI_no {a b : Int × Int} (h : okI a = false ∨ okI b = false) : joinI a b = (0, 0) := by
  unfold joinI; rw [if_neg (by rintro ⟨x, y⟩; rw [x, y] at h; simp at h)]
theorem joinI_yes {a b : Int × Int} (h : okI a = true ∧ okI b = true) : joinI a b = (min a.1 b.1, max a.2 b.2) := by
  unfold joinI; rw [if_pos h]

theorem okI_le' {a : Int × Int} (h : okI a = true) : a.1 ≤ a.2 := ((okI_iff _).1 h).2.1
def meetI (a b : Int × Int) : (Int × Int) × Bool :=
  if okI a = true ∧ okI b = true ∧ max a.1 b.1 ≤ min a.2 b.2 then ((max a.1 b.1, min a.2 b.2), true) else ((0, 0), false)

/-- The meet by the tests of the program. -/
theorem meetI_by (a b : Int × Int) : meetI a b = if okB a b = true then (if okI (max a.1 b.1, min a.2 b.2) = true then ((max a.1 b.1, min a.2 b.2), true) else ((0, 0), false)) else ((0, 0), false) := by
  unfold meetI
  by_cases h : okI a = true ∧ okI b = true
  · have ha := (okI_iff _).1 h.1
    have hb := (okI_iff _).1 h.2
    rw [if_pos (show okB a b = true from (okB_iff _ _).2 h)]
    by_cases k : max a.1 b.1 ≤ min a.2 b.2
    · rw [if_pos ⟨h.1, h.2, k⟩, if_pos ((okI_iff _).2 (by simp only; omega))]
    · rw [if_neg (fun x => k x.2.2), if_neg (fun x => k (okI_le' x))]
  · rw [if_neg (fun x => h ⟨x.1, x.2.1⟩), if_neg (fun x => h ((okB_iff _ _).1 x))]

/-- The greatest step that is not above n, if there is one, else d. -/
def stepLo (d n : Int) : Int :=
  if 32767 ≤ n then 32767 else if 1000 ≤ n then 1000 else if 100 ≤ n then 100 else if 10 ≤ n then 10 else if 1 ≤ n then 1 else if 0 ≤ n then 0
  else if -1 ≤ n then -1 else if -10 ≤ n then -10 else if -100 ≤ n then -100 else if -1000 ≤ n then -1000 else if -32768 ≤ n then -32768 else d
/-- The least step that is not below n, if there is one, else d. -/
def stepHi (d n : Int) : Int :=
  if n ≤ -32768 then -32768 else if n ≤ -1000 then -1000 else if n ≤ -100 then -100 else if n ≤ -10 then -10 else if n ≤ -1 then -1 else if n ≤ 0 then 0
  else if n ≤ 1 then 1 else if n ≤ 10 then 10 else if n ≤ 100 then 100 else if n ≤ 1000 then 1000 else if n ≤ 32767 then 32767 else d
def stepsL : List Int := [-32768, -1000, -100, -10, -1, 0, 1, 10, 100, 1000, 32767]
/-- The lower end behind k rounds over the steps; the upper end behind the rounds down to k. -/
def loTo (d n : Int) (k : Nat) : Int := (stepsL.take k).foldl (fun x t => if t ≤ n then t else x) d
def hiTo (d n : Int) (k : Nat) : Int := ((stepsL.drop k).reverse).foldl (fun x t => if n ≤ t then t else x) d
theorem loTo_succ (d n : Int) (k : Nat) (h : k < 11) : loTo d n (k + 1) = if stepsL.getD k 0 ≤ n then stepsL.getD k 0 else loTo d n k := by
  have e : stepsL.take (k + 1) = stepsL.take k ++ [stepsL.getD k 0] := by
    rw [List.take_succ_eq_append_getElem (by simpa [stepsL] using h), List.getD_eq_getElem?_getD, List.getElem?_eq_getElem (by simpa [stepsL] using h), Option.getD_some]
  unfold loTo
  rw [e, List.foldl_append]
  rfl
theorem hiTo_pred (d n : Int) (k : Nat) (h : k < 11) : hiTo d n k = if n ≤ stepsL.getD k 0 then stepsL.getD k 0 else hiTo d n (k + 1) := by
  have e : stepsL.drop k = stepsL.getD k 0 :: stepsL.drop (k + 1) := by
    rw [List.drop_eq_getElem_cons (by simpa [stepsL] using h), List.getD_eq_getElem?_getD, List.getElem?_eq_getElem (by simpa [stepsL] using h), Option.getD_some]
  unfold hiTo
  rw [e, List.reverse_cons, List.foldl_append]
  rfl
theorem loTo_all (d n : Int) : loTo d n 11 = stepLo d n := by
  simp only [loTo, stepsL, stepLo, List.take_succ_cons, List.take_zero, List.foldl_cons, List.foldl_nil]
  repeat' split
  all_goals omega
theorem hiTo_all (d n : Int) : hiTo d n 0 = stepHi d n := by
  simp only [hiTo, stepsL, stepHi, List.drop_zero, List.reverse_cons, List.reverse_nil, List.nil_append, List.cons_append, List.foldl_cons, List.foldl_nil]
  repeat' split
  all_goals omega
def isStep (n : Int) : Bool :=
  n == -32768 || n == -1000 || n == -100 || n == -10 || n == -1 || n == 0 || n == 1 || n == 10 || n == 100 || n == 1000 || n == 32767

def wideI (a b : Int × Int) : Int × Int :=
  if okI a = true ∧ okI b = true then
    (if b.1 < a.1 then stepLo a.1 b.1 else a.1, if a.2 < b.2 then stepHi a.2 b.2 else a.2)
  else (0, 0)

/-- How often 65536 lies below a number. -/
def turnN (n : Int) : Int := (n + 32768) / 65536
theorem turnN_wrapN (n : Int) : n - wrapN n = 65536 * turnN n := by unfold turnN wrapN; omega

def far (lo hi : Int) : Bool := decide (hi < lo) || decide (lo < -1099511627776) || decide (1099511627776 < hi)
theorem far_no (lo hi : Int) : far lo hi = false ↔ lo ≤ hi ∧ -1099511627776 ≤ lo ∧ hi ≤ 1099511627776 := by
  simp only [far, Bool.or_eq_false_iff, decide_eq_false_iff_not]; omega
theorem far_yes (lo hi : Int) : far lo hi = true ↔ ¬ (lo ≤ hi ∧ -1099511627776 ≤ lo ∧ hi ≤ 1099511627776) := by
  rw [← far_no, Bool.not_eq_false]

def foldI (lo hi : Int) : Int × Int :=
  if far lo hi = true then (0, 0) else if turnN lo ≠ turnN hi then (-32768, 32767) else (wrapN lo, wrapN hi)

theorem foldI_by (lo hi : Int) : foldI lo hi = if hi < lo ∨ lo < -1099511627776 ∨ 1099511627776 < hi then (0, 0) else if lo - wrapN lo = hi - wrapN hi then (wrapN lo, wrapN hi) else (-32768, 32767) := by
  unfold foldI
  have a := turnN_wrapN lo
  have b := turnN_wrapN hi
  by_cases h : far lo hi = true
  · rw [if_pos h, if_pos (by have := (far_yes _ _).1 h; omega)]
  · have h' := (far_no _ _).1 (by simpa using h)
    rw [if_neg h]
    by_cases k : turnN lo = turnN hi
    · rw [if_neg (show ¬ (hi < lo ∨ lo < -1099511627776 ∨ 1099511627776 < hi) by omega), if_pos (show lo - wrapN lo = hi - wrapN hi by omega)]
      simp [k]
    · rw [if_neg (show ¬ (hi < lo ∨ lo < -1099511627776 ∨ 1099511627776 < hi) by omega), if_neg (show ¬ lo - wrapN lo = hi - wrapN hi by omega)]
      simp [k]

theorem foldI_by_turn (lo hi : Int) : foldI lo hi = if hi < lo ∨ lo < -1099511627776 ∨ 1099511627776 < hi then (0, 0) else if turnN lo = turnN hi then (wrapN lo, wrapN hi) else (-32768, 32767) := by
  rw [foldI_by]
  have a := turnN_wrapN lo
  have b := turnN_wrapN hi
  by_cases k : turnN lo = turnN hi
  · rw [if_pos k, if_pos (show lo - wrapN lo = hi - wrapN hi by omega)]
  · rw [if_neg k, if_neg (show ¬ lo - wrapN lo = hi - wrapN hi by omega)]

def mn4 (a b c d : Int) : Int := min (min a b) (min c d)
def mx4 (a b c d : Int) : Int := max (max a b) (max c d)
def span (a b c d : Int) : Int × Int := (mn4 a b c d, mx4 a b c d)
def mulS (a b : Int × Int) : Int × Int := span (a.1 * b.1) (a.1 * b.2) (a.2 * b.1) (a.2 * b.2)
def divS (a b : Int × Int) : Int × Int :=
  if 0 ≤ b.1 then span (a.1.tdiv (max b.1 1)) (a.1.tdiv b.2) (a.2.tdiv (max b.1 1)) (a.2.tdiv b.2)
  else if b.2 ≤ 0 then span (a.1.tdiv b.1) (a.1.tdiv (min b.2 (-1))) (a.2.tdiv b.1) (a.2.tdiv (min b.2 (-1)))
  else (min (span (a.1.tdiv b.1) (a.1.tdiv (min b.2 (-1))) (a.2.tdiv b.1) (a.2.tdiv (min b.2 (-1)))).1 (span a.1 (a.1.tdiv b.2) a.2 (a.2.tdiv b.2)).1,
        max (span (a.1.tdiv b.1) (a.1.tdiv (min b.2 (-1))) (a.2.tdiv b.1) (a.2.tdiv (min b.2 (-1)))).2 (span a.1 (a.1.tdiv b.2) a.2 (a.2.tdiv b.2)).2)

def doI (op : Int) (a b : Int × Int) : (Int × Int) × Bool :=
  if okI a = true ∧ okI b = true then
    if op = 1 then (foldI (a.1 + b.1) (a.2 + b.2), true)
    else if op = 2 then (foldI (a.1 - b.2) (a.2 - b.1), true)
    else if op = 3 then (foldI (mulS a b).1 (mulS a b).2, true)
    else if op = 4 ∧ ¬ (b.1 = 0 ∧ b.2 = 0) then (foldI (divS a b).1 (divS a b).2, true)
    else ((0, 0), false)
  else ((0, 0), false)

def bothI (x y : Int × Int) : (Int × Int) × (Int × Int) × Bool :=
  if x.2 < x.1 ∨ y.2 < y.1 then ((0, 0), (0, 0), false) else (x, y, true)

def cutN (a : Int × Int) (n : Int) : (Int × Int) × Bool :=
  if a.1 = n ∧ a.2 = n then ((0, 0), false) else ((if a.1 = n then n + 1 else a.1, if a.2 = n then n - 1 else a.2), true)

def otherI (a b : Int × Int) : (Int × Int) × (Int × Int) × Bool :=
  if b.1 = b.2 then
    if (cutN a b.1).2 = true then
      if a.1 = a.2 then
        if (cutN b a.1).2 = true then ((cutN a b.1).1, (cutN b a.1).1, true) else ((0, 0), (0, 0), false)
      else ((cutN a b.1).1, b, true)
    else ((0, 0), (0, 0), false)
  else if a.1 = a.2 then
    if (cutN b a.1).2 = true then (a, (cutN b a.1).1, true) else ((0, 0), (0, 0), false)
  else (a, b, true)

def relI (rel : Int) (a b : Int × Int) : (Int × Int) × (Int × Int) × Bool :=
  if okI a = true ∧ okI b = true then
    if rel = 1 then bothI (a.1, min a.2 (b.2 - 1)) (max b.1 (a.1 + 1), b.2)
    else if rel = 2 then bothI (a.1, min a.2 b.2) (max b.1 a.1, b.2)
    else if rel = 3 then bothI (max a.1 b.1, min a.2 b.2) (max a.1 b.1, min a.2 b.2)
    else if rel = 4 then otherI a b
    else ((0, 0), (0, 0), false)
  else ((0, 0), (0, 0), false)

theorem relI_1 {a b : Int × Int} (h : okI a = true ∧ okI b = true) : relI 1 a b = bothI (a.1, min a.2 (b.2 - 1)) (max b.1 (a.1 + 1), b.2) := by unfold relI; rw [if_pos h, if_pos rfl]
theorem relI_2 {a b : Int × Int} (h : okI a = true ∧ okI b = true) : relI 2 a b = bothI (a.1, min a.2 b.2) (max b.1 a.1, b.2) := by unfold relI; rw [if_pos h, if_neg (by decide), if_pos rfl]
theorem relI_3 {a b : Int × Int} (h : okI a = true ∧ okI b = true) : relI 3 a b = bothI (max a.1 b.1, min a.2 b.2) (max a.1 b.1, min a.2 b.2) := by unfold relI; rw [if_pos h, if_neg (by decide), if_neg (by decide), if_pos rfl]
theorem relI_4 {a b : Int × Int} (h : okI a = true ∧ okI b = true) : relI 4 a b = otherI a b := by unfold relI; rw [if_pos h, if_neg (by decide), if_neg (by decide), if_neg (by decide), if_pos rfl]
theorem relI_0 {rel : Int} {a b : Int × Int} (h : rel ≠ 1 ∧ rel ≠ 2 ∧ rel ≠ 3 ∧ rel ≠ 4) : relI rel a b = ((0, 0), (0, 0), false) := by unfold relI; split <;> simp [h]
theorem relI_bad {rel : Int} {a b : Int × Int} (h : ¬ (okI a = true ∧ okI b = true)) : relI rel a b = ((0, 0), (0, 0), false) := by unfold relI; rw [if_neg h]

def notI (rel : Int) (a b : Int × Int) : (Int × Int) × (Int × Int) × Bool :=
  if rel = 1 then ((relI 2 b a).2.1, (relI 2 b a).1, (relI 2 b a).2.2)
  else if rel = 2 then ((relI 1 b a).2.1, (relI 1 b a).1, (relI 1 b a).2.2)
  else if rel = 3 then relI 4 a b
  else if rel = 4 then relI 3 a b
  else ((0, 0), (0, 0), false)

end Go.Proofs.Ytdpooiiacdfpkaa
