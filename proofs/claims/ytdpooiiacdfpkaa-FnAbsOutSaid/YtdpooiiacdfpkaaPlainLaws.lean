/-
  The laws of numbers and bounds, in plain mathematics: no program is in sight here. No conditions.
-/
import Derived.Test.YtdpooiiacdfpkaaPlain
namespace Go.Proofs.Ytdpooiiacdfpkaa
set_option linter.unusedSimpArgs false
set_option linter.unusedVariables false

/-! ### Folding -/

theorem fold_ok {lo hi : Int} (h : far lo hi = false) : okI (foldI lo hi) = true := by
  rw [okI_iff]
  unfold foldI
  rw [if_neg (by simp [h])]
  have := (far_no lo hi).1 h
  split
  · simp
  · rename_i ht
    have ht : turnN lo = turnN hi := Decidable.byContradiction ht
    have a := turnN_wrapN lo
    have b := turnN_wrapN hi
    have c := wrapN_bd lo
    have d := wrapN_bd hi
    simp only
    omega

theorem fold_mem {lo hi n : Int} (h : far lo hi = false) (h1 : lo ≤ n) (h2 : n ≤ hi) : hasI (foldI lo hi) (wrapN n) = true := by
  rw [hasI_iff]
  refine ⟨fold_ok h, ?_⟩
  have c := wrapN_bd n
  unfold foldI
  rw [if_neg (by simp [h])]
  split
  · exact c
  · rename_i ht
    have ht : turnN lo = turnN hi := Decidable.byContradiction ht
    have a := turnN_wrapN lo
    have b := turnN_wrapN hi
    have e := turnN_wrapN n
    have l : turnN lo ≤ turnN n := by unfold turnN; omega
    have r : turnN n ≤ turnN hi := by unfold turnN; omega
    simp only
    omega

theorem fold_self {lo hi : Int} (h1 : -32768 ≤ lo) (h2 : lo ≤ hi) (h3 : hi ≤ 32767) : foldI lo hi = (lo, hi) := by
  have hf : far lo hi = false := (far_no lo hi).2 (by omega)
  unfold foldI
  rw [if_neg (by simp [hf]), if_neg (by unfold turnN; omega), wrapN_self ((numOk_iff _).2 (by omega)), wrapN_self ((numOk_iff _).2 (by omega))]

theorem fold_mono {lo hi lo' hi' : Int} (h : far lo' hi' = false) (h1 : lo' ≤ lo) (h2 : lo ≤ hi) (h3 : hi ≤ hi') : inI (foldI lo hi) (foldI lo' hi') = true := by
  have hb := (far_no lo' hi').1 h
  have hf : far lo hi = false := (far_no lo hi).2 (by omega)
  have k := fold_ok hf
  rw [inI_iff]
  refine ⟨k, fold_ok h, ?_⟩
  have kb := (okI_iff _).1 k
  by_cases ht : turnN lo' = turnN hi'
  · have l : turnN lo' ≤ turnN lo := by unfold turnN; omega
    have m : turnN lo ≤ turnN hi := by unfold turnN; omega
    have r : turnN hi ≤ turnN hi' := by unfold turnN; omega
    have a := turnN_wrapN lo
    have b := turnN_wrapN hi
    have a' := turnN_wrapN lo'
    have b' := turnN_wrapN hi'
    have x : foldI lo hi = (wrapN lo, wrapN hi) := by
      unfold foldI
      rw [if_neg (by simp [hf]), if_neg (by omega)]
    have y : foldI lo' hi' = (wrapN lo', wrapN hi') := by
      unfold foldI
      rw [if_neg (by simp [h]), if_neg (by omega)]
    rw [x, y]
    simp only
    omega
  · have e : foldI lo' hi' = (-32768, 32767) := by
      unfold foldI
      rw [if_neg (by simp [h]), if_pos ht]
    rw [e]
    simp only
    omega

/-! ### Products and quotients between corners -/

theorem mul_between (c x y v : Int) (h1 : x ≤ v) (h2 : v ≤ y) : min (c * x) (c * y) ≤ c * v ∧ c * v ≤ max (c * x) (c * y) := by
  rcases Int.le_total 0 c with h | h
  · have a := Int.mul_le_mul_of_nonneg_left h1 h
    have b := Int.mul_le_mul_of_nonneg_left h2 h
    omega
  · have a := Int.mul_le_mul_of_nonpos_left h h1
    have b := Int.mul_le_mul_of_nonpos_left h h2
    omega

theorem mul_in {a b : Int × Int} {u v : Int} (h1 : a.1 ≤ u) (h2 : u ≤ a.2) (h3 : b.1 ≤ v) (h4 : v ≤ b.2) : (mulS a b).1 ≤ u * v ∧ u * v ≤ (mulS a b).2 := by
  have x := mul_between v a.1 a.2 u h1 h2
  have y := mul_between a.1 b.1 b.2 v h3 h4
  have z := mul_between a.2 b.1 b.2 v h3 h4
  rw [Int.mul_comm v a.1, Int.mul_comm v a.2, Int.mul_comm v u] at x
  simp only [mulS, span, mn4, mx4]
  omega

theorem tdiv_mono {u u' v : Int} (hv : 0 < v) (h : u ≤ u') : u.tdiv v ≤ u'.tdiv v := by
  rcases Int.le_total 0 u with hu | hu
  · rw [Int.tdiv_eq_ediv_of_nonneg hu, Int.tdiv_eq_ediv_of_nonneg (by omega)]
    exact Int.ediv_le_ediv hv h
  · rcases Int.le_total 0 u' with hu' | hu'
    · have a : u.tdiv v ≤ 0 := by
        have : 0 ≤ (-u).tdiv v := Int.tdiv_nonneg (by omega) (by omega)
        rw [Int.neg_tdiv] at this; omega
      have b : 0 ≤ u'.tdiv v := Int.tdiv_nonneg hu' (by omega)
      omega
    · have a : (-u').tdiv v ≤ (-u).tdiv v := by
        rw [Int.tdiv_eq_ediv_of_nonneg (by omega), Int.tdiv_eq_ediv_of_nonneg (by omega)]
        exact Int.ediv_le_ediv hv (by omega)
      rw [Int.neg_tdiv, Int.neg_tdiv] at a
      omega

theorem ediv_anti {u l v : Int} (hu : 0 ≤ u) (hl : 0 < l) (h : l ≤ v) : u / v ≤ u / l := by
  have a : u / v * v ≤ u := Int.ediv_mul_le u (by omega)
  have b : 0 ≤ u / v := Int.ediv_nonneg hu (by omega)
  have c : u / v * l ≤ u / v * v := Int.mul_le_mul_of_nonneg_left h b
  exact (Int.le_ediv_iff_mul_le hl).2 (by omega)

/-- A quotient by a divisor above 0 lies between those by the least and the greatest divisor. -/
theorem tdiv_between {u l h v : Int} (hl : 0 < l) (h1 : l ≤ v) (h2 : v ≤ h) : min (u.tdiv l) (u.tdiv h) ≤ u.tdiv v ∧ u.tdiv v ≤ max (u.tdiv l) (u.tdiv h) := by
  rcases Int.le_total 0 u with hu | hu
  · rw [Int.tdiv_eq_ediv_of_nonneg hu, Int.tdiv_eq_ediv_of_nonneg hu, Int.tdiv_eq_ediv_of_nonneg hu]
    have a := ediv_anti hu hl h1
    have b := ediv_anti hu (show 0 < v by omega) h2
    omega
  · have a := ediv_anti (u := -u) (by omega) hl h1
    have b := ediv_anti (u := -u) (by omega) (show 0 < v by omega) h2
    rw [← Int.tdiv_eq_ediv_of_nonneg (by omega), ← Int.tdiv_eq_ediv_of_nonneg (by omega), Int.neg_tdiv, Int.neg_tdiv] at a b
    omega

/-- Of divisors above 0: between the four corners. -/
theorem div_up {p q l h u v : Int} (hl : 0 < l) (h1 : p ≤ u) (h2 : u ≤ q) (h3 : l ≤ v) (h4 : v ≤ h) :
    mn4 (p.tdiv l) (p.tdiv h) (q.tdiv l) (q.tdiv h) ≤ u.tdiv v ∧ u.tdiv v ≤ mx4 (p.tdiv l) (p.tdiv h) (q.tdiv l) (q.tdiv h) := by
  have x := tdiv_between (u := p) hl h3 h4
  have y := tdiv_between (u := q) hl h3 h4
  have z := tdiv_mono (show 0 < v by omega) h1
  have t := tdiv_mono (show 0 < v by omega) h2
  simp only [mn4, mx4]
  omega

/-- Of divisors below 0: likewise. -/
theorem div_down {p q l h u v : Int} (hh : h < 0) (h1 : p ≤ u) (h2 : u ≤ q) (h3 : l ≤ v) (h4 : v ≤ h) :
    mn4 (p.tdiv l) (p.tdiv h) (q.tdiv l) (q.tdiv h) ≤ u.tdiv v ∧ u.tdiv v ≤ mx4 (p.tdiv l) (p.tdiv h) (q.tdiv l) (q.tdiv h) := by
  have x := tdiv_between (u := p) (l := -h) (h := -l) (v := -v) (by omega) (by omega) (by omega)
  have y := tdiv_between (u := q) (l := -h) (h := -l) (v := -v) (by omega) (by omega) (by omega)
  have z := tdiv_mono (v := -v) (by omega) h1
  have t := tdiv_mono (v := -v) (by omega) h2
  simp only [Int.tdiv_neg] at x y z t
  simp only [mn4, mx4]
  omega

theorem div_in {a b : Int × Int} {u v : Int} (h1 : a.1 ≤ u) (h2 : u ≤ a.2) (h3 : b.1 ≤ v) (h4 : v ≤ b.2) (hv : v ≠ 0) : (divS a b).1 ≤ u.tdiv v ∧ u.tdiv v ≤ (divS a b).2 := by
  by_cases k : 0 ≤ b.1
  · have e : divS a b = span (a.1.tdiv (max b.1 1)) (a.1.tdiv b.2) (a.2.tdiv (max b.1 1)) (a.2.tdiv b.2) := by unfold divS; rw [if_pos k]
    rw [e]
    exact div_up (by omega) h1 h2 (by omega) h4
  · by_cases k2 : b.2 ≤ 0
    · have e : divS a b = span (a.1.tdiv b.1) (a.1.tdiv (min b.2 (-1))) (a.2.tdiv b.1) (a.2.tdiv (min b.2 (-1))) := by unfold divS; rw [if_neg k, if_pos k2]
      rw [e]
      exact div_down (by omega) h1 h2 h3 (by omega)
    · unfold divS
      rw [if_neg k, if_neg k2]
      rcases Int.lt_or_gt_of_ne hv with hn | hp
      · have := div_down (h := min b.2 (-1)) (by omega) h1 h2 h3 (by omega)
        simp only [span]
        omega
      · have := div_up (l := 1) (by omega) h1 h2 (by omega) h4
        simp only [Int.tdiv_one] at this
        simp only [span]
        simp only [mn4, mx4] at *
        omega

/-! ### How great they can be -/

theorem mul_bd {u v : Int} (h1 : -32768 ≤ u ∧ u ≤ 32768) (h2 : -32768 ≤ v ∧ v ≤ 32768) : -1073741824 ≤ u * v ∧ u * v ≤ 1073741824 := by
  have a := mul_between u (-32768) 32768 v h2.1 h2.2
  omega

theorem tdiv_bd {u v : Int} (h1 : -32768 ≤ u ∧ u ≤ 32768) : -32768 ≤ u.tdiv v ∧ u.tdiv v ≤ 32768 := by
  have a := Int.natAbs_tdiv_le_natAbs u v
  omega

theorem mulS_bd {a b : Int × Int} (ha : okI a = true) (hb : okI b = true) : -1073741824 ≤ (mulS a b).1 ∧ (mulS a b).1 ≤ (mulS a b).2 ∧ (mulS a b).2 ≤ 1073741824 := by
  have ha := (okI_iff _).1 ha
  have hb := (okI_iff _).1 hb
  have c1 := mul_bd (u := a.1) (v := b.1) (by omega) (by omega)
  have c2 := mul_bd (u := a.1) (v := b.2) (by omega) (by omega)
  have c3 := mul_bd (u := a.2) (v := b.1) (by omega) (by omega)
  have c4 := mul_bd (u := a.2) (v := b.2) (by omega) (by omega)
  simp only [mulS, span, mn4, mx4]
  omega

theorem divS_bd {a b : Int × Int} (ha : okI a = true) : -32768 ≤ (divS a b).1 ∧ (divS a b).1 ≤ (divS a b).2 ∧ (divS a b).2 ≤ 32768 := by
  have ha := (okI_iff _).1 ha
  have c1 := tdiv_bd (u := a.1) (v := b.1) (by omega)
  have c2 := tdiv_bd (u := a.1) (v := b.2) (by omega)
  have c3 := tdiv_bd (u := a.2) (v := b.1) (by omega)
  have c4 := tdiv_bd (u := a.2) (v := b.2) (by omega)
  have d1 := tdiv_bd (u := a.1) (v := max b.1 1) (by omega)
  have d3 := tdiv_bd (u := a.2) (v := max b.1 1) (by omega)
  have e1 := tdiv_bd (u := a.1) (v := min b.2 (-1)) (by omega)
  have e3 := tdiv_bd (u := a.2) (v := min b.2 (-1)) (by omega)
  unfold divS
  split
  · simp only [span, mn4, mx4]; omega
  · split
    · simp only [span, mn4, mx4]; omega
    · simp only [span, mn4, mx4]; omega

/-! ### What is reckoned of bounds -/

theorem okI_le {a : Int × Int} (h : okI a = true) : a.1 ≤ a.2 := ((okI_iff _).1 h).2.1

/-- The unfolded bounds of what an operation makes. -/
def rawI (op : Int) (a b : Int × Int) : Int × Int :=
  if op = 1 then (a.1 + b.1, a.2 + b.2) else if op = 2 then (a.1 - b.2, a.2 - b.1) else if op = 3 then mulS a b else divS a b

theorem raw_bd (op : Int) {a b : Int × Int} (ha : okI a = true) (hb : okI b = true) : far (rawI op a b).1 (rawI op a b).2 = false := by
  have ka := (okI_iff _).1 ha
  have kb := (okI_iff _).1 hb
  have m := mulS_bd ha hb
  have d := divS_bd (b := b) ha
  rw [far_no]
  unfold rawI
  split
  · simp only; omega
  · split
    · simp only; omega
    · split <;> omega

theorem raw_mem {op u v : Int} {a b : Int × Int} (h1 : a.1 ≤ u) (h2 : u ≤ a.2) (h3 : b.1 ≤ v) (h4 : v ≤ b.2) (hv : op = 1 ∨ op = 2 ∨ op = 3 ∨ v ≠ 0) :
    (rawI op a b).1 ≤ (if op = 1 then u + v else if op = 2 then u - v else if op = 3 then u * v else u.tdiv v) ∧ (if op = 1 then u + v else if op = 2 then u - v else if op = 3 then u * v else u.tdiv v) ≤ (rawI op a b).2 := by
  unfold rawI
  by_cases k1 : op = 1
  · simp only [if_pos k1]; omega
  · by_cases k2 : op = 2
    · simp only [if_neg k1, if_pos k2]; omega
    · by_cases k3 : op = 3
      · simp only [if_neg k1, if_neg k2, if_pos k3]; exact mul_in h1 h2 h3 h4
      · simp only [if_neg k1, if_neg k2, if_neg k3]; exact div_in h1 h2 h3 h4 (by omega)

theorem doI_raw {op : Int} {a b : Int × Int} (ha : okI a = true) (hb : okI b = true) (hop : op = 1 ∨ op = 2 ∨ op = 3 ∨ op = 4 ∧ ¬ (b.1 = 0 ∧ b.2 = 0)) :
    doI op a b = (foldI (rawI op a b).1 (rawI op a b).2, true) := by
  unfold doI rawI
  rw [if_pos ⟨ha, hb⟩]
  rcases hop with rfl | rfl | rfl | ⟨rfl, h⟩
  · simp
  · simp
  · simp
  · simp [h]

theorem doI_no {op : Int} {a b : Int × Int} (h : ¬ (okI a = true ∧ okI b = true ∧ (op = 1 ∨ op = 2 ∨ op = 3 ∨ op = 4 ∧ ¬ (b.1 = 0 ∧ b.2 = 0)))) : doI op a b = ((0, 0), false) := by
  unfold doI
  split
  · rename_i k
    have h : ¬ (op = 1 ∨ op = 2 ∨ op = 3 ∨ op = 4 ∧ ¬ (b.1 = 0 ∧ b.2 = 0)) := fun e => h ⟨k.1, k.2, e⟩
    rw [if_neg (by omega), if_neg (by omega), if_neg (by omega), if_neg (by omega)]
  · rfl

theorem doI_yes {op : Int} {a b : Int × Int} (h : (doI op a b).2 = true) : okI a = true ∧ okI b = true ∧ (op = 1 ∨ op = 2 ∨ op = 3 ∨ op = 4 ∧ ¬ (b.1 = 0 ∧ b.2 = 0)) := by
  apply Decidable.byContradiction
  intro k
  rw [doI_no k] at h
  cases h

theorem numDo_yes {op a b : Int} (ha : numOk a = true) (hb : numOk b = true) (h : op = 1 ∨ op = 2 ∨ op = 3 ∨ op = 4 ∧ b ≠ 0) :
    numDo op a b = (wrapN (if op = 1 then a + b else if op = 2 then a - b else if op = 3 then a * b else a.tdiv b), true) := by
  unfold numDo
  rw [if_pos ⟨ha, hb⟩]
  rcases h with rfl | rfl | rfl | ⟨rfl, h⟩
  · simp
  · simp
  · simp
  · simp [h]

theorem numDo_no {op a b : Int} (h : ¬ (numOk a = true ∧ numOk b = true ∧ (op = 1 ∨ op = 2 ∨ op = 3 ∨ op = 4 ∧ b ≠ 0))) : numDo op a b = (0, false) := by
  unfold numDo
  split
  · rename_i k
    have h : ¬ (op = 1 ∨ op = 2 ∨ op = 3 ∨ op = 4 ∧ b ≠ 0) := fun e => h ⟨k.1, k.2, e⟩
    rw [if_neg (by omega), if_neg (by omega), if_neg (by omega), if_neg (by omega)]
  · rfl

theorem numDo_is {op a b : Int} (h : (numDo op a b).2 = true) : numOk a = true ∧ numOk b = true ∧ (op = 1 ∨ op = 2 ∨ op = 3 ∨ op = 4 ∧ b ≠ 0) := by
  apply Decidable.byContradiction
  intro k
  rw [numDo_no k] at h
  cases h

theorem numDo_num (op a b : Int) : numOk (numDo op a b).1 = true := by
  by_cases h : numOk a = true ∧ numOk b = true ∧ (op = 1 ∨ op = 2 ∨ op = 3 ∨ op = 4 ∧ b ≠ 0)
  · rw [numDo_yes h.1 h.2.1 h.2.2]; exact wrapN_ok _
  · rw [numDo_no h]; rfl

/-- FnItvDo: of a number of each of two bounds what NumDo tells is in what ItvDo tells; where ItvDo is false NumDo is. -/
theorem do_sound {op u v : Int} {a b : Int × Int} (ha : okI a = true) (hb : okI b = true) (h1 : a.1 ≤ u) (h2 : u ≤ a.2) (h3 : b.1 ≤ v) (h4 : v ≤ b.2) (h : (numDo op u v).2 = true) :
    (doI op a b).2 = true ∧ hasI (doI op a b).1 (numDo op u v).1 = true := by
  obtain ⟨ku, kv, ho⟩ := numDo_is h
  have ho' : op = 1 ∨ op = 2 ∨ op = 3 ∨ op = 4 ∧ ¬ (b.1 = 0 ∧ b.2 = 0) := by omega
  rw [doI_raw ha hb ho', numDo_yes ku kv ho]
  have hm := raw_mem (op := op) h1 h2 h3 h4 (by omega)
  exact ⟨rfl, fold_mem (raw_bd op ha hb) hm.1 hm.2⟩

theorem raw_sub {op : Int} {u v a b : Int × Int} (hu : okI u = true) (hv : okI v = true) (ha : okI a = true) (h1 : a.1 ≤ u.1) (h2 : u.2 ≤ a.2) (h3 : b.1 ≤ v.1) (h4 : v.2 ≤ b.2)
    (ho : op = 1 ∨ op = 2 ∨ op = 3 ∨ op = 4 ∧ ¬ (v.1 = 0 ∧ v.2 = 0)) : (rawI op a b).1 ≤ (rawI op u v).1 ∧ (rawI op u v).2 ≤ (rawI op a b).2 := by
  have ku := okI_le hu
  have kv := okI_le hv
  rcases ho with rfl | rfl | rfl | ⟨rfl, hz⟩
  · simp only [rawI]; simp; omega
  · simp only [rawI]; simp; omega
  · have e1 := mul_in (a := a) (b := b) (u := u.1) (v := v.1) h1 (by omega) h3 (by omega)
    have e2 := mul_in (a := a) (b := b) (u := u.1) (v := v.2) h1 (by omega) (by omega) h4
    have e3 := mul_in (a := a) (b := b) (u := u.2) (v := v.1) (by omega) h2 h3 (by omega)
    have e4 := mul_in (a := a) (b := b) (u := u.2) (v := v.2) (by omega) h2 (by omega) h4
    have f : mulS u v = span (u.1 * v.1) (u.1 * v.2) (u.2 * v.1) (u.2 * v.2) := rfl
    simp only [rawI]
    rw [f]
    simp only [span, mn4, mx4]
    simp
    omega
  · have key : ∀ x y, (x = u.1 ∨ x = u.2) → b.1 ≤ y → y ≤ b.2 → y ≠ 0 → (divS a b).1 ≤ x.tdiv y ∧ x.tdiv y ≤ (divS a b).2 := fun x y hx hy1 hy2 hy => div_in (by omega) (by omega) hy1 hy2 hy
    simp only [rawI]
    simp
    by_cases k : 0 ≤ v.1
    · have e : divS u v = span (u.1.tdiv (max v.1 1)) (u.1.tdiv v.2) (u.2.tdiv (max v.1 1)) (u.2.tdiv v.2) := by unfold divS; rw [if_pos k]
      have e1 := key u.1 (max v.1 1) (.inl rfl) (by omega) (by omega) (by omega)
      have e2 := key u.1 v.2 (.inl rfl) (by omega) (by omega) (by omega)
      have e3 := key u.2 (max v.1 1) (.inr rfl) (by omega) (by omega) (by omega)
      have e4 := key u.2 v.2 (.inr rfl) (by omega) (by omega) (by omega)
      rw [e]
      simp only [span, mn4, mx4]
      omega
    · have e1 := key u.1 v.1 (.inl rfl) (by omega) (by omega) (by omega)
      have e2 := key u.1 (min v.2 (-1)) (.inl rfl) (by omega) (by omega) (by omega)
      have e3 := key u.2 v.1 (.inr rfl) (by omega) (by omega) (by omega)
      have e4 := key u.2 (min v.2 (-1)) (.inr rfl) (by omega) (by omega) (by omega)
      by_cases k2 : v.2 ≤ 0
      · have e : divS u v = span (u.1.tdiv v.1) (u.1.tdiv (min v.2 (-1))) (u.2.tdiv v.1) (u.2.tdiv (min v.2 (-1))) := by unfold divS; rw [if_neg k, if_pos k2]
        rw [e]
        simp only [span, mn4, mx4]
        omega
      · have g1 := key u.1 1 (.inl rfl) (by omega) (by omega) (by omega)
        have g2 := key u.1 v.2 (.inl rfl) (by omega) (by omega) (by omega)
        have g3 := key u.2 1 (.inr rfl) (by omega) (by omega) (by omega)
        have g4 := key u.2 v.2 (.inr rfl) (by omega) (by omega) (by omega)
        simp only [Int.tdiv_one] at g1 g3
        have e : divS u v = (min (span (u.1.tdiv v.1) (u.1.tdiv (min v.2 (-1))) (u.2.tdiv v.1) (u.2.tdiv (min v.2 (-1)))).1 (span u.1 (u.1.tdiv v.2) u.2 (u.2.tdiv v.2)).1,
            max (span (u.1.tdiv v.1) (u.1.tdiv (min v.2 (-1))) (u.2.tdiv v.1) (u.2.tdiv (min v.2 (-1)))).2 (span u.1 (u.1.tdiv v.2) u.2 (u.2.tdiv v.2)).2) := by unfold divS; rw [if_neg k, if_neg k2]
        rw [e]
        simp only [span, mn4, mx4]
        omega

/-- FnItvMono, for ItvDo. -/
theorem do_mono {op : Int} {u v a b : Int × Int} (hu : okI u = true) (hv : okI v = true) (ha : okI a = true) (hb : okI b = true) (h1 : a.1 ≤ u.1) (h2 : u.2 ≤ a.2) (h3 : b.1 ≤ v.1) (h4 : v.2 ≤ b.2) (h : (doI op u v).2 = true) :
    (doI op a b).2 = true ∧ inI (doI op u v).1 (doI op a b).1 = true := by
  obtain ⟨_, _, ho⟩ := doI_yes h
  have kv := okI_le hv
  have ho' : op = 1 ∨ op = 2 ∨ op = 3 ∨ op = 4 ∧ ¬ (b.1 = 0 ∧ b.2 = 0) := by omega
  have hs := raw_sub hu hv ha h1 h2 h3 h4 ho
  have hr := (far_no _ _).1 (raw_bd op hu hv)
  rw [doI_raw hu hv ho, doI_raw ha hb ho']
  exact ⟨rfl, fold_mono (raw_bd op ha hb) hs.1 hr.1 hs.2⟩

/-- FnItvTight: of single numbers ItvDo tells what NumDo tells. -/
theorem do_single {op a b : Int} (ha : numOk a = true) (hb : numOk b = true) : doI op (a, a) (b, b) = (((numDo op a b).1, (numDo op a b).1), (numDo op a b).2) := by
  have ka := (numOk_iff _).1 ha
  have kb := (numOk_iff _).1 hb
  have oa : okI (a, a) = true := (okI_iff _).2 (by simp only; omega)
  have ob : okI (b, b) = true := (okI_iff _).2 (by simp only; omega)
  have fs : ∀ n, -1099511627776 ≤ n → n ≤ 1099511627776 → foldI n n = (wrapN n, wrapN n) := fun n h1 h2 => by
    unfold foldI
    rw [if_neg (by rw [(far_no n n).2 (by omega)]; simp), if_neg (by simp)]
  by_cases h : op = 1 ∨ op = 2 ∨ op = 3 ∨ op = 4 ∧ b ≠ 0
  · rw [numDo_yes ha hb h, doI_raw oa ob (by simp only; omega)]
    have hbd := (far_no _ _).1 (raw_bd op oa ob)
    have e : rawI op (a, a) (b, b) = ((if op = 1 then a + b else if op = 2 then a - b else if op = 3 then a * b else a.tdiv b), (if op = 1 then a + b else if op = 2 then a - b else if op = 3 then a * b else a.tdiv b)) := by
      rcases h with rfl | rfl | rfl | ⟨rfl, h⟩
      · simp [rawI]
      · simp [rawI]
      · simp [rawI, mulS, span, mn4, mx4]
      · simp only [rawI, divS]
        simp only [if_neg (show ¬ (4 : Int) = 1 by omega), if_neg (show ¬ (4 : Int) = 2 by omega), if_neg (show ¬ (4 : Int) = 3 by omega)]
        split
        · rw [show max b 1 = b by omega]; simp [span, mn4, mx4]
        · rw [if_pos (by omega), show min b (-1) = b by omega]; simp [span, mn4, mx4]
    rw [e] at hbd ⊢
    rw [fs _ (by simp only at hbd; omega) (by simp only at hbd; omega)]
  · rw [numDo_no (fun k => h k.2.2), doI_no (fun k => h (by have := k.2.2; simp only at this; omega))]

/-! ### Sums and differences undo each other, quotients leave less -/

theorem nd_back {a b : Int} (ha : numOk a = true) (hb : numOk b = true) : (numDo 2 (numDo 1 a b).1 b).1 = a := by
  rw [numDo_yes ha hb (.inl rfl)]
  simp only [if_pos]
  rw [numDo_yes (wrapN_ok _) hb (.inr (.inl rfl))]
  have := (numOk_iff a).1 ha
  simp
  unfold wrapN; omega
theorem nd_again {a b : Int} (ha : numOk a = true) (hb : numOk b = true) : (numDo 1 (numDo 2 a b).1 b).1 = a := by
  rw [numDo_yes ha hb (.inr (.inl rfl))]
  simp
  rw [numDo_yes (wrapN_ok _) hb (.inl rfl)]
  have := (numOk_iff a).1 ha
  simp
  unfold wrapN; omega
theorem nd_div0 (a : Int) : (numDo 4 a 0).2 = false := by rw [numDo_no (by omega)]
theorem nd_div {a b : Int} (ha : numOk a = true) (hb : numOk b = true) (h : ¬ b = 0) : (numDo 4 a b).2 = true := by rw [numDo_yes ha hb (by omega)]
theorem nd_rest {a b : Int} (ha : numOk a = true) (hb : numOk b = true) (h : ¬ b = 0) (hs : ¬ (a = -32768 ∧ b = -1)) : a - b * (numDo 4 a b).1 = a.tmod b := by
  have ka := (numOk_iff a).1 ha
  have hq : numOk (a.tdiv b) = true := by
    rw [numOk_iff]
    have hd := tdiv_bd (u := a) (v := b) (by omega)
    by_cases he : a.tdiv b = 32768
    · exfalso
      have hn := Int.natAbs_tdiv a b
      have h1 : a.natAbs / b.natAbs ≤ a.natAbs := Nat.div_le_self _ _
      have h2 : (a.tdiv b).natAbs = a.natAbs / b.natAbs := by rw [hn]; rfl
      have h3 : a = -32768 := by omega
      subst h3
      have h4 : b.natAbs = 1 := by
        rcases Nat.lt_or_ge b.natAbs 2 with k | k
        · omega
        · have : (32768 : Nat) / b.natAbs ≤ 32768 / 2 := Nat.div_le_div_left k (by omega)
          have e : (-32768 : Int).natAbs = 32768 := rfl
          rw [he, e] at h2
          omega
      have h5 : b = 1 := by omega
      subst h5
      simp at he
    · omega
  rw [numDo_yes ha hb (by omega)]
  simp
  rw [wrapN_self hq, Int.tmod_def]
theorem tmod_lt {a b : Int} (h : ¬ b = 0) : a.tmod b * a.tmod b < b * b ∧ (a.tmod b = 0 ∨ (0 < a.tmod b ↔ 0 < a)) := by
  have h1 : (a.tmod b).natAbs < b.natAbs := by rw [Int.natAbs_tmod]; exact Nat.mod_lt _ (by omega)
  constructor
  · have e1 : a.tmod b * a.tmod b = (((a.tmod b).natAbs * (a.tmod b).natAbs : Nat) : Int) := (Int.natAbs_mul_self).symm ▸ by simp
    have e2 : b * b = ((b.natAbs * b.natAbs : Nat) : Int) := by simp
    rw [e1, e2]
    have : (a.tmod b).natAbs * (a.tmod b).natAbs < b.natAbs * b.natAbs := Nat.mul_lt_mul_of_lt_of_le h1 (Nat.le_of_lt h1) (by omega)
    exact_mod_cast this
  · rcases Int.le_total 0 a with k | k
    · have := Int.tmod_nonneg b k; by_cases z : a.tmod b = 0; · exact .inl z
      right
      constructor
      · intro _; by_cases a0 : a = 0; · subst a0; simp at z
        omega
      · intro _; omega
    · have h2 : 0 ≤ (-a).tmod b := Int.tmod_nonneg b (by omega)
      rw [Int.neg_tmod] at h2
      by_cases z : a.tmod b = 0; · exact .inl z
      right; omega

theorem nd_fin {t a : Int} (h : t = 0 ∨ (0 < t ↔ 0 < a)) : (t == 0 || decide (0 < t) == decide (0 < a)) = true := by
  rcases h with h | h
  · simp [h]
  · simp [h]

/-! ### Bounds and relations -/

theorem relI_no {rel : Int} {a b : Int × Int} (h : ¬ (okI a = true ∧ okI b = true)) : relI rel a b = ((0, 0), (0, 0), false) := by
  unfold relI; rw [if_neg h]

end Go.Proofs.Ytdpooiiacdfpkaa
