/-
  More plain laws: joins, meets, what grows, what can stand so. No program is in sight here. No conditions.
-/
import Derived.Test.YtdpooiiacdfpkaaPlainLaws
namespace Go.Proofs.Ytdpooiiacdfpkaa
set_option linter.unusedSimpArgs false
set_option linter.unusedVariables false

theorem in_self {a : Int × Int} (h : okI a = true) : inI a a = true := (inI_iff _ _).2 ⟨h, h, Int.le_refl _, Int.le_refl _⟩
theorem ok_all : okI (-32768, 32767) = true := by decide
theorem in_all {a : Int × Int} (h : okI a = true) : inI a (-32768, 32767) = true := (inI_iff _ _).2 ⟨h, ok_all, ((okI_iff _).1 h).1, ((okI_iff _).1 h).2.2⟩
theorem in_anti {a b : Int × Int} (h : inI a b = true) (k : inI b a = true) : a = b := by
  obtain ⟨_, _, h1, h2⟩ := (inI_iff _ _).1 h
  obtain ⟨_, _, h3, h4⟩ := (inI_iff _ _).1 k
  exact Prod.ext (by omega) (by omega)
theorem in_has {a b : Int × Int} (ha : okI a = true) (hb : okI b = true) : inI a b = (hasI b a.1 && hasI b a.2) := by
  have ka := (okI_iff _).1 ha
  have kb := (okI_iff _).1 hb
  rw [Bool.eq_iff_iff, inI_iff, Bool.and_eq_true, hasI_iff, hasI_iff]
  constructor
  · rintro ⟨_, _, h1, h2⟩; exact ⟨⟨hb, by omega, by omega⟩, hb, by omega, by omega⟩
  · rintro ⟨⟨_, h1, h2⟩, _, h3, h4⟩; exact ⟨ha, hb, by omega, by omega⟩
theorem join_ok {a b : Int × Int} (ha : okI a = true) (hb : okI b = true) : okI (joinI a b) = true := by
  have ka := (okI_iff _).1 ha
  have kb := (okI_iff _).1 hb
  rw [joinI_yes ⟨ha, hb⟩]; exact (okI_iff _).2 (by simp only; omega)
theorem join_l {a b : Int × Int} (ha : okI a = true) (hb : okI b = true) : inI a (joinI a b) = true := by
  refine (inI_iff _ _).2 ⟨ha, join_ok ha hb, ?_, ?_⟩ <;> rw [joinI_yes ⟨ha, hb⟩] <;> simp only <;> omega
theorem join_comm (a b : Int × Int) : joinI a b = joinI b a := by
  unfold joinI
  by_cases h : okI a = true ∧ okI b = true
  · rw [if_pos h, if_pos ⟨h.2, h.1⟩]; exact Prod.ext (by simp only; omega) (by simp only; omega)
  · rw [if_neg h, if_neg (fun x => h ⟨x.2, x.1⟩)]
theorem join_r {a b : Int × Int} (ha : okI a = true) (hb : okI b = true) : inI b (joinI a b) = true := by
  rw [join_comm]; exact join_l hb ha
theorem in_trans {a b c : Int × Int} (h : inI a b = true) (k : inI b c = true) : inI a c = true := by
  obtain ⟨h0, _, h1, h2⟩ := (inI_iff _ _).1 h
  obtain ⟨_, h5, h3, h4⟩ := (inI_iff _ _).1 k
  exact (inI_iff _ _).2 ⟨h0, h5, by omega, by omega⟩
theorem in_join {a b d : Int × Int} (h : inI a b = true) (hd : okI d = true) : inI a (joinI b d) = true := in_trans h (join_l ((inI_iff _ _).1 h).2.1 hd)
theorem join_lub {a b c : Int × Int} (h : inI a c = true) (k : inI b c = true) : inI (joinI a b) c = true := by
  obtain ⟨h0, h5, h1, h2⟩ := (inI_iff _ _).1 h
  obtain ⟨k0, _, h3, h4⟩ := (inI_iff _ _).1 k
  refine (inI_iff _ _).2 ⟨join_ok h0 k0, h5, ?_, ?_⟩ <;> rw [joinI_yes ⟨h0, k0⟩] <;> simp only <;> omega
theorem join_assoc {a b c : Int × Int} (ha : okI a = true) (hb : okI b = true) (hc : okI c = true) : joinI (joinI a b) c = joinI a (joinI b c) := by
  rw [joinI_yes ⟨join_ok ha hb, hc⟩, joinI_yes ⟨ha, join_ok hb hc⟩, joinI_yes ⟨ha, hb⟩, joinI_yes ⟨hb, hc⟩]
  exact Prod.ext (by simp only; omega) (by simp only; omega)

/-! ### The meet -/
theorem meet_no {a b : Int × Int} (h : (meetI a b).2 = false) (ha : okI a = true) (hb : okI b = true) : meetI a b = ((0, 0), false) ∧ (a.2 < b.1 ∨ b.2 < a.1) := by
  have ka := (okI_iff _).1 ha
  have kb := (okI_iff _).1 hb
  unfold meetI at h ⊢
  by_cases k : max a.1 b.1 ≤ min a.2 b.2
  · rw [if_pos ⟨ha, hb, k⟩] at h; cases h
  · rw [if_neg (fun x => k x.2.2)]; exact ⟨rfl, by omega⟩
theorem meet_bad {a b : Int × Int} (h : ¬ (okI a = true ∧ okI b = true)) : meetI a b = ((0, 0), false) := by
  unfold meetI; rw [if_neg (fun x => h ⟨x.1, x.2.1⟩)]
theorem meet_yes {a b : Int × Int} (h : (meetI a b).2 = true) : okI a = true ∧ okI b = true ∧ meetI a b = ((max a.1 b.1, min a.2 b.2), true) ∧ max a.1 b.1 ≤ min a.2 b.2 := by
  unfold meetI at h ⊢
  by_cases k : okI a = true ∧ okI b = true ∧ max a.1 b.1 ≤ min a.2 b.2
  · rw [if_pos k]; exact ⟨k.1, k.2.1, rfl, k.2.2⟩
  · rw [if_neg k] at h; cases h
theorem meet_ok {a b : Int × Int} (h : (meetI a b).2 = true) : okI (meetI a b).1 = true := by
  obtain ⟨ha, hb, e, k⟩ := meet_yes h
  have ka := (okI_iff _).1 ha
  have kb := (okI_iff _).1 hb
  rw [e]; exact (okI_iff _).2 (by simp only; omega)
theorem meet_l {a b : Int × Int} (h : (meetI a b).2 = true) : inI (meetI a b).1 a = true := by
  obtain ⟨ha, hb, e, k⟩ := meet_yes h
  exact (inI_iff _ _).2 ⟨meet_ok h, ha, by rw [e]; simp only; omega, by rw [e]; simp only; omega⟩
theorem meet_r {a b : Int × Int} (h : (meetI a b).2 = true) : inI (meetI a b).1 b = true := by
  obtain ⟨ha, hb, e, k⟩ := meet_yes h
  exact (inI_iff _ _).2 ⟨meet_ok h, hb, by rw [e]; simp only; omega, by rw [e]; simp only; omega⟩
theorem meet_has {a b : Int × Int} (h : (meetI a b).2 = true) (n : Int) : hasI (meetI a b).1 n = (hasI a n && hasI b n) := by
  have ho := meet_ok h
  obtain ⟨ha, hb, e, k⟩ := meet_yes h
  rw [e] at ho ⊢
  rw [Bool.eq_iff_iff, Bool.and_eq_true, hasI_iff, hasI_iff, hasI_iff]
  constructor
  · rintro ⟨_, h1, h2⟩; simp only at h1 h2; exact ⟨⟨ha, by omega, by omega⟩, hb, by omega, by omega⟩
  · rintro ⟨⟨_, h1, h2⟩, _, h3, h4⟩; exact ⟨ho, by simp only; omega, by simp only; omega⟩
theorem meet_end {a b : Int × Int} (h : (meetI a b).2 = true) : hasI (meetI a b).1 (max a.1 b.1) = true := by
  have ho := meet_ok h
  obtain ⟨ha, hb, e, k⟩ := meet_yes h
  rw [e] at ho ⊢
  exact (hasI_iff _ _).2 ⟨ho, by simp only; omega, by simp only; omega⟩

/-! ### What grows -/
theorem stepLo_bd (d n : Int) (h : -32768 ≤ n) : stepLo d n ≤ n ∧ -32768 ≤ stepLo d n ∧ isStep (stepLo d n) = true := by
  unfold stepLo
  repeat' split
  all_goals first | omega | exact ⟨by omega, by omega, by decide⟩
theorem stepHi_bd (d n : Int) (h : n ≤ 32767) : n ≤ stepHi d n ∧ stepHi d n ≤ 32767 ∧ isStep (stepHi d n) = true := by
  unfold stepHi
  repeat' split
  all_goals first | omega | exact ⟨by omega, by omega, by decide⟩
theorem wideI_yes {a b : Int × Int} (h : okI a = true ∧ okI b = true) : wideI a b = (if b.1 < a.1 then stepLo a.1 b.1 else a.1, if a.2 < b.2 then stepHi a.2 b.2 else a.2) := by
  unfold wideI; rw [if_pos h]
theorem wideI_bad {a b : Int × Int} (h : ¬ (okI a = true ∧ okI b = true)) : wideI a b = (0, 0) := by
  unfold wideI; rw [if_neg h]
theorem wide_all {a b : Int × Int} (ha : okI a = true) (hb : okI b = true) :
    (wideI a b).1 ≤ a.1 ∧ (wideI a b).1 ≤ b.1 ∧ -32768 ≤ (wideI a b).1 ∧ a.2 ≤ (wideI a b).2 ∧ b.2 ≤ (wideI a b).2 ∧ (wideI a b).2 ≤ 32767 ∧
    ((wideI a b).1 = a.1 ∨ isStep (wideI a b).1 = true) ∧ ((wideI a b).2 = a.2 ∨ isStep (wideI a b).2 = true) := by
  have ka := (okI_iff _).1 ha
  have kb := (okI_iff _).1 hb
  have s1 := stepLo_bd a.1 b.1 (by omega)
  have s2 := stepHi_bd a.2 b.2 (by omega)
  rw [wideI_yes ⟨ha, hb⟩]
  simp only
  refine ⟨?_, ?_, ?_, ?_, ?_, ?_, ?_, ?_⟩
  all_goals split
  all_goals first | omega | exact .inl rfl | exact .inr s1.2.2 | exact .inr s2.2.2
theorem wide_ok {a b : Int × Int} (ha : okI a = true) (hb : okI b = true) : okI (wideI a b) = true := by
  have ka := (okI_iff _).1 ha
  have k := wide_all ha hb
  exact (okI_iff _).2 (by omega)
theorem wide_l {a b : Int × Int} (ha : okI a = true) (hb : okI b = true) : inI a (wideI a b) = true := by
  have k := wide_all ha hb
  exact (inI_iff _ _).2 ⟨ha, wide_ok ha hb, by omega, by omega⟩
theorem wide_r {a b : Int × Int} (ha : okI a = true) (hb : okI b = true) : inI b (wideI a b) = true := by
  have k := wide_all ha hb
  exact (inI_iff _ _).2 ⟨hb, wide_ok ha hb, by omega, by omega⟩
theorem wide_in {x b : Int × Int} (h : inI b x = true) : wideI x b = x := by
  obtain ⟨hb, hx, h1, h2⟩ := (inI_iff _ _).1 h
  rw [wideI_yes ⟨hx, hb⟩, if_neg (by omega), if_neg (by omega)]
theorem wide_join {a b : Int × Int} (ha : okI a = true) (hb : okI b = true) : inI (joinI a b) (wideI a b) = true := join_lub (wide_l ha hb) (wide_r ha hb)

/-! ### What can stand so -/
theorem both_yes {x y : Int × Int} (h : ¬ (x.2 < x.1 ∨ y.2 < y.1)) : bothI x y = (x, y, true) := by unfold bothI; rw [if_neg h]
theorem both_no {x y : Int × Int} (h : x.2 < x.1 ∨ y.2 < y.1) : bothI x y = ((0, 0), (0, 0), false) := by unfold bothI; rw [if_pos h]

theorem relHolds_iff (rel u v : Int) : relHolds rel u v = true ↔ (rel = 1 ∧ u < v) ∨ (rel = 2 ∧ u ≤ v) ∨ (rel = 3 ∧ u = v) ∨ (rel = 4 ∧ u ≠ v) := by
  unfold relHolds
  split
  · rename_i h; subst h; simp
  · split
    · rename_i h; subst h; simp
    · split
      · rename_i h; subst h; simp
      · split
        · rename_i h; subst h; simp
        · simp_all

/-- All that is known of the parts of two bounds that stand so (R), off the ends. -/
structure RelOk (R : Int → Int → Bool) (a b : Int × Int) (r : (Int × Int) × (Int × Int) × Bool) : Prop where
  no : r.2.2 = false → r = ((0, 0), (0, 0), false)
  inl : r.2.2 = true → a.1 ≤ r.1.1 ∧ r.1.1 ≤ r.1.2 ∧ r.1.2 ≤ a.2
  inr : r.2.2 = true → b.1 ≤ r.2.1.1 ∧ r.2.1.1 ≤ r.2.1.2 ∧ r.2.1.2 ≤ b.2
  sound : ∀ u v, a.1 ≤ u → u ≤ a.2 → b.1 ≤ v → v ≤ b.2 → R u v = true → r.2.2 = true ∧ r.1.1 ≤ u ∧ u ≤ r.1.2 ∧ r.2.1.1 ≤ v ∧ v ≤ r.2.1.2
  e1 : r.2.2 = true → R r.1.1 r.2.1.1 = true ∨ R r.1.1 r.2.1.2 = true
  e2 : r.2.2 = true → R r.1.2 r.2.1.1 = true ∨ R r.1.2 r.2.1.2 = true
  e3 : r.2.2 = true → R r.1.1 r.2.1.1 = true ∨ R r.1.2 r.2.1.1 = true
  e4 : r.2.2 = true → R r.1.1 r.2.1.2 = true ∨ R r.1.2 r.2.1.2 = true
theorem RelOk.flip {R : Int → Int → Bool} {a b : Int × Int} {r : (Int × Int) × (Int × Int) × Bool} (h : RelOk R a b r) : RelOk (fun u v => R v u) b a (r.2.1, r.1, r.2.2) :=
  ⟨fun k => by
      have e := h.no k
      rw [e], h.inr, h.inl, fun u v h1 h2 h3 h4 k => by
      obtain ⟨k1, k2, k3, k4, k5⟩ := h.sound v u h3 h4 h1 h2 k
      exact ⟨k1, k4, k5, k2, k3⟩, h.e3, h.e4, h.e1, h.e2⟩
theorem RelOk.congr {R R' : Int → Int → Bool} {a b : Int × Int} {r : (Int × Int) × (Int × Int) × Bool} (h : RelOk R a b r) (e : ∀ u v, R u v = R' u v) : RelOk R' a b r := by
  rw [show R' = R from funext fun u => funext fun v => (e u v).symm]; exact h
/-- Of less comes less. -/
theorem RelOk.mono {R : Int → Int → Bool} {a b u v : Int × Int} {r s : (Int × Int) × (Int × Int) × Bool} (h : RelOk R u v s) (k : RelOk R a b r)
    (h1 : a.1 ≤ u.1) (h2 : u.2 ≤ a.2) (h3 : b.1 ≤ v.1) (h4 : v.2 ≤ b.2) (hs : s.2.2 = true) : r.2.2 = true ∧ r.1.1 ≤ s.1.1 ∧ s.1.2 ≤ r.1.2 ∧ r.2.1.1 ≤ s.2.1.1 ∧ s.2.1.2 ≤ r.2.1.2 := by
  have i1 := h.inl hs
  have i2 := h.inr hs
  have g : ∀ x y, s.1.1 ≤ x → x ≤ s.1.2 → s.2.1.1 ≤ y → y ≤ s.2.1.2 → R x y = true → r.2.2 = true ∧ r.1.1 ≤ x ∧ x ≤ r.1.2 ∧ r.2.1.1 ≤ y ∧ y ≤ r.2.1.2 :=
    fun x y j1 j2 j3 j4 hr => k.sound x y (by omega) (by omega) (by omega) (by omega) hr
  have q1 := h.e1 hs
  have q2 := h.e2 hs
  have q3 := h.e3 hs
  have q4 := h.e4 hs
  have c1 : r.2.2 = true ∧ r.1.1 ≤ s.1.1 := by
    rcases q1 with q | q <;> (have := g _ _ (by omega) (by omega) (by omega) (by omega) q; exact ⟨this.1, by omega⟩)
  have c2 : s.1.2 ≤ r.1.2 := by
    rcases q2 with q | q <;> (have := g _ _ (by omega) (by omega) (by omega) (by omega) q; omega)
  have c3 : r.2.1.1 ≤ s.2.1.1 := by
    rcases q3 with q | q <;> (have := g _ _ (by omega) (by omega) (by omega) (by omega) q; omega)
  have c4 : s.2.1.2 ≤ r.2.1.2 := by
    rcases q4 with q | q <;> (have := g _ _ (by omega) (by omega) (by omega) (by omega) q; omega)
  exact ⟨c1.1, c1.2, c2, c3, c4⟩

theorem other_form (a b : Int × Int) (ha : a.1 ≤ a.2) (hb : b.1 ≤ b.2) :
    (a.1 = a.2 ∧ b.1 = b.2 ∧ a.1 = b.1 ∧ otherI a b = ((0, 0), (0, 0), false)) ∨
    (¬ (a.1 = a.2 ∧ b.1 = b.2 ∧ a.1 = b.1) ∧ otherI a b =
      ((if b.1 = b.2 ∧ a.1 = b.1 then a.1 + 1 else a.1, if b.1 = b.2 ∧ a.2 = b.1 then a.2 - 1 else a.2), (if a.1 = a.2 ∧ b.1 = a.1 then b.1 + 1 else b.1, if a.1 = a.2 ∧ b.2 = a.1 then b.2 - 1 else b.2), true)) := by
  obtain ⟨al, ah⟩ := a
  obtain ⟨bl, bh⟩ := b
  simp only at ha hb ⊢
  by_cases h1 : bl = bh <;> by_cases h2 : al = ah <;> by_cases h3 : al = bl
  · subst h1; subst h2; subst h3
    exact .inl ⟨rfl, rfl, rfl, by simp [otherI, cutN]⟩
  · subst h1; subst h2
    exact .inr ⟨by omega, by simp [otherI, cutN, h3, Ne.symm h3]⟩
  · subst h1; subst h3
    exact .inr ⟨by omega, by
      have : ¬ ah = al := fun e => h2 e.symm
      simp [otherI, cutN, h2, this]⟩
  · subst h1
    refine .inr ⟨by omega, ?_⟩
    by_cases h4 : ah = bl <;> simp [otherI, cutN, h2, h3, h4]
  · subst h2; subst h3
    exact .inr ⟨by omega, by
      have : ¬ bh = al := fun e => h1 e.symm
      simp [otherI, cutN, h1, this]⟩
  · subst h2
    have : ¬ bl = al := fun e => h3 e.symm
    refine .inr ⟨by omega, ?_⟩
    by_cases h4 : bh = al <;> simp [otherI, cutN, h1, h4, this]
  · subst h3; exact .inr ⟨by omega, by simp [otherI, h1, h2]⟩
  · exact .inr ⟨by omega, by simp [otherI, h1, h2]⟩

/-- A part of bounds: the numbers without another one, by the program's tests. -/
def withoutI (a b : Int × Int) : Int × Int := if b.1 ≠ b.2 then a else if a.1 = b.1 then (a.1 + 1, a.2) else if a.2 = b.1 then (a.1, a.2 - 1) else a
def cutI (a : Int × Int) (lo hi : Int) : Int × Int := (max a.1 lo, min a.2 hi)
theorem okB_cut {x y : Int × Int} (hx : x.1 ≤ x.2 → -32768 ≤ x.1 ∧ x.2 ≤ 32767) (hy : y.1 ≤ y.2 → -32768 ≤ y.1 ∧ y.2 ≤ 32767) : bothI x y = if okB x y = true then (x, y, true) else ((0, 0), (0, 0), false) := by
  by_cases h : x.2 < x.1 ∨ y.2 < y.1
  · rw [both_no h, if_neg (fun k => by
      have k1 := (okI_iff _).1 ((okB_iff _ _).1 k).1
      have k2 := (okI_iff _).1 ((okB_iff _ _).1 k).2
      omega)]
  · rw [both_yes h, if_pos ((okB_iff _ _).2 ⟨(okI_iff _).2 (by omega), (okI_iff _).2 (by omega)⟩)]
theorem rel_by1 {a b : Int × Int} (h : okI a = true ∧ okI b = true) : relI 1 a b = if okB (cutI a (-32768) (b.2 - 1)) (cutI b (a.1 + 1) 32767) = true then (cutI a (-32768) (b.2 - 1), cutI b (a.1 + 1) 32767, true) else ((0, 0), (0, 0), false) := by
  have ka := (okI_iff _).1 h.1
  have kb := (okI_iff _).1 h.2
  have e1 : cutI a (-32768) (b.2 - 1) = (a.1, min a.2 (b.2 - 1)) := Prod.ext (by simp only [cutI]; omega) rfl
  have e2 : cutI b (a.1 + 1) 32767 = (max b.1 (a.1 + 1), b.2) := Prod.ext rfl (by simp only [cutI]; omega)
  rw [relI_1 h, e1, e2]
  exact okB_cut (by simp only; omega) (by simp only; omega)
theorem rel_by2 {a b : Int × Int} (h : okI a = true ∧ okI b = true) : relI 2 a b = if okB (cutI a (-32768) b.2) (cutI b a.1 32767) = true then (cutI a (-32768) b.2, cutI b a.1 32767, true) else ((0, 0), (0, 0), false) := by
  have ka := (okI_iff _).1 h.1
  have kb := (okI_iff _).1 h.2
  have e1 : cutI a (-32768) b.2 = (a.1, min a.2 b.2) := Prod.ext (by simp only [cutI]; omega) rfl
  have e2 : cutI b a.1 32767 = (max b.1 a.1, b.2) := Prod.ext rfl (by simp only [cutI]; omega)
  rw [relI_2 h, e1, e2]
  exact okB_cut (by simp only; omega) (by simp only; omega)
theorem rel_by3 {a b : Int × Int} (h : okI a = true ∧ okI b = true) : relI 3 a b = if okI (cutI a b.1 b.2) = true then (cutI a b.1 b.2, cutI a b.1 b.2, true) else ((0, 0), (0, 0), false) := by
  have ka := (okI_iff _).1 h.1
  have kb := (okI_iff _).1 h.2
  rw [relI_3 h]
  refine (okB_cut (x := cutI a b.1 b.2) (y := cutI a b.1 b.2) (by simp only [cutI]; omega) (by simp only [cutI]; omega)).trans ?_
  by_cases k : okI (cutI a b.1 b.2) = true
  · rw [if_pos k, if_pos ((okB_iff _ _).2 ⟨k, k⟩)]
  · rw [if_neg k, if_neg (fun x => k ((okB_iff _ _).1 x).1)]
theorem rel_by4 {a b : Int × Int} (h : okI a = true ∧ okI b = true) : relI 4 a b = if okB (withoutI a b) (withoutI b a) = true then (withoutI a b, withoutI b a, true) else ((0, 0), (0, 0), false) := by
  have ka := (okI_iff _).1 h.1
  have kb := (okI_iff _).1 h.2
  obtain ⟨al, ah⟩ := a
  obtain ⟨bl, bh⟩ := b
  simp only at ka kb
  rw [relI_4 h]
  rcases other_form (al, ah) (bl, bh) (by simp only; omega) (by simp only; omega) with ⟨k1, k2, k3, e⟩ | ⟨k, e⟩
  · simp only at k1 k2 k3
    subst k1 k2 k3
    rw [e, if_neg]
    intro x
    have := (okI_iff _).1 ((okB_iff _ _).1 x).1
    simp [withoutI] at this
    omega
  · simp only at k
    have e1 : withoutI (al, ah) (bl, bh) = (if bl = bh ∧ al = bl then al + 1 else al, if bl = bh ∧ ah = bl then ah - 1 else ah) := by
      unfold withoutI
      simp only
      by_cases c1 : bl = bh
      · rw [if_neg (show ¬ (bl ≠ bh) by omega)]
        by_cases c2 : al = bl
        · rw [if_pos c2]; refine Prod.ext ?_ ?_ <;> simp only <;> split <;> omega
        · rw [if_neg c2]
          by_cases c3 : ah = bl
          · rw [if_pos c3]; refine Prod.ext ?_ ?_ <;> simp only <;> split <;> omega
          · rw [if_neg c3]; refine Prod.ext ?_ ?_ <;> simp only <;> split <;> omega
      · rw [if_pos c1]; refine Prod.ext ?_ ?_ <;> simp only <;> split <;> omega
    have e2 : withoutI (bl, bh) (al, ah) = (if al = ah ∧ bl = al then bl + 1 else bl, if al = ah ∧ bh = al then bh - 1 else bh) := by
      unfold withoutI
      simp only
      by_cases c1 : al = ah
      · rw [if_neg (show ¬ (al ≠ ah) by omega)]
        by_cases c2 : bl = al
        · rw [if_pos c2]; refine Prod.ext ?_ ?_ <;> simp only <;> split <;> omega
        · rw [if_neg c2]
          by_cases c3 : bh = al
          · rw [if_pos c3]; refine Prod.ext ?_ ?_ <;> simp only <;> split <;> omega
          · rw [if_neg c3]; refine Prod.ext ?_ ?_ <;> simp only <;> split <;> omega
      · rw [if_pos c1]; refine Prod.ext ?_ ?_ <;> simp only <;> split <;> omega
    rw [e, e1, e2]
    refine (if_pos ((okB_iff _ _).2 ⟨(okI_iff _).2 ?_, (okI_iff _).2 ?_⟩)).symm
    · simp only; split <;> split <;> omega
    · simp only; split <;> split <;> omega

theorem relI_ok (rel : Int) {a b : Int × Int} (ha : okI a = true) (hb : okI b = true) : RelOk (relHolds rel) a b (relI rel a b) := by
  have ka := (okI_iff _).1 ha
  have kb := (okI_iff _).1 hb
  obtain ⟨al, ah⟩ := a
  obtain ⟨bl, bh⟩ := b
  simp only at ka kb
  by_cases h1 : rel = 1
  · subst h1
    rw [relI_1 ⟨ha, hb⟩]
    by_cases k : al < bh
    · rw [both_yes (by simp only; omega)]
      refine ⟨(fun h => by cases h), fun _ => by simp only; omega, fun _ => by simp only; omega, fun u v h1 h2 h3 h4 h => ?_, fun _ => ?_, fun _ => ?_, fun _ => ?_, fun _ => ?_⟩
      · have h' := (relHolds_iff _ _ _).1 h; refine ⟨rfl, ?_⟩; simp only at *; omega
      all_goals (simp only [relHolds_iff, true_and, Int.reduceEq, false_and, or_false, false_or, true_or, or_true] <;> omega)
    · rw [both_no (by simp only; omega)]
      refine ⟨fun h => rfl, (fun h => by cases h), (fun h => by cases h), fun u v h1 h2 h3 h4 h => ?_, (fun h => by cases h), (fun h => by cases h), (fun h => by cases h), (fun h => by cases h)⟩
      have h' := (relHolds_iff _ _ _).1 h; simp only at *; omega
  · by_cases h2 : rel = 2
    · subst h2
      rw [relI_2 ⟨ha, hb⟩]
      by_cases k : al ≤ bh
      · rw [both_yes (by simp only; omega)]
        refine ⟨(fun h => by cases h), fun _ => by simp only; omega, fun _ => by simp only; omega, fun u v h1 h2 h3 h4 h => ?_, fun _ => ?_, fun _ => ?_, fun _ => ?_, fun _ => ?_⟩
        · have h' := (relHolds_iff _ _ _).1 h; refine ⟨rfl, ?_⟩; simp only at *; omega
        all_goals (simp only [relHolds_iff, true_and, Int.reduceEq, false_and, or_false, false_or, true_or, or_true] <;> omega)
      · rw [both_no (by simp only; omega)]
        refine ⟨fun h => rfl, (fun h => by cases h), (fun h => by cases h), fun u v h1 h2 h3 h4 h => ?_, (fun h => by cases h), (fun h => by cases h), (fun h => by cases h), (fun h => by cases h)⟩
        have h' := (relHolds_iff _ _ _).1 h; simp only at *; omega
    · by_cases h3 : rel = 3
      · subst h3
        rw [relI_3 ⟨ha, hb⟩]
        by_cases k : max al bl ≤ min ah bh
        · rw [both_yes (by simp only; omega)]
          refine ⟨(fun h => by cases h), fun _ => by simp only; omega, fun _ => by simp only; omega, fun u v h1 h2 h3 h4 h => ?_, fun _ => ?_, fun _ => ?_, fun _ => ?_, fun _ => ?_⟩
          · have h' := (relHolds_iff _ _ _).1 h; refine ⟨rfl, ?_⟩; simp only at *; omega
          all_goals (simp only [relHolds_iff, true_and, Int.reduceEq, false_and, or_false, false_or, true_or, or_true] <;> omega)
        · rw [both_no (by simp only; omega)]
          refine ⟨fun h => rfl, (fun h => by cases h), (fun h => by cases h), fun u v h1 h2 h3 h4 h => ?_, (fun h => by cases h), (fun h => by cases h), (fun h => by cases h), (fun h => by cases h)⟩
          have h' := (relHolds_iff _ _ _).1 h; simp only at *; omega
      · by_cases h4 : rel = 4
        · subst h4
          rw [relI_4 ⟨ha, hb⟩]
          rcases other_form (al, ah) (bl, bh) (by simp only; omega) (by simp only; omega) with ⟨k1, k2, k3, e⟩ | ⟨k, e⟩
          · rw [e]
            refine ⟨fun h => rfl, (fun h => by cases h), (fun h => by cases h), fun u v h1 h2 h3 h4 h => ?_, (fun h => by cases h), (fun h => by cases h), (fun h => by cases h), (fun h => by cases h)⟩
            have h' := (relHolds_iff _ _ _).1 h; simp only at *; omega
          · rw [e]
            simp only at k
            by_cases c1 : bl = bh ∧ al = bl <;> by_cases c2 : bl = bh ∧ ah = bl <;> by_cases c3 : al = ah ∧ bl = al <;> by_cases c4 : al = ah ∧ bh = al
            all_goals
              first
              | (exfalso; omega)
              | (simp only [c1, c2, c3, c4, if_true, if_false, and_self]
                 refine ⟨(fun h => by cases h), fun _ => by simp only; omega, fun _ => by simp only; omega, fun u v h1 h2 h3 h4 h => ?_, fun _ => ?_, fun _ => ?_, fun _ => ?_, fun _ => ?_⟩
                 · have h' := (relHolds_iff _ _ _).1 h; refine ⟨rfl, ?_⟩; simp only at *; omega
                 all_goals (simp only [relHolds_iff, true_and, Int.reduceEq, false_and, or_false, false_or, true_or, or_true] <;> omega))
        · rw [relI_0 ⟨h1, h2, h3, h4⟩]
          refine ⟨fun h => rfl, (fun h => by cases h), (fun h => by cases h), fun u v k1 k2 k3 k4 h => ?_, (fun h => by cases h), (fun h => by cases h), (fun h => by cases h), (fun h => by cases h)⟩
          have h' := (relHolds_iff _ _ _).1 h; omega
theorem notI_1 (a b : Int × Int) : notI 1 a b = ((relI 2 b a).2.1, (relI 2 b a).1, (relI 2 b a).2.2) := by unfold notI; rw [if_pos rfl]
theorem notI_2 (a b : Int × Int) : notI 2 a b = ((relI 1 b a).2.1, (relI 1 b a).1, (relI 1 b a).2.2) := by unfold notI; rw [if_neg (by decide), if_pos rfl]
theorem notI_3 (a b : Int × Int) : notI 3 a b = relI 4 a b := by unfold notI; rw [if_neg (by decide), if_neg (by decide), if_pos rfl]
theorem notI_4 (a b : Int × Int) : notI 4 a b = relI 3 a b := by unfold notI; rw [if_neg (by decide), if_neg (by decide), if_neg (by decide), if_pos rfl]
theorem notI_0 {rel : Int} (h : rel ≠ 1 ∧ rel ≠ 2 ∧ rel ≠ 3 ∧ rel ≠ 4) (a b : Int × Int) : notI rel a b = ((0, 0), (0, 0), false) := by unfold notI; simp [h]
theorem notI_ok {rel : Int} (hr : 1 ≤ rel ∧ rel ≤ 4) {a b : Int × Int} (ha : okI a = true) (hb : okI b = true) : RelOk (fun u v => !relHolds rel u v) a b (notI rel a b) := by
  have hc : rel = 1 ∨ rel = 2 ∨ rel = 3 ∨ rel = 4 := by omega
  rcases hc with rfl | rfl | rfl | rfl
  · refine ((relI_ok 2 hb ha).flip).congr (fun u v => ?_)
    rw [Bool.eq_iff_iff]; simp [relHolds]
  · refine ((relI_ok 1 hb ha).flip).congr (fun u v => ?_)
    rw [Bool.eq_iff_iff]; simp [relHolds]
  · refine (relI_ok 4 ha hb).congr (fun u v => ?_)
    rw [Bool.eq_iff_iff]; simp [relHolds]
  · refine (relI_ok 3 ha hb).congr (fun u v => ?_)
    rw [Bool.eq_iff_iff]; simp [relHolds]
theorem notI_bad {rel : Int} {a b : Int × Int} (h : ¬ (okI a = true ∧ okI b = true ∧ 1 ≤ rel ∧ rel ≤ 4)) : notI rel a b = ((0, 0), (0, 0), false) := by
  unfold notI
  by_cases k : okI a = true ∧ okI b = true
  · rw [if_neg (by intro e; exact h ⟨k.1, k.2, by omega⟩), if_neg (by intro e; exact h ⟨k.1, k.2, by omega⟩), if_neg (by intro e; exact h ⟨k.1, k.2, by omega⟩), if_neg (by intro e; exact h ⟨k.1, k.2, by omega⟩)]
  · have k' : ¬ (okI b = true ∧ okI a = true) := fun x => k ⟨x.2, x.1⟩
    simp only [relI_bad k, relI_bad k', ite_self]
theorem rel_or_not {rel : Int} (hr : 1 ≤ rel ∧ rel ≤ 4) {a b : Int × Int} (ha : okI a = true) (hb : okI b = true) : (relI rel a b).2.2 = true ∨ (notI rel a b).2.2 = true := by
  have ka := (okI_iff _).1 ha
  have kb := (okI_iff _).1 hb
  cases h : relHolds rel a.1 b.1
  · exact .inr ((notI_ok hr ha hb).sound a.1 b.1 (by omega) (by omega) (by omega) (by omega) (by rw [h]; rfl)).1
  · exact .inl ((relI_ok rel ha hb).sound a.1 b.1 (by omega) (by omega) (by omega) (by omega) h).1
/-- The parts are bounds within the bounds. -/
theorem RelOk.ins {R : Int → Int → Bool} {a b : Int × Int} {r : (Int × Int) × (Int × Int) × Bool} (h : RelOk R a b r) (ha : okI a = true) (hb : okI b = true) (hs : r.2.2 = true) :
    inI r.1 a = true ∧ inI r.2.1 b = true ∧ okI r.1 = true ∧ okI r.2.1 = true := by
  have ka := (okI_iff _).1 ha
  have kb := (okI_iff _).1 hb
  have i1 := h.inl hs
  have i2 := h.inr hs
  have o1 : okI r.1 = true := (okI_iff _).2 (by omega)
  have o2 : okI r.2.1 = true := (okI_iff _).2 (by omega)
  exact ⟨(inI_iff _ _).2 ⟨o1, ha, i1.1, i1.2.2⟩, (inI_iff _ _).2 ⟨o2, hb, i2.1, i2.2.2⟩, o1, o2⟩
theorem RelOk.hass {R : Int → Int → Bool} {a b : Int × Int} {r : (Int × Int) × (Int × Int) × Bool} (h : RelOk R a b r) (ha : okI a = true) (hb : okI b = true) {u v : Int}
    (h1 : a.1 ≤ u) (h2 : u ≤ a.2) (h3 : b.1 ≤ v) (h4 : v ≤ b.2) (hr : R u v = true) : r.2.2 = true ∧ hasI r.1 u = true ∧ hasI r.2.1 v = true := by
  obtain ⟨k, k1, k2, k3, k4⟩ := h.sound u v h1 h2 h3 h4 hr
  obtain ⟨_, _, o1, o2⟩ := h.ins ha hb k
  exact ⟨k, (hasI_iff _ _).2 ⟨o1, k1, k2⟩, (hasI_iff _ _).2 ⟨o2, k3, k4⟩⟩
theorem RelOk.less {R : Int → Int → Bool} {a b u v : Int × Int} {r s : (Int × Int) × (Int × Int) × Bool} (h : RelOk R u v s) (k : RelOk R a b r) (hu : okI u = true) (hv : okI v = true) (ha : okI a = true) (hb : okI b = true)
    (h1 : a.1 ≤ u.1) (h2 : u.2 ≤ a.2) (h3 : b.1 ≤ v.1) (h4 : v.2 ≤ b.2) (hs : s.2.2 = true) : r.2.2 = true ∧ inI s.1 r.1 = true ∧ inI s.2.1 r.2.1 = true := by
  obtain ⟨q, q1, q2, q3, q4⟩ := h.mono k h1 h2 h3 h4 hs
  obtain ⟨_, _, o1, o2⟩ := h.ins hu hv hs
  obtain ⟨_, _, o3, o4⟩ := k.ins ha hb q
  exact ⟨q, (inI_iff _ _).2 ⟨o1, o3, q1, q2⟩, (inI_iff _ _).2 ⟨o2, o4, q3, q4⟩⟩
end Go.Proofs.Ytdpooiiacdfpkaa
