/-
  The program's reading of an abstract state (readState), and AbsOk, by contract. No conditions but those that each theorem says.
-/
import Derived.Test.YtdpooiiacdfpkaaAbs3
import Derived.RegionTactic
namespace Go.Proofs.Ytdpooiiacdfpkaa
set_option linter.unusedSimpArgs false
set_option linter.unusedVariables false
open Go.ChangeShapes Go.WideShapes Go.ChangeAt Go.RowKit Go.Sort

set_option maxHeartbeats 1000000 in
theorem notOk_i {lo hi : Int} {x : Bool} (h : okI (lo, hi) = x) (w : World) : Calls Try.prog 57 #[.agg #[.int .i64 lo, .int .i64 hi]] w fun e w' => e = .returned (.bool (!x)) ∧ Below w.heap.size w w' := by
  cases x
  all_goals
    have H := Lib.hid h
    clear h
    go_enter Try.func57, Try.ntmps57
    go_wp2_with (go_at_call 55; refine (ok_ix H.out _).mono ?_; rintro e w' ⟨rfl, hb⟩; have hs0 := hb.size; have hB : Below w.heap.size w w' := below_on (by ((try go_split_ands); go_grown)) hb; have hz := hB.size; have hc := bcell hb; (try simp only [World.size_alloc, World.size_setCell, World.size_drew] at hs0); (first | have m0 := up_7 m0 (show _ ≤ w'.heap.size by omega) | have m0 := up_6 m0 (show _ ≤ w'.heap.size by omega) | have m0 := up_5 m0 (show _ ≤ w'.heap.size by omega) | have m0 := up_4 m0 (show _ ≤ w'.heap.size by omega) | have m0 := up_3 m0 (show _ ≤ w'.heap.size by omega) | have m0 := up_2 m0 (show _ ≤ w'.heap.size by omega) | have m0 := up_1 m0 (show _ ≤ w'.heap.size by omega) | skip); (first | have m1 := up_7 m1 (show _ ≤ w'.heap.size by omega) | have m1 := up_6 m1 (show _ ≤ w'.heap.size by omega) | have m1 := up_5 m1 (show _ ≤ w'.heap.size by omega) | have m1 := up_4 m1 (show _ ≤ w'.heap.size by omega) | have m1 := up_3 m1 (show _ ≤ w'.heap.size by omega) | have m1 := up_2 m1 (show _ ≤ w'.heap.size by omega) | have m1 := up_1 m1 (show _ ≤ w'.heap.size by omega) | skip); (first | have m2 := up_7 m2 (show _ ≤ w'.heap.size by omega) | have m2 := up_6 m2 (show _ ≤ w'.heap.size by omega) | have m2 := up_5 m2 (show _ ≤ w'.heap.size by omega) | have m2 := up_4 m2 (show _ ≤ w'.heap.size by omega) | have m2 := up_3 m2 (show _ ≤ w'.heap.size by omega) | have m2 := up_2 m2 (show _ ≤ w'.heap.size by omega) | have m2 := up_1 m2 (show _ ≤ w'.heap.size by omega) | skip); (first | have m3 := up_7 m3 (show _ ≤ w'.heap.size by omega) | have m3 := up_6 m3 (show _ ≤ w'.heap.size by omega) | have m3 := up_5 m3 (show _ ≤ w'.heap.size by omega) | have m3 := up_4 m3 (show _ ≤ w'.heap.size by omega) | have m3 := up_3 m3 (show _ ≤ w'.heap.size by omega) | have m3 := up_2 m3 (show _ ≤ w'.heap.size by omega) | have m3 := up_1 m3 (show _ ≤ w'.heap.size by omega) | skip); (first | have m4 := up_7 m4 (show _ ≤ w'.heap.size by omega) | have m4 := up_6 m4 (show _ ≤ w'.heap.size by omega) | have m4 := up_5 m4 (show _ ≤ w'.heap.size by omega) | have m4 := up_4 m4 (show _ ≤ w'.heap.size by omega) | have m4 := up_3 m4 (show _ ≤ w'.heap.size by omega) | have m4 := up_2 m4 (show _ ≤ w'.heap.size by omega) | have m4 := up_1 m4 (show _ ≤ w'.heap.size by omega) | skip); (first | have m5 := up_7 m5 (show _ ≤ w'.heap.size by omega) | have m5 := up_6 m5 (show _ ≤ w'.heap.size by omega) | have m5 := up_5 m5 (show _ ≤ w'.heap.size by omega) | have m5 := up_4 m5 (show _ ≤ w'.heap.size by omega) | have m5 := up_3 m5 (show _ ≤ w'.heap.size by omega) | have m5 := up_2 m5 (show _ ≤ w'.heap.size by omega) | have m5 := up_1 m5 (show _ ≤ w'.heap.size by omega) | skip); (first | (have mm := lt_7 hs0; (try have m5 := m4); (try have m4 := m3); (try have m3 := m2); (try have m2 := m1); (try have m1 := m0); have m0 := mm) | (have mm := lt_6 hs0; (try have m5 := m4); (try have m4 := m3); (try have m3 := m2); (try have m2 := m1); (try have m1 := m0); have m0 := mm) | (have mm := lt_5 hs0; (try have m5 := m4); (try have m4 := m3); (try have m3 := m2); (try have m2 := m1); (try have m1 := m0); have m0 := mm) | (have mm := lt_4 hs0; (try have m5 := m4); (try have m4 := m3); (try have m3 := m2); (try have m2 := m1); (try have m1 := m0); have m0 := mm) | (have mm := lt_3 hs0; (try have m5 := m4); (try have m4 := m3); (try have m3 := m2); (try have m2 := m1); (try have m1 := m0); have m0 := mm) | (have mm := lt_2 hs0; (try have m5 := m4); (try have m4 := m3); (try have m3 := m2); (try have m2 := m1); (try have m1 := m0); have m0 := mm) | (have mm := lt_1 hs0; (try have m5 := m4); (try have m4 := m3); (try have m3 := m2); (try have m2 := m1); (try have m1 := m0); have m0 := mm) | skip); clear hs0; clear hb)
    all_goals (go_ret; exact ⟨rfl, by ((try go_split_ands); go_grown)⟩)
def IdxPost (w : World) (z : List (Int × Int)) (e : Ending) (w' : World) : Prop := ∃ n : Int, e = .returned (.int .i64 n) ∧ -1 ≤ n ∧ decide (0 ≤ n) = !z.all okI ∧ Below w.heap.size w w'
theorem all_bad {z : List (Int × Int)} {k : Nat} (hk : k < z.length) (h : okI (z.getD k (0, 0)) = false) : (!z.all okI) = true := by
  have : z.all okI = false := by
    rw [List.all_eq_false]
    refine ⟨z[k], List.getElem_mem hk, ?_⟩
    rw [List.getD_eq_getElem?_getD, List.getElem?_eq_getElem hk] at h
    simpa using h
  simp [this]
theorem all_good {z : List (Int × Int)} (h : ∀ j, j < z.length → okI (z.getD j (0, 0)) = true) : (!z.all okI) = false := by
  have : z.all okI = true := by
    rw [List.all_eq_true]
    intro x hx
    obtain ⟨k, hk, rfl⟩ := List.mem_iff_getElem.1 hx
    have := h k hk
    rwa [List.getD_eq_getElem?_getD, List.getElem?_eq_getElem hk] at this
  simp [this]
set_option maxRecDepth 100000 in
set_option maxHeartbeats 8000000 in
theorem indexBad (a : Option Addr) (len cap : Nat) (z : List (Int × Int)) (w : World) (hz : RdI w a len z) (hl : len ≤ 1048576) : Calls Try.prog 68 #[.slice a len cap, .func (.func 57) #[] #[]] w (IdxPost w z) := by
  have HZ := Lib.hid hz
  have Hsz := Lib.hid hz.1
  have hlk : (len : Int) ≤ 1048576 := by omega
  clear hz
  go_enter Try.func68, Try.ntmps68
  go_wp2_with fail
  go_loopw [8] (fun i wr => ∃ k : Nat, k ≤ len ∧ i = .int .i64 k ∧ Below w.heap.size w wr ∧ Hid (∀ j, j < k → okI (z.getD j (0, 0)) = true)) (fun i _ => len - (intOf i).toNat)
  case atStart => exact ⟨0, by omega, rfl, Below.refl _ _, Lib.hid (fun j hj => by omega)⟩
  case round =>
    obtain ⟨k, hk, rfl, hS, hH⟩ := hrel
    by_cases hlt : k < len
    · obtain ⟨x, rfl, hx⟩ : ∃ x, a = some x ∧ ∀ i, i < len → wr.cell? (x.add (i * 2)) = some (.int .i64 (z.getD i (0, 0)).1) ∧ wr.cell? ⟨(x.add (i * 2)).block, (x.add (i * 2)).off + 1, none⟩ = some (.int .i64 (z.getD i (0, 0)).2) := by
        rcases (HZ.out.below hS).2 with h | h
        · omega
        · exact h
      obtain ⟨hx0, hx1⟩ := hx k hlt
      clear hx
      obtain ⟨⟨zl, zh⟩, hq⟩ : ∃ q, q = z.getD k (0, 0) := ⟨_, rfl⟩
      rw [← hq] at hx0 hx1
      simp only at hx0 hx1
      have j0 : (0 : Int) ≤ k := by omega
      have j1 : (k : Int) < len := by omega
      rcases Bool.eq_false_or_eq_true (okI (zl, zh)) with ho | ho
      · have hH2 := Lib.hid (show ∀ j, j < k + 1 → okI (z.getD j (0, 0)) = true from fun j hj => by
          by_cases e : j = k
          · subst e; rw [← hq]; exact ho
          · exact hH.out j (by omega))
        have Ho := Lib.hid ho
        clear ho hq
        go_wp2_with (go_at_call 57; refine (notOk_i Ho.out _).mono ?_; rintro e w2 ⟨rfl, hb2⟩; have hS2 := below_on hS hb2; clear hb2)
        go_roundw
        case rel => exact ⟨k + 1, by omega, by go_num, hS2, hH2⟩
        case measure => simp [intOf] <;> omega
      · have hr := Lib.hid (all_bad (z := z) (k := k) (by rw [Hsz.out]; exact hlt) (by rw [← hq]; exact ho))
        have Ho := Lib.hid ho
        clear ho hq
        go_wp2_with (go_at_call 57; refine (notOk_i Ho.out _).mono ?_; rintro e w2 ⟨rfl, hb2⟩; have hS2 := below_on hS hb2; clear hb2)
        go_ret
        unfold IdxPost
        exact ⟨_, rfl, by omega, by rw [hr.out]; exact decide_eq_true j0, hS2⟩
    · obtain rfl : k = len := by omega
      have hr := Lib.hid (all_good (z := z) (by rw [Hsz.out]; exact hH.out))
      go_wp2_with fail
      go_ret
      unfold IdxPost
      exact ⟨_, rfl, by omega, by rw [hr.out]; rfl, hS⟩
set_option maxHeartbeats 2000000 in
theorem containsBad {a : Option Addr} {len cap : Nat} {z : List (Int × Int)} {x : Bool} (w : World) (hx : (!z.all okI) = x) (hz : RdI w a len z) (hl : len ≤ 1048576) : Calls Try.prog 56 #[.slice a len cap, .func (.func 57) #[] #[]] w fun e w' => e = .returned (.bool x) ∧ Below w.heap.size w w' := by
  have HX := Lib.hid hx
  clear hx
  go_enter Try.func56, Try.ntmps56
  go_wp2_with (go_at_call 68; refine (indexBad a len cap z _ hz hl).mono ?_; rintro e w' ⟨n, rfl, hn, hd, hb⟩; rw [HX.out] at hd)
  all_goals (go_ret; exact ⟨ret_b (by first | exact hd | (rw [← hd]; simp_all) | (simp_all)), hb⟩)
/-- The state lies so in block g. -/
def StAt (w : World) (g : Nat) (z : List (Int × Int)) (lo hi : Int) : Prop := (∀ i, i < 4 → w.cell? ⟨g, i * 2, none⟩ = some (.int .i64 (z.getD i (0, 0)).1) ∧ w.cell? ⟨g, i * 2 + 1, none⟩ = some (.int .i64 (z.getD i (0, 0)).2)) ∧ w.cell? ⟨g, 8, none⟩ = some (.int .i64 lo) ∧ w.cell? ⟨g, 9, none⟩ = some (.int .i64 hi)
/-- What readState leaves: nothing, and whether the state was ok; or the state. -/
def RsPost (w : World) (on : Bool) (z : List (Int × Int)) (lo hi : Int) (e : Ending) (w' : World) : Prop :=
  ((on && absOk on z (lo, hi)) = false ∧ e = .returned (.tuple #[.pointer none, .bool (absOk on z (lo, hi))]) ∧ Below w.heap.size w w') ∨
  ((on && absOk on z (lo, hi)) = true ∧ ∃ g, e = .returned (.tuple #[.pointer (some ⟨g, 0, none⟩), .bool true]) ∧ w.heap.size ≤ g ∧ StAt w' g z lo hi ∧ Below w.heap.size w w')
set_option maxRecDepth 100000 in
set_option maxHeartbeats 8000000 in
theorem readState_off (a : Option Addr) (len cap : Nat) (lo hi : Int) (z : List (Int × Int)) (w : World) (hz : RdI w a len z) (hl : len ≤ 1048576) : Calls Try.prog 31 #[.agg #[.bool false, .slice a len cap, .int .i64 lo, .int .i64 hi]] w fun e w' => e = .returned (.tuple #[.pointer none, .bool (absOk false z (lo, hi))]) ∧ Below w.heap.size w w' := by
  have Hsz := Lib.hid hz.1
  clear hz
  by_cases h0 : len = 0
  · subst h0
    by_cases h1 : lo = 0
    · subst h1
      by_cases h2 : hi = 0
      · subst h2
        have hr := Lib.hid (show absOk false z (0, 0) = _ from absOk_off)
        have k1 := cell_regrown (w := (w.alloc (.cells #[.bool false, .slice a 0 cap, .int .i64 0, .int .i64 0] 29))) (a := ⟨w.heap.size, 1, none⟩) (v := .slice a 0 cap) (by simp [go_sem])
        have k2 := cell_regrown (w := (w.alloc (.cells #[.bool false, .slice a 0 cap, .int .i64 0, .int .i64 0] 29))) (a := ⟨w.heap.size, 2, none⟩) (v := .int .i64 0) (by simp [go_sem])
        have k3 := cell_regrown (w := (w.alloc (.cells #[.bool false, .slice a 0 cap, .int .i64 0, .int .i64 0] 29))) (a := ⟨w.heap.size, 3, none⟩) (v := .int .i64 0) (by simp [go_sem])
        go_enter Try.func31, Try.ntmps31
        go_wp2_with fail
        ((refine region_below (W0 := (w.alloc (.cells #[.bool false, .slice a 0 cap, .int .i64 0, .int .i64 0] 29))) mixed_ok (by kernel_rfl) (Below.refl _ _) ?_); (repeat (go_big_quiet_step (fail))); (refine wpQuiet_nil ?_); (intro _ hq'); (obtain ⟨⟨dq, osq⟩, hq''⟩ := hq'); (subst hq''))
        go_wp2_with fail
        go_ret2
        exact ⟨by rw [hr.out, Hsz.out]; rfl, below_on ((Below.refl _ _).alloc (Nat.le_refl _) _) (below_regrown _ _ _)⟩
      · have h2b : (hi == 0) = false := by simp [h2]
        have H2 := Lib.hid h2
        clear h2
        have hr := Lib.hid (show absOk false z (0, hi) = _ from absOk_off)
        have k1 := cell_regrown (w := (w.alloc (.cells #[.bool false, .slice a 0 cap, .int .i64 0, .int .i64 hi] 29))) (a := ⟨w.heap.size, 1, none⟩) (v := .slice a 0 cap) (by simp [go_sem])
        have k2 := cell_regrown (w := (w.alloc (.cells #[.bool false, .slice a 0 cap, .int .i64 0, .int .i64 hi] 29))) (a := ⟨w.heap.size, 2, none⟩) (v := .int .i64 0) (by simp [go_sem])
        have k3 := cell_regrown (w := (w.alloc (.cells #[.bool false, .slice a 0 cap, .int .i64 0, .int .i64 hi] 29))) (a := ⟨w.heap.size, 3, none⟩) (v := .int .i64 hi) (by simp [go_sem])
        go_enter Try.func31, Try.ntmps31
        go_wp2_with fail
        ((refine region_below (W0 := (w.alloc (.cells #[.bool false, .slice a 0 cap, .int .i64 0, .int .i64 hi] 29))) mixed_ok (by kernel_rfl) (Below.refl _ _) ?_); (repeat (go_big_quiet_step (fail))); (refine wpQuiet_nil ?_); (intro _ hq'); (obtain ⟨⟨dq, osq⟩, hq''⟩ := hq'); (subst hq''))
        go_wp2_with fail
        go_ret2
        exact ⟨by rw [hr.out, Hsz.out]; simp [H2.out], below_on ((Below.refl _ _).alloc (Nat.le_refl _) _) (below_regrown _ _ _)⟩
    · have h1b : (lo == 0) = false := by simp [h1]
      have H1 := Lib.hid h1
      clear h1
      have hr := Lib.hid (show absOk false z (lo, hi) = _ from absOk_off)
      have k1 := cell_regrown (w := (w.alloc (.cells #[.bool false, .slice a 0 cap, .int .i64 lo, .int .i64 hi] 29))) (a := ⟨w.heap.size, 1, none⟩) (v := .slice a 0 cap) (by simp [go_sem])
      have k2 := cell_regrown (w := (w.alloc (.cells #[.bool false, .slice a 0 cap, .int .i64 lo, .int .i64 hi] 29))) (a := ⟨w.heap.size, 2, none⟩) (v := .int .i64 lo) (by simp [go_sem])
      have k3 := cell_regrown (w := (w.alloc (.cells #[.bool false, .slice a 0 cap, .int .i64 lo, .int .i64 hi] 29))) (a := ⟨w.heap.size, 3, none⟩) (v := .int .i64 hi) (by simp [go_sem])
      go_enter Try.func31, Try.ntmps31
      go_wp2_with fail
      ((refine region_below (W0 := (w.alloc (.cells #[.bool false, .slice a 0 cap, .int .i64 lo, .int .i64 hi] 29))) mixed_ok (by kernel_rfl) (Below.refl _ _) ?_); (repeat (go_big_quiet_step (fail))); (refine wpQuiet_nil ?_); (intro _ hq'); (obtain ⟨⟨dq, osq⟩, hq''⟩ := hq'); (subst hq''))
      go_wp2_with fail
      go_ret2
      exact ⟨by rw [hr.out, Hsz.out]; simp [H1.out], below_on ((Below.refl _ _).alloc (Nat.le_refl _) _) (below_regrown _ _ _)⟩
  · have h0b : ((len : Int) == 0) = false := by simp [h0]
    have H0 := Lib.hid h0
    clear h0
    have hr := Lib.hid (show absOk false z (lo, hi) = _ from absOk_off)
    have k1 := cell_regrown (w := (w.alloc (.cells #[.bool false, .slice a len cap, .int .i64 lo, .int .i64 hi] 29))) (a := ⟨w.heap.size, 1, none⟩) (v := .slice a len cap) (by simp [go_sem])
    have k2 := cell_regrown (w := (w.alloc (.cells #[.bool false, .slice a len cap, .int .i64 lo, .int .i64 hi] 29))) (a := ⟨w.heap.size, 2, none⟩) (v := .int .i64 lo) (by simp [go_sem])
    have k3 := cell_regrown (w := (w.alloc (.cells #[.bool false, .slice a len cap, .int .i64 lo, .int .i64 hi] 29))) (a := ⟨w.heap.size, 3, none⟩) (v := .int .i64 hi) (by simp [go_sem])
    go_enter Try.func31, Try.ntmps31
    go_wp2_with fail
    ((refine region_below (W0 := (w.alloc (.cells #[.bool false, .slice a len cap, .int .i64 lo, .int .i64 hi] 29))) mixed_ok (by kernel_rfl) (Below.refl _ _) ?_); (repeat (go_big_quiet_step (fail))); (refine wpQuiet_nil ?_); (intro _ hq'); (obtain ⟨⟨dq, osq⟩, hq''⟩ := hq'); (subst hq''))
    go_wp2_with fail
    go_ret2
    exact ⟨by rw [hr.out, Hsz.out]; simp [H0.out], below_on ((Below.refl _ _).alloc (Nat.le_refl _) _) (below_regrown _ _ _)⟩
end Go.Proofs.Ytdpooiiacdfpkaa
