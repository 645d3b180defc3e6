/-
  When an abstract state has numbers: the program's AbsHas, whole. No conditions but those that each theorem says.
-/
import Derived.Test.YthbbakmohcjblaaAbsHas3
namespace Go.Proofs.Ythbbakmohcjblaa
set_option linter.unusedSimpArgs false
set_option linter.unusedVariables false
open Go.ChangeShapes Go.WideShapes Go.ChangeAt Go.RowKit Go.Sort

set_option maxRecDepth 100000 in
set_option maxHeartbeats 8000000 in
theorem absHas_i0 (on : Bool) (a : Option Addr) (len cap : Nat) (lo hi : Int) (z : List (Int × Int)) (b : Option Addr) (len1 cap1 : Nat) (n1 : List Int) (d : Option Addr) (len2 cap2 : Nat) (n2 : List Int) (w : World) (hz : RdI w a len z) (hl : len ≤ 1048576) (ha : AtHead a len cap) (hb : RdN w b len1 n1) (hd : RdN w d len2 n2) (hl1 : len1 ≤ 1048576) (hl2 : len2 ≤ 1048576) (h0 : absOk on z (lo, hi) = false) :
    Calls Try.prog 30 #[.agg #[.bool on, .slice a len cap, .int .i64 lo, .int .i64 hi], .slice b len1 cap1, .slice d len2 cap2] w fun e w' => e = .returned (.bool false) ∧ Below w.heap.size w w' := by
  have HZ := Lib.hid hz
  have HA := Lib.hid ha
  have HB := Lib.hid hb
  have HD := Lib.hid hd
  clear hz ha hb hd
  have H0 := Lib.hid h0
  clear h0
  go_enter Try.func30, Try.ntmps30
  go_wp2_with (go_at_call 37; refine (rs_any H0.out _ (HZ.out.below ((Below.refl w.heap.size w).alloc (Nat.le_refl _) _)) hl HA.out).mono ?_; rintro e w1 ⟨p, rfl, hb⟩; have hS : Below w.heap.size w w1 := below_on ((Below.refl w.heap.size w).alloc (Nat.le_refl _) _) hb; clear hb)
  all_goals (go_ret; exact ⟨rfl, by first | exact hS | exact hS.alloc hS.size _⟩)
set_option maxRecDepth 100000 in
set_option maxHeartbeats 8000000 in
theorem absHas_i1 (a : Option Addr) (len cap : Nat) (lo hi : Int) (z : List (Int × Int)) (b : Option Addr) (len1 cap1 : Nat) (n1 : List Int) (d : Option Addr) (len2 cap2 : Nat) (n2 : List Int) (w : World) (hz : RdI w a len z) (hl : len ≤ 1048576) (ha : AtHead a len cap) (hb : RdN w b len1 n1) (hd : RdN w d len2 n2) (hl1 : len1 ≤ 1048576) (hl2 : len2 ≤ 1048576) (h0 : absOk false z (lo, hi) = true) :
    Calls Try.prog 30 #[.agg #[.bool false, .slice a len cap, .int .i64 lo, .int .i64 hi], .slice b len1 cap1, .slice d len2 cap2] w fun e w' => e = .returned (.bool false) ∧ Below w.heap.size w w' := by
  have HZ := Lib.hid hz
  have HA := Lib.hid ha
  have HB := Lib.hid hb
  have HD := Lib.hid hd
  clear hz ha hb hd
  have H0 := Lib.hid h0
  clear h0
  go_enter Try.func30, Try.ntmps30
  go_wp2_with (go_at_call 37; refine (rs_off H0.out _ (HZ.out.below ((Below.refl w.heap.size w).alloc (Nat.le_refl _) _)) hl).mono ?_; rintro e w1 ⟨rfl, hb⟩; have hS : Below w.heap.size w w1 := below_on ((Below.refl w.heap.size w).alloc (Nat.le_refl _) _) hb; clear hb)
  all_goals (go_ret; exact ⟨rfl, by first | exact hS | exact hS.alloc hS.size _⟩)
set_option maxRecDepth 100000 in
set_option maxHeartbeats 8000000 in
theorem absHas_i2 (a : Option Addr) (len cap : Nat) (lo hi : Int) (z : List (Int × Int)) (b : Option Addr) (len1 cap1 : Nat) (n1 : List Int) (d : Option Addr) (len2 cap2 : Nat) (n2 : List Int) (w : World) (hz : RdI w a len z) (hl : len ≤ 1048576) (ha : AtHead a len cap) (hb : RdN w b len1 n1) (hd : RdN w d len2 n2) (hl1 : len1 ≤ 1048576) (hl2 : len2 ≤ 1048576) (h0 : absOk true z (lo, hi) = true) (h1 : len1 ≠ 4) :
    Calls Try.prog 30 #[.agg #[.bool true, .slice a len cap, .int .i64 lo, .int .i64 hi], .slice b len1 cap1, .slice d len2 cap2] w fun e w' => e = .returned (.bool false) ∧ Below w.heap.size w w' := by
  have HZ := Lib.hid hz
  have HA := Lib.hid ha
  have HB := Lib.hid hb
  have HD := Lib.hid hd
  clear hz ha hb hd
  have H0 := Lib.hid h0
  clear h0
  have h1i : ((len1 : Int) == 4) = false := by rw [beq_eq_false_iff_ne]; omega
  have h1j : ((len1 : Int) != 4) = true := by simp [bne, h1i]
  have h1k : ¬ (len1 : Int) = 4 := by omega
  have h1l : ¬ len1 = 4 := h1
  clear h1
  go_enter Try.func30, Try.ntmps30
  go_wp2_with (go_at_call 37; refine (rs_on H0.out _ (HZ.out.below ((Below.refl w.heap.size w).alloc (Nat.le_refl _) _)) HA.out).mono ?_; rintro e w1 ⟨g, rfl, hst, hb⟩; have hS : Below w.heap.size w w1 := below_on ((Below.refl w.heap.size w).alloc (Nat.le_refl _) _) hb; clear hb hst)
  all_goals (go_ret; exact ⟨rfl, by first | exact hS | exact hS.alloc hS.size _⟩)
set_option maxRecDepth 100000 in
set_option maxHeartbeats 8000000 in
theorem absHas_i3 (a : Option Addr) (len cap : Nat) (lo hi : Int) (z : List (Int × Int)) (b : Option Addr) (len1 cap1 : Nat) (n1 : List Int) (d : Option Addr) (len2 cap2 : Nat) (n2 : List Int) (w : World) (hz : RdI w a len z) (hl : len ≤ 1048576) (ha : AtHead a len cap) (hb : RdN w b len1 n1) (hd : RdN w d len2 n2) (hl1 : len1 ≤ 1048576) (hl2 : len2 ≤ 1048576) (h0 : absOk true z (lo, hi) = true) (h1 : len1 = 4) (h2 : len2 ≠ 4) :
    Calls Try.prog 30 #[.agg #[.bool true, .slice a len cap, .int .i64 lo, .int .i64 hi], .slice b len1 cap1, .slice d len2 cap2] w fun e w' => e = .returned (.bool false) ∧ Below w.heap.size w w' := by
  have HZ := Lib.hid hz
  have HA := Lib.hid ha
  have HB := Lib.hid hb
  have HD := Lib.hid hd
  clear hz ha hb hd
  subst h1
  have H0 := Lib.hid h0
  clear h0
  have h2i : ((len2 : Int) == 4) = false := by rw [beq_eq_false_iff_ne]; omega
  have h2j : ((len2 : Int) != 4) = true := by simp [bne, h2i]
  have h2k : ¬ (len2 : Int) = 4 := by omega
  have h2l : ¬ len2 = 4 := h2
  clear h2
  go_enter Try.func30, Try.ntmps30
  go_wp2_with (go_at_call 37; refine (rs_on H0.out _ (HZ.out.below ((Below.refl w.heap.size w).alloc (Nat.le_refl _) _)) HA.out).mono ?_; rintro e w1 ⟨g, rfl, hst, hb⟩; have hS : Below w.heap.size w w1 := below_on ((Below.refl w.heap.size w).alloc (Nat.le_refl _) _) hb; clear hb hst)
  all_goals (go_ret; exact ⟨rfl, by first | exact hS | exact hS.alloc hS.size _⟩)
set_option maxRecDepth 100000 in
set_option maxHeartbeats 8000000 in
theorem absHas_i4 (a : Option Addr) (len cap : Nat) (lo hi : Int) (z : List (Int × Int)) (b : Option Addr) (len1 cap1 : Nat) (n1 : List Int) (d : Option Addr) (len2 cap2 : Nat) (n2 : List Int) (w : World) (hz : RdI w a len z) (hl : len ≤ 1048576) (ha : AtHead a len cap) (hb : RdN w b len1 n1) (hd : RdN w d len2 n2) (hl1 : len1 ≤ 1048576) (hl2 : len2 ≤ 1048576) (h0 : absOk true z (lo, hi) = true) (h1 : len1 = 4) (h2 : len2 = 4) :
    Calls Try.prog 30 #[.agg #[.bool true, .slice a len cap, .int .i64 lo, .int .i64 hi], .slice b len1 cap1, .slice d len2 cap2] w fun e w' => e = .returned (.bool (((List.range 4).all fun i => hasI (z.getD i (0, 0)) (n1.getD i 0)) && ((List.range 4).all fun i => hasI (lo, hi) (n2.getD i 0)))) ∧ Below w.heap.size w w' := by
  have HZ := Lib.hid hz
  have HA := Lib.hid ha
  have HB := Lib.hid hb
  have HD := Lib.hid hd
  clear hz ha hb hd
  subst h1 h2
  have H0 := Lib.hid h0
  clear h0
  go_enter Try.func30, Try.ntmps30
  go_wp2_with (go_at_call 37; refine (rs_on H0.out _ (HZ.out.below ((Below.refl w.heap.size w).alloc (Nat.le_refl _) _)) HA.out).mono ?_; rintro e w1 ⟨g, rfl, hst, hb⟩; have hS : Below w.heap.size w w1 := below_on ((Below.refl w.heap.size w).alloc (Nat.le_refl _) _) hb; clear hb)
  have hst1 := Lib.hid (hst.below ((Below.refl w1.heap.size w1).alloc (Nat.le_refl _) (.cells #[.pointer (some ⟨g, 0, none⟩)] 70)))
  clear hst
  go_loopw [34] (fun i wr => ∃ k : Nat, k ≤ 4 ∧ i = .int .i64 k ∧ Below w.heap.size w wr ∧ wr.cell? ⟨w1.heap.size, 0, none⟩ = some (.pointer (some ⟨g, 0, none⟩)) ∧ Hid (StAt wr g z lo hi) ∧ Hid (∀ j, j < k → hasI (z.getD j (0, 0)) (n1.getD j 0) = true)) (fun i _ => 4 - (intOf i).toNat)
  case atStart => exact ⟨0, by omega, rfl, hS.alloc hS.size _, by simp [go_sem], hst1, Lib.hid (fun j hj => by omega)⟩
  case round =>
    clear hst1 hS
    obtain ⟨k, hk, rfl, hS, hbx, hT, hH⟩ := hrel
    by_cases hlt : k < 4
    · obtain ⟨x1, rfl, hx1⟩ := (HB.out.below hS).some (by omega)
      obtain ⟨e0, e1⟩ := hT.out.1 k hlt
      have e2 := hx1 k hlt
      clear hx1
      obtain ⟨⟨l0, u0⟩, hq0⟩ : ∃ q, q = z.getD k (0, 0) := ⟨_, rfl⟩
      obtain ⟨m, hq1⟩ : ∃ q, q = n1.getD k 0 := ⟨_, rfl⟩
      rw [← hq0] at e0 e1
      rw [← hq1] at e2
      simp only at e0 e1
      have j0 : (0 : Int) ≤ k := by omega
      have j1 : (k : Int) < 4 := by omega
      rcases Bool.eq_false_or_eq_true (hasI (l0, u0) m) with ho | ho
      · have hH2 := Lib.hid (show ∀ j, j < k + 1 → hasI (z.getD j (0, 0)) (n1.getD j 0) = true from fun j hj => by
          by_cases e : j = k
          · subst e; rw [← hq0, ← hq1]; exact ho
          · exact hH.out j (by omega))
        have Ho := Lib.hid ho
        clear ho hq0 hq1
        go_wp2_with (go_at_call 50; refine (has_ix Ho.out _).mono ?_; rintro e w2 ⟨rfl, hb2⟩; replace hbx := (hb2.cell (blk hbx)).trans hbx; have hT2 := Lib.hid (hT.out.below hb2); have hS2 := below_on hS hb2; clear hb2)
        go_roundw
        case rel => exact ⟨k + 1, by omega, by go_num, hS2, hbx, hT2, hH2⟩
        case measure => simp [intOf] <;> omega
      · have hr1 := Lib.hid (all4_not (f := fun i => hasI (z.getD i (0, 0)) (n1.getD i 0)) hlt (by rw [← hq0, ← hq1]; exact ho))
        have Ho := Lib.hid ho
        clear ho hq0 hq1
        go_wp2_with (go_at_call 50; refine (has_ix Ho.out _).mono ?_; rintro e w2 ⟨rfl, hb2⟩; have hS2 := below_on hS hb2; clear hb2)
        go_ret
        exact ⟨ret_b (by rw [hr1.out, Bool.false_and]), hS2⟩
    · obtain rfl : k = 4 := by omega
      have hr1 := Lib.hid (all4_yes (f := fun i => hasI (z.getD i (0, 0)) (n1.getD i 0)) hH.out)
      obtain ⟨y, hy⟩ : ∃ y, ((List.range 4).all fun i => hasI (lo, hi) (n2.getD i 0)) = y := ⟨_, rfl⟩
      have HY := Lib.hid hy
      clear hy
      go_wp2_with (go_at_call 51; refine (containsNot _ HY.out (HD.out.below hS) hbx hT.out.2.1 hT.out.2.2).mono ?_; rintro e w2 ⟨rfl, hb2⟩; have hS2 := below_on hS hb2; clear hb2)
      go_ret
      exact ⟨ret_b (by rw [hr1.out, HY.out]; simp), hS2⟩
set_option maxRecDepth 100000 in
set_option maxHeartbeats 8000000 in
theorem absHas_i (on : Bool) (a : Option Addr) (len cap : Nat) (lo hi : Int) (z : List (Int × Int)) (b : Option Addr) (len1 cap1 : Nat) (n1 : List Int) (d : Option Addr) (len2 cap2 : Nat) (n2 : List Int) (w : World) (hz : RdI w a len z) (hl : len ≤ 1048576) (ha : AtHead a len cap) (hb : RdN w b len1 n1) (hd : RdN w d len2 n2) (hl1 : len1 ≤ 1048576) (hl2 : len2 ≤ 1048576) :
    Calls Try.prog 30 #[.agg #[.bool on, .slice a len cap, .int .i64 lo, .int .i64 hi], .slice b len1 cap1, .slice d len2 cap2] w fun e w' => e = .returned (.bool (absHas on z (lo, hi) len1 n1 len2 n2)) ∧ Below w.heap.size w w' := by
  rcases Bool.eq_false_or_eq_true (absOk on z (lo, hi)) with h0 | h0
  · cases on with
    | false =>
      rw [show absHas false z (lo, hi) len1 n1 len2 n2 = false by simp [absHas]]
      exact absHas_i1 a len cap lo hi z b len1 cap1 n1 d len2 cap2 n2 w hz hl ha hb hd hl1 hl2 h0
    | true =>
      by_cases h1 : len1 = 4
      · by_cases h2 : len2 = 4
        · rw [show absHas true z (lo, hi) len1 n1 len2 n2 = (((List.range 4).all fun i => hasI (z.getD i (0, 0)) (n1.getD i 0)) && ((List.range 4).all fun i => hasI (lo, hi) (n2.getD i 0))) by simp only [absHas, h0, h1, h2, decide_true, Bool.true_and]]
          exact absHas_i4 a len cap lo hi z b len1 cap1 n1 d len2 cap2 n2 w hz hl ha hb hd hl1 hl2 h0 h1 h2
        · rw [show absHas true z (lo, hi) len1 n1 len2 n2 = false by simp [absHas, h2]]
          exact absHas_i3 a len cap lo hi z b len1 cap1 n1 d len2 cap2 n2 w hz hl ha hb hd hl1 hl2 h0 h1 h2
      · rw [show absHas true z (lo, hi) len1 n1 len2 n2 = false by simp [absHas, h1]]
        exact absHas_i2 a len cap lo hi z b len1 cap1 n1 d len2 cap2 n2 w hz hl ha hb hd hl1 hl2 h0 h1
  · rw [show absHas on z (lo, hi) len1 n1 len2 n2 = false by simp [absHas, h0]]
    exact absHas_i0 on a len cap lo hi z b len1 cap1 n1 d len2 cap2 n2 w hz hl ha hb hd hl1 hl2 h0
end Go.Proofs.Ythbbakmohcjblaa
