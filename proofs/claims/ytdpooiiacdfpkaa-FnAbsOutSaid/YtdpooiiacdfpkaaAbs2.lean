/-
  Abstract states by value, on: how the laws weigh and compare them, and when a state is ok. No conditions but those that each theorem says.
-/
import Derived.Test.YtdpooiiacdfpkaaAbs
namespace Go.Proofs.Ytdpooiiacdfpkaa
set_option linter.unusedSimpArgs false
set_option linter.unusedVariables false
open Go.ChangeShapes Go.WideShapes Go.ChangeAt Go.RowKit Go.Sort

theorem eqItv_same (lo hi : Int) (w : World) : Calls Try.prog 45 #[.agg #[.int .i64 lo, .int .i64 hi], .agg #[.int .i64 lo, .int .i64 hi]] w fun e w' => e = .returned (.bool true) ∧ Below w.heap.size w w' := by
  have k := eqItv_l lo hi lo hi w
  rw [show (lo == lo && hi == hi) = true by simp] at k
  exact k
set_option maxHeartbeats 2000000 in
theorem szItvS_l (a : Option Addr) (len cap : Nat) (n : Int) (hn : 0 ≤ n ∧ n ≤ 1048576) (hl : len ≤ maxLen) (w : World) : Calls Try.prog 37 #[.slice a len cap, .int .i64 n] w fun e w' => e = .returned (.int .i64 (if n < len then -1 else n - len)) ∧ w = w' := by
  unfold maxLen at hl
  by_cases h : n < len
  all_goals
    go_enter Try.func37, Try.ntmps37
    go_wp2_with fail
    all_goals go_ret
    all_goals (refine ⟨?_, rfl⟩; simp only [h, if_true, if_false])
    all_goals rfl
set_option maxHeartbeats 2000000 in
theorem szAbs_l (on : Bool) (a : Option Addr) (len cap : Nat) (lo hi n : Int) (hn : 0 ≤ n ∧ n ≤ 1048576) (hl : len ≤ maxLen) (w : World) : Calls Try.prog 13 #[.agg #[.bool on, .slice a len cap, .int .i64 lo, .int .i64 hi], .int .i64 n] w fun e w' => e = .returned (.int .i64 (if n < len then -1 else n - len)) ∧ Below w.heap.size w w' := by
  obtain ⟨r, hr⟩ : ∃ r : Int, r = if n < len then -1 else n - len := ⟨_, rfl⟩
  have Hr := Lib.hid hr.symm
  have hrr : r = -1 ∨ 0 ≤ r := by rw [hr]; split <;> omega
  rw [← hr]
  clear hr
  rcases hrr with rfl | h
  all_goals
    go_enter Try.func13, Try.ntmps13
    go_wp2_with (go_at_call 37; refine (szItvS_l _ _ _ _ hn hl _).mono ?_; rw [Hr.out]; rintro e w' ⟨rfl, rfl⟩)
    all_goals (go_ret; exact ⟨rfl, by go_grown⟩)
set_option maxRecDepth 100000 in
set_option maxHeartbeats 4000000 in
theorem eqItvS_l (a b : Option Addr) (len ca cb : Nat) (z : List (Int × Int)) (w : World) (ha : RdI w a len z) (hb : RdI w b len z) (hl : len ≤ 1048576) : Calls Try.prog 44 #[.slice a len ca, .slice b len cb] w fun e w' => e = .returned (.bool true) ∧ Below w.heap.size w w' := by
  have HA := Lib.hid ha
  have HB := Lib.hid hb
  have hlk : (len : Int) ≤ 1048576 := by omega
  clear ha hb
  go_enter Try.func44, Try.ntmps44
  go_wp2_with fail
  go_loopw [5] (fun i wr => ∃ k : Nat, k ≤ len ∧ i = .int .i64 k ∧ Below w.heap.size w wr) (fun i _ => len - (intOf i).toNat)
  case atStart => exact ⟨0, by omega, rfl, Below.refl _ _⟩
  case round =>
    obtain ⟨k, hk, rfl, hS⟩ := hrel
    by_cases hlt : k < len
    · obtain ⟨x, rfl, hx⟩ : ∃ x, a = some x ∧ ∀ i, i < len → w.cell? (x.add (i * 2)) = some (.int .i64 (z.getD i (0, 0)).1) ∧ w.cell? ⟨(x.add (i * 2)).block, (x.add (i * 2)).off + 1, none⟩ = some (.int .i64 (z.getD i (0, 0)).2) := by
        rcases HA.out.2 with h | h
        · omega
        · exact h
      obtain ⟨y, rfl, hy⟩ : ∃ x, b = some x ∧ ∀ i, i < len → w.cell? (x.add (i * 2)) = some (.int .i64 (z.getD i (0, 0)).1) ∧ w.cell? ⟨(x.add (i * 2)).block, (x.add (i * 2)).off + 1, none⟩ = some (.int .i64 (z.getD i (0, 0)).2) := by
        rcases HB.out.2 with h | h
        · omega
        · exact h
      obtain ⟨hx0, hx1⟩ := hx k hlt
      obtain ⟨hy0, hy1⟩ := hy k hlt
      obtain ⟨⟨lo, hi'⟩, hq⟩ : ∃ q, q = z.getD k (0, 0) := ⟨_, rfl⟩
      rw [← hq] at hx0 hx1 hy0 hy1
      simp only at hx0 hx1 hy0 hy1
      clear hq hx hy
      have kx0 := cell_regrown hx0
      have kx1 := cell_regrown hx1
      have ky0 := cell_regrown hy0
      have ky1 := cell_regrown hy1
      have j0 : (0 : Int) ≤ k := by omega
      have j1 : (k : Int) < len := by omega
      clear hx0 hx1 hy0 hy1
      go_wp2_with fail
      ((refine region_below (W0 := w) mixed_ok (by kernel_rfl) hS ?_); (repeat (go_big_quiet_step ((go_at_call 45; with_reducible exact Calls.regrown_of (eqItv_same _ _ _))))); (refine wpQuiet_nil ?_); (intro _ hq'); (obtain ⟨⟨dq, osq⟩, hq''⟩ := hq'); (subst hq''))
      go_wp2_with fail
      go_roundw
      case rel => exact ⟨k + 1, by omega, by go_num, below_regrown _ _ _⟩
      case measure => simp [intOf] <;> omega
    · go_wp2_with fail
      go_ret
      exact ⟨rfl, hS⟩
set_option maxRecDepth 100000 in
set_option maxHeartbeats 4000000 in
theorem eqAbs_l (on : Bool) (a b : Option Addr) (len ca cb : Nat) (lo hi : Int) (z : List (Int × Int)) (w : World) (ha : RdI w a len z) (hb : RdI w b len z) (hl : len ≤ 1048576) : Calls Try.prog 17 #[.agg #[.bool on, .slice a len ca, .int .i64 lo, .int .i64 hi], .agg #[.bool on, .slice b len cb, .int .i64 lo, .int .i64 hi]] w fun e w' => e = .returned (.bool true) ∧ Below w.heap.size w w' := by
  have HA := Lib.hid ha
  have HB := Lib.hid hb
  clear ha hb
  go_enter Try.func17, Try.ntmps17
  go_wp2_with (first
    | (go_at_call 44; refine (eqItvS_l _ _ _ _ _ z _ ((HA.out.alloc _).alloc _) ((HB.out.alloc _).alloc _) hl).mono ?_; rintro e w' ⟨rfl, hb⟩; have hs0 := hb.size; have hB : Below w.heap.size w w' := below_on (by ((try go_split_ands); go_grown)) hb; have hz := hB.size; have hc := bcell hb; (try simp only [World.size_alloc, World.size_setCell, World.size_drew] at hs0); (first | have m0 := up_7 m0 (show _ ≤ w'.heap.size by omega) | have m0 := up_6 m0 (show _ ≤ w'.heap.size by omega) | have m0 := up_5 m0 (show _ ≤ w'.heap.size by omega) | have m0 := up_4 m0 (show _ ≤ w'.heap.size by omega) | have m0 := up_3 m0 (show _ ≤ w'.heap.size by omega) | have m0 := up_2 m0 (show _ ≤ w'.heap.size by omega) | have m0 := up_1 m0 (show _ ≤ w'.heap.size by omega) | skip); (first | have m1 := up_7 m1 (show _ ≤ w'.heap.size by omega) | have m1 := up_6 m1 (show _ ≤ w'.heap.size by omega) | have m1 := up_5 m1 (show _ ≤ w'.heap.size by omega) | have m1 := up_4 m1 (show _ ≤ w'.heap.size by omega) | have m1 := up_3 m1 (show _ ≤ w'.heap.size by omega) | have m1 := up_2 m1 (show _ ≤ w'.heap.size by omega) | have m1 := up_1 m1 (show _ ≤ w'.heap.size by omega) | skip); (first | have m2 := up_7 m2 (show _ ≤ w'.heap.size by omega) | have m2 := up_6 m2 (show _ ≤ w'.heap.size by omega) | have m2 := up_5 m2 (show _ ≤ w'.heap.size by omega) | have m2 := up_4 m2 (show _ ≤ w'.heap.size by omega) | have m2 := up_3 m2 (show _ ≤ w'.heap.size by omega) | have m2 := up_2 m2 (show _ ≤ w'.heap.size by omega) | have m2 := up_1 m2 (show _ ≤ w'.heap.size by omega) | skip); (first | have m3 := up_7 m3 (show _ ≤ w'.heap.size by omega) | have m3 := up_6 m3 (show _ ≤ w'.heap.size by omega) | have m3 := up_5 m3 (show _ ≤ w'.heap.size by omega) | have m3 := up_4 m3 (show _ ≤ w'.heap.size by omega) | have m3 := up_3 m3 (show _ ≤ w'.heap.size by omega) | have m3 := up_2 m3 (show _ ≤ w'.heap.size by omega) | have m3 := up_1 m3 (show _ ≤ w'.heap.size by omega) | skip); (first | have m4 := up_7 m4 (show _ ≤ w'.heap.size by omega) | have m4 := up_6 m4 (show _ ≤ w'.heap.size by omega) | have m4 := up_5 m4 (show _ ≤ w'.heap.size by omega) | have m4 := up_4 m4 (show _ ≤ w'.heap.size by omega) | have m4 := up_3 m4 (show _ ≤ w'.heap.size by omega) | have m4 := up_2 m4 (show _ ≤ w'.heap.size by omega) | have m4 := up_1 m4 (show _ ≤ w'.heap.size by omega) | skip); (first | have m5 := up_7 m5 (show _ ≤ w'.heap.size by omega) | have m5 := up_6 m5 (show _ ≤ w'.heap.size by omega) | have m5 := up_5 m5 (show _ ≤ w'.heap.size by omega) | have m5 := up_4 m5 (show _ ≤ w'.heap.size by omega) | have m5 := up_3 m5 (show _ ≤ w'.heap.size by omega) | have m5 := up_2 m5 (show _ ≤ w'.heap.size by omega) | have m5 := up_1 m5 (show _ ≤ w'.heap.size by omega) | skip); (first | (have mm := lt_7 hs0; (try have m5 := m4); (try have m4 := m3); (try have m3 := m2); (try have m2 := m1); (try have m1 := m0); have m0 := mm) | (have mm := lt_6 hs0; (try have m5 := m4); (try have m4 := m3); (try have m3 := m2); (try have m2 := m1); (try have m1 := m0); have m0 := mm) | (have mm := lt_5 hs0; (try have m5 := m4); (try have m4 := m3); (try have m3 := m2); (try have m2 := m1); (try have m1 := m0); have m0 := mm) | (have mm := lt_4 hs0; (try have m5 := m4); (try have m4 := m3); (try have m3 := m2); (try have m2 := m1); (try have m1 := m0); have m0 := mm) | (have mm := lt_3 hs0; (try have m5 := m4); (try have m4 := m3); (try have m3 := m2); (try have m2 := m1); (try have m1 := m0); have m0 := mm) | (have mm := lt_2 hs0; (try have m5 := m4); (try have m4 := m3); (try have m3 := m2); (try have m2 := m1); (try have m1 := m0); have m0 := mm) | (have mm := lt_1 hs0; (try have m5 := m4); (try have m4 := m3); (try have m3 := m2); (try have m2 := m1); (try have m1 := m0); have m0 := mm) | skip); clear hs0; clear hb)
    | (go_at_call 45; refine (eqItv_same _ _ _).mono ?_; rintro e w' ⟨rfl, hb⟩; have hs0 := hb.size; have hB : Below w.heap.size w w' := below_on (by ((try go_split_ands); go_grown)) hb; have hz := hB.size; have hc := bcell hb; (try simp only [World.size_alloc, World.size_setCell, World.size_drew] at hs0); (first | have m0 := up_7 m0 (show _ ≤ w'.heap.size by omega) | have m0 := up_6 m0 (show _ ≤ w'.heap.size by omega) | have m0 := up_5 m0 (show _ ≤ w'.heap.size by omega) | have m0 := up_4 m0 (show _ ≤ w'.heap.size by omega) | have m0 := up_3 m0 (show _ ≤ w'.heap.size by omega) | have m0 := up_2 m0 (show _ ≤ w'.heap.size by omega) | have m0 := up_1 m0 (show _ ≤ w'.heap.size by omega) | skip); (first | have m1 := up_7 m1 (show _ ≤ w'.heap.size by omega) | have m1 := up_6 m1 (show _ ≤ w'.heap.size by omega) | have m1 := up_5 m1 (show _ ≤ w'.heap.size by omega) | have m1 := up_4 m1 (show _ ≤ w'.heap.size by omega) | have m1 := up_3 m1 (show _ ≤ w'.heap.size by omega) | have m1 := up_2 m1 (show _ ≤ w'.heap.size by omega) | have m1 := up_1 m1 (show _ ≤ w'.heap.size by omega) | skip); (first | have m2 := up_7 m2 (show _ ≤ w'.heap.size by omega) | have m2 := up_6 m2 (show _ ≤ w'.heap.size by omega) | have m2 := up_5 m2 (show _ ≤ w'.heap.size by omega) | have m2 := up_4 m2 (show _ ≤ w'.heap.size by omega) | have m2 := up_3 m2 (show _ ≤ w'.heap.size by omega) | have m2 := up_2 m2 (show _ ≤ w'.heap.size by omega) | have m2 := up_1 m2 (show _ ≤ w'.heap.size by omega) | skip); (first | have m3 := up_7 m3 (show _ ≤ w'.heap.size by omega) | have m3 := up_6 m3 (show _ ≤ w'.heap.size by omega) | have m3 := up_5 m3 (show _ ≤ w'.heap.size by omega) | have m3 := up_4 m3 (show _ ≤ w'.heap.size by omega) | have m3 := up_3 m3 (show _ ≤ w'.heap.size by omega) | have m3 := up_2 m3 (show _ ≤ w'.heap.size by omega) | have m3 := up_1 m3 (show _ ≤ w'.heap.size by omega) | skip); (first | have m4 := up_7 m4 (show _ ≤ w'.heap.size by omega) | have m4 := up_6 m4 (show _ ≤ w'.heap.size by omega) | have m4 := up_5 m4 (show _ ≤ w'.heap.size by omega) | have m4 := up_4 m4 (show _ ≤ w'.heap.size by omega) | have m4 := up_3 m4 (show _ ≤ w'.heap.size by omega) | have m4 := up_2 m4 (show _ ≤ w'.heap.size by omega) | have m4 := up_1 m4 (show _ ≤ w'.heap.size by omega) | skip); (first | have m5 := up_7 m5 (show _ ≤ w'.heap.size by omega) | have m5 := up_6 m5 (show _ ≤ w'.heap.size by omega) | have m5 := up_5 m5 (show _ ≤ w'.heap.size by omega) | have m5 := up_4 m5 (show _ ≤ w'.heap.size by omega) | have m5 := up_3 m5 (show _ ≤ w'.heap.size by omega) | have m5 := up_2 m5 (show _ ≤ w'.heap.size by omega) | have m5 := up_1 m5 (show _ ≤ w'.heap.size by omega) | skip); (first | (have mm := lt_7 hs0; (try have m5 := m4); (try have m4 := m3); (try have m3 := m2); (try have m2 := m1); (try have m1 := m0); have m0 := mm) | (have mm := lt_6 hs0; (try have m5 := m4); (try have m4 := m3); (try have m3 := m2); (try have m2 := m1); (try have m1 := m0); have m0 := mm) | (have mm := lt_5 hs0; (try have m5 := m4); (try have m4 := m3); (try have m3 := m2); (try have m2 := m1); (try have m1 := m0); have m0 := mm) | (have mm := lt_4 hs0; (try have m5 := m4); (try have m4 := m3); (try have m3 := m2); (try have m2 := m1); (try have m1 := m0); have m0 := mm) | (have mm := lt_3 hs0; (try have m5 := m4); (try have m4 := m3); (try have m3 := m2); (try have m2 := m1); (try have m1 := m0); have m0 := mm) | (have mm := lt_2 hs0; (try have m5 := m4); (try have m4 := m3); (try have m3 := m2); (try have m2 := m1); (try have m1 := m0); have m0 := mm) | (have mm := lt_1 hs0; (try have m5 := m4); (try have m4 := m3); (try have m3 := m2); (try have m2 := m1); (try have m1 := m0); have m0 := mm) | skip); clear hs0; clear hb))
  all_goals (go_ret; exact ⟨rfl, by ((try go_split_ands); go_grown)⟩)
end Go.Proofs.Ytdpooiiacdfpkaa
