/-
  Programs (slices of procs, each with a slice of instructions) in memory: how the laws weigh them, and PrgSize. No conditions but those that each theorem says.
-/
import Derived.Test.YthbbakmohcjblaaAbsIn2
namespace Go.Proofs.Ythbbakmohcjblaa
set_option linter.unusedSimpArgs false
set_option linter.unusedVariables false
open Go.ChangeShapes Go.WideShapes Go.ChangeAt Go.RowKit Go.Sort

/-- A proc: its bounds, its code's slice. -/
structure Prc where
  lo : Int
  hi : Int
  b : Option Addr
  n : Nat
  c : Nat
/-- A slice of procs reads so (the procs' own three cells). -/
def RdP (w : World) (a : Option Addr) (len : Nat) (P : Nat → Prc) : Prop := len = 0 ∨ ∃ x, a = some x ∧ ∀ i, i < len → w.cell? (x.add (i * 3)) = some (.int .i64 (P i).lo) ∧ w.cell? ⟨(x.add (i * 3)).block, (x.add (i * 3)).off + 1, none⟩ = some (.int .i64 (P i).hi) ∧ w.cell? ⟨(x.add (i * 3)).block, (x.add (i * 3)).off + 2, none⟩ = some (.slice (P i).b (P i).n (P i).c)
theorem RdP.below {w w' : World} {a : Option Addr} {len : Nat} {P : Nat → Prc} (h : RdP w a len P) (hb : Below w.heap.size w w') : RdP w' a len P := by
  rcases h with h | ⟨x, rfl, h⟩
  · exact .inl h
  · refine .inr ⟨x, rfl, fun i hi => ?_⟩
    obtain ⟨h1, h2, h3⟩ := h i hi
    exact ⟨(hb.cell (World.block_lt_of_cell? w _ h1)).trans h1, (hb.cell (World.block_lt_of_cell? w _ h2)).trans h2, (hb.cell (World.block_lt_of_cell? w _ h3)).trans h3⟩
theorem RdP.some {w : World} {a : Option Addr} {len : Nat} {P : Nat → Prc} (h : RdP w a len P) (hl : 0 < len) : ∃ x, a = some x ∧ ∀ i, i < len → w.cell? (x.add (i * 3)) = some (.int .i64 (P i).lo) ∧ w.cell? ⟨(x.add (i * 3)).block, (x.add (i * 3)).off + 1, none⟩ = some (.int .i64 (P i).hi) ∧ w.cell? ⟨(x.add (i * 3)).block, (x.add (i * 3)).off + 2, none⟩ = some (.slice (P i).b (P i).n (P i).c) := by
  rcases h with h | h
  · omega
  · exact h
/-- The first k procs' instructions. -/
def sumP (P : Nat → Prc) : Nat → Nat
  | 0 => 0
  | k + 1 => sumP P k + (P k).n
theorem sumP_mono (P : Nat → Prc) {k l : Nat} (h : k ≤ l) : sumP P k ≤ sumP P l := by
  induction l with
  | zero => obtain rfl : k = 0 := by omega
            exact Nat.le_refl _
  | succ l ih =>
    rcases Nat.lt_or_ge l k with h1 | h1
    · obtain rfl : k = l + 1 := by omega
      exact Nat.le_refl _
    · exact Nat.le_trans (ih h1) (Nat.le_add_right _ _)
set_option maxHeartbeats 1000000 in
theorem szInsS_ok (a : Option Addr) (len cap : Nat) (n r : Int) (hr : r = n - len) (h0 : 0 ≤ r) (hn : n ≤ 1048576) (w : World) : Calls Try.prog 65 #[.slice a len cap, .int .i64 n] w fun e w' => e = .returned (.int .i64 r) ∧ w = w' := by
  have hk : (len : Int) ≤ n := by omega
  have hr' : n - (len : Int) = r := hr.symm
  have Hr := Lib.hid hr
  clear hr hr'
  have h1 : ¬ n - (len : Int) < 0 := by omega
  go_enter Try.func65, Try.ntmps65
  go_wp2_with fail
  all_goals go_ret
  all_goals exact ⟨by rw [Hr.out]; rfl, rfl⟩
set_option maxHeartbeats 1000000 in
theorem szInsS_no (a : Option Addr) (len cap : Nat) (n : Int) (h0 : 0 ≤ n) (hn : n ≤ 1048576) (hl : n < len) (hm : len ≤ maxLen) (w : World) : Calls Try.prog 65 #[.slice a len cap, .int .i64 n] w fun e w' => e = .returned (.int .i64 (-1)) ∧ w = w' := by
  unfold maxLen at hm
  have h1 : n - (len : Int) < 0 := by omega
  go_enter Try.func65, Try.ntmps65
  go_wp2_with fail
  all_goals go_ret
  all_goals exact ⟨rfl, rfl⟩
set_option maxHeartbeats 1000000 in
theorem szPrc_ok (lo hi : Int) (a : Option Addr) (len cap : Nat) (n r : Int) (hr : r = n - len) (h0 : 0 ≤ r) (hn : n ≤ 1048576) (w : World) : Calls Try.prog 58 #[.agg #[.int .i64 lo, .int .i64 hi, .slice a len cap], .int .i64 n] w fun e w' => e = .returned (.int .i64 r) ∧ Below w.heap.size w w' := by
  have Hr := Lib.hid hr
  clear hr
  have h1 : ¬ r < 0 := by omega
  go_enter Try.func58, Try.ntmps58
  go_wp2_with (go_at_call 65; refine (szInsS_ok _ _ _ _ r Hr.out h0 hn _).mono ?_; rintro e w' ⟨rfl, rfl⟩)
  all_goals (go_ret; exact ⟨rfl, by go_grown⟩)
set_option maxHeartbeats 1000000 in
theorem szPrc_no (lo hi : Int) (a : Option Addr) (len cap : Nat) (n : Int) (h0 : 0 ≤ n) (hn : n ≤ 1048576) (hl : n < len) (hm : len ≤ maxLen) (w : World) : Calls Try.prog 58 #[.agg #[.int .i64 lo, .int .i64 hi, .slice a len cap], .int .i64 n] w fun e w' => e = .returned (.int .i64 (-1)) ∧ Below w.heap.size w w' := by
  go_enter Try.func58, Try.ntmps58
  go_wp2_with (go_at_call 65; refine (szInsS_no _ _ _ _ h0 hn hl hm _).mono ?_; rintro e w' ⟨rfl, rfl⟩)
  all_goals (go_ret; exact ⟨rfl, by go_grown⟩)
set_option maxRecDepth 100000 in
set_option maxHeartbeats 4000000 in
theorem szPrcS_ok (a : Option Addr) (len cap : Nat) (P : Nat → Prc) (n r : Int) (hr : r = n - len - sumP P len) (h0 : 0 ≤ r) (hn : n ≤ 1048576) (w : World) (hp : RdP w a len P) : Calls Try.prog 44 #[.slice a len cap, .int .i64 n] w fun e w' => e = .returned (.int .i64 r) ∧ Below w.heap.size w w' := by
  have HP := Lib.hid hp
  have Hr := Lib.hid hr
  have hln : (len : Int) ≤ n := by omega
  obtain ⟨m0, hm0⟩ : ∃ m0, m0 = n - (len : Int) := ⟨_, rfl⟩
  have hp0 : 0 ≤ n - (len : Int) := by omega
  have HM := Lib.hid hm0
  clear hp hr hm0
  go_enter Try.func44, Try.ntmps44
  go_wp2_with fail
  go_loopw [1, 5] (fun m i wr => ∃ (k : Nat) (M : Int), k ≤ len ∧ i = .int .i64 k ∧ m = .int .i64 M ∧ Hid (M = n - len - sumP P k) ∧ Below w.heap.size w wr) (fun _ i _ => len - (intOf i).toNat)
  case atStart => exact ⟨0, _, by omega, rfl, rfl, Lib.hid (by simp [sumP]), Below.refl _ _⟩
  case round =>
    obtain ⟨k, M, hk, rfl, rfl, hM, hS⟩ := hrel
    by_cases hlt : k < len
    · obtain ⟨x, rfl, hx⟩ := (HP.out.below hS).some (by omega)
      obtain ⟨e0, e1, e2⟩ := hx k hlt
      clear hx
      have h1 := sumP_mono P (k := k + 1) (l := len) (by omega)
      have hs : sumP P (k + 1) = sumP P k + (P k).n := rfl
      have h2 := hM.out
      have h3 := Hr.out
      obtain ⟨M2, hM2⟩ : ∃ M2, M2 = M - (P k).n := ⟨_, rfl⟩
      have hM3 := Lib.hid (show M2 = n - len - sumP P (k + 1) by rw [hs]; omega)
      have hp2 : 0 ≤ M2 := by have := hM3.out; omega
      have hMle : M ≤ 1048576 := by omega
      have H2 := Lib.hid hM2
      obtain ⟨⟨pl, ph, pb, pn, pc⟩, hq⟩ : ∃ q, q = P k := ⟨_, rfl⟩
      rw [← hq] at e0 e1 e2 H2
      simp only at e0 e1 e2 H2
      clear h1 hs h2 h3 hM2 hq
      have j0 : ¬ M2 < 0 := by omega
      go_wp2_with (go_at_call 58; refine (szPrc_ok _ _ _ _ _ _ M2 H2.out hp2 hMle _).mono ?_; rintro e w2 ⟨rfl, hb⟩; have hS2 := below_on hS hb; clear hb)
      go_roundw
      case rel => exact ⟨k + 1, M2, by omega, by go_num, rfl, hM3, hS2⟩
      case measure => simp [intOf] <;> omega
    · obtain rfl : k = len := by omega
      go_wp2_with fail
      go_ret
      exact ⟨by rw [show r = M from Hr.out.trans hM.out.symm]; rfl, hS⟩
set_option maxRecDepth 100000 in
set_option maxHeartbeats 4000000 in
theorem prgSize_s (a : Option Addr) (len cap : Nat) (P : Nat → Prc) (w : World) (hp : RdP w a len P) (hl : len ≤ 1048576) (hs : sumP P len ≤ 1048576) : Calls Try.prog 21 #[.agg #[.slice a len cap]] w fun e w' => e = .returned (.int .i64 (sumP P len)) ∧ Below w.heap.size w w' := by
  have HP := Lib.hid hp
  clear hp
  go_enter Try.func21, Try.ntmps21
  go_wp2_with fail
  go_loopw [3, 4] (fun m i wr => ∃ (k M : Nat), k ≤ len ∧ i = .int .i64 k ∧ m = .int .i64 M ∧ Hid (M = sumP P k) ∧ Below w.heap.size w wr ∧ wr.cell? ⟨w.heap.size, 0, none⟩ = some (.slice a len cap)) (fun _ i _ => len - (intOf i).toNat)
  case atStart => exact ⟨0, 0, by omega, rfl, rfl, Lib.hid rfl, by go_grown, by simp [go_sem]⟩
  case round =>
    obtain ⟨k, M, hk, rfl, rfl, hM, hS, hbx⟩ := hrel
    by_cases hlt : k < len
    · obtain ⟨x, rfl, hx⟩ := (HP.out.below hS).some (by omega)
      obtain ⟨e0, e1, e2⟩ := hx k hlt
      clear hx
      have h1 := sumP_mono P (k := k + 1) (l := len) (by omega)
      have hs2 : sumP P (k + 1) = sumP P k + (P k).n := rfl
      have h2 := hM.out
      have hM3 := Lib.hid (show M + (P k).n = sumP P (k + 1) by omega)
      have hle : M + (P k).n ≤ 1048576 := by omega
      obtain ⟨⟨pl, ph, pb, pn, pc⟩, hq⟩ : ∃ q, q = P k := ⟨_, rfl⟩
      rw [← hq] at e0 e1 e2 hM3 hle
      simp only at e0 e1 e2 hM3 hle
      have j0 : (0 : Int) ≤ k := by omega
      have j1 : (k : Int) < len := by omega
      clear h1 hs2 h2 hq
      go_wp2_with fail
      go_roundw
      case rel => exact ⟨k + 1, M + pn, by omega, by go_num, by go_num, hM3, hS, hbx⟩
      case measure => simp [intOf] <;> omega
    · obtain rfl : k = len := by omega
      go_wp2_with fail
      go_ret
      exact ⟨by rw [← hM.out]; rfl, hS⟩
end Go.Proofs.Ythbbakmohcjblaa
