/-
  Programs in memory, on: the weighing that fails, the program's PrgSize. No conditions but those that each theorem says.
-/
import Derived.Test.YthbbakmohcjblaaPrg
namespace Go.Proofs.Ythbbakmohcjblaa
set_option linter.unusedSimpArgs false
set_option linter.unusedVariables false
open Go.ChangeShapes Go.WideShapes Go.ChangeAt Go.RowKit Go.Sort

set_option maxRecDepth 100000 in
set_option maxHeartbeats 4000000 in
theorem szPrcS_no (a : Option Addr) (len cap : Nat) (P : Nat → Prc) (n : Int) (h0 : 0 ≤ n) (hn : n ≤ 1048576) (hno : n < len + sumP P len) (hm : len ≤ maxLen) (hmP : ∀ i, i < len → (P i).n ≤ maxLen) (w : World) (hp : RdP w a len P) : Calls Try.prog 44 #[.slice a len cap, .int .i64 n] w fun e w' => e = .returned (.int .i64 (-1)) ∧ Below w.heap.size w w' := by
  unfold maxLen at hm
  by_cases hln : (len : Int) ≤ n
  · have HP := Lib.hid hp
    have HN := Lib.hid hno
    have HM := Lib.hid hmP
    have hp0 : 0 ≤ n - (len : Int) := by omega
    clear hp hno hmP
    go_enter Try.func44, Try.ntmps44
    go_wp2_with fail
    go_loopw [1, 5] (fun m i wr => ∃ (k : Nat) (M : Int), k ≤ len ∧ i = .int .i64 k ∧ m = .int .i64 M ∧ 0 ≤ M ∧ M ≤ 1048576 ∧ Hid (M = n - len - sumP P k) ∧ Below w.heap.size w wr) (fun _ i _ => len - (intOf i).toNat)
    case atStart => exact ⟨0, _, by omega, rfl, rfl, by omega, by omega, Lib.hid (by simp [sumP]), Below.refl _ _⟩
    case round =>
      obtain ⟨k, M, hk, rfl, rfl, hM0, hM1, hM, hS⟩ := hrel
      by_cases hlt : k < len
      · obtain ⟨x, rfl, hx⟩ := (HP.out.below hS).some (by omega)
        obtain ⟨e0, e1, e2⟩ := hx k hlt
        have hmk := HM.out k hlt
        clear hx
        have hs : sumP P (k + 1) = sumP P k + (P k).n := rfl
        have h2 := hM.out
        obtain ⟨M2, hM2⟩ : ∃ M2, M2 = M - (P k).n := ⟨_, rfl⟩
        have hM3 := Lib.hid (show M2 = n - len - sumP P (k + 1) by rw [hs]; omega)
        have H2 := Lib.hid hM2
        obtain ⟨⟨pl, ph, pb, pn, pc⟩, hq⟩ : ∃ q, q = P k := ⟨_, rfl⟩
        rw [← hq] at e0 e1 e2 H2 hM2 hmk
        simp only at e0 e1 e2 H2 hM2 hmk
        clear hs h2 hq
        by_cases hge : (pn : Int) ≤ M
        · have hp2 : 0 ≤ M2 := by omega
          have hp3 : M2 ≤ 1048576 := by omega
          have j0 : ¬ M2 < 0 := by omega
          clear hM2
          go_wp2_with (go_at_call 58; refine (szPrc_ok _ _ _ _ _ _ M2 H2.out hp2 hM1 _).mono ?_; rintro e w2 ⟨rfl, hb⟩; have hS2 := below_on hS hb; clear hb)
          go_roundw
          case rel => exact ⟨k + 1, M2, by omega, by go_num, rfl, hp2, hp3, hM3, hS2⟩
          case measure => simp [intOf] <;> omega
        · have hlt2 : M < pn := by omega
          clear hM2
          go_wp2_with (go_at_call 58; refine (szPrc_no _ _ _ _ _ _ hM0 hM1 hlt2 hmk _).mono ?_; rintro e w2 ⟨rfl, hb⟩; have hS2 := below_on hS hb; clear hb)
          go_ret
          exact ⟨rfl, hS2⟩
      · obtain rfl : k = len := by omega
        have := hM.out
        have := HN.out
        exact absurd hM0 (by omega)
  · have h1 : n - (len : Int) < 0 := by omega
    clear hno hmP hp
    go_enter Try.func44, Try.ntmps44
    go_wp2_with fail
    all_goals (go_ret; exact ⟨rfl, by go_grown⟩)
set_option maxHeartbeats 2000000 in
theorem szPrg_ok (a : Option Addr) (len cap : Nat) (P : Nat → Prc) (n r : Int) (hr : r = n - len - sumP P len) (h0 : 0 ≤ r) (hn : n ≤ 1048576) (w : World) (hp : RdP w a len P) : Calls Try.prog 20 #[.agg #[.slice a len cap], .int .i64 n] w fun e w' => e = .returned (.int .i64 r) ∧ Below w.heap.size w w' := by
  have Hr := Lib.hid hr
  have HP := Lib.hid hp
  have j0 : ¬ r < 0 := by omega
  clear hr hp
  go_enter Try.func20, Try.ntmps20
  go_wp2_with (go_at_call 44; refine (szPrcS_ok _ _ _ P _ r Hr.out h0 hn _ (HP.out.below ((Below.refl _ _).alloc (Nat.le_refl _) _))).mono ?_; rintro e w1 ⟨rfl, hb⟩; have hS := below_on ((Below.refl w.heap.size w).alloc (Nat.le_refl _) _) hb; clear hb)
  all_goals (go_ret; exact ⟨rfl, hS⟩)
set_option maxHeartbeats 2000000 in
theorem szPrg_no (a : Option Addr) (len cap : Nat) (P : Nat → Prc) (n : Int) (h0 : 0 ≤ n) (hn : n ≤ 1048576) (hno : n < len + sumP P len) (hm : len ≤ maxLen) (hmP : ∀ i, i < len → (P i).n ≤ maxLen) (w : World) (hp : RdP w a len P) : Calls Try.prog 20 #[.agg #[.slice a len cap], .int .i64 n] w fun e w' => e = .returned (.int .i64 (-1)) ∧ Below w.heap.size w w' := by
  have HN := Lib.hid hno
  have HM := Lib.hid hmP
  have HP := Lib.hid hp
  clear hno hmP hp
  go_enter Try.func20, Try.ntmps20
  go_wp2_with (go_at_call 44; refine (szPrcS_no _ _ _ P _ h0 hn HN.out hm HM.out _ (HP.out.below ((Below.refl _ _).alloc (Nat.le_refl _) _))).mono ?_; rintro e w1 ⟨rfl, hb⟩; have hS := below_on ((Below.refl w.heap.size w).alloc (Nat.le_refl _) _) hb; clear hb)
  all_goals (go_ret; exact ⟨rfl, hS⟩)
set_option maxRecDepth 100000 in
set_option maxHeartbeats 4000000 in
theorem prgSize_i (a : Option Addr) (len cap : Nat) (P : Nat → Prc) (w : World) (hp : RdP w a len P) (hl : len ≤ 1048576) (hs : sumP P len ≤ 1048576) : Calls Try.prog 23 #[.agg #[.slice a len cap]] w fun e w' => e = .returned (.int .i64 (sumP P len)) ∧ Below w.heap.size w w' := by
  have HP := Lib.hid hp
  clear hp
  go_enter Try.func23, Try.ntmps23
  go_wp2_with fail
  go_loopw [3, 9] (fun m i wr => ∃ (k M : Nat), k ≤ len ∧ i = .int .i64 k ∧ m = .int .i64 M ∧ Hid (M = sumP P k) ∧ Below w.heap.size w wr) (fun _ i _ => len - (intOf i).toNat)
  case atStart => exact ⟨0, 0, by omega, rfl, rfl, Lib.hid rfl, by go_grown⟩
  case round =>
    obtain ⟨k, M, hk, rfl, rfl, hM, hS⟩ := hrel
    by_cases hlt : k < len
    · obtain ⟨x, rfl, hx⟩ := (HP.out.below hS).some (by omega)
      obtain ⟨e0, e1, e2⟩ := hx k hlt
      clear hx
      have h1 := sumP_mono P (k := k + 1) (l := len) (by omega)
      have hs2 : sumP P (k + 1) = sumP P k + (P k).n := rfl
      have h2 := hM.out
      have hM3 := Lib.hid (show M + (P k).n = sumP P (k + 1) by omega)
      have hle : M + (P k).n ≤ 1048576 := by omega
      obtain ⟨⟨pl, ph, pb, pn, pc⟩, hq⟩ : ∃ q, q = P k := ⟨_, rfl⟩
      rw [← hq] at e0 e1 e2 hM3 hle
      simp only at e0 e1 e2 hM3 hle
      have j0 : (0 : Int) ≤ k := by omega
      have j1 : (k : Int) < len := by omega
      have hzz := hS.size
      clear h1 hs2 h2 hq
      go_wp2_with fail
      go_roundw
      case rel => exact ⟨k + 1, M + pn, by omega, by go_num, by go_num, hM3, by go_grown⟩
      case measure => simp [intOf] <;> omega
    · obtain rfl : k = len := by omega
      go_wp2_with fail
      go_ret
      exact ⟨by rw [← hM.out]; rfl, hS⟩
end Go.Proofs.Ythbbakmohcjblaa
