/-
  When an abstract state has numbers: the program's AbsHas, by contract. No conditions but those that each theorem says.
-/
import Derived.Test.YthbbakmohcjblaaAbsHas2
namespace Go.Proofs.Ythbbakmohcjblaa
set_option linter.unusedSimpArgs false
set_option linter.unusedVariables false
open Go.ChangeShapes Go.WideShapes Go.ChangeAt Go.RowKit Go.Sort

set_option maxRecDepth 100000 in
set_option maxHeartbeats 2000000 in
theorem notHas_i {n lo hi : Int} {x : Bool} {gb g : Nat} (h : hasI (lo, hi) n = x) (w : World) (hb : w.cell? ⟨gb, 0, none⟩ = some (.pointer (some ⟨g, 0, none⟩))) (h8 : w.cell? ⟨g, 8, none⟩ = some (.int .i64 lo)) (h9 : w.cell? ⟨g, 9, none⟩ = some (.int .i64 hi)) : Calls Try.prog 52 #[.int .i64 n, .pointer (some ⟨gb, 0, none⟩)] w fun e w' => e = .returned (.bool (!x)) ∧ Below w.heap.size w w' := by
  cases x
  all_goals
    have H := Lib.hid h
    clear h
    go_enter Try.func52, Try.ntmps52
    go_wp2_with (go_at_call 50; refine (has_ix H.out _).mono ?_; rintro e w1 ⟨rfl, hb1⟩)
    all_goals (go_ret; exact ⟨rfl, hb1⟩)
def IdxN (w : World) (c : Int × Int) (z : List Int) (e : Ending) (w' : World) : Prop := ∃ n : Int, e = .returned (.int .i64 n) ∧ -1 ≤ n ∧ decide (0 ≤ n) = !((List.range 4).all fun i => hasI c (z.getD i 0)) ∧ Below w.heap.size w w'
set_option maxRecDepth 100000 in
set_option maxHeartbeats 8000000 in
theorem indexNot (a : Option Addr) (cap : Nat) (z : List Int) (lo hi : Int) (gb g : Nat) (w : World) (hz : RdN w a 4 z) (hb : w.cell? ⟨gb, 0, none⟩ = some (.pointer (some ⟨g, 0, none⟩))) (h8 : w.cell? ⟨g, 8, none⟩ = some (.int .i64 lo)) (h9 : w.cell? ⟨g, 9, none⟩ = some (.int .i64 hi)) : Calls Try.prog 61 #[.slice a 4 cap, .func (.func 52) #[] #[.pointer (some ⟨gb, 0, none⟩)]] w (IdxN w (lo, hi) z) := by
  have HZ := Lib.hid hz
  clear hz
  go_enter Try.func61, Try.ntmps61
  go_wp2_with fail
  go_loopw [8] (fun i wr => ∃ k : Nat, k ≤ 4 ∧ i = .int .i64 k ∧ Below w.heap.size w wr ∧ wr.cell? ⟨gb, 0, none⟩ = some (.pointer (some ⟨g, 0, none⟩)) ∧ wr.cell? ⟨g, 8, none⟩ = some (.int .i64 lo) ∧ wr.cell? ⟨g, 9, none⟩ = some (.int .i64 hi) ∧ Hid (∀ j, j < k → hasI (lo, hi) (z.getD j 0) = true)) (fun i _ => 4 - (intOf i).toNat)
  case atStart => exact ⟨0, by omega, rfl, Below.refl _ _, hb, h8, h9, Lib.hid (fun j hj => by omega)⟩
  case round =>
    clear hb h8 h9
    obtain ⟨k, hk, rfl, hS, hb, h8, h9, hH⟩ := hrel
    by_cases hlt : k < 4
    · obtain ⟨x, rfl, hx⟩ := (HZ.out.below hS).some (by omega)
      have hx0 := hx k hlt
      clear hx
      obtain ⟨m, hq⟩ : ∃ q, q = z.getD k 0 := ⟨_, rfl⟩
      rw [← hq] at hx0
      have j0 : (0 : Int) ≤ k := by omega
      have j1 : (k : Int) < 4 := by omega
      rcases Bool.eq_false_or_eq_true (hasI (lo, hi) m) with ho | ho
      · have hH2 := Lib.hid (show ∀ j, j < k + 1 → hasI (lo, hi) (z.getD j 0) = true from fun j hj => by
          by_cases e : j = k
          · subst e; rw [← hq]; exact ho
          · exact hH.out j (by omega))
        have Ho := Lib.hid ho
        clear ho hq
        go_wp2_with (go_at_call 52; refine (notHas_i Ho.out _ hb h8 h9).mono ?_; rintro e w2 ⟨rfl, hb2⟩; replace hb := (hb2.cell (blk hb)).trans hb; replace h8 := (hb2.cell (blk h8)).trans h8; replace h9 := (hb2.cell (blk h9)).trans h9; have hS2 := below_on hS hb2; clear hb2)
        go_roundw
        case rel => exact ⟨k + 1, by omega, by go_num, hS2, hb, h8, h9, hH2⟩
        case measure => simp [intOf] <;> omega
      · have hr := Lib.hid (all4_not (f := fun i => hasI (lo, hi) (z.getD i 0)) hlt (by rw [← hq]; exact ho))
        have Ho := Lib.hid ho
        clear ho hq
        go_wp2_with (go_at_call 52; refine (notHas_i Ho.out _ hb h8 h9).mono ?_; rintro e w2 ⟨rfl, hb2⟩; have hS2 := below_on hS hb2; clear hb2)
        go_ret
        unfold IdxN
        exact ⟨_, rfl, by omega, by rw [hr.out]; exact decide_eq_true j0, hS2⟩
    · obtain rfl : k = 4 := by omega
      have hr := Lib.hid (all4_yes (f := fun i => hasI (lo, hi) (z.getD i 0)) hH.out)
      go_wp2_with fail
      go_ret
      unfold IdxN
      exact ⟨_, rfl, by omega, by rw [hr.out]; rfl, hS⟩
set_option maxHeartbeats 2000000 in
theorem containsNot {a : Option Addr} {cap : Nat} {z : List Int} {lo hi : Int} {gb g : Nat} {x : Bool} (w : World) (hx : ((List.range 4).all fun i => hasI (lo, hi) (z.getD i 0)) = x) (hz : RdN w a 4 z) (hb : w.cell? ⟨gb, 0, none⟩ = some (.pointer (some ⟨g, 0, none⟩))) (h8 : w.cell? ⟨g, 8, none⟩ = some (.int .i64 lo)) (h9 : w.cell? ⟨g, 9, none⟩ = some (.int .i64 hi)) : Calls Try.prog 51 #[.slice a 4 cap, .func (.func 52) #[] #[.pointer (some ⟨gb, 0, none⟩)]] w fun e w' => e = .returned (.bool (!x)) ∧ Below w.heap.size w w' := by
  have HX := Lib.hid hx
  clear hx
  go_enter Try.func51, Try.ntmps51
  go_wp2_with (go_at_call 61; refine (indexNot a cap z lo hi gb g _ hz hb h8 h9).mono ?_; rintro e w' ⟨n, rfl, hn, hd, hb⟩; rw [HX.out] at hd)
  all_goals (go_ret; exact ⟨ret_b (by first | exact hd | (rw [← hd]; simp_all) | (simp_all)), hb⟩)
end Go.Proofs.Ythbbakmohcjblaa
