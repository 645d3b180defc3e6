/-
  The contracts at known results, on: ItvWide, ItvHas, owStep. No conditions but those results.
-/
import Derived.Test.YtbkfhlppcocamaaAt
import Derived.Test.YtbkfhlppcocamaaWide
import Derived.LoopTactic
namespace Go.Proofs.Ytbkfhlppcocamaa
set_option linter.unusedSimpArgs false
set_option linter.unusedVariables false
open Go.ChangeShapes Go.WideShapes Go.ChangeAt Go.RowKit

theorem wide_at {al ah bl bh jl jh : Int} (h : wideI (al, ah) (bl, bh) = (jl, jh)) (w : World) : Calls Try.prog 43 #[.agg #[.int .i64 al, .int .i64 ah], .agg #[.int .i64 bl, .int .i64 bh]] w fun e w' => e = .returned (.agg #[.int .i64 jl, .int .i64 jh]) ∧ Below w.heap.size w w' := by
  have k := itvWide_i al ah bl bh w
  rw [h] at k
  exact k
theorem wide_s_at {al ah bl bh jl jh : Int} (h : wideI (al, ah) (bl, bh) = (jl, jh)) (w : World) : Calls Try.prog 44 #[.agg #[.int .i64 al, .int .i64 ah], .agg #[.int .i64 bl, .int .i64 bh]] w fun e w' => e = .returned (.agg #[.int .i64 jl, .int .i64 jh]) ∧ Below w.heap.size w w' := by
  have k := itvWide_s al ah bl bh w
  rw [h] at k
  exact k
theorem has_at {al ah n : Int} {x : Bool} (h : hasI (al, ah) n = x) (w : World) : Calls Try.prog 28 #[.agg #[.int .i64 al, .int .i64 ah], .int .i64 n] w fun e w' => e = .returned (.bool x) ∧ Below w.heap.size w w' := by
  have k := itvHas_i al ah n w
  rw [h] at k
  exact k
theorem step_in (k : Nat) (h : k < 11) : isStep (stepsL.getD k 0) = true := by
  have : k = 0 ∨ k = 1 ∨ k = 2 ∨ k = 3 ∨ k = 4 ∨ k = 5 ∨ k = 6 ∨ k = 7 ∨ k = 8 ∨ k = 9 ∨ k = 10 := by omega
  rcases this with rfl | rfl | rfl | rfl | rfl | rfl | rfl | rfl | rfl | rfl | rfl <;> rfl
theorem step_out {n : Int} (h : ∀ j, j < 11 → stepsL.getD j 0 ≠ n) : isStep n = false := by
  have h0 := h 0 (by omega); have h1 := h 1 (by omega); have h2 := h 2 (by omega); have h3 := h 3 (by omega); have h4 := h 4 (by omega); have h5 := h 5 (by omega)
  have h6 := h 6 (by omega); have h7 := h 7 (by omega); have h8 := h 8 (by omega); have h9 := h 9 (by omega); have h10 := h 10 (by omega)
  simp [stepsL] at h0 h1 h2 h3 h4 h5 h6 h7 h8 h9 h10
  simp only [isStep, Bool.or_eq_false_iff, beq_eq_false_iff_ne]
  omega
set_option maxHeartbeats 2000000 in
theorem owHas_l (g : Nat) (n : Int) (w : World) (h : StepsAt w g) : Calls Try.prog 64 #[.slice (some ⟨g, 0, none⟩) 11 11, .int .i64 n] w fun e w' => e = .returned (.bool (isStep n)) ∧ Below w.heap.size w w' := by
  have HS := Lib.hid h
  clear h
  go_enter Try.func64, Try.ntmps64
  go_wp2_with fail
  go_loop [5] (fun i => ∃ k : Nat, k ≤ 11 ∧ i = .int .i64 k ∧ Hid (∀ j, j < k → stepsL.getD j 0 ≠ n)) (fun i => 11 - (intOf i).toNat)
  case atStart => exact ⟨0, by omega, rfl, Lib.hid (fun j hj => by omega)⟩
  case round =>
    obtain ⟨k, hk, rfl, hH⟩ := hrel
    by_cases hlt : k < 11
    · have hcell := HS.out k hlt
      have hs := Lib.hid (step_in k hlt)
      generalize hm : stepsL.getD k 0 = m at hcell hs
      have Hm := Lib.hid hm
      clear hm
      by_cases hn : m = n
      · subst hn
        go_wp2_with fail
        go_ret
        exact ⟨ret_b hs.out.symm, by go_grown⟩
      · have hnb : (m == n) = false := by simpa using hn
        have hH2 := Lib.hid (show ∀ j, j < k + 1 → stepsL.getD j 0 ≠ n from fun j hj => by
          by_cases e : j = k
          · subst e; rw [Hm.out]; exact hn
          · exact hH.out j (by omega))
        clear hn
        go_wp2_with fail
        go_round
        case rel => exact ⟨k + 1, by omega, by go_num, hH2⟩
        case measure => simp [intOf] <;> omega
    · go_wp2_with fail
      go_ret
      obtain rfl : k = 11 := by omega
      exact ⟨ret_b (step_out hH.out).symm, by go_grown⟩
set_option maxHeartbeats 2000000 in
theorem owStep_l (n : Int) (w : World) : Calls Try.prog 45 #[.int .i64 n] w fun e w' => e = .returned (.bool (isStep n)) ∧ Below w.heap.size w w' := by
  go_enter Try.func45, Try.ntmps45
  go_wp2_with fail
  refine (owHas_l w.heap.size n _ ?_).mono ?_
  · intro k hk
    match k, hk with
    | 0, _ | 1, _ | 2, _ | 3, _ | 4, _ | 5, _ | 6, _ | 7, _ | 8, _ | 9, _ | 10, _ => simp [stepsL]
  rintro e w' ⟨rfl, hb⟩
  have hB : Below w.heap.size w w' := below_on (by go_grown) hb
  clear hb
  go_wp2_with fail
  go_ret
  exact ⟨rfl, hB⟩
theorem owStep_at {n : Int} {x : Bool} (h : isStep n = x) (w : World) : Calls Try.prog 45 #[.int .i64 n] w fun e w' => e = .returned (.bool x) ∧ Below w.heap.size w w' := by
  have k := owStep_l n w
  rw [h] at k
  exact k
end Go.Proofs.Ytbkfhlppcocamaa
