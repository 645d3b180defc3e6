/-
  What the program's and the reference's functions on bounds compute: ItvOk, ItvAll, ItvHas, ItvIn, ItvJoin, ItvMeet and what they call. No conditions.
-/
import Derived.Test.YtimmjejmcklofaaNum
namespace Go.Proofs.Ytimmjejmcklofaa
open Go.ChangeShapes Go.WideShapes Go.ChangeAt Go.RowKit

set_option maxHeartbeats 400000 in
theorem toItv_l (lo hi : Int) (w : World) : Calls Try.prog 12 #[.agg #[.int .i64 lo, .int .i64 hi]] w fun e w' => e = .returned (.agg #[.int .i64 lo, .int .i64 hi]) ∧ Below w.heap.size w w' := by
  go_enter Try.func12, Try.ntmps12
  go_wp2
  go_returns
  exact ⟨rfl, by go_grown⟩
set_option maxHeartbeats 400000 in
theorem itvOk_i (lo hi : Int) (w : World) : Calls Try.prog 13 #[.agg #[.int .i64 lo, .int .i64 hi]] w fun e w' => e = .returned (.bool (okI (lo, hi))) ∧ Below w.heap.size w w' := by
  go_enter Try.func13, Try.ntmps13
  go_wp2_with (go_at_call 30; refine (numOk_i _ _).mono ?_; rintro e w' ⟨rfl, rfl⟩)
  all_goals (go_ret; exact ⟨ret_b (by simp_all [okI]), by go_grown⟩)
set_option maxHeartbeats 400000 in
theorem itvOk_s (lo hi : Int) (w : World) : Calls Try.prog 11 #[.agg #[.int .i64 lo, .int .i64 hi]] w fun e w' => e = .returned (.bool (okI (lo, hi))) ∧ Below w.heap.size w w' := by
  go_enter Try.func11, Try.ntmps11
  go_wp2_with (go_at_call 29; refine (numOk_s _ _).mono ?_; rintro e w' ⟨rfl, rfl⟩)
  all_goals (go_ret; exact ⟨ret_b (by simp_all [okI]), by go_grown⟩)
set_option maxHeartbeats 400000 in
theorem bothOk_i (al ah bl bh : Int) (w : World) : Calls Try.prog 31 #[.agg #[.int .i64 al, .int .i64 ah], .agg #[.int .i64 bl, .int .i64 bh]] w fun e w' => e = .returned (.bool (okI (al, ah) && okI (bl, bh))) ∧ Below w.heap.size w w' := by
  go_enter Try.func31, Try.ntmps31
  go_wp2_with (go_at_call 13; refine (itvOk_i _ _ _).mono ?_; rintro e w' ⟨rfl, hb⟩; have hs0 := hb.size; have hB : Below w.heap.size w w' := below_on (by ((try go_split_ands); go_grown)) hb; have hz := hB.size; have hc := bcell hb; (try have z0 : w.heap.size < w'.heap.size := (by ((try simp at hs0); omega))); (try have z1 : w.heap.size + 1 < w'.heap.size := (by ((try simp at hs0); omega))); (try have z2 : w.heap.size + 1 + 1 < w'.heap.size := (by ((try simp at hs0); omega))); (try have z3 : w.heap.size + 1 + 1 + 1 < w'.heap.size := (by ((try simp at hs0); omega))); (try have z4 : w.heap.size + 1 + 1 + 1 + 1 < w'.heap.size := (by ((try simp at hs0); omega))); (try have z5 : w.heap.size + 1 + 1 + 1 + 1 + 1 < w'.heap.size := (by ((try simp at hs0); omega))); clear hs0; clear hb)
  all_goals (go_ret; exact ⟨ret_b (by simp_all), by go_grown⟩)
set_option maxHeartbeats 400000 in
theorem itvAll_i (w : World) : Calls Try.prog 38 #[] w fun e w' => e = .returned (.agg #[.int .i64 (-32768), .int .i64 32767]) ∧ Below w.heap.size w w' := by
  go_enter Try.func38, Try.ntmps38
  go_wp2
  go_returns
  exact ⟨rfl, by go_grown⟩
set_option maxHeartbeats 400000 in
theorem itvAll_s (w : World) : Calls Try.prog 35 #[] w fun e w' => e = .returned (.agg #[.int .i64 (-32768), .int .i64 32767]) ∧ Below w.heap.size w w' := by
  go_enter Try.func35, Try.ntmps35
  go_wp2
  go_returns
  exact ⟨rfl, by go_grown⟩
set_option maxHeartbeats 400000 in
theorem eqItv_l (al ah bl bh : Int) (w : World) : Calls Try.prog 22 #[.agg #[.int .i64 al, .int .i64 ah], .agg #[.int .i64 bl, .int .i64 bh]] w fun e w' => e = .returned (.bool (al == bl && ah == bh)) ∧ Below w.heap.size w w' := by
  go_enter Try.func22, Try.ntmps22
  go_wp2
  all_goals (go_ret; exact ⟨ret_b (by simp_all), by go_grown⟩)
set_option maxHeartbeats 400000 in
theorem itvHas_i (lo hi n : Int) (w : World) : Calls Try.prog 17 #[.agg #[.int .i64 lo, .int .i64 hi], .int .i64 n] w fun e w' => e = .returned (.bool (hasI (lo, hi) n)) ∧ Below w.heap.size w w' := by
  go_enter Try.func17, Try.ntmps17
  go_wp2_with (go_at_call 13; refine (itvOk_i _ _ _).mono ?_; rintro e w' ⟨rfl, hb⟩; have hs0 := hb.size; have hB : Below w.heap.size w w' := below_on (by ((try go_split_ands); go_grown)) hb; have hz := hB.size; have hc := bcell hb; (try have z0 : w.heap.size < w'.heap.size := (by ((try simp at hs0); omega))); (try have z1 : w.heap.size + 1 < w'.heap.size := (by ((try simp at hs0); omega))); (try have z2 : w.heap.size + 1 + 1 < w'.heap.size := (by ((try simp at hs0); omega))); (try have z3 : w.heap.size + 1 + 1 + 1 < w'.heap.size := (by ((try simp at hs0); omega))); (try have z4 : w.heap.size + 1 + 1 + 1 + 1 < w'.heap.size := (by ((try simp at hs0); omega))); (try have z5 : w.heap.size + 1 + 1 + 1 + 1 + 1 < w'.heap.size := (by ((try simp at hs0); omega))); clear hs0; clear hb)
  all_goals (go_ret; exact ⟨ret_iff (by simp_all only [hasI_iff, inI_iff, Bool.not_eq_true', Bool.not_eq_true, Bool.and_eq_true, decide_eq_true_eq, Bool.false_eq_true, true_and, false_and, and_true, and_false, true_iff, false_iff, iff_false, iff_true]; try first | omega | grind), by go_grown⟩)
set_option maxHeartbeats 400000 in
theorem itvHas_s (lo hi n : Int) (w : World) : Calls Try.prog 16 #[.agg #[.int .i64 lo, .int .i64 hi], .int .i64 n] w fun e w' => e = .returned (.bool (hasI (lo, hi) n)) ∧ Below w.heap.size w w' := by
  go_enter Try.func16, Try.ntmps16
  go_wp2_with (first | (go_at_call 11; refine (itvOk_s _ _ _).mono ?_; rintro e w' ⟨rfl, hb⟩; have hs0 := hb.size; have hB : Below w.heap.size w w' := below_on (by ((try go_split_ands); go_grown)) hb; have hz := hB.size; have hc := bcell hb; (try have z0 : w.heap.size < w'.heap.size := (by ((try simp at hs0); omega))); (try have z1 : w.heap.size + 1 < w'.heap.size := (by ((try simp at hs0); omega))); (try have z2 : w.heap.size + 1 + 1 < w'.heap.size := (by ((try simp at hs0); omega))); (try have z3 : w.heap.size + 1 + 1 + 1 < w'.heap.size := (by ((try simp at hs0); omega))); (try have z4 : w.heap.size + 1 + 1 + 1 + 1 < w'.heap.size := (by ((try simp at hs0); omega))); (try have z5 : w.heap.size + 1 + 1 + 1 + 1 + 1 < w'.heap.size := (by ((try simp at hs0); omega))); clear hs0; clear hb) | (go_at_call 32; refine (l1In_s _ _ _ _).mono ?_; rintro e w' ⟨rfl, rfl⟩))
  all_goals (go_ret; exact ⟨ret_iff (by simp_all only [hasI_iff, inI_iff, Bool.not_eq_true', Bool.not_eq_true, Bool.and_eq_true, decide_eq_true_eq, Bool.false_eq_true, true_and, false_and, and_true, and_false, true_iff, false_iff, iff_false, iff_true]; try first | omega | grind), by go_grown⟩)
set_option maxHeartbeats 400000 in
theorem itvIn_i (al ah bl bh : Int) (w : World) : Calls Try.prog 15 #[.agg #[.int .i64 al, .int .i64 ah], .agg #[.int .i64 bl, .int .i64 bh]] w fun e w' => e = .returned (.bool (inI (al, ah) (bl, bh))) ∧ Below w.heap.size w w' := by
  go_enter Try.func15, Try.ntmps15
  go_wp2_with (go_at_call 31; refine (bothOk_i _ _ _ _ _).mono ?_; rintro e w' ⟨rfl, hb⟩; have hs0 := hb.size; have hB : Below w.heap.size w w' := below_on (by ((try go_split_ands); go_grown)) hb; have hz := hB.size; have hc := bcell hb; (try have z0 : w.heap.size < w'.heap.size := (by ((try simp at hs0); omega))); (try have z1 : w.heap.size + 1 < w'.heap.size := (by ((try simp at hs0); omega))); (try have z2 : w.heap.size + 1 + 1 < w'.heap.size := (by ((try simp at hs0); omega))); (try have z3 : w.heap.size + 1 + 1 + 1 < w'.heap.size := (by ((try simp at hs0); omega))); (try have z4 : w.heap.size + 1 + 1 + 1 + 1 < w'.heap.size := (by ((try simp at hs0); omega))); (try have z5 : w.heap.size + 1 + 1 + 1 + 1 + 1 < w'.heap.size := (by ((try simp at hs0); omega))); clear hs0; clear hb)
  all_goals (go_ret; exact ⟨ret_iff (by simp_all only [hasI_iff, inI_iff, Bool.not_eq_true', Bool.not_eq_true, Bool.and_eq_true, decide_eq_true_eq, Bool.false_eq_true, true_and, false_and, and_true, and_false, true_iff, false_iff, iff_false, iff_true]; try first | omega | grind), by go_grown⟩)
set_option maxHeartbeats 400000 in
theorem itvIn_s (al ah bl bh : Int) (w : World) : Calls Try.prog 14 #[.agg #[.int .i64 al, .int .i64 ah], .agg #[.int .i64 bl, .int .i64 bh]] w fun e w' => e = .returned (.bool (inI (al, ah) (bl, bh))) ∧ Below w.heap.size w w' := by
  go_enter Try.func14, Try.ntmps14
  go_wp2_with (go_at_call 11; refine (itvOk_s _ _ _).mono ?_; rintro e w' ⟨rfl, hb⟩; have hs0 := hb.size; have hB : Below w.heap.size w w' := below_on (by ((try go_split_ands); go_grown)) hb; have hz := hB.size; have hc := bcell hb; (try have z0 : w.heap.size < w'.heap.size := (by ((try simp at hs0); omega))); (try have z1 : w.heap.size + 1 < w'.heap.size := (by ((try simp at hs0); omega))); (try have z2 : w.heap.size + 1 + 1 < w'.heap.size := (by ((try simp at hs0); omega))); (try have z3 : w.heap.size + 1 + 1 + 1 < w'.heap.size := (by ((try simp at hs0); omega))); (try have z4 : w.heap.size + 1 + 1 + 1 + 1 < w'.heap.size := (by ((try simp at hs0); omega))); (try have z5 : w.heap.size + 1 + 1 + 1 + 1 + 1 < w'.heap.size := (by ((try simp at hs0); omega))); clear hs0; clear hb)
  all_goals (go_ret; exact ⟨ret_iff (by simp_all only [hasI_iff, inI_iff, Bool.not_eq_true', Bool.not_eq_true, Bool.and_eq_true, decide_eq_true_eq, Bool.false_eq_true, true_and, false_and, and_true, and_false, true_iff, false_iff, iff_false, iff_true]; try first | omega | grind), by go_grown⟩)
set_option maxHeartbeats 400000 in
theorem itvJoin_i (al ah bl bh : Int) (w : World) : Calls Try.prog 21 #[.agg #[.int .i64 al, .int .i64 ah], .agg #[.int .i64 bl, .int .i64 bh]] w fun e w' => e = .returned (.agg #[.int .i64 (joinI (al, ah) (bl, bh)).1, .int .i64 (joinI (al, ah) (bl, bh)).2]) ∧ Below w.heap.size w w' := by
  go_enter Try.func21, Try.ntmps21
  go_wp2_with (go_at_call 31; refine (bothOk_i _ _ _ _ _).mono ?_; rintro e w' ⟨rfl, hb⟩; have hs0 := hb.size; have hB : Below w.heap.size w w' := below_on (by ((try go_split_ands); go_grown)) hb; have hz := hB.size; have hc := bcell hb; (try have z0 : w.heap.size < w'.heap.size := (by ((try simp at hs0); omega))); (try have z1 : w.heap.size + 1 < w'.heap.size := (by ((try simp at hs0); omega))); (try have z2 : w.heap.size + 1 + 1 < w'.heap.size := (by ((try simp at hs0); omega))); (try have z3 : w.heap.size + 1 + 1 + 1 < w'.heap.size := (by ((try simp at hs0); omega))); (try have z4 : w.heap.size + 1 + 1 + 1 + 1 < w'.heap.size := (by ((try simp at hs0); omega))); (try have z5 : w.heap.size + 1 + 1 + 1 + 1 + 1 < w'.heap.size := (by ((try simp at hs0); omega))); clear hs0; clear hb)
  all_goals refine bodyPost_ret (by simp [results, Try.results21, go_sem, *]; try rfl) rfl ?_
  all_goals exact ⟨ret_a (by unfold joinI; split <;> first | (simp only; omega) | simp_all) (by unfold joinI; split <;> first | (simp only; omega) | simp_all), by go_grown⟩
set_option maxHeartbeats 400000 in
theorem itvJoin_s (al ah bl bh : Int) (w : World) : Calls Try.prog 20 #[.agg #[.int .i64 al, .int .i64 ah], .agg #[.int .i64 bl, .int .i64 bh]] w fun e w' => e = .returned (.agg #[.int .i64 (joinI (al, ah) (bl, bh)).1, .int .i64 (joinI (al, ah) (bl, bh)).2]) ∧ Below w.heap.size w w' := by
  go_enter Try.func20, Try.ntmps20
  go_wp2_with (go_at_call 11; refine (itvOk_s _ _ _).mono ?_; rintro e w' ⟨rfl, hb⟩; have hs0 := hb.size; have hB : Below w.heap.size w w' := below_on (by ((try go_split_ands); go_grown)) hb; have hz := hB.size; have hc := bcell hb; (try have z0 : w.heap.size < w'.heap.size := (by ((try simp at hs0); omega))); (try have z1 : w.heap.size + 1 < w'.heap.size := (by ((try simp at hs0); omega))); (try have z2 : w.heap.size + 1 + 1 < w'.heap.size := (by ((try simp at hs0); omega))); (try have z3 : w.heap.size + 1 + 1 + 1 < w'.heap.size := (by ((try simp at hs0); omega))); (try have z4 : w.heap.size + 1 + 1 + 1 + 1 < w'.heap.size := (by ((try simp at hs0); omega))); (try have z5 : w.heap.size + 1 + 1 + 1 + 1 + 1 < w'.heap.size := (by ((try simp at hs0); omega))); clear hs0; clear hb)
  all_goals refine bodyPost_ret (by simp [results, Try.results20, go_sem, *]; try rfl) rfl ?_
  all_goals exact ⟨ret_a (by unfold joinI; split <;> first | (simp only; omega) | simp_all) (by unfold joinI; split <;> first | (simp only; omega) | simp_all), by go_grown⟩

end Go.Proofs.Ytimmjejmcklofaa
