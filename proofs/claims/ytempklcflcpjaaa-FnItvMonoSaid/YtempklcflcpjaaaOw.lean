/-
  The laws' own small functions on bounds: owPick, owLess. No conditions but that the bounds are bounds.
-/
import Derived.Test.YtempklcflcpjaaaLaws
import Derived.Test.YtempklcflcpjaaaPlainLaws2
import Derived.IntWalk
namespace Go.Proofs.Ytempklcflcpjaaa
set_option linter.unusedSimpArgs false
set_option linter.unusedVariables false
open Go.ChangeShapes Go.WideShapes Go.ChangeAt Go.RowKit

theorem norm_in (n d : Int) (h : 1 ≤ d) : 0 ≤ (n % 65536).tmod d ∧ (n % 65536).tmod d < d := by
  have h0 : 0 ≤ n % 65536 := Int.emod_nonneg _ (by omega)
  rw [tmod_pos _ h0]
  exact ⟨Int.emod_nonneg _ (by omega), Int.emod_lt_of_pos _ (by omega)⟩
def PickIn (lo hi : Int) (w : World) (e : Ending) (w' : World) : Prop := ∃ u : Int, e = .returned (.int .i64 u) ∧ lo ≤ u ∧ u ≤ hi ∧ Below w.heap.size w w'
set_option maxHeartbeats 2000000 in
theorem owPick_l (lo hi n : Int) (k : -32768 ≤ lo ∧ lo ≤ hi ∧ hi ≤ 32767) (w : World) : Calls Try.prog 24 #[.agg #[.int .i64 lo, .int .i64 hi], .int .i64 n] w (PickIn lo hi w) := by
  have hn := norm_in n (hi - lo + 1) (by omega)
  have w1 : IntKind.i64.wrap (hi - lo) = hi - lo := IntWalk.i64_in _ (by omega)
  have w2 : IntKind.i64.wrap (hi - lo + 1) = hi - lo + 1 := IntWalk.i64_in _ (by omega)
  have w3 : IntKind.i64.wrap (lo + (n % 65536).tmod (hi - lo + 1)) = lo + (n % 65536).tmod (hi - lo + 1) := IntWalk.i64_in _ (by omega)
  have w4 : IntKind.i64.wrap ((n % 65536).tmod (hi - lo + 1)) = (n % 65536).tmod (hi - lo + 1) := IntWalk.i64_in _ (by omega)
  have n1 : (hi - lo + 1 == 0) = false := by rw [beq_eq_false_iff_ne]; omega
  have n2 : ¬ hi - lo + 1 = 0 := by omega
  go_enter Try.func24, Try.ntmps24
  go_wp2_with fail
  go_region_held3 (fun w' => w'.cell? ⟨w.heap.size, 0, none⟩ = some (.int .i64 lo) ∧ w'.cell? ⟨w.heap.size, 1, none⟩ = some (.int .i64 hi) ∧ Below w.heap.size w w') (((try go_split_ands); (repeat' apply And.intro); all_goals (first | with_reducible assumption | ((with_reducible refine keep_alloc _ ?_); with_reducible assumption) | ((with_reducible refine below_alloc _ ?_); with_reducible assumption) | ((with_reducible refine keep_realloc (by assumption) ?_); (simp only []; omega)) | ((with_reducible refine below_realloc (by assumption) ?_); omega) | ((with_reducible refine keep_realloc (by assumption) ?_); (simp only [World.size_alloc]; omega)) | ((with_reducible refine below_realloc (by assumption) ?_); (simp only [World.size_alloc]; omega)) | ((with_reducible refine keep_realloc2 (by assumption) ?_); (simp only []; omega)) | ((with_reducible refine keep_realloc (by assumption) ?_); (simp only [World.size_setCell]; omega)) | ((with_reducible refine below_realloc (by assumption) ?_); (simp only [World.size_setCell]; omega)) | ((with_reducible refine keep_under (by assumption) (by simp only []; omega) (by simp [World.setCell]) ?_); first | exact cset (by simp only []; omega) | exact (cset (by simp only []; omega)).trans (cset (by simp only []; omega))) | ((with_reducible refine below_under (by assumption) (by omega) ?_); first | exact (Below.refl _ _).setCell (by simp only []; omega) _ | exact ((Below.refl _ _).setCell (by simp only []; omega) _).setCell (by simp only []; omega) _) | ((with_reducible refine below_realloc2 (by assumption) ?_); omega) | (with_reducible exact cell_later hb (by assumption)) | (with_reducible exact below_on (by assumption) hb) | ((repeat (with_reducible refine keep_set _ (by (simp only []; omega)) ?_)); with_reducible assumption) | ((repeat (with_reducible refine below_set _ (by (simp only []; omega)) ?_)); with_reducible assumption) | (simp; done) | (simp [go_sem]; done) | (simp [go_sem, *]; done) | go_grown)))
    (first | (go_at_call 46; refine (owNorm_l _ _).mono ?_; rintro e w' ⟨rfl, rfl⟩))
  all_goals go_wp2_with fail
  all_goals go_ret
  all_goals unfold PickIn
  all_goals exact ⟨_, rfl, by omega, by omega, by ((try go_split_ands); go_grown)⟩
def LessIn (lo hi : Int) (w : World) (e : Ending) (w' : World) : Prop := ∃ xl xh : Int, e = .returned (.agg #[.int .i64 xl, .int .i64 xh]) ∧ lo ≤ xl ∧ xl ≤ xh ∧ xh ≤ hi ∧ Below w.heap.size w w'
set_option maxHeartbeats 2000000 in
theorem owLess_l (lo hi n : Int) (k : -32768 ≤ lo ∧ lo ≤ hi ∧ hi ≤ 32767) (w : World) : Calls Try.prog 18 #[.agg #[.int .i64 lo, .int .i64 hi], .int .i64 n] w (LessIn lo hi w) := by
  have hn := norm_in n (hi - lo + 1) (by omega)
  have h3 := norm_in n 3 (by omega)
  have hn2 : 0 ≤ n % 65536 % (hi - lo + 1) ∧ n % 65536 % (hi - lo + 1) < hi - lo + 1 := ⟨Int.emod_nonneg _ (by omega), Int.emod_lt_of_pos _ (by omega)⟩
  have w1 : IntKind.i64.wrap (hi - lo) = hi - lo := IntWalk.i64_in _ (by omega)
  have w2 : IntKind.i64.wrap (hi - lo + 1) = hi - lo + 1 := IntWalk.i64_in _ (by omega)
  have w3 : IntKind.i64.wrap (lo + (n % 65536).tmod (hi - lo + 1)) = lo + (n % 65536).tmod (hi - lo + 1) := IntWalk.i64_in _ (by omega)
  have w4 : IntKind.i64.wrap ((n % 65536).tmod (hi - lo + 1)) = (n % 65536).tmod (hi - lo + 1) := IntWalk.i64_in _ (by omega)
  have n1 : (hi - lo + 1 == 0) = false := by rw [beq_eq_false_iff_ne]; omega
  have n2 : ¬ hi - lo + 1 = 0 := by omega
  go_enter Try.func18, Try.ntmps18
  go_wp2_with fail
  go_region_held3 (fun w' => w'.cell? ⟨w.heap.size, 0, none⟩ = some (.int .i64 lo) ∧ w'.cell? ⟨w.heap.size, 1, none⟩ = some (.int .i64 hi) ∧ Below w.heap.size w w') (((try go_split_ands); (repeat' apply And.intro); all_goals (first | with_reducible assumption | ((with_reducible refine keep_alloc _ ?_); with_reducible assumption) | ((with_reducible refine below_alloc _ ?_); with_reducible assumption) | ((with_reducible refine keep_realloc (by assumption) ?_); (simp only []; omega)) | ((with_reducible refine below_realloc (by assumption) ?_); omega) | ((with_reducible refine keep_realloc (by assumption) ?_); (simp only [World.size_alloc]; omega)) | ((with_reducible refine below_realloc (by assumption) ?_); (simp only [World.size_alloc]; omega)) | ((with_reducible refine keep_realloc2 (by assumption) ?_); (simp only []; omega)) | ((with_reducible refine keep_realloc (by assumption) ?_); (simp only [World.size_setCell]; omega)) | ((with_reducible refine below_realloc (by assumption) ?_); (simp only [World.size_setCell]; omega)) | ((with_reducible refine keep_under (by assumption) (by simp only []; omega) (by simp [World.setCell]) ?_); first | exact cset (by simp only []; omega) | exact (cset (by simp only []; omega)).trans (cset (by simp only []; omega))) | ((with_reducible refine below_under (by assumption) (by omega) ?_); first | exact (Below.refl _ _).setCell (by simp only []; omega) _ | exact ((Below.refl _ _).setCell (by simp only []; omega) _).setCell (by simp only []; omega) _) | ((with_reducible refine below_realloc2 (by assumption) ?_); omega) | (with_reducible exact cell_later hb (by assumption)) | (with_reducible exact below_on (by assumption) hb) | ((repeat (with_reducible refine keep_set _ (by (simp only []; omega)) ?_)); with_reducible assumption) | ((repeat (with_reducible refine below_set _ (by (simp only []; omega)) ?_)); with_reducible assumption) | (simp; done) | (simp [go_sem]; done) | (simp [go_sem, *]; done) | go_grown)))
    (first | (go_at_call 46; refine (owNorm_l _ _).mono ?_; rintro e w' ⟨rfl, rfl⟩))
  all_goals go_wp2_with (go_at_call 46; refine (owNorm_l _ _).mono ?_; rintro e w' ⟨rfl, rfl⟩)
  all_goals (refine bodyPost_ret (by simp [results, Try.results18, go_sem, *]; try rfl) rfl ?_)
  all_goals unfold LessIn
  all_goals exact ⟨_, _, rfl, by omega, by omega, by omega, by ((try go_split_ands); go_grown)⟩
set_option maxHeartbeats 2000000 in
theorem owStands_at {rel n lo hi : Int} (h : relHolds rel n lo = true ∨ relHolds rel n hi = true) (w : World) : Calls Try.prog 26 #[.int .i64 rel, .int .i64 n, .agg #[.int .i64 lo, .int .i64 hi]] w fun e w' => e = .returned (.bool true) ∧ Below w.heap.size w w' := by
  have k : relHolds rel n lo = true ∨ relHolds rel n lo = false ∧ relHolds rel n hi = true := by
    cases e : relHolds rel n lo
    · rw [e] at h; exact .inr ⟨rfl, by simpa using h⟩
    · exact .inl rfl
  clear h
  rcases k with k | ⟨k, k2⟩
  all_goals
    go_enter Try.func26, Try.ntmps26
    go_wp2_with (go_at_call 25; refine (relHolds_i _ _ _ _).mono ?_; rintro e w' ⟨rfl, rfl⟩)
    go_ret
    exact ⟨by simp_all, by go_grown⟩
set_option maxHeartbeats 2000000 in
theorem owStood_at {rel n lo hi : Int} (h : relHolds rel lo n = true ∨ relHolds rel hi n = true) (w : World) : Calls Try.prog 27 #[.int .i64 rel, .agg #[.int .i64 lo, .int .i64 hi], .int .i64 n] w fun e w' => e = .returned (.bool true) ∧ Below w.heap.size w w' := by
  have k : relHolds rel lo n = true ∨ relHolds rel lo n = false ∧ relHolds rel hi n = true := by
    cases e : relHolds rel lo n
    · rw [e] at h; exact .inr ⟨rfl, by simpa using h⟩
    · exact .inl rfl
  clear h
  rcases k with k | ⟨k, k2⟩
  all_goals
    go_enter Try.func27, Try.ntmps27
    go_wp2_with (go_at_call 25; refine (relHolds_i _ _ _ _).mono ?_; rintro e w' ⟨rfl, rfl⟩)
    go_ret
    exact ⟨by simp_all, by go_grown⟩
end Go.Proofs.Ytempklcflcpjaaa
