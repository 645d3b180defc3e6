/-
  FnExactItvJoin: for every input the law returns true, and its arguments read as before. No conditions.
-/
import Derived.Test.YtimmjejmcklofaaItv
namespace Go.Proofs.Ytimmjejmcklofaa.fnExactItvJoin
open Go.ChangeShapes Go.WideShapes Go.ChangeAt Go.RowKit
open Go.ChangeMaps (open_string shut_string)

set_option maxHeartbeats 1000000 in
theorem walk (a0 b0 : Int) (a1 b1 : Int) (w : World) (wa0 : (Lit.int .i64 a0).wf = true) (wb0 : (Lit.int .i64 b0).wf = true) (wa1 : (Lit.int .i64 a1).wf = true) (wb1 : (Lit.int .i64 b1).wf = true) :
    Calls Try.prog 7 #[.agg #[.int .i64 a0, .int .i64 b0], .agg #[.int .i64 a1, .int .i64 b1]] w fun e w' => e = .returned (.bool true) ∧ Below w.heap.size w w' := by
  go_enter Try.func7, Try.ntmps7
  go_upto_region 1 with fail
  go_cut [5] (fun s5 wx => ∃ g : Nat, s5 = .pointer (some ⟨g, 0, none⟩) ∧ wx.cell? ⟨g, 0, none⟩ = some (.int .i64 (joinI (a0, b0) (a1, b1)).1) ∧ wx.cell? ⟨g, 1, none⟩ = some (.int .i64 (joinI (a0, b0) (a1, b1)).2) ∧ wx.cell? ⟨w.heap.size, 0, none⟩ = some (.int .i64 a0) ∧ wx.cell? ⟨w.heap.size, 1, none⟩ = some (.int .i64 b0) ∧ wx.cell? ⟨w.heap.size + 1, 0, none⟩ = some (.int .i64 a1) ∧ wx.cell? ⟨w.heap.size + 1, 1, none⟩ = some (.int .i64 b1) ∧ Below w.heap.size w wx)
  case first =>
    go_region_held3 (fun w' => w'.cell? ⟨w.heap.size, 0, none⟩ = some (.int .i64 a0) ∧ w'.cell? ⟨w.heap.size, 1, none⟩ = some (.int .i64 b0) ∧ w'.cell? ⟨w.heap.size + 1, 0, none⟩ = some (.int .i64 a1) ∧ w'.cell? ⟨w.heap.size + 1, 1, none⟩ = some (.int .i64 b1) ∧ Below w.heap.size w w') (((try go_split_ands); (repeat' apply And.intro); all_goals (first | with_reducible assumption | ((with_reducible refine keep_alloc _ ?_); with_reducible assumption) | ((with_reducible refine below_alloc _ ?_); with_reducible assumption) | ((with_reducible refine keep_realloc (by assumption) ?_); (simp only []; omega)) | ((with_reducible refine below_realloc (by assumption) ?_); omega) | (with_reducible exact cell_later hb (by assumption)) | (with_reducible exact below_on (by assumption) hb) | ((repeat (with_reducible refine keep_set _ (by (simp only []; omega)) ?_)); with_reducible assumption) | ((repeat (with_reducible refine below_set _ (by (simp only []; omega)) ?_)); with_reducible assumption) | (simp; done) | (simp [go_sem]; done) | (simp [go_sem, *]; done) | go_grown)))
      (first | (go_at_call 12; refine (toItv_l _ _ _).mono ?_; rintro e w' ⟨rfl, hb⟩; have hs0 := hb.size; have hc := bcell hb; (try have z0 : w.heap.size < w'.heap.size := (by ((try simp at hs0); omega))); (try have z1 : w.heap.size + 1 < w'.heap.size := (by ((try simp at hs0); omega))); (try have z2 : w.heap.size + 1 + 1 < w'.heap.size := (by ((try simp at hs0); omega))); (try have z3 : w.heap.size + 1 + 1 + 1 < w'.heap.size := (by ((try simp at hs0); omega))); (try have z4 : w.heap.size + 1 + 1 + 1 + 1 < w'.heap.size := (by ((try simp at hs0); omega))); (try have z5 : w.heap.size + 1 + 1 + 1 + 1 + 1 < w'.heap.size := (by ((try simp at hs0); omega))); (try have hg : g < w'.heap.size := (by ((try simp at hs0); omega))); clear hs0; (first | have hs := lt_of_alloc hb | have hs := lt_of_alloc_drew hb | have hs := Nat.lt_of_lt_of_le hs hb.size | skip)) | (go_at_call 20; refine (itvJoin_s _ _ _ _ _).mono ?_; rintro e w' ⟨rfl, hb⟩; have hs0 := hb.size; have hc := bcell hb; (try have z0 : w.heap.size < w'.heap.size := (by ((try simp at hs0); omega))); (try have z1 : w.heap.size + 1 < w'.heap.size := (by ((try simp at hs0); omega))); (try have z2 : w.heap.size + 1 + 1 < w'.heap.size := (by ((try simp at hs0); omega))); (try have z3 : w.heap.size + 1 + 1 + 1 < w'.heap.size := (by ((try simp at hs0); omega))); (try have z4 : w.heap.size + 1 + 1 + 1 + 1 < w'.heap.size := (by ((try simp at hs0); omega))); (try have z5 : w.heap.size + 1 + 1 + 1 + 1 + 1 < w'.heap.size := (by ((try simp at hs0); omega))); (try have hg : g < w'.heap.size := (by ((try simp at hs0); omega))); clear hs0; (first | have hs := lt_of_alloc hb | have hs := lt_of_alloc_drew hb | have hs := Nat.lt_of_lt_of_le hs hb.size | skip)))
    all_goals (go_wp2_with fail; go_meet; refine ⟨_, rfl, ?_⟩; ((try go_split_ands); (repeat' apply And.intro); all_goals (first | with_reducible assumption | ((with_reducible refine keep_alloc _ ?_); with_reducible assumption) | ((with_reducible refine below_alloc _ ?_); with_reducible assumption) | ((with_reducible refine keep_realloc (by assumption) ?_); (simp only []; omega)) | ((with_reducible refine below_realloc (by assumption) ?_); omega) | (with_reducible exact cell_later hb (by assumption)) | (with_reducible exact below_on (by assumption) hb) | ((repeat (with_reducible refine keep_set _ (by (simp only []; omega)) ?_)); with_reducible assumption) | ((repeat (with_reducible refine below_set _ (by (simp only []; omega)) ?_)); with_reducible assumption) | (simp; done) | (simp [go_sem]; done) | (simp [go_sem, *]; done) | go_grown)))
  case rest =>
    obtain ⟨g, rfl, hg0, hg1, c0a, c0b, c1a, c1b, hBc⟩ := hcut
    have hg := blk hg0
    have hl0 := blk c0a
    have hl1 := blk c1a
    go_wp2_with fail
    go_region_held3 (fun w' => w'.cell? ⟨g, 0, none⟩ = some (.int .i64 (joinI (a0, b0) (a1, b1)).1) ∧ w'.cell? ⟨g, 1, none⟩ = some (.int .i64 (joinI (a0, b0) (a1, b1)).2) ∧ w'.cell? ⟨w.heap.size, 0, none⟩ = some (.int .i64 a0) ∧ w'.cell? ⟨w.heap.size, 1, none⟩ = some (.int .i64 b0) ∧ w'.cell? ⟨w.heap.size + 1, 0, none⟩ = some (.int .i64 a1) ∧ w'.cell? ⟨w.heap.size + 1, 1, none⟩ = some (.int .i64 b1) ∧ Below w.heap.size w w') (((try go_split_ands); (repeat' apply And.intro); all_goals (first | with_reducible assumption | ((with_reducible refine keep_alloc _ ?_); with_reducible assumption) | ((with_reducible refine below_alloc _ ?_); with_reducible assumption) | ((with_reducible refine keep_realloc (by assumption) ?_); (simp only []; omega)) | ((with_reducible refine below_realloc (by assumption) ?_); omega) | (with_reducible exact cell_later hb (by assumption)) | (with_reducible exact below_on (by assumption) hb) | ((repeat (with_reducible refine keep_set _ (by (simp only []; omega)) ?_)); with_reducible assumption) | ((repeat (with_reducible refine below_set _ (by (simp only []; omega)) ?_)); with_reducible assumption) | (simp; done) | (simp [go_sem]; done) | (simp [go_sem, *]; done) | go_grown)))
      (first | (go_at_call 12; refine (toItv_l _ _ _).mono ?_; rintro e w' ⟨rfl, hb⟩; have hs0 := hb.size; have hc := bcell hb; (try have z0 : w.heap.size < w'.heap.size := (by ((try simp at hs0); omega))); (try have z1 : w.heap.size + 1 < w'.heap.size := (by ((try simp at hs0); omega))); (try have z2 : w.heap.size + 1 + 1 < w'.heap.size := (by ((try simp at hs0); omega))); (try have z3 : w.heap.size + 1 + 1 + 1 < w'.heap.size := (by ((try simp at hs0); omega))); (try have z4 : w.heap.size + 1 + 1 + 1 + 1 < w'.heap.size := (by ((try simp at hs0); omega))); (try have z5 : w.heap.size + 1 + 1 + 1 + 1 + 1 < w'.heap.size := (by ((try simp at hs0); omega))); (try have hg : g < w'.heap.size := (by ((try simp at hs0); omega))); clear hs0; (first | have hs := lt_of_alloc hb | have hs := lt_of_alloc_drew hb | have hs := Nat.lt_of_lt_of_le hs hb.size | skip)) | (go_at_call 21; refine (itvJoin_i _ _ _ _ _).mono ?_; rintro e w' ⟨rfl, hb⟩; have hs0 := hb.size; have hc := bcell hb; (try have z0 : w.heap.size < w'.heap.size := (by ((try simp at hs0); omega))); (try have z1 : w.heap.size + 1 < w'.heap.size := (by ((try simp at hs0); omega))); (try have z2 : w.heap.size + 1 + 1 < w'.heap.size := (by ((try simp at hs0); omega))); (try have z3 : w.heap.size + 1 + 1 + 1 < w'.heap.size := (by ((try simp at hs0); omega))); (try have z4 : w.heap.size + 1 + 1 + 1 + 1 < w'.heap.size := (by ((try simp at hs0); omega))); (try have z5 : w.heap.size + 1 + 1 + 1 + 1 + 1 < w'.heap.size := (by ((try simp at hs0); omega))); (try have hg : g < w'.heap.size := (by ((try simp at hs0); omega))); clear hs0; (first | have hs := lt_of_alloc hb | have hs := lt_of_alloc_drew hb | have hs := Nat.lt_of_lt_of_le hs hb.size | skip)))
    all_goals (go_wp2_with (first
      | (go_at_call 22; refine (eqItv_l _ _ _ _ _).mono ?_; rintro e w' ⟨rfl, hb⟩; have hs0 := hb.size; have hB : Below w.heap.size w w' := below_on (by ((try go_split_ands); go_grown)) hb; have hz := hB.size; have hc := bcell hb; (try have z0 : w.heap.size < w'.heap.size := (by ((try simp at hs0); omega))); (try have z1 : w.heap.size + 1 < w'.heap.size := (by ((try simp at hs0); omega))); (try have z2 : w.heap.size + 1 + 1 < w'.heap.size := (by ((try simp at hs0); omega))); (try have z3 : w.heap.size + 1 + 1 + 1 < w'.heap.size := (by ((try simp at hs0); omega))); (try have z4 : w.heap.size + 1 + 1 + 1 + 1 < w'.heap.size := (by ((try simp at hs0); omega))); (try have z5 : w.heap.size + 1 + 1 + 1 + 1 + 1 < w'.heap.size := (by ((try simp at hs0); omega))); clear hs0; clear hb)))
    all_goals (go_ret; exact ⟨by simp_all, by ((try go_split_ands); go_grown)⟩)
/-! ### The row, off the walk -/
set_option maxRecDepth 100000 in
theorem lifted (os : Os) (started : os.Started) (H : Type) (enc : TypeId × Value → H) :
    ReturnsInHanded {} Try.checked os 7 .any (Rows.fnExactItvJoinSpec.pre6 enc Try.prog Try.f7 Rows.fnExactItvJoinRow.domain false) (Rows.fnExactItvJoinSpec.post enc Try.prog Try.f7 false true false false) := by
  refine returnsInHanded_of_change (C := Try.checked) own started (by kernel_rfl) Try.func7
    (ChangeSpec.witness6 (enc := enc) (C := Try.checked) false ⟨#[], #[.agg #[.int .i64 0, .int .i64 0], .agg #[.int .i64 0, .int .i64 0]], []⟩ 8 (by kernel_rfl) (by kernel_rfl) (by kernel_rfl) (by kernel_rfl)) ?_
  intro W base args ds gs before hval0 hW hcnd _
  have hval : ∀ (j : Nat) t v, Try.f7.params[j]? = some t → args[j]? = some v → Value.okWide Try.prog W .any base t v := hval0
  have hW' := hW
  obtain ⟨p, q, hA0, hV, rfl, hfz, hnd⟩ := hW
  have hA : DataW.TrodAll enc Try.prog W 0 (fun _ => true) true Try.f7.params.toList args.toList ds p := hA0
  rw [Try.params7] at hA hval
  obtain ⟨v0, vs0, d0, ds0, p0, q0, hargs, rfl, rfl, h0, r0⟩ := trodAll_cons hA
  obtain ⟨v1, vs1, d1, ds1, p1, q1, rfl, rfl, rfl, h1, r1⟩ := trodAll_cons r0
  obtain ⟨rfl, rfl, rfl⟩ := trodAll_nil r1
  obtain rfl : args = #[v0, v1] := by cases args; simp_all
  obtain ⟨rfl, rfl⟩ := trodVars_none hV
  have k0 := h0
  have lt0 : ∀ x ∈ p0, x.block < W.heap.size := by obtain ⟨m, hm⟩ := k0; exact DataW.trod_lt m _ _ _ hm
  obtain ⟨c0a, c0b, y0a, y0b, m0, rfl, rfl, rfl, hy0a, hy0b⟩ := Joins.open_agg2 Try.underlying23 (by kernel_rfl) (by kernel_rfl) (hval 0 23 v0 rfl rfl) h0
  obtain ⟨a0, e0a, rfl, wa0⟩ := DataW.trod_int Try.underlying3 hy0a
  obtain ⟨b0, e0b, rfl, wb0⟩ := DataW.trod_int Try.underlying3 hy0b
  simp at e0a e0b
  subst e0a e0b
  have k1 := h1
  have lt1 : ∀ x ∈ p1, x.block < W.heap.size := by obtain ⟨m, hm⟩ := k1; exact DataW.trod_lt m _ _ _ hm
  obtain ⟨c1a, c1b, y1a, y1b, m1, rfl, rfl, rfl, hy1a, hy1b⟩ := Joins.open_agg2 Try.underlying23 (by kernel_rfl) (by kernel_rfl) (hval 1 23 v1 rfl rfl) h1
  obtain ⟨a1, e1a, rfl, wa1⟩ := DataW.trod_int Try.underlying3 hy1a
  obtain ⟨b1, e1b, rfl, wb1⟩ := DataW.trod_int Try.underlying3 hy1b
  simp at e1a e1b
  subst e1a e1b
  clear hA0 hval0
  refine (walk a0 b0 a1 b1 W wa0 wb0 wa1 wb1).mono fun e W' ⟨he, bel⟩ => ?_
  subst he
  exact ⟨_, rfl, _, _, _, [], _, [], hW', trodAll_mk1 (shut_bool Try.underlying4 _), (trodAll_cons_mk (Below.trod laidOut (by kernel_rfl) (of_decide_eq_true (by kernel_rfl)) k0 bel lt0) (trodAll_cons_mk (Below.trod laidOut (by kernel_rfl) (of_decide_eq_true (by kernel_rfl)) k1 bel lt1) trodAll_mk0)), rfl, bel.frame _, fun h => by cases h⟩

theorem over : Rows.fnExactItvJoinRow.holds Try.pinned (OpenSpec.ofChange Rows.fnExactItvJoinSpec) :=
  OpenClaim.holds_of_wide 7 Try.f7 rfl rfl rfl rfl rfl rfl rfl ⟨rfl, rfl, rfl, rfl, rfl⟩ rfl rfl rfl rfl rfl (by kernel_rfl) Try.func7 (by kernel_rfl)
    (of_decide_eq_true (by kernel_rfl)) (by unfold Func.isWrapper; rw [if_neg (of_decide_eq_false (by kernel_rfl))]; exact ⟨rfl, rfl⟩)
    (fun os started H enc _ => lifted os started H enc)

/-- The given statement. -/
theorem proved : Rows.FnExactItvJoinSaid := over
#print axioms proved
end Go.Proofs.Ytimmjejmcklofaa.fnExactItvJoin
