/-
  FnExactAbsOk: for every input the law returns true, and its arguments read as before. No conditions.
-/
import Derived.Test.YthbbakmohcjblaaAbs5
import Derived.Test.YthbbakmohcjblaaAbsL
namespace Go.Proofs.Ythbbakmohcjblaa.fnExactAbsOk
set_option linter.unusedSimpArgs false
set_option linter.unusedVariables false
open Go.ChangeShapes Go.WideShapes Go.ChangeAt Go.RowKit
open Go.ChangeMaps (open_string shut_string)

set_option maxRecDepth 100000 in
set_option maxHeartbeats 8000000 in
theorem walk (on : Bool) (a : Option Addr) (len cap : Nat) (lo hi : Int) (z : List (Int × Int)) (w : World) (hz : RdI w a len z) (hm : len ≤ maxLen) :
    Calls Try.prog 3 #[.agg #[.bool on, .slice a len cap, .int .i64 lo, .int .i64 hi]] w fun e w' => e = .returned (.bool true) ∧ Below w.heap.size w w' := by
  have HZ := Lib.hid hz
  clear hz
  by_cases hl : len ≤ 1048576
  · obtain ⟨n1, hn1, hn2⟩ : ∃ n1 : Int, n1 = 1048576 - len ∧ 0 ≤ n1 := ⟨_, rfl, by omega⟩
    have hn3 : ¬ n1 < 0 := by omega
    obtain ⟨x, hx⟩ : ∃ x, absOk on z (lo, hi) = x := ⟨_, rfl⟩
    have HX := Lib.hid hx
    clear hx
    go_enter Try.func3, Try.ntmps3
    go_wp2_with (first
      | (go_at_call 9; refine (szAbs_ok _ _ _ _ _ _ _ n1 hn1 hn2 (by omega) _).mono ?_; rintro e w1 ⟨rfl, hb⟩; have c0 : w1.cell? ⟨w.heap.size, 0, none⟩ = some (Value.bool on) := (hb.cell (p := ⟨w.heap.size, 0, none⟩) (by simp only [World.size_alloc, World.size_setCell, World.size_drew]; omega)).trans (by simp [go_sem, *]); have c1 : w1.cell? ⟨w.heap.size, 1, none⟩ = some (Value.slice a len cap) := (hb.cell (p := ⟨w.heap.size, 1, none⟩) (by simp only [World.size_alloc, World.size_setCell, World.size_drew]; omega)).trans (by simp [go_sem, *]); have c2 : w1.cell? ⟨w.heap.size, 2, none⟩ = some (Value.int .i64 lo) := (hb.cell (p := ⟨w.heap.size, 2, none⟩) (by simp only [World.size_alloc, World.size_setCell, World.size_drew]; omega)).trans (by simp [go_sem, *]); have c3 : w1.cell? ⟨w.heap.size, 3, none⟩ = some (Value.int .i64 hi) := (hb.cell (p := ⟨w.heap.size, 3, none⟩) (by simp only [World.size_alloc, World.size_setCell, World.size_drew]; omega)).trans (by simp [go_sem, *]); have hS := below_on ((Below.refl w.heap.size w).alloc (Nat.le_refl _) _) hb; clear hb)
      | (go_at_call 11; refine (toAbs_l _ _ _ _ _ _ z _ (HZ.out.below hS) hl).mono ?_; rintro e w2 ⟨g, rfl, hg, hr, hb⟩; replace c0 : w2.cell? ⟨w.heap.size, 0, none⟩ = some (Value.bool on) := (hb.cell (p := ⟨w.heap.size, 0, none⟩) (by first | exact blk c0 | (have hlt := blk c0; simp only [World.size_alloc, World.size_setCell, World.size_drew]; omega))).trans (by first | exact c0 | exact keep_alloc _ c0 | (simp [go_sem, *]; done)); replace c1 : w2.cell? ⟨w.heap.size, 1, none⟩ = some (Value.slice a len cap) := (hb.cell (p := ⟨w.heap.size, 1, none⟩) (by first | exact blk c1 | (have hlt := blk c1; simp only [World.size_alloc, World.size_setCell, World.size_drew]; omega))).trans (by first | exact c1 | exact keep_alloc _ c1 | (simp [go_sem, *]; done)); replace c2 : w2.cell? ⟨w.heap.size, 2, none⟩ = some (Value.int .i64 lo) := (hb.cell (p := ⟨w.heap.size, 2, none⟩) (by first | exact blk c2 | (have hlt := blk c2; simp only [World.size_alloc, World.size_setCell, World.size_drew]; omega))).trans (by first | exact c2 | exact keep_alloc _ c2 | (simp [go_sem, *]; done)); replace c3 : w2.cell? ⟨w.heap.size, 3, none⟩ = some (Value.int .i64 hi) := (hb.cell (p := ⟨w.heap.size, 3, none⟩) (by first | exact blk c3 | (have hlt := blk c3; simp only [World.size_alloc, World.size_setCell, World.size_drew]; omega))).trans (by first | exact c3 | exact keep_alloc _ c3 | (simp [go_sem, *]; done)); have hS2 := below_on hS hb; clear hS; have hS := hS2; clear hS2 hb)
      | (go_at_call 10; refine (absOk_s _ _ _ _ _ _ z _ hr hl).mono ?_; rw [HX.out]; rintro e w3 ⟨rfl, hb⟩; replace c0 : w3.cell? ⟨w.heap.size, 0, none⟩ = some (Value.bool on) := (hb.cell (p := ⟨w.heap.size, 0, none⟩) (by first | exact blk c0 | (have hlt := blk c0; simp only [World.size_alloc, World.size_setCell, World.size_drew]; omega))).trans (by first | exact c0 | exact keep_alloc _ c0 | (simp [go_sem, *]; done)); replace c1 : w3.cell? ⟨w.heap.size, 1, none⟩ = some (Value.slice a len cap) := (hb.cell (p := ⟨w.heap.size, 1, none⟩) (by first | exact blk c1 | (have hlt := blk c1; simp only [World.size_alloc, World.size_setCell, World.size_drew]; omega))).trans (by first | exact c1 | exact keep_alloc _ c1 | (simp [go_sem, *]; done)); replace c2 : w3.cell? ⟨w.heap.size, 2, none⟩ = some (Value.int .i64 lo) := (hb.cell (p := ⟨w.heap.size, 2, none⟩) (by first | exact blk c2 | (have hlt := blk c2; simp only [World.size_alloc, World.size_setCell, World.size_drew]; omega))).trans (by first | exact c2 | exact keep_alloc _ c2 | (simp [go_sem, *]; done)); replace c3 : w3.cell? ⟨w.heap.size, 3, none⟩ = some (Value.int .i64 hi) := (hb.cell (p := ⟨w.heap.size, 3, none⟩) (by first | exact blk c3 | (have hlt := blk c3; simp only [World.size_alloc, World.size_setCell, World.size_drew]; omega))).trans (by first | exact c3 | exact keep_alloc _ c3 | (simp [go_sem, *]; done)); have hS2 := below_on hS hb; clear hS hr hg; have hS := hS2; clear hS2 hb)
      | (go_at_call 12; refine (absOk_i _ _ _ _ _ _ z _ (hr.alloc _) hl ⟨Nat.le_refl _, .inr ⟨g, rfl⟩⟩).mono ?_; rw [HX.out]; rintro e w4 ⟨rfl, hb⟩; replace c0 : w4.cell? ⟨w.heap.size, 0, none⟩ = some (Value.bool on) := (hb.cell (p := ⟨w.heap.size, 0, none⟩) (by first | exact blk c0 | (have hlt := blk c0; simp only [World.size_alloc, World.size_setCell, World.size_drew]; omega))).trans (by first | exact c0 | exact keep_alloc _ c0 | (simp [go_sem, *]; done)); replace c1 : w4.cell? ⟨w.heap.size, 1, none⟩ = some (Value.slice a len cap) := (hb.cell (p := ⟨w.heap.size, 1, none⟩) (by first | exact blk c1 | (have hlt := blk c1; simp only [World.size_alloc, World.size_setCell, World.size_drew]; omega))).trans (by first | exact c1 | exact keep_alloc _ c1 | (simp [go_sem, *]; done)); replace c2 : w4.cell? ⟨w.heap.size, 2, none⟩ = some (Value.int .i64 lo) := (hb.cell (p := ⟨w.heap.size, 2, none⟩) (by first | exact blk c2 | (have hlt := blk c2; simp only [World.size_alloc, World.size_setCell, World.size_drew]; omega))).trans (by first | exact c2 | exact keep_alloc _ c2 | (simp [go_sem, *]; done)); replace c3 : w4.cell? ⟨w.heap.size, 3, none⟩ = some (Value.int .i64 hi) := (hb.cell (p := ⟨w.heap.size, 3, none⟩) (by first | exact blk c3 | (have hlt := blk c3; simp only [World.size_alloc, World.size_setCell, World.size_drew]; omega))).trans (by first | exact c3 | exact keep_alloc _ c3 | (simp [go_sem, *]; done)); have hS2 : Below w.heap.size w w4 := below_on (hS.alloc hS.size _) hb; have hr4 := (hr.alloc _).below hb; have d0 : w4.cell? ⟨w2.heap.size, 0, none⟩ = some (Value.bool on) := (hb.cell (p := ⟨w2.heap.size, 0, none⟩) (by simp only [World.size_alloc, World.size_setCell, World.size_drew]; omega)).trans (by simp [go_sem, *]); have d1 : w4.cell? ⟨w2.heap.size, 1, none⟩ = some (Value.slice (some ⟨g, 0, none⟩) len len) := (hb.cell (p := ⟨w2.heap.size, 1, none⟩) (by simp only [World.size_alloc, World.size_setCell, World.size_drew]; omega)).trans (by simp [go_sem, *]); have d2 : w4.cell? ⟨w2.heap.size, 2, none⟩ = some (Value.int .i64 lo) := (hb.cell (p := ⟨w2.heap.size, 2, none⟩) (by simp only [World.size_alloc, World.size_setCell, World.size_drew]; omega)).trans (by simp [go_sem, *]); have d3 : w4.cell? ⟨w2.heap.size, 3, none⟩ = some (Value.int .i64 hi) := (hb.cell (p := ⟨w2.heap.size, 3, none⟩) (by simp only [World.size_alloc, World.size_setCell, World.size_drew]; omega)).trans (by simp [go_sem, *]); clear hb hS hr hg))
    go_region_with (first
      | (go_at_call 11; go_loud (refine (toAbs_l _ _ _ _ _ _ z _ (HZ.out.below (by first | exact hS2 | exact hS2.drew)) hl).mono ?_; rintro e w5 ⟨g5, rfl, hg5, hr5, hb⟩; replace c0 : w5.cell? ⟨w.heap.size, 0, none⟩ = some (Value.bool on) := (hb.cell (p := ⟨w.heap.size, 0, none⟩) (by first | exact blk c0 | (have hlt := blk c0; simp only [World.size_alloc, World.size_setCell, World.size_drew]; omega))).trans (by first | exact c0 | exact keep_alloc _ c0 | (simp [go_sem, *]; done)); replace c1 : w5.cell? ⟨w.heap.size, 1, none⟩ = some (Value.slice a len cap) := (hb.cell (p := ⟨w.heap.size, 1, none⟩) (by first | exact blk c1 | (have hlt := blk c1; simp only [World.size_alloc, World.size_setCell, World.size_drew]; omega))).trans (by first | exact c1 | exact keep_alloc _ c1 | (simp [go_sem, *]; done)); replace c2 : w5.cell? ⟨w.heap.size, 2, none⟩ = some (Value.int .i64 lo) := (hb.cell (p := ⟨w.heap.size, 2, none⟩) (by first | exact blk c2 | (have hlt := blk c2; simp only [World.size_alloc, World.size_setCell, World.size_drew]; omega))).trans (by first | exact c2 | exact keep_alloc _ c2 | (simp [go_sem, *]; done)); replace c3 : w5.cell? ⟨w.heap.size, 3, none⟩ = some (Value.int .i64 hi) := (hb.cell (p := ⟨w.heap.size, 3, none⟩) (by first | exact blk c3 | (have hlt := blk c3; simp only [World.size_alloc, World.size_setCell, World.size_drew]; omega))).trans (by first | exact c3 | exact keep_alloc _ c3 | (simp [go_sem, *]; done)); replace d0 : w5.cell? ⟨w2.heap.size, 0, none⟩ = some (Value.bool on) := (hb.cell (p := ⟨w2.heap.size, 0, none⟩) (by first | exact blk d0 | (have hlt := blk d0; simp only [World.size_alloc, World.size_setCell, World.size_drew]; omega))).trans (by first | exact d0 | exact keep_alloc _ d0 | (simp [go_sem, *]; done)); replace d1 : w5.cell? ⟨w2.heap.size, 1, none⟩ = some (Value.slice (some ⟨g, 0, none⟩) len len) := (hb.cell (p := ⟨w2.heap.size, 1, none⟩) (by first | exact blk d1 | (have hlt := blk d1; simp only [World.size_alloc, World.size_setCell, World.size_drew]; omega))).trans (by first | exact d1 | exact keep_alloc _ d1 | (simp [go_sem, *]; done)); replace d2 : w5.cell? ⟨w2.heap.size, 2, none⟩ = some (Value.int .i64 lo) := (hb.cell (p := ⟨w2.heap.size, 2, none⟩) (by first | exact blk d2 | (have hlt := blk d2; simp only [World.size_alloc, World.size_setCell, World.size_drew]; omega))).trans (by first | exact d2 | exact keep_alloc _ d2 | (simp [go_sem, *]; done)); replace d3 : w5.cell? ⟨w2.heap.size, 3, none⟩ = some (Value.int .i64 hi) := (hb.cell (p := ⟨w2.heap.size, 3, none⟩) (by first | exact blk d3 | (have hlt := blk d3; simp only [World.size_alloc, World.size_setCell, World.size_drew]; omega))).trans (by first | exact d3 | exact keep_alloc _ d3 | (simp [go_sem, *]; done)); have hr6 := (show RdI _ _ _ _ from by first | exact hr4 | exact hr4.below Below.refl_drew).below hb; have hS5 := below_on (by first | exact hS2 | exact hS2.drew) hb; clear hb))
      | (go_at_call 13; refine (eqAbs_l _ _ _ _ _ _ _ _ z _ hr6 hr5 hl).mono ?_; rintro e w6 ⟨rfl, hb⟩; have hS6 := below_on hS5 hb; clear hb))
    all_goals go_wp2_with fail
    all_goals (go_ret; exact ⟨rfl, hS6⟩)
  · go_enter Try.func3, Try.ntmps3
    go_wp2_with (go_at_call 9; refine (szAbs_no _ _ _ _ _ _ _ (by omega) (by omega) (by omega) hm _).mono ?_; rintro e w1 ⟨rfl, hb⟩; have hS := below_on ((Below.refl w.heap.size w).alloc (Nat.le_refl _) _) hb; clear hb)
    all_goals (go_ret; exact ⟨rfl, hS⟩)
/-! ### The row, off the walk -/
set_option maxRecDepth 100000 in
theorem lifted (os : Os) (started : os.Started) (H : Type) (enc : TypeId × Value → H) :
    ReturnsInHanded {} Try.checked os 3 .any (Rows.fnExactAbsOkSpec.pre6 enc Try.prog Try.f3 Rows.fnExactAbsOkRow.domain false) (Rows.fnExactAbsOkSpec.post enc Try.prog Try.f3 false true false false) := by
  refine returnsInHanded_of_change (C := Try.checked) own started (by kernel_rfl) Try.func3
    (ChangeSpec.witness6 (enc := enc) (C := Try.checked) false ⟨#[], #[.agg #[.bool false, .slice none 0 0, .int .i64 0, .int .i64 0]], []⟩ 8 (by kernel_rfl) (by kernel_rfl) (by kernel_rfl) (by kernel_rfl)) ?_
  intro W base args ds gs before hval0 hW hcnd _
  have hval : ∀ (j : Nat) t v, Try.f3.params[j]? = some t → args[j]? = some v → Value.okWide Try.prog W .any base t v := hval0
  have hW' := hW
  obtain ⟨p, q, hA0, hV, rfl, hfz, hnd⟩ := hW
  have hA : DataW.TrodAll enc Try.prog W 0 (fun _ => true) true Try.f3.params.toList args.toList ds p := hA0
  rw [Try.params3] at hA hval
  obtain ⟨v0, vs0, d0, ds0, p0, q0, hargs, rfl, rfl, h0, r0⟩ := trodAll_cons hA
  obtain ⟨rfl, rfl, rfl⟩ := trodAll_nil r0
  obtain rfl : args = #[v0] := by cases args; simp_all
  obtain ⟨rfl, rfl⟩ := trodVars_none hV
  have k0 := h0
  have lt0 : ∀ x ∈ p0, x.block < W.heap.size := by obtain ⟨m, hm⟩ := k0; exact DataW.trod_lt m _ _ _ hm
  obtain ⟨on0, a0, len0, cap0, lo0, hi0, z0, rfl, wz0, wm0⟩ := open_abs (hval 0 26 v0 rfl rfl) h0
  clear hA0 hval0
  refine (walk on0 a0 len0 cap0 lo0 hi0 z0 W wz0 wm0).mono fun e W' ⟨he, bel⟩ => ?_
  subst he
  exact ⟨_, rfl, _, _, _, [], _, [], hW', trodAll_mk1 (shut_bool Try.underlying4 _), (trodAll_cons_mk (Below.trod laidOut (by kernel_rfl) (of_decide_eq_true (by kernel_rfl)) k0 bel lt0) trodAll_mk0), rfl, bel.frame _, fun h => by cases h⟩

theorem over : Rows.fnExactAbsOkRow.holds Try.pinned (OpenSpec.ofChange Rows.fnExactAbsOkSpec) :=
  OpenClaim.holds_of_wide 3 Try.f3 rfl rfl rfl rfl rfl rfl rfl ⟨rfl, rfl, rfl, rfl, rfl⟩ rfl rfl rfl rfl rfl (by kernel_rfl) Try.func3 (by kernel_rfl)
    (of_decide_eq_true (by kernel_rfl)) (by unfold Func.isWrapper; rw [if_neg (of_decide_eq_false (by kernel_rfl))]; exact ⟨rfl, rfl⟩)
    (fun os started H enc _ => lifted os started H enc)

/-- The given statement. -/
theorem proved : Rows.FnExactAbsOkSaid := over
#print axioms proved
end Go.Proofs.Ythbbakmohcjblaa.fnExactAbsOk
