/-
  FnItvFold: for every input the law returns true, and its arguments read as before. No conditions.
-/
import Derived.Test.YtbkfhlppcocamaaAt2
import Derived.Test.YtbkfhlppcocamaaLaws
import Derived.Test.YtbkfhlppcocamaaQuietB
import Derived.Test.YtbkfhlppcocamaaDraw9
import Derived.Test.YtbkfhlppcocamaaDraw6
import Derived.Test.YtbkfhlppcocamaaFold
import Derived.Test.YtbkfhlppcocamaaPlainLaws
import Derived.LoopTactic
namespace Go.Proofs.Ytbkfhlppcocamaa.fnItvFold
set_option linter.unusedSimpArgs false
set_option linter.unusedVariables false
open Go.ChangeShapes Go.WideShapes Go.ChangeAt Go.RowKit
open Go.ChangeMaps (open_string shut_string)
open Go.Sort

theorem cset {W : World} {p a : Addr} {u : Value} (hn : a.block ≠ p.block) : (W.setCell p u).cell? a = W.cell? a := World.cell?_of_block (w := W) (Below.heap_setCell W p u a.block hn)
theorem keep_under {W W' : World} {a : Addr} {v : Value} {o o' : Obj} (h : (W.alloc o).cell? a = some v) (hl : a.block < W.heap.size) (hs : W'.heap.size = W.heap.size) (k : W'.cell? a = W.cell? a) : (W'.alloc o').cell? a = some v := by
  rw [World.cell?_alloc_lt _ _ _ hl] at h
  rw [World.cell?_alloc_lt _ _ _ (by omega), k, h]
theorem below_under {w W W' : World} {o o' : Obj} (h : Below w.heap.size w (W.alloc o)) (hl : w.heap.size ≤ W.heap.size) (k : Below w.heap.size W W') : Below w.heap.size w (W'.alloc o') := by
  have k0 : Below w.heap.size w W := ⟨h.os, h.tape, h.output, hl, fun i hi => by rw [← Below.heap_alloc W o i (by omega)]; exact h.block i hi⟩
  exact (k0.trans k).alloc (by have := k.size; omega) o'

theorem keep_realloc2 {W : World} {a : Addr} {v : Value} {o o' o2 : Obj} (h : ((W.alloc o).alloc o2).cell? a = some v) (hl : a.block < W.heap.size) : ((W.alloc o').alloc o2).cell? a = some v := by
  rw [World.cell?_alloc_lt _ _ _ (by rw [World.size_alloc]; omega), World.cell?_alloc_lt _ _ _ hl] at h ⊢; exact h
theorem below_realloc2 {w W : World} {o o' o2 : Obj} (h : Below w.heap.size w ((W.alloc o).alloc o2)) (hl : w.heap.size ≤ W.heap.size) : Below w.heap.size w ((W.alloc o').alloc o2) :=
  ⟨h.os, h.tape, h.output, by simp; omega, fun k hk => by
    rw [Below.heap_alloc _ _ _ (by rw [World.size_alloc]; omega), Below.heap_alloc _ _ _ (by omega), ← Below.heap_alloc W o _ (by omega), ← Below.heap_alloc (W.alloc o) o2 _ (by rw [World.size_alloc]; omega)]; exact h.block k hk⟩
theorem owOk_at (w : World) : Calls Try.prog 23 #[] w fun e w' => e = .returned (.bool true) ∧ Below w.heap.size w w' := (owOk_l w).mono fun e w' h => ⟨h.1, by rw [h.2]; exact Below.refl _ _⟩
/-- A list of twelve integers lies in block g. -/
def ListAt (W : World) (g : Nat) (zs : List Int) : Prop := ∀ k, k < 12 → W.cell? ⟨g, k, none⟩ = some (.int .i64 (zs.getD k 0))
theorem list_of {B : Nat} {w : World} {v : Value} {zs : List Int} (h : NumsAt B w v zs) (hl : zs.length = 12) : ∃ g cap, v = .slice (some ⟨g, 0, none⟩) 12 cap ∧ B ≤ g ∧ g < w.heap.size ∧ ListAt w g zs := by
  obtain ⟨_, ho⟩ := h
  rw [hl] at ho
  rcases ho.2 with ⟨_, h0⟩ | ⟨g, cap, cur, rfl, h1, hg, _⟩
  · omega
  · refine ⟨g, cap, rfl, h1, (ho.lt g rfl).2, fun k hk => ?_⟩
    rw [ho.cellAt k (by omega), List.getElem?_map, List.getD_eq_getElem?_getD, List.getElem?_eq_getElem (by omega)]
    rfl
theorem ListAt.keep {W W' : World} {g : Nat} {zs : List Int} (h : ListAt W g zs) (hb : Below W.heap.size W W') (hg : g < W.heap.size) : ListAt W' g zs := fun k hk => (hb.cell (p := ⟨g, k, none⟩) hg).trans (h k hk)
theorem ListAt.alloc {W : World} {g : Nat} {zs : List Int} (h : ListAt W g zs) (o : Obj) (hg : g < W.heap.size) : ListAt (W.alloc o) g zs := fun k hk => (World.cell?_alloc_lt _ _ _ hg).trans (h k hk)
theorem fold_at {lo hi xl xh : Int} (h : foldI lo hi = (xl, xh)) (w : World) : Calls Try.prog 35 #[.int .i64 lo, .int .i64 hi] w fun e w' => e = .returned (.agg #[.int .i64 xl, .int .i64 xh]) ∧ Below w.heap.size w w' := by
  have k := itvFold_i lo hi w
  rw [h] at k
  exact k
theorem fold_s_at {lo hi xl xh : Int} (h : foldI lo hi = (xl, xh)) (w : World) : Calls Try.prog 36 #[.int .i64 lo, .int .i64 hi] w fun e w' => e = .returned (.agg #[.int .i64 xl, .int .i64 xh]) ∧ Below w.heap.size w w' := by
  have k := itvFold_s lo hi w
  rw [h] at k
  exact k
theorem wrap_at (n : Int) (w : World) : Calls Try.prog 12 #[.int .i64 n] w fun e w' => e = .returned (.int .i64 (wrapN n)) ∧ Below w.heap.size w w' := (numWrap_i n w).mono fun e w' h => ⟨h.1, by rw [← h.2]; exact Below.refl _ _⟩
theorem norm_at (n : Int) (w : World) : Calls Try.prog 15 #[.int .i64 n] w fun e w' => e = .returned (.int .i64 (n % 65536)) ∧ w = w' := owNorm_l n w
theorem sok_at {n : Int} {x : Bool} (h : numOk n = x) (w : World) : Calls Try.prog 22 #[.int .i64 n] w fun e w' => e = .returned (.bool x) ∧ Below w.heap.size w w' := by
  have k := numOk_s n w
  rw [h] at k
  exact k.mono fun e w' h => ⟨h.1, by rw [← h.2]; exact Below.refl _ _⟩
theorem iok_at {lo hi : Int} {x : Bool} (h : okI (lo, hi) = x) (w : World) : Calls Try.prog 37 #[.agg #[.int .i64 lo, .int .i64 hi]] w fun e w' => e = .returned (.bool x) ∧ Below w.heap.size w w' := by
  have k := itvOk_i lo hi w
  rw [h] at k
  exact k
theorem rest_e (t d : Int) (h : 1 ≤ d) (ht : 0 ≤ t) : (0 ≤ t.tmod d ∧ t.tmod d < d) ∧ (0 ≤ t % d ∧ t % d < d) := by
  have e := tmod_pos d ht
  rw [e]
  exact ⟨⟨Int.emod_nonneg _ (by omega), Int.emod_lt_of_pos _ (by omega)⟩, Int.emod_nonneg _ (by omega), Int.emod_lt_of_pos _ (by omega)⟩

set_option maxRecDepth 100000 in
set_option maxHeartbeats 8000000 in
theorem walk (a0 : Option Addr) (len0 cap0 : Nat) (z0 : List Int) (a1 : Option Addr) (len1 cap1 : Nat) (z1 : List Int) (w : World) (w0 : IsRow .u8 w a0 len0 cap0 z0) (w1 : IsRow .u8 w a1 len1 cap1 z1) :
    Calls Try.prog 8 #[.slice a0 len0 cap0, .slice a1 len1 cap1] w fun e w' => e = .returned (.bool true) ∧ Below w.heap.size w w' := by
  go_enter Try.func8, Try.ntmps8
  go_wp2_with fail
  all_goals (try (go_ret; exact ⟨rfl, by go_grown⟩))
  refine (drawItvFold_s _ _ _ _ _ w0).mono ?_
  rintro e wA ⟨lo, hi, rfl, hBa⟩
  go_wp2_with fail
  refine (drawInputs_s _ _ _ _ _ (w1.below hBa)).mono ?_
  rintro e wB ⟨n, v, zs, rfl, hn, hzl, hN, hBb⟩
  have hBw : Below w.heap.size w wB := below_on hBa hBb
  obtain ⟨g, cap, rfl, _, lg, hL0⟩ := list_of hN hzl
  clear hBa hBb hN hn hzl
  obtain ⟨⟨xl, xh⟩, hx⟩ : ∃ r, r = foldI lo hi := ⟨_, rfl⟩
  have Hx := Lib.hid hx.symm
  go_wp2_with fail
  refine (fold_at Hx.out _).mono ?_
  rintro e wC ⟨rfl, hBc⟩
  have hL := Lib.hid ((hL0.keep hBc lg).alloc (.cells #[.int .i64 xl, .int .i64 xh] 34) (Nat.lt_of_lt_of_le lg hBc.size))
  have hB0 : Below w.heap.size w (wC.alloc (.cells #[.int .i64 xl, .int .i64 xh] 34)) := (below_on hBw hBc).alloc (below_on hBw hBc).size (.cells #[.int .i64 xl, .int .i64 xh] 34)
  have c0 : (wC.alloc (.cells #[.int .i64 xl, .int .i64 xh] 34)).cell? ⟨wC.heap.size, 0, none⟩ = some (.int .i64 xl) := by simp [go_sem]
  have c1 : (wC.alloc (.cells #[.int .i64 xl, .int .i64 xh] 34)).cell? ⟨wC.heap.size, 1, none⟩ = some (.int .i64 xh) := by simp [go_sem]
  have lg0 : g < (wC.alloc (.cells #[.int .i64 xl, .int .i64 xh] 34)).heap.size := by have := hBc.size; simp only [World.size_alloc]; omega
  clear hBc hBw hL0 lg
  have hcase : (lo < -1099511627776) ∨ (¬ lo < -1099511627776 ∧ 1099511627776 < lo) ∨ (¬ lo < -1099511627776 ∧ ¬ 1099511627776 < lo ∧ hi < -1099511627776) ∨ (¬ lo < -1099511627776 ∧ ¬ 1099511627776 < lo ∧ ¬ hi < -1099511627776 ∧ 1099511627776 < hi) ∨ (¬ lo < -1099511627776 ∧ ¬ 1099511627776 < lo ∧ ¬ hi < -1099511627776 ∧ ¬ 1099511627776 < hi ∧ hi < lo) ∨ (-1099511627776 ≤ lo ∧ lo ≤ hi ∧ hi ≤ 1099511627776) := by omega
  rcases hcase with hc | hc | hc | hc | hc | hc
  iterate 5
    · have hz : foldI lo hi = (0, 0) := by rw [foldI_by, if_pos (by omega)]
      rw [← hx] at hz
      simp only [Prod.mk.injEq] at hz
      obtain ⟨rfl, rfl⟩ := hz
      clear hx
      (try obtain ⟨hc1, hc2⟩ := hc)
      (try obtain ⟨hc2, hc3⟩ := hc2)
      (try obtain ⟨hc3, hc4⟩ := hc3)
      (try obtain ⟨hc4, hc5⟩ := hc4)
      go_wp2_with fail
      generalize wC.alloc (.cells #[.int .i64 0, .int .i64 0] 34) = W0 at *
      have k0 := cell_regrown c0
      have k1 := cell_regrown c1
      ((refine region_below (W0 := W0) mixed_ok (by kernel_rfl) (by first | exact below_regrown _ _ _ | exact Below.refl _ _ | assumption | go_grown) ?_); (repeat (go_big_quiet_step ((first | (go_at_call 36; with_reducible exact Calls.regrown_of (fold_s_at Hx.out _)))))); (refine wpQuiet_nil ?_); (intro _ hq'); (obtain ⟨⟨dq, osq⟩, hq''⟩ := hq'); (subst hq''))
      go_wp2_with (first
      | (go_at_call 23; ((with_reducible refine (owOk_at  _).mono ?_); rintro e w' ⟨rfl, hb⟩; obtain ⟨⟨dq, osq⟩, hq''⟩ := regrown_on (W0 := W0) (by first | exact below_regrown _ _ _ | exact Below.refl _ _ | go_grown) hb; subst hq''; clear hb)))
      go_ret
      exact ⟨rfl, below_on hB0 (by first | exact below_regrown _ _ _ | exact Below.refl _ _ | go_grown)⟩
  · obtain ⟨hc1, hc2, hc3⟩ := hc
    have hfar : far lo hi = false := by unfold far; simp; omega
    have Fm := Lib.hid (fun m (h1 : lo ≤ m) (h2 : m ≤ hi) => fold_mem hfar h1 h2)
    have hok := fold_ok hfar
    rw [← hx] at Fm hok
    have Ox := Lib.hid hok
    have He := Lib.hid (Fm.out hi hc2 (by omega))
    have hself : numOk lo = true → numOk hi = true → xl = lo ∧ xh = hi := fun h1 h2 => by
      have k1 := (numOk_iff _).1 h1
      have k2 := (numOk_iff _).1 h2
      have := fold_self (lo := lo) (hi := hi) (by omega) hc2 (by omega)
      rw [← hx] at this
      simpa using this
    have n1 : (hi - lo + 1 == 0) = false := by rw [beq_eq_false_iff_ne]; omega
    have n2 : ¬ hi - lo + 1 = 0 := by omega
    clear hx hok hfar
    have e1 : ¬ lo < -1099511627776 := by omega
    have e2 : ¬ 1099511627776 < lo := by omega
    have e3 : ¬ hi < -1099511627776 := by omega
    have e4 : ¬ 1099511627776 < hi := by omega
    have e5 : ¬ hi < lo := by omega
    have ends : (numOk lo = true ∧ numOk hi = true ∧ xl = lo ∧ xh = hi) ∨ (numOk lo = true ∧ numOk hi = false) ∨ numOk lo = false := by
      rcases Bool.eq_false_or_eq_true (numOk lo) with h1 | h1
      · rcases Bool.eq_false_or_eq_true (numOk hi) with h2 | h2
        · exact .inl ⟨h1, h2, hself h1 h2⟩
        · exact .inr (.inl ⟨h1, h2⟩)
      · exact .inr (.inr h1)
    have Ends := Lib.hid ends
    clear hself ends
    go_wp2_with fail
    generalize wC.alloc (.cells #[.int .i64 xl, .int .i64 xh] 34) = W0 at *
    generalize wC.heap.size = gx at *
    have k0 := cell_regrown c0
    have k1 := cell_regrown c1
    ((refine region_below (W0 := W0) mixed_ok (by kernel_rfl) (by first | exact below_regrown _ _ _ | exact Below.refl _ _ | assumption | go_grown) ?_); (repeat (go_big_quiet_step ((first | (go_at_call 36; with_reducible exact Calls.regrown_of (fold_s_at Hx.out _)))))); (refine wpQuiet_nil ?_); (intro _ hq'); (obtain ⟨⟨dq, osq⟩, hq''⟩ := hq'); (subst hq''))
    go_wp2_with fail
    go_loopw [11] (fun i wr => ∃ k : Nat, k ≤ 12 ∧ i = .int .i64 k ∧ Below W0.heap.size W0 wr) (fun i _ => 12 - (intOf i).toNat)
    case atStart => exact ⟨0, by omega, rfl, by first | exact below_regrown _ _ _ | exact Below.refl _ _ | go_grown⟩
    case round =>
      obtain ⟨k, hk, rfl, hS⟩ := hrel
      by_cases hlt : k < 12
      · have hcell := (hS.cell (p := ⟨g, k, none⟩) lg0).trans (hL.out k hlt)
        generalize zs.getD k 0 = m0 at hcell
        have m1 : 0 ≤ m0 % 65536 ∧ m0 % 65536 < 65536 := ⟨Int.emod_nonneg _ (by omega), Int.emod_lt_of_pos _ (by omega)⟩
        have m2 : 0 ≤ n % 65536 ∧ n % 65536 < 65536 := ⟨Int.emod_nonneg _ (by omega), Int.emod_lt_of_pos _ (by omega)⟩
        have m3 := rest_e (m0 % 65536 * 65536 + n % 65536) (hi - lo + 1) (by omega) (by omega)
        go_wp2_with (go_at_call 15; refine (norm_at _ _).mono ?_; rintro e w' ⟨rfl, rfl⟩)
        ((refine region_below (W0 := W0) mixed_ok (by kernel_rfl) (by first | exact below_regrown _ _ _ | exact Below.refl _ _ | assumption | go_grown) ?_); (repeat (go_big_quiet_step ((first | (go_at_call 12; with_reducible exact Calls.regrown_of (wrap_at _ _)) | (go_at_call 28; with_reducible exact Calls.regrown_of (has_at (Fm.out _ (by omega) (by omega)) _)))))); (refine wpQuiet_nil ?_); (intro _ hq'); (obtain ⟨⟨dq, osq⟩, hq''⟩ := hq'); (subst hq''))
        go_wp2_with fail
        go_roundw
        case rel => exact ⟨k + 1, by omega, by go_num, by first | exact below_regrown _ _ _ | assumption⟩
        case measure => simp [intOf] <;> omega
      · rcases Ends.out with ⟨h1, h2, rfl, rfl⟩ | ⟨h1, h2⟩ | h1
        · have H1 := Lib.hid h1
          have H2 := Lib.hid h2
          clear h1 h2
          go_wp2_with (first
      | (go_at_call 22; ((with_reducible refine (sok_at H1.out _).mono ?_); rintro e w' ⟨rfl, hb⟩; obtain ⟨⟨dq, osq⟩, hq''⟩ := regrown_on (W0 := W0) (by first | exact below_regrown _ _ _ | exact Below.refl _ _ | assumption | go_grown) hb; subst hq''; clear hb))
      | (go_at_call 22; ((with_reducible refine (sok_at H2.out _).mono ?_); rintro e w' ⟨rfl, hb⟩; obtain ⟨⟨dq, osq⟩, hq''⟩ := regrown_on (W0 := W0) (by first | exact below_regrown _ _ _ | exact Below.refl _ _ | assumption | go_grown) hb; subst hq''; clear hb))
      | (go_at_call 37; ((with_reducible refine (iok_at Ox.out _).mono ?_); rintro e w' ⟨rfl, hb⟩; obtain ⟨⟨dq, osq⟩, hq''⟩ := regrown_on (W0 := W0) (by first | exact below_regrown _ _ _ | exact Below.refl _ _ | assumption | go_grown) hb; subst hq''; clear hb)))
          go_ret
          exact ⟨rfl, below_on hB0 (by first | exact below_regrown _ _ _ | exact Below.refl _ _ | assumption | go_grown)⟩
        · have H1 := Lib.hid h1
          have H2 := Lib.hid h2
          clear h1 h2
          go_wp2_with (first
      | (go_at_call 22; ((with_reducible refine (sok_at H1.out _).mono ?_); rintro e w' ⟨rfl, hb⟩; obtain ⟨⟨dq, osq⟩, hq''⟩ := regrown_on (W0 := W0) (by first | exact below_regrown _ _ _ | exact Below.refl _ _ | assumption | go_grown) hb; subst hq''; clear hb))
      | (go_at_call 22; ((with_reducible refine (sok_at H2.out _).mono ?_); rintro e w' ⟨rfl, hb⟩; obtain ⟨⟨dq, osq⟩, hq''⟩ := regrown_on (W0 := W0) (by first | exact below_regrown _ _ _ | exact Below.refl _ _ | assumption | go_grown) hb; subst hq''; clear hb))
      | (go_at_call 37; ((with_reducible refine (iok_at Ox.out _).mono ?_); rintro e w' ⟨rfl, hb⟩; obtain ⟨⟨dq, osq⟩, hq''⟩ := regrown_on (W0 := W0) (by first | exact below_regrown _ _ _ | exact Below.refl _ _ | assumption | go_grown) hb; subst hq''; clear hb)))
          ((refine region_below (W0 := W0) mixed_ok (by kernel_rfl) (by first | exact below_regrown _ _ _ | exact Below.refl _ _ | assumption | go_grown) ?_); (repeat (go_big_quiet_step ((first | (go_at_call 12; with_reducible exact Calls.regrown_of (wrap_at _ _)) | (go_at_call 28; with_reducible exact Calls.regrown_of (has_at He.out _)))))); (refine wpQuiet_nil ?_); (intro _ hq'); (obtain ⟨⟨dq, osq⟩, hq''⟩ := hq'); (subst hq''))
          go_wp2_with fail
          go_ret
          exact ⟨rfl, below_on hB0 (by first | exact below_regrown _ _ _ | exact Below.refl _ _ | assumption | go_grown)⟩
        · have H1 := Lib.hid h1
          clear h1
          go_wp2_with (first
      | (go_at_call 22; ((with_reducible refine (sok_at H1.out _).mono ?_); rintro e w' ⟨rfl, hb⟩; obtain ⟨⟨dq, osq⟩, hq''⟩ := regrown_on (W0 := W0) (by first | exact below_regrown _ _ _ | exact Below.refl _ _ | assumption | go_grown) hb; subst hq''; clear hb)))
          ((refine region_below (W0 := W0) mixed_ok (by kernel_rfl) (by first | exact below_regrown _ _ _ | exact Below.refl _ _ | assumption | go_grown) ?_); (repeat (go_big_quiet_step ((first | (go_at_call 12; with_reducible exact Calls.regrown_of (wrap_at _ _)) | (go_at_call 28; with_reducible exact Calls.regrown_of (has_at He.out _)))))); (refine wpQuiet_nil ?_); (intro _ hq'); (obtain ⟨⟨dq, osq⟩, hq''⟩ := hq'); (subst hq''))
          go_wp2_with fail
          go_ret
          exact ⟨rfl, below_on hB0 (by first | exact below_regrown _ _ _ | exact Below.refl _ _ | assumption | go_grown)⟩
/-! ### The row, off the walk -/
set_option maxRecDepth 100000 in
theorem lifted (os : Os) (started : os.Started) (H : Type) (enc : TypeId × Value → H) :
    ReturnsInHanded {} Try.checked os 8 .any (Rows.fnItvFoldSpec.pre6 enc Try.prog Try.f8 Rows.fnItvFoldRow.domain false) (Rows.fnItvFoldSpec.post enc Try.prog Try.f8 false true false false) := by
  refine returnsInHanded_of_change (C := Try.checked) own started (by kernel_rfl) Try.func8
    (ChangeSpec.witness6 (enc := enc) (C := Try.checked) false ⟨#[], #[.slice none 0 0, .slice none 0 0], []⟩ 8 (by kernel_rfl) (by kernel_rfl) (by kernel_rfl) (by kernel_rfl)) ?_
  intro W base args ds gs before hval0 hW hcnd _
  have hval : ∀ (j : Nat) t v, Try.f8.params[j]? = some t → args[j]? = some v → Value.okWide Try.prog W .any base t v := hval0
  have hW' := hW
  obtain ⟨p, q, hA0, hV, rfl, hfz, hnd⟩ := hW
  have hA : DataW.TrodAll enc Try.prog W 0 (fun _ => true) true Try.f8.params.toList args.toList ds p := hA0
  rw [Try.params8] at hA hval
  obtain ⟨v0, vs0, d0, ds0, p0, q0, hargs, rfl, rfl, h0, r0⟩ := trodAll_cons hA
  obtain ⟨v1, vs1, d1, ds1, p1, q1, rfl, rfl, rfl, h1, r1⟩ := trodAll_cons r0
  obtain ⟨rfl, rfl, rfl⟩ := trodAll_nil r1
  obtain rfl : args = #[v0, v1] := by cases args; simp_all
  obtain ⟨rfl, rfl⟩ := trodVars_none hV
  have k0 := h0
  have lt0 : ∀ x ∈ p0, x.block < W.heap.size := by obtain ⟨m, hm⟩ := k0; exact DataW.trod_lt m _ _ _ hm
  obtain ⟨a0, len0, cap0, rfl⟩ := okWide_slice Try.underlying22 (hval 0 22 v0 rfl rfl)
  obtain ⟨z0, w0⟩ : ∃ zs, IsRow .u8 W a0 len0 cap0 zs := by
    obtain ⟨fuel, hf⟩ := h0
    rcases open_ints Try.underlying22 Try.underlying5 (by kernel_rfl) hf with ⟨hcs, _⟩ | ⟨x, l, c, zs, hcs, _, hl, hm, hz, _, hcell, hwz⟩
    · simp [Value.cells] at hcs
      obtain ⟨rfl, rfl, rfl⟩ := hcs
      exact ⟨[], .inl ⟨rfl, rfl, rfl, rfl⟩⟩
    · simp [Value.cells] at hcs
      obtain ⟨rfl, rfl, rfl⟩ := hcs
      exact ⟨zs, .inr ⟨_, rfl, hl, hm, by simpa using hz, hcell, hwz⟩⟩
  have k1 := h1
  have lt1 : ∀ x ∈ p1, x.block < W.heap.size := by obtain ⟨m, hm⟩ := k1; exact DataW.trod_lt m _ _ _ hm
  obtain ⟨a1, len1, cap1, rfl⟩ := okWide_slice Try.underlying22 (hval 1 22 v1 rfl rfl)
  obtain ⟨z1, w1⟩ : ∃ zs, IsRow .u8 W a1 len1 cap1 zs := by
    obtain ⟨fuel, hf⟩ := h1
    rcases open_ints Try.underlying22 Try.underlying5 (by kernel_rfl) hf with ⟨hcs, _⟩ | ⟨x, l, c, zs, hcs, _, hl, hm, hz, _, hcell, hwz⟩
    · simp [Value.cells] at hcs
      obtain ⟨rfl, rfl, rfl⟩ := hcs
      exact ⟨[], .inl ⟨rfl, rfl, rfl, rfl⟩⟩
    · simp [Value.cells] at hcs
      obtain ⟨rfl, rfl, rfl⟩ := hcs
      exact ⟨zs, .inr ⟨_, rfl, hl, hm, by simpa using hz, hcell, hwz⟩⟩
  clear hA0 hval0
  refine (walk a0 len0 cap0 z0 a1 len1 cap1 z1 W w0 w1).mono fun e W' ⟨he, bel⟩ => ?_
  subst he
  exact ⟨_, rfl, _, _, _, [], _, [], hW', trodAll_mk1 (shut_bool Try.underlying4 _), (trodAll_cons_mk (Below.trod laidOut (by kernel_rfl) (of_decide_eq_true (by kernel_rfl)) k0 bel lt0) (trodAll_cons_mk (Below.trod laidOut (by kernel_rfl) (of_decide_eq_true (by kernel_rfl)) k1 bel lt1) trodAll_mk0)), rfl, bel.frame _, fun h => by cases h⟩

theorem over : Rows.fnItvFoldRow.holds Try.pinned (OpenSpec.ofChange Rows.fnItvFoldSpec) :=
  OpenClaim.holds_of_wide 8 Try.f8 rfl rfl rfl rfl rfl rfl rfl ⟨rfl, rfl, rfl, rfl, rfl⟩ rfl rfl rfl rfl rfl (by kernel_rfl) Try.func8 (by kernel_rfl)
    (of_decide_eq_true (by kernel_rfl)) (by unfold Func.isWrapper; rw [if_neg (of_decide_eq_false (by kernel_rfl))]; exact ⟨rfl, rfl⟩)
    (fun os started H enc _ => lifted os started H enc)

/-- The given statement. -/
theorem proved : Rows.FnItvFoldSaid := over
#print axioms proved
end Go.Proofs.Ytbkfhlppcocamaa.fnItvFold
