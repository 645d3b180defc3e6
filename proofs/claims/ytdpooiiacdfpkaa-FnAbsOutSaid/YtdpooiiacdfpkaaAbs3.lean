/-
  When an abstract state is ok: the reference's AbsOk and the program's readState and AbsOk, by contract. No conditions but those that each theorem says.
-/
import Derived.Test.YtdpooiiacdfpkaaAbs2
namespace Go.Proofs.Ytdpooiiacdfpkaa
set_option linter.unusedSimpArgs false
set_option linter.unusedVariables false
open Go.ChangeShapes Go.WideShapes Go.ChangeAt Go.RowKit Go.Sort

/-- The state is ok. -/
def absOk (on : Bool) (z : List (Int × Int)) (c : Int × Int) : Bool := if on = true then decide (z.length = 4) && okI c && z.all okI else decide (z.length = 0) && decide (c = (0, 0))
theorem absOk_off {z : List (Int × Int)} {c : Int × Int} : absOk false z c = (decide (z.length = 0) && decide (c = (0, 0))) := rfl
theorem absOk_len {z : List (Int × Int)} {c : Int × Int} (h : z.length ≠ 4) : absOk true z c = false := by unfold absOk; simp [h]
theorem absOk_cell {z : List (Int × Int)} {c : Int × Int} (h : okI c = false) : absOk true z c = false := by unfold absOk; simp [h]
theorem absOk_var {z : List (Int × Int)} {c : Int × Int} {k : Nat} (hk : k < z.length) (h : okI (z.getD k (0, 0)) = false) : absOk true z c = false := by
  unfold absOk
  have : z.all okI = false := by
    rw [List.all_eq_false]
    refine ⟨z[k], List.getElem_mem hk, ?_⟩
    rw [List.getD_eq_getElem?_getD, List.getElem?_eq_getElem hk] at h
    simpa using h
  simp [this]
theorem absOk_yes {z : List (Int × Int)} {c : Int × Int} (hl : z.length = 4) (hc : okI c = true) (h : ∀ j, j < 4 → okI (z.getD j (0, 0)) = true) : absOk true z c = true := by
  unfold absOk
  have : z.all okI = true := by
    rw [List.all_eq_true]
    intro x hx
    obtain ⟨k, hk, rfl⟩ := List.mem_iff_getElem.1 hx
    have := h k (by omega)
    rwa [List.getD_eq_getElem?_getD, List.getElem?_eq_getElem hk] at this
  simp [this, hl, hc]
set_option maxHeartbeats 1000000 in
theorem l7None_s (lo hi : Int) (w : World) : Calls Try.prog 34 #[.agg #[.int .i64 lo, .int .i64 hi]] w fun e w' => e = .returned (.bool (decide ((lo, hi) = (0, 0)))) ∧ Below w.heap.size w w' := by
  go_enter Try.func34, Try.ntmps34
  go_wp2_with fail
  all_goals (go_ret; exact ⟨ret_b (by simp_all; try (by_cases hz : hi = 0 <;> simp [hz])), by go_grown⟩)
theorem ok_sx {lo hi : Int} {x : Bool} (h : okI (lo, hi) = x) (w : World) : Calls Try.prog 35 #[.agg #[.int .i64 lo, .int .i64 hi]] w fun e w' => e = .returned (.bool x) ∧ Below w.heap.size w w' := by
  have k := itvOk_s lo hi w
  rw [h] at k
  exact k
theorem ok_ix {lo hi : Int} {x : Bool} (h : okI (lo, hi) = x) (w : World) : Calls Try.prog 55 #[.agg #[.int .i64 lo, .int .i64 hi]] w fun e w' => e = .returned (.bool x) ∧ Below w.heap.size w w' := by
  have k := itvOk_i lo hi w
  rw [h] at k
  exact k
theorem none_sx {lo hi : Int} {x : Bool} (h : decide ((lo, hi) = ((0, 0) : Int × Int)) = x) (w : World) : Calls Try.prog 34 #[.agg #[.int .i64 lo, .int .i64 hi]] w fun e w' => e = .returned (.bool x) ∧ Below w.heap.size w w' := by
  have k := l7None_s lo hi w
  rw [h] at k
  exact k
set_option maxRecDepth 100000 in
set_option maxHeartbeats 8000000 in
theorem absOk_s (on : Bool) (a : Option Addr) (len cap : Nat) (lo hi : Int) (z : List (Int × Int)) (w : World) (hz : RdI w a len z) (hl : len ≤ 1048576) : Calls Try.prog 11 #[.agg #[.bool on, .slice a len cap, .int .i64 lo, .int .i64 hi]] w fun e w' => e = .returned (.bool (absOk on z (lo, hi))) ∧ Below w.heap.size w w' := by
  have hsz := hz.1
  have HZ := Lib.hid hz
  have Hsz := Lib.hid hsz
  clear hz
  cases on with
  | false =>
    rcases Bool.eq_false_or_eq_true (decide ((lo, hi) = ((0, 0) : Int × Int))) with hn | hn
    all_goals
      by_cases h0 : len = 0
      · have hr := Lib.hid (absOk_off (z := z) (c := (lo, hi)))
        have Hn := Lib.hid hn
        have h0i : ((len : Int) == 0) = true := by simp [h0]
        have H0 := Lib.hid h0
        clear hn h0 hsz
        go_enter Try.func11, Try.ntmps11
        go_wp2_with (go_at_call 34; refine (none_sx Hn.out _).mono ?_; rintro e w' ⟨rfl, hb⟩; have hs0 := hb.size; have hB : Below w.heap.size w w' := below_on (by ((try go_split_ands); go_grown)) hb; have hz := hB.size; have hc := bcell hb; (try simp only [World.size_alloc, World.size_setCell, World.size_drew] at hs0); (first | have m0 := up_7 m0 (show _ ≤ w'.heap.size by omega) | have m0 := up_6 m0 (show _ ≤ w'.heap.size by omega) | have m0 := up_5 m0 (show _ ≤ w'.heap.size by omega) | have m0 := up_4 m0 (show _ ≤ w'.heap.size by omega) | have m0 := up_3 m0 (show _ ≤ w'.heap.size by omega) | have m0 := up_2 m0 (show _ ≤ w'.heap.size by omega) | have m0 := up_1 m0 (show _ ≤ w'.heap.size by omega) | skip); (first | have m1 := up_7 m1 (show _ ≤ w'.heap.size by omega) | have m1 := up_6 m1 (show _ ≤ w'.heap.size by omega) | have m1 := up_5 m1 (show _ ≤ w'.heap.size by omega) | have m1 := up_4 m1 (show _ ≤ w'.heap.size by omega) | have m1 := up_3 m1 (show _ ≤ w'.heap.size by omega) | have m1 := up_2 m1 (show _ ≤ w'.heap.size by omega) | have m1 := up_1 m1 (show _ ≤ w'.heap.size by omega) | skip); (first | have m2 := up_7 m2 (show _ ≤ w'.heap.size by omega) | have m2 := up_6 m2 (show _ ≤ w'.heap.size by omega) | have m2 := up_5 m2 (show _ ≤ w'.heap.size by omega) | have m2 := up_4 m2 (show _ ≤ w'.heap.size by omega) | have m2 := up_3 m2 (show _ ≤ w'.heap.size by omega) | have m2 := up_2 m2 (show _ ≤ w'.heap.size by omega) | have m2 := up_1 m2 (show _ ≤ w'.heap.size by omega) | skip); (first | have m3 := up_7 m3 (show _ ≤ w'.heap.size by omega) | have m3 := up_6 m3 (show _ ≤ w'.heap.size by omega) | have m3 := up_5 m3 (show _ ≤ w'.heap.size by omega) | have m3 := up_4 m3 (show _ ≤ w'.heap.size by omega) | have m3 := up_3 m3 (show _ ≤ w'.heap.size by omega) | have m3 := up_2 m3 (show _ ≤ w'.heap.size by omega) | have m3 := up_1 m3 (show _ ≤ w'.heap.size by omega) | skip); (first | have m4 := up_7 m4 (show _ ≤ w'.heap.size by omega) | have m4 := up_6 m4 (show _ ≤ w'.heap.size by omega) | have m4 := up_5 m4 (show _ ≤ w'.heap.size by omega) | have m4 := up_4 m4 (show _ ≤ w'.heap.size by omega) | have m4 := up_3 m4 (show _ ≤ w'.heap.size by omega) | have m4 := up_2 m4 (show _ ≤ w'.heap.size by omega) | have m4 := up_1 m4 (show _ ≤ w'.heap.size by omega) | skip); (first | have m5 := up_7 m5 (show _ ≤ w'.heap.size by omega) | have m5 := up_6 m5 (show _ ≤ w'.heap.size by omega) | have m5 := up_5 m5 (show _ ≤ w'.heap.size by omega) | have m5 := up_4 m5 (show _ ≤ w'.heap.size by omega) | have m5 := up_3 m5 (show _ ≤ w'.heap.size by omega) | have m5 := up_2 m5 (show _ ≤ w'.heap.size by omega) | have m5 := up_1 m5 (show _ ≤ w'.heap.size by omega) | skip); (first | (have mm := lt_7 hs0; (try have m5 := m4); (try have m4 := m3); (try have m3 := m2); (try have m2 := m1); (try have m1 := m0); have m0 := mm) | (have mm := lt_6 hs0; (try have m5 := m4); (try have m4 := m3); (try have m3 := m2); (try have m2 := m1); (try have m1 := m0); have m0 := mm) | (have mm := lt_5 hs0; (try have m5 := m4); (try have m4 := m3); (try have m3 := m2); (try have m2 := m1); (try have m1 := m0); have m0 := mm) | (have mm := lt_4 hs0; (try have m5 := m4); (try have m4 := m3); (try have m3 := m2); (try have m2 := m1); (try have m1 := m0); have m0 := mm) | (have mm := lt_3 hs0; (try have m5 := m4); (try have m4 := m3); (try have m3 := m2); (try have m2 := m1); (try have m1 := m0); have m0 := mm) | (have mm := lt_2 hs0; (try have m5 := m4); (try have m4 := m3); (try have m3 := m2); (try have m2 := m1); (try have m1 := m0); have m0 := mm) | (have mm := lt_1 hs0; (try have m5 := m4); (try have m4 := m3); (try have m3 := m2); (try have m2 := m1); (try have m1 := m0); have m0 := mm) | skip); clear hs0; clear hb)
        all_goals (go_ret; exact ⟨ret_b (by rw [hr.out, Hn.out, Hsz.out, H0.out]; rfl), by ((try go_split_ands); go_grown)⟩)
      · have hr := Lib.hid (absOk_off (z := z) (c := (lo, hi)))
        have h0i : ((len : Int) == 0) = false := by simp [h0]
        have H0 := Lib.hid h0
        clear hn h0 hsz
        go_enter Try.func11, Try.ntmps11
        go_wp2_with fail
        all_goals (go_ret; exact ⟨ret_b (by rw [hr.out, Hsz.out]; simp [H0.out]), by ((try go_split_ands); go_grown)⟩)
  | true =>
    by_cases h4 : len = 4
    · subst h4
      rcases Bool.eq_false_or_eq_true (okI (lo, hi)) with hc | hc
      · have Hc := Lib.hid hc
        clear hc hsz
        go_enter Try.func11, Try.ntmps11
        go_wp2_with (go_at_call 35; refine (ok_sx Hc.out _).mono ?_; rintro e w' ⟨rfl, hb⟩; have hs0 := hb.size; have hB : Below w.heap.size w w' := below_on (by ((try go_split_ands); go_grown)) hb; have hz := hB.size; have hc := bcell hb; (try simp only [World.size_alloc, World.size_setCell, World.size_drew] at hs0); (first | have m0 := up_7 m0 (show _ ≤ w'.heap.size by omega) | have m0 := up_6 m0 (show _ ≤ w'.heap.size by omega) | have m0 := up_5 m0 (show _ ≤ w'.heap.size by omega) | have m0 := up_4 m0 (show _ ≤ w'.heap.size by omega) | have m0 := up_3 m0 (show _ ≤ w'.heap.size by omega) | have m0 := up_2 m0 (show _ ≤ w'.heap.size by omega) | have m0 := up_1 m0 (show _ ≤ w'.heap.size by omega) | skip); (first | have m1 := up_7 m1 (show _ ≤ w'.heap.size by omega) | have m1 := up_6 m1 (show _ ≤ w'.heap.size by omega) | have m1 := up_5 m1 (show _ ≤ w'.heap.size by omega) | have m1 := up_4 m1 (show _ ≤ w'.heap.size by omega) | have m1 := up_3 m1 (show _ ≤ w'.heap.size by omega) | have m1 := up_2 m1 (show _ ≤ w'.heap.size by omega) | have m1 := up_1 m1 (show _ ≤ w'.heap.size by omega) | skip); (first | have m2 := up_7 m2 (show _ ≤ w'.heap.size by omega) | have m2 := up_6 m2 (show _ ≤ w'.heap.size by omega) | have m2 := up_5 m2 (show _ ≤ w'.heap.size by omega) | have m2 := up_4 m2 (show _ ≤ w'.heap.size by omega) | have m2 := up_3 m2 (show _ ≤ w'.heap.size by omega) | have m2 := up_2 m2 (show _ ≤ w'.heap.size by omega) | have m2 := up_1 m2 (show _ ≤ w'.heap.size by omega) | skip); (first | have m3 := up_7 m3 (show _ ≤ w'.heap.size by omega) | have m3 := up_6 m3 (show _ ≤ w'.heap.size by omega) | have m3 := up_5 m3 (show _ ≤ w'.heap.size by omega) | have m3 := up_4 m3 (show _ ≤ w'.heap.size by omega) | have m3 := up_3 m3 (show _ ≤ w'.heap.size by omega) | have m3 := up_2 m3 (show _ ≤ w'.heap.size by omega) | have m3 := up_1 m3 (show _ ≤ w'.heap.size by omega) | skip); (first | have m4 := up_7 m4 (show _ ≤ w'.heap.size by omega) | have m4 := up_6 m4 (show _ ≤ w'.heap.size by omega) | have m4 := up_5 m4 (show _ ≤ w'.heap.size by omega) | have m4 := up_4 m4 (show _ ≤ w'.heap.size by omega) | have m4 := up_3 m4 (show _ ≤ w'.heap.size by omega) | have m4 := up_2 m4 (show _ ≤ w'.heap.size by omega) | have m4 := up_1 m4 (show _ ≤ w'.heap.size by omega) | skip); (first | have m5 := up_7 m5 (show _ ≤ w'.heap.size by omega) | have m5 := up_6 m5 (show _ ≤ w'.heap.size by omega) | have m5 := up_5 m5 (show _ ≤ w'.heap.size by omega) | have m5 := up_4 m5 (show _ ≤ w'.heap.size by omega) | have m5 := up_3 m5 (show _ ≤ w'.heap.size by omega) | have m5 := up_2 m5 (show _ ≤ w'.heap.size by omega) | have m5 := up_1 m5 (show _ ≤ w'.heap.size by omega) | skip); (first | (have mm := lt_7 hs0; (try have m5 := m4); (try have m4 := m3); (try have m3 := m2); (try have m2 := m1); (try have m1 := m0); have m0 := mm) | (have mm := lt_6 hs0; (try have m5 := m4); (try have m4 := m3); (try have m3 := m2); (try have m2 := m1); (try have m1 := m0); have m0 := mm) | (have mm := lt_5 hs0; (try have m5 := m4); (try have m4 := m3); (try have m3 := m2); (try have m2 := m1); (try have m1 := m0); have m0 := mm) | (have mm := lt_4 hs0; (try have m5 := m4); (try have m4 := m3); (try have m3 := m2); (try have m2 := m1); (try have m1 := m0); have m0 := mm) | (have mm := lt_3 hs0; (try have m5 := m4); (try have m4 := m3); (try have m3 := m2); (try have m2 := m1); (try have m1 := m0); have m0 := mm) | (have mm := lt_2 hs0; (try have m5 := m4); (try have m4 := m3); (try have m3 := m2); (try have m2 := m1); (try have m1 := m0); have m0 := mm) | (have mm := lt_1 hs0; (try have m5 := m4); (try have m4 := m3); (try have m3 := m2); (try have m2 := m1); (try have m1 := m0); have m0 := mm) | skip); clear hs0; clear hb)
        go_loopw [3] (fun i wr => ∃ k : Nat, k ≤ 4 ∧ i = .int .i64 k ∧ Below w.heap.size w wr ∧ wr.cell? ⟨w.heap.size, 1, none⟩ = some (.slice a 4 cap) ∧ Hid (∀ j, j < k → okI (z.getD j (0, 0)) = true)) (fun i _ => 4 - (intOf i).toNat)
        case atStart => exact ⟨0, by omega, rfl, hB, by simp [go_sem, *], Lib.hid (fun j hj => by omega)⟩
        case round =>
          obtain ⟨k, hk, rfl, hS, hbx, hH⟩ := hrel
          by_cases hlt : k < 4
          · obtain ⟨x, rfl, hx⟩ : ∃ x, a = some x ∧ ∀ i, i < 4 → wr.cell? (x.add (i * 2)) = some (.int .i64 (z.getD i (0, 0)).1) ∧ wr.cell? ⟨(x.add (i * 2)).block, (x.add (i * 2)).off + 1, none⟩ = some (.int .i64 (z.getD i (0, 0)).2) := by
              rcases (HZ.out.below hS).2 with h | h
              · omega
              · exact h
            obtain ⟨hx0, hx1⟩ := hx k hlt
            clear hx
            obtain ⟨⟨zl, zh⟩, hq⟩ : ∃ q, q = z.getD k (0, 0) := ⟨_, rfl⟩
            rw [← hq] at hx0 hx1
            simp only at hx0 hx1
            have j0 : (0 : Int) ≤ k := by omega
            have j1 : (k : Int) < 4 := by omega
            have hlb := blk hbx
            rcases Bool.eq_false_or_eq_true (okI (zl, zh)) with ho | ho
            · have hH2 := Lib.hid (show ∀ j, j < k + 1 → okI (z.getD j (0, 0)) = true from fun j hj => by
                by_cases e : j = k
                · subst e; rw [← hq]; exact ho
                · exact hH.out j (by omega))
              have Ho := Lib.hid ho
              clear ho hq
              go_wp2_with (go_at_call 35; refine (ok_sx Ho.out _).mono ?_; rintro e w2 ⟨rfl, hb2⟩; have hS2 := below_on hS hb2; have hbx2 := (hb2.cell (p := ⟨w.heap.size, 1, none⟩) hlb).trans hbx; clear hb2)
              go_roundw
              case rel => exact ⟨k + 1, by omega, by go_num, hS2, hbx2, hH2⟩
              case measure => simp [intOf] <;> omega
            · have hr := Lib.hid (absOk_var (z := z) (c := (lo, hi)) (k := k) (by rw [Hsz.out]; exact hlt) (by rw [← hq]; exact ho))
              have Ho := Lib.hid ho
              clear ho hq
              go_wp2_with (go_at_call 35; refine (ok_sx Ho.out _).mono ?_; rintro e w2 ⟨rfl, hb2⟩; have hS2 := below_on hS hb2; clear hb2)
              go_ret
              exact ⟨ret_b hr.out.symm, hS2⟩
          · obtain rfl : k = 4 := by omega
            have hr := Lib.hid (absOk_yes (z := z) (c := (lo, hi)) Hsz.out Hc.out hH.out)
            go_wp2_with fail
            go_ret
            exact ⟨ret_b hr.out.symm, hS⟩
      · have hr := Lib.hid (absOk_cell (z := z) hc)
        have Hc := Lib.hid hc
        clear hc hsz
        go_enter Try.func11, Try.ntmps11
        go_wp2_with (go_at_call 35; refine (ok_sx Hc.out _).mono ?_; rintro e w' ⟨rfl, hb⟩; have hs0 := hb.size; have hB : Below w.heap.size w w' := below_on (by ((try go_split_ands); go_grown)) hb; have hz := hB.size; have hc := bcell hb; (try simp only [World.size_alloc, World.size_setCell, World.size_drew] at hs0); (first | have m0 := up_7 m0 (show _ ≤ w'.heap.size by omega) | have m0 := up_6 m0 (show _ ≤ w'.heap.size by omega) | have m0 := up_5 m0 (show _ ≤ w'.heap.size by omega) | have m0 := up_4 m0 (show _ ≤ w'.heap.size by omega) | have m0 := up_3 m0 (show _ ≤ w'.heap.size by omega) | have m0 := up_2 m0 (show _ ≤ w'.heap.size by omega) | have m0 := up_1 m0 (show _ ≤ w'.heap.size by omega) | skip); (first | have m1 := up_7 m1 (show _ ≤ w'.heap.size by omega) | have m1 := up_6 m1 (show _ ≤ w'.heap.size by omega) | have m1 := up_5 m1 (show _ ≤ w'.heap.size by omega) | have m1 := up_4 m1 (show _ ≤ w'.heap.size by omega) | have m1 := up_3 m1 (show _ ≤ w'.heap.size by omega) | have m1 := up_2 m1 (show _ ≤ w'.heap.size by omega) | have m1 := up_1 m1 (show _ ≤ w'.heap.size by omega) | skip); (first | have m2 := up_7 m2 (show _ ≤ w'.heap.size by omega) | have m2 := up_6 m2 (show _ ≤ w'.heap.size by omega) | have m2 := up_5 m2 (show _ ≤ w'.heap.size by omega) | have m2 := up_4 m2 (show _ ≤ w'.heap.size by omega) | have m2 := up_3 m2 (show _ ≤ w'.heap.size by omega) | have m2 := up_2 m2 (show _ ≤ w'.heap.size by omega) | have m2 := up_1 m2 (show _ ≤ w'.heap.size by omega) | skip); (first | have m3 := up_7 m3 (show _ ≤ w'.heap.size by omega) | have m3 := up_6 m3 (show _ ≤ w'.heap.size by omega) | have m3 := up_5 m3 (show _ ≤ w'.heap.size by omega) | have m3 := up_4 m3 (show _ ≤ w'.heap.size by omega) | have m3 := up_3 m3 (show _ ≤ w'.heap.size by omega) | have m3 := up_2 m3 (show _ ≤ w'.heap.size by omega) | have m3 := up_1 m3 (show _ ≤ w'.heap.size by omega) | skip); (first | have m4 := up_7 m4 (show _ ≤ w'.heap.size by omega) | have m4 := up_6 m4 (show _ ≤ w'.heap.size by omega) | have m4 := up_5 m4 (show _ ≤ w'.heap.size by omega) | have m4 := up_4 m4 (show _ ≤ w'.heap.size by omega) | have m4 := up_3 m4 (show _ ≤ w'.heap.size by omega) | have m4 := up_2 m4 (show _ ≤ w'.heap.size by omega) | have m4 := up_1 m4 (show _ ≤ w'.heap.size by omega) | skip); (first | have m5 := up_7 m5 (show _ ≤ w'.heap.size by omega) | have m5 := up_6 m5 (show _ ≤ w'.heap.size by omega) | have m5 := up_5 m5 (show _ ≤ w'.heap.size by omega) | have m5 := up_4 m5 (show _ ≤ w'.heap.size by omega) | have m5 := up_3 m5 (show _ ≤ w'.heap.size by omega) | have m5 := up_2 m5 (show _ ≤ w'.heap.size by omega) | have m5 := up_1 m5 (show _ ≤ w'.heap.size by omega) | skip); (first | (have mm := lt_7 hs0; (try have m5 := m4); (try have m4 := m3); (try have m3 := m2); (try have m2 := m1); (try have m1 := m0); have m0 := mm) | (have mm := lt_6 hs0; (try have m5 := m4); (try have m4 := m3); (try have m3 := m2); (try have m2 := m1); (try have m1 := m0); have m0 := mm) | (have mm := lt_5 hs0; (try have m5 := m4); (try have m4 := m3); (try have m3 := m2); (try have m2 := m1); (try have m1 := m0); have m0 := mm) | (have mm := lt_4 hs0; (try have m5 := m4); (try have m4 := m3); (try have m3 := m2); (try have m2 := m1); (try have m1 := m0); have m0 := mm) | (have mm := lt_3 hs0; (try have m5 := m4); (try have m4 := m3); (try have m3 := m2); (try have m2 := m1); (try have m1 := m0); have m0 := mm) | (have mm := lt_2 hs0; (try have m5 := m4); (try have m4 := m3); (try have m3 := m2); (try have m2 := m1); (try have m1 := m0); have m0 := mm) | (have mm := lt_1 hs0; (try have m5 := m4); (try have m4 := m3); (try have m3 := m2); (try have m2 := m1); (try have m1 := m0); have m0 := mm) | skip); clear hs0; clear hb)
        all_goals (go_ret; exact ⟨ret_b hr.out.symm, by ((try go_split_ands); go_grown)⟩)
    · have hr := Lib.hid (absOk_len (z := z) (c := (lo, hi)) (by omega))
      have h4i : ((len : Int) == 4) = false := by rw [beq_eq_false_iff_ne]; omega
      have h4j : ((len : Int) != 4) = true := by simp [bne, h4i]
      have h4k : ¬ (len : Int) = 4 := by omega
      have h4l : ¬ len = 4 := h4
      clear hsz h4
      go_enter Try.func11, Try.ntmps11
      go_wp2_with fail
      all_goals (go_ret; exact ⟨ret_b hr.out.symm, by ((try go_split_ands); go_grown)⟩)
end Go.Proofs.Ytdpooiiacdfpkaa
