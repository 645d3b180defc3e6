/-
  FnItvMeet: for every input the law returns true, and its arguments read as before. No conditions.
-/
import Derived.Test.YtbkfhlppcocamaaAt2
import Derived.Test.YtbkfhlppcocamaaLaws
import Derived.Test.YtbkfhlppcocamaaQuietB
import Derived.Test.YtbkfhlppcocamaaDraw8
import Derived.Test.YtbkfhlppcocamaaFold
import Derived.Test.YtbkfhlppcocamaaPlainLaws2
namespace Go.Proofs.Ytbkfhlppcocamaa.fnItvMeet
set_option linter.unusedSimpArgs false
set_option linter.unusedVariables false
open Go.ChangeShapes Go.WideShapes Go.ChangeAt Go.RowKit
open Go.ChangeMaps (open_string shut_string)
open Go.Sort

theorem cset {W : World} {p a : Addr} {u : Value} (hn : a.block ≠ p.block) : (W.setCell p u).cell? a = W.cell? a := World.cell?_of_block (w := W) (Below.heap_setCell W p u a.block hn)
theorem keep_under {W W' : World} {a : Addr} {v : Value} {o o' : Obj} (h : (W.alloc o).cell? a = some v) (hl : a.block < W.heap.size) (hs : W'.heap.size = W.heap.size) (k : W'.cell? a = W.cell? a) : (W'.alloc o').cell? a = some v := by
  rw [World.cell?_alloc_lt _ _ _ hl] at h
  rw [World.cell?_alloc_lt _ _ _ (by omega), k, h]
theorem below_under {w W W' : World} {o o' : Obj} (h : Below w.heap.size w (W.alloc o)) (hl : w.heap.size ≤ W.heap.size) (k : Below w.heap.size W W') : Below w.heap.size w (W'.alloc o') := by
  have k0 : Below w.heap.size w W := ⟨h.os, h.tape, h.output, hl, fun i hi => by rw [← Below.heap_alloc W o i (by omega)]; exact h.block i hi⟩
  exact (k0.trans k).alloc (by have := k.size; omega) o'

theorem keep_realloc2 {W : World} {a : Addr} {v : Value} {o o' o2 : Obj} (h : ((W.alloc o).alloc o2).cell? a = some v) (hl : a.block < W.heap.size) : ((W.alloc o').alloc o2).cell? a = some v := by
  rw [World.cell?_alloc_lt _ _ _ (by rw [World.size_alloc]; omega), World.cell?_alloc_lt _ _ _ hl] at h ⊢; exact h
theorem below_realloc2 {w W : World} {o o' o2 : Obj} (h : Below w.heap.size w ((W.alloc o).alloc o2)) (hl : w.heap.size ≤ W.heap.size) : Below w.heap.size w ((W.alloc o').alloc o2) :=
  ⟨h.os, h.tape, h.output, by simp; omega, fun k hk => by
    rw [Below.heap_alloc _ _ _ (by rw [World.size_alloc]; omega), Below.heap_alloc _ _ _ (by omega), ← Below.heap_alloc W o _ (by omega), ← Below.heap_alloc (W.alloc o) o2 _ (by rw [World.size_alloc]; omega)]; exact h.block k hk⟩
theorem owOk_at (w : World) : Calls Try.prog 23 #[] w fun e w' => e = .returned (.bool true) ∧ Below w.heap.size w w' := (owOk_l w).mono fun e w' h => ⟨h.1, by rw [h.2]; exact Below.refl _ _⟩
theorem meet_at {al ah bl bh xl xh : Int} {ok : Bool} (h : meetI (al, ah) (bl, bh) = ((xl, xh), ok)) (w : World) : Calls Try.prog 40 #[.agg #[.int .i64 al, .int .i64 ah], .agg #[.int .i64 bl, .int .i64 bh]] w fun e w' => e = .returned (.tuple #[.agg #[.int .i64 xl, .int .i64 xh], .bool ok]) ∧ Below w.heap.size w w' := by
  have k := itvMeet_i al ah bl bh w
  rw [h] at k
  exact k
theorem meet_s_at {al ah bl bh xl xh : Int} {ok : Bool} (h : meetI (al, ah) (bl, bh) = ((xl, xh), ok)) (w : World) : Calls Try.prog 41 #[.agg #[.int .i64 al, .int .i64 ah], .agg #[.int .i64 bl, .int .i64 bh]] w fun e w' => e = .returned (.tuple #[.agg #[.int .i64 xl, .int .i64 xh], .bool ok]) ∧ Below w.heap.size w w' := by
  have k := itvMeet_s al ah bl bh w
  rw [h] at k
  exact k

set_option maxRecDepth 100000 in
set_option maxHeartbeats 8000000 in
theorem walk (a0 : Option Addr) (len0 cap0 : Nat) (z0 : List Int) (a1 : Option Addr) (len1 cap1 : Nat) (z1 : List Int) (w : World) (w0 : IsRow .u8 w a0 len0 cap0 z0) (w1 : IsRow .u8 w a1 len1 cap1 z1) :
    Calls Try.prog 9 #[.slice a0 len0 cap0, .slice a1 len1 cap1] w fun e w' => e = .returned (.bool true) ∧ Below w.heap.size w w' := by
  go_enter Try.func9, Try.ntmps9
  have hmx : ∀ x y : Int, (if x < y then y else x) = max x y := fun x y => by omega
  go_wp2_with fail
  all_goals (try (go_ret; exact ⟨rfl, by go_grown⟩))
  refine (drawItvMeet_s _ _ _ _ _ w0).mono ?_
  rintro e wA ⟨al, ah, bl, bh, rfl, _, _, _, _, hBa⟩
  have hsA := hBa.size
  go_wp2_with fail
  refine (drawItvHas_s _ _ _ _ _ (((w1.below hBa).alloc _).alloc _)).mono ?_
  rintro e wB ⟨hl, hh, n, rfl, hBb⟩
  have qa0 := hBb.cell (p := ⟨wA.heap.size, 0, none⟩) (by simp only [World.size_alloc]; omega)
  have qa1 := hBb.cell (p := ⟨wA.heap.size, 1, none⟩) (by simp only [World.size_alloc]; omega)
  have qb0 := hBb.cell (p := ⟨wA.heap.size + 1, 0, none⟩) (by simp only [World.size_alloc]; omega)
  have qb1 := hBb.cell (p := ⟨wA.heap.size + 1, 1, none⟩) (by simp only [World.size_alloc]; omega)
  simp [go_sem] at qa0 qa1 qb0 qb1
  have hBw : Below w.heap.size w wB := below_on ((hBa.alloc hsA _).alloc (by simp only [World.size_alloc]; omega) _) hBb
  clear hBa hBb hsA
  obtain ⟨⟨⟨xl, xh⟩, ok⟩, hx⟩ : ∃ r, r = meetI (al, ah) (bl, bh) := ⟨_, rfl⟩
  have Hx := Lib.hid hx.symm
  have lA := blk qa0
  have lB := blk qb0
  go_wp2_with fail
  refine (meet_at Hx.out _).mono ?_
  rintro e wC ⟨rfl, hBc⟩
  have ra0 := (hBc.cell (p := ⟨wA.heap.size, 0, none⟩) (blk (keep_alloc (.cells #[.int .i64 hl, .int .i64 hh] 34) qa0))).trans (keep_alloc (.cells #[.int .i64 hl, .int .i64 hh] 34) qa0)
  have ra1 := (hBc.cell (p := ⟨wA.heap.size, 1, none⟩) (blk (keep_alloc (.cells #[.int .i64 hl, .int .i64 hh] 34) qa1))).trans (keep_alloc (.cells #[.int .i64 hl, .int .i64 hh] 34) qa1)
  have rb0 := (hBc.cell (p := ⟨wA.heap.size + 1, 0, none⟩) (blk (keep_alloc (.cells #[.int .i64 hl, .int .i64 hh] 34) qb0))).trans (keep_alloc (.cells #[.int .i64 hl, .int .i64 hh] 34) qb0)
  have rb1 := (hBc.cell (p := ⟨wA.heap.size + 1, 1, none⟩) (blk (keep_alloc (.cells #[.int .i64 hl, .int .i64 hh] 34) qb1))).trans (keep_alloc (.cells #[.int .i64 hl, .int .i64 hh] 34) qb1)
  have hBw2 : Below w.heap.size w wC := below_on (hBw.alloc hBw.size (.cells #[.int .i64 hl, .int .i64 hh] 34)) hBc
  clear hBc hBw qa0 qa1 qb0 qb1 lA lB
  have lA := blk ra0
  have lB := blk rb0
  go_wp2_with fail
  refine (meet_s_at Hx.out _).mono ?_
  rintro e wD ⟨rfl, hBd⟩
  have sa0 := (hBd.cell (p := ⟨wA.heap.size, 0, none⟩) (blk (keep_alloc (.cells #[.int .i64 xl, .int .i64 xh] 34) ra0))).trans (keep_alloc (.cells #[.int .i64 xl, .int .i64 xh] 34) ra0)
  have sa1 := (hBd.cell (p := ⟨wA.heap.size, 1, none⟩) (blk (keep_alloc (.cells #[.int .i64 xl, .int .i64 xh] 34) ra1))).trans (keep_alloc (.cells #[.int .i64 xl, .int .i64 xh] 34) ra1)
  have sb0 := (hBd.cell (p := ⟨wA.heap.size + 1, 0, none⟩) (blk (keep_alloc (.cells #[.int .i64 xl, .int .i64 xh] 34) rb0))).trans (keep_alloc (.cells #[.int .i64 xl, .int .i64 xh] 34) rb0)
  have sb1 := (hBd.cell (p := ⟨wA.heap.size + 1, 1, none⟩) (blk (keep_alloc (.cells #[.int .i64 xl, .int .i64 xh] 34) rb1))).trans (keep_alloc (.cells #[.int .i64 xl, .int .i64 xh] 34) rb1)
  have sx0 : wD.cell? ⟨wC.heap.size, 0, none⟩ = some (.int .i64 xl) := (hBd.cell (p := ⟨wC.heap.size, 0, none⟩) (by simp)).trans (by simp [go_sem])
  have sx1 : wD.cell? ⟨wC.heap.size, 1, none⟩ = some (.int .i64 xh) := (hBd.cell (p := ⟨wC.heap.size, 1, none⟩) (by simp)).trans (by simp [go_sem])
  have hB3 : Below w.heap.size w wD := below_on (hBw2.alloc hBw2.size (.cells #[.int .i64 xl, .int .i64 xh] 34)) hBd
  clear hBd hBw2 ra0 ra1 rb0 rb1 lA lB
  have ta0 := keep_alloc (.cells #[.int .i64 xl, .int .i64 xh] 34) sa0
  have ta1 := keep_alloc (.cells #[.int .i64 xl, .int .i64 xh] 34) sa1
  have tb0 := keep_alloc (.cells #[.int .i64 xl, .int .i64 xh] 34) sb0
  have tb1 := keep_alloc (.cells #[.int .i64 xl, .int .i64 xh] 34) sb1
  have tx0 := keep_alloc (.cells #[.int .i64 xl, .int .i64 xh] 34) sx0
  have tx1 := keep_alloc (.cells #[.int .i64 xl, .int .i64 xh] 34) sx1
  have ty0 : (wD.alloc (.cells #[.int .i64 xl, .int .i64 xh] 34)).cell? ⟨wD.heap.size, 0, none⟩ = some (.int .i64 xl) := by simp [go_sem]
  have ty1 : (wD.alloc (.cells #[.int .i64 xl, .int .i64 xh] 34)).cell? ⟨wD.heap.size, 1, none⟩ = some (.int .i64 xh) := by simp [go_sem]
  have hB0 : Below w.heap.size w (wD.alloc (.cells #[.int .i64 xl, .int .i64 xh] 34)) := hB3.alloc hB3.size (.cells #[.int .i64 xl, .int .i64 xh] 34)
  clear hB3 sa0 sa1 sb0 sb1 sx0 sx1
  by_cases hab : okI (al, ah) = true ∧ okI (bl, bh) = true
  · have Oa := Lib.hid hab.1
    have Ob := Lib.hid hab.2
    cases ok with
    | true =>
      have h2 : (meetI (al, ah) (bl, bh)).2 = true := by rw [← hx]
      have Ia := Lib.hid (meet_l h2)
      have Ib := Lib.hid (meet_r h2)
      have He := Lib.hid (meet_end h2)
      have hn := meet_has h2 n
      rw [← hx] at Ia Ib He hn
      obtain ⟨u, hu⟩ : ∃ u, u = hasI (al, ah) n := ⟨_, rfl⟩
      obtain ⟨v, hv⟩ : ∃ u, u = hasI (bl, bh) n := ⟨_, rfl⟩
      rw [← hu, ← hv] at hn
      have Hn := Lib.hid hn
      have Hu := Lib.hid hu.symm
      have Hv := Lib.hid hv.symm
      clear hu hv hn h2 hx hab
      go_wp2_with fail
      generalize wD.alloc (.cells #[.int .i64 xl, .int .i64 xh] 34) = W0 at *
      have ka0 := cell_regrown ta0
      have ka1 := cell_regrown ta1
      have kb0 := cell_regrown tb0
      have kb1 := cell_regrown tb1
      have kx0 := cell_regrown tx0
      have kx1 := cell_regrown tx1
      have ky0 := cell_regrown ty0
      have ky1 := cell_regrown ty1
      go_wp2_with (first
      | (go_at_call 27; ((with_reducible refine (ok_s_at Oa.out _).mono ?_); rintro e w' ⟨rfl, hb⟩; obtain ⟨⟨dq, osq⟩, hq''⟩ := regrown_on (W0 := W0) (by first | exact below_regrown _ _ _ | exact Below.refl _ _ | go_grown) hb; subst hq''; clear hb))
      | (go_at_call 27; ((with_reducible refine (ok_s_at Ob.out _).mono ?_); rintro e w' ⟨rfl, hb⟩; obtain ⟨⟨dq, osq⟩, hq''⟩ := regrown_on (W0 := W0) (by first | exact below_regrown _ _ _ | exact Below.refl _ _ | go_grown) hb; subst hq''; clear hb))
      | (go_at_call 23; ((with_reducible refine (owOk_at  _).mono ?_); rintro e w' ⟨rfl, hb⟩; obtain ⟨⟨dq, osq⟩, hq''⟩ := regrown_on (W0 := W0) (by first | exact below_regrown _ _ _ | exact Below.refl _ _ | go_grown) hb; subst hq''; clear hb)))
      cases u <;> cases v
      all_goals (first | ((refine region_below (W0 := W0) mixed_ok (by kernel_rfl) (by first | exact below_regrown _ _ _ | exact Below.refl _ _ | go_grown) ?_); (repeat (go_big_quiet_step ((first | (go_at_call 25; with_reducible exact Calls.regrown_of (in_at Ia.out _)) | (go_at_call 25; with_reducible exact Calls.regrown_of (in_at Ib.out _)) | (go_at_call 28; with_reducible exact Calls.regrown_of (has_at Hn.out _)) | (go_at_call 28; with_reducible exact Calls.regrown_of (has_at Hu.out _)) | (go_at_call 28; with_reducible exact Calls.regrown_of (has_at Hv.out _)) | (go_at_call 28; with_reducible exact Calls.regrown_of (has_at He.out _)))))); (refine wpQuiet_nil ?_); (intro _ hq'); (obtain ⟨⟨dq, osq⟩, hq''⟩ := hq'); (subst hq'')) | skip)
      all_goals go_wp2_with fail
      all_goals (go_ret; exact ⟨rfl, below_on hB0 (by first | exact below_regrown _ _ _ | exact Below.refl _ _ | go_grown)⟩)
    | false =>
      have h2 : (meetI (al, ah) (bl, bh)).2 = false := by rw [← hx]
      have h3 := (meet_no h2 hab.1 hab.2).2
      simp only at h3
      clear h2 hx hab
      have h4 : ah < bl ∨ (¬ ah < bl ∧ bh < al) := by omega
      clear h3
      rcases h4 with h4 | ⟨h4, h5⟩
      all_goals
        go_wp2_with fail
        generalize wD.alloc (.cells #[.int .i64 xl, .int .i64 xh] 34) = W0 at *
        have ka0 := cell_regrown ta0
        have ka1 := cell_regrown ta1
        have kb0 := cell_regrown tb0
        have kb1 := cell_regrown tb1
        have kx0 := cell_regrown tx0
        have kx1 := cell_regrown tx1
        have ky0 := cell_regrown ty0
        have ky1 := cell_regrown ty1
        go_wp2_with (first
      | (go_at_call 27; ((with_reducible refine (ok_s_at Oa.out _).mono ?_); rintro e w' ⟨rfl, hb⟩; obtain ⟨⟨dq, osq⟩, hq''⟩ := regrown_on (W0 := W0) (by first | exact below_regrown _ _ _ | exact Below.refl _ _ | go_grown) hb; subst hq''; clear hb))
      | (go_at_call 27; ((with_reducible refine (ok_s_at Ob.out _).mono ?_); rintro e w' ⟨rfl, hb⟩; obtain ⟨⟨dq, osq⟩, hq''⟩ := regrown_on (W0 := W0) (by first | exact below_regrown _ _ _ | exact Below.refl _ _ | go_grown) hb; subst hq''; clear hb))
      | (go_at_call 23; ((with_reducible refine (owOk_at  _).mono ?_); rintro e w' ⟨rfl, hb⟩; obtain ⟨⟨dq, osq⟩, hq''⟩ := regrown_on (W0 := W0) (by first | exact below_regrown _ _ _ | exact Below.refl _ _ | go_grown) hb; subst hq''; clear hb)))
        go_ret
        exact ⟨rfl, below_on hB0 (by first | exact below_regrown _ _ _ | exact Below.refl _ _ | go_grown)⟩
  · have hno := meet_bad hab
    rw [← hx] at hno
    simp only [Prod.mk.injEq] at hno
    obtain ⟨⟨rfl, rfl⟩, rfl⟩ := hno
    clear hx
    rcases Bool.eq_false_or_eq_true (okI (al, ah)) with ha | ha
    · have hb : okI (bl, bh) = false := by
        rcases Bool.eq_false_or_eq_true (okI (bl, bh)) with hb | hb
        · exact absurd ⟨ha, hb⟩ hab
        · exact hb
      have Oa := Lib.hid ha
      have Ob := Lib.hid hb
      clear ha hb hab
      go_wp2_with fail
      generalize wD.alloc (.cells #[.int .i64 0, .int .i64 0] 34) = W0 at *
      have ka0 := cell_regrown ta0
      have ka1 := cell_regrown ta1
      have kb0 := cell_regrown tb0
      have kb1 := cell_regrown tb1
      have kx0 := cell_regrown tx0
      have kx1 := cell_regrown tx1
      have ky0 := cell_regrown ty0
      have ky1 := cell_regrown ty1
      go_wp2_with (first
      | (go_at_call 27; ((with_reducible refine (ok_s_at Oa.out _).mono ?_); rintro e w' ⟨rfl, hb⟩; obtain ⟨⟨dq, osq⟩, hq''⟩ := regrown_on (W0 := W0) (by first | exact below_regrown _ _ _ | exact Below.refl _ _ | go_grown) hb; subst hq''; clear hb))
      | (go_at_call 27; ((with_reducible refine (ok_s_at Ob.out _).mono ?_); rintro e w' ⟨rfl, hb⟩; obtain ⟨⟨dq, osq⟩, hq''⟩ := regrown_on (W0 := W0) (by first | exact below_regrown _ _ _ | exact Below.refl _ _ | go_grown) hb; subst hq''; clear hb))
      | (go_at_call 23; ((with_reducible refine (owOk_at  _).mono ?_); rintro e w' ⟨rfl, hb⟩; obtain ⟨⟨dq, osq⟩, hq''⟩ := regrown_on (W0 := W0) (by first | exact below_regrown _ _ _ | exact Below.refl _ _ | go_grown) hb; subst hq''; clear hb)))
      go_ret
      exact ⟨rfl, below_on hB0 (by first | exact below_regrown _ _ _ | exact Below.refl _ _ | go_grown)⟩
    · have Oa := Lib.hid ha
      clear ha hab
      go_wp2_with fail
      generalize wD.alloc (.cells #[.int .i64 0, .int .i64 0] 34) = W0 at *
      have ka0 := cell_regrown ta0
      have ka1 := cell_regrown ta1
      have kb0 := cell_regrown tb0
      have kb1 := cell_regrown tb1
      have kx0 := cell_regrown tx0
      have kx1 := cell_regrown tx1
      have ky0 := cell_regrown ty0
      have ky1 := cell_regrown ty1
      go_wp2_with (first
      | (go_at_call 27; ((with_reducible refine (ok_s_at Oa.out _).mono ?_); rintro e w' ⟨rfl, hb⟩; obtain ⟨⟨dq, osq⟩, hq''⟩ := regrown_on (W0 := W0) (by first | exact below_regrown _ _ _ | exact Below.refl _ _ | go_grown) hb; subst hq''; clear hb))
      | (go_at_call 27; ((with_reducible refine (ok_s_at Ob.out _).mono ?_); rintro e w' ⟨rfl, hb⟩; obtain ⟨⟨dq, osq⟩, hq''⟩ := regrown_on (W0 := W0) (by first | exact below_regrown _ _ _ | exact Below.refl _ _ | go_grown) hb; subst hq''; clear hb))
      | (go_at_call 23; ((with_reducible refine (owOk_at  _).mono ?_); rintro e w' ⟨rfl, hb⟩; obtain ⟨⟨dq, osq⟩, hq''⟩ := regrown_on (W0 := W0) (by first | exact below_regrown _ _ _ | exact Below.refl _ _ | go_grown) hb; subst hq''; clear hb)))
      go_ret
      exact ⟨rfl, below_on hB0 (by first | exact below_regrown _ _ _ | exact Below.refl _ _ | go_grown)⟩
/-! ### The row, off the walk -/
set_option maxRecDepth 100000 in
theorem lifted (os : Os) (started : os.Started) (H : Type) (enc : TypeId × Value → H) :
    ReturnsInHanded {} Try.checked os 9 .any (Rows.fnItvMeetSpec.pre6 enc Try.prog Try.f9 Rows.fnItvMeetRow.domain false) (Rows.fnItvMeetSpec.post enc Try.prog Try.f9 false true false false) := by
  refine returnsInHanded_of_change (C := Try.checked) own started (by kernel_rfl) Try.func9
    (ChangeSpec.witness6 (enc := enc) (C := Try.checked) false ⟨#[], #[.slice none 0 0, .slice none 0 0], []⟩ 8 (by kernel_rfl) (by kernel_rfl) (by kernel_rfl) (by kernel_rfl)) ?_
  intro W base args ds gs before hval0 hW hcnd _
  have hval : ∀ (j : Nat) t v, Try.f9.params[j]? = some t → args[j]? = some v → Value.okWide Try.prog W .any base t v := hval0
  have hW' := hW
  obtain ⟨p, q, hA0, hV, rfl, hfz, hnd⟩ := hW
  have hA : DataW.TrodAll enc Try.prog W 0 (fun _ => true) true Try.f9.params.toList args.toList ds p := hA0
  rw [Try.params9] at hA hval
  obtain ⟨v0, vs0, d0, ds0, p0, q0, hargs, rfl, rfl, h0, r0⟩ := trodAll_cons hA
  obtain ⟨v1, vs1, d1, ds1, p1, q1, rfl, rfl, rfl, h1, r1⟩ := trodAll_cons r0
  obtain ⟨rfl, rfl, rfl⟩ := trodAll_nil r1
  obtain rfl : args = #[v0, v1] := by cases args; simp_all
  obtain ⟨rfl, rfl⟩ := trodVars_none hV
  have k0 := h0
  have lt0 : ∀ x ∈ p0, x.block < W.heap.size := by obtain ⟨m, hm⟩ := k0; exact DataW.trod_lt m _ _ _ hm
  obtain ⟨a0, len0, cap0, rfl⟩ := okWide_slice Try.underlying22 (hval 0 22 v0 rfl rfl)
  obtain ⟨z0, w0⟩ : ∃ zs, IsRow .u8 W a0 len0 cap0 zs := by
    obtain ⟨fuel, hf⟩ := h0
    rcases open_ints Try.underlying22 Try.underlying5 (by kernel_rfl) hf with ⟨hcs, _⟩ | ⟨x, l, c, zs, hcs, _, hl, hm, hz, _, hcell, hwz⟩
    · simp [Value.cells] at hcs
      obtain ⟨rfl, rfl, rfl⟩ := hcs
      exact ⟨[], .inl ⟨rfl, rfl, rfl, rfl⟩⟩
    · simp [Value.cells] at hcs
      obtain ⟨rfl, rfl, rfl⟩ := hcs
      exact ⟨zs, .inr ⟨_, rfl, hl, hm, by simpa using hz, hcell, hwz⟩⟩
  have k1 := h1
  have lt1 : ∀ x ∈ p1, x.block < W.heap.size := by obtain ⟨m, hm⟩ := k1; exact DataW.trod_lt m _ _ _ hm
  obtain ⟨a1, len1, cap1, rfl⟩ := okWide_slice Try.underlying22 (hval 1 22 v1 rfl rfl)
  obtain ⟨z1, w1⟩ : ∃ zs, IsRow .u8 W a1 len1 cap1 zs := by
    obtain ⟨fuel, hf⟩ := h1
    rcases open_ints Try.underlying22 Try.underlying5 (by kernel_rfl) hf with ⟨hcs, _⟩ | ⟨x, l, c, zs, hcs, _, hl, hm, hz, _, hcell, hwz⟩
    · simp [Value.cells] at hcs
      obtain ⟨rfl, rfl, rfl⟩ := hcs
      exact ⟨[], .inl ⟨rfl, rfl, rfl, rfl⟩⟩
    · simp [Value.cells] at hcs
      obtain ⟨rfl, rfl, rfl⟩ := hcs
      exact ⟨zs, .inr ⟨_, rfl, hl, hm, by simpa using hz, hcell, hwz⟩⟩
  clear hA0 hval0
  refine (walk a0 len0 cap0 z0 a1 len1 cap1 z1 W w0 w1).mono fun e W' ⟨he, bel⟩ => ?_
  subst he
  exact ⟨_, rfl, _, _, _, [], _, [], hW', trodAll_mk1 (shut_bool Try.underlying4 _), (trodAll_cons_mk (Below.trod laidOut (by kernel_rfl) (of_decide_eq_true (by kernel_rfl)) k0 bel lt0) (trodAll_cons_mk (Below.trod laidOut (by kernel_rfl) (of_decide_eq_true (by kernel_rfl)) k1 bel lt1) trodAll_mk0)), rfl, bel.frame _, fun h => by cases h⟩

theorem over : Rows.fnItvMeetRow.holds Try.pinned (OpenSpec.ofChange Rows.fnItvMeetSpec) :=
  OpenClaim.holds_of_wide 9 Try.f9 rfl rfl rfl rfl rfl rfl rfl ⟨rfl, rfl, rfl, rfl, rfl⟩ rfl rfl rfl rfl rfl (by kernel_rfl) Try.func9 (by kernel_rfl)
    (of_decide_eq_true (by kernel_rfl)) (by unfold Func.isWrapper; rw [if_neg (of_decide_eq_false (by kernel_rfl))]; exact ⟨rfl, rfl⟩)
    (fun os started H enc _ => lifted os started H enc)

/-- The given statement. -/
theorem proved : Rows.FnItvMeetSaid := over
#print axioms proved
end Go.Proofs.Ytbkfhlppcocamaa.fnItvMeet
