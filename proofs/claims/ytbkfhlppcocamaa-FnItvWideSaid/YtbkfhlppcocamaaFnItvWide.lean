/-
  FnItvWide: for every input the law returns true, and its arguments read as before. No conditions.
-/
import Derived.Test.YtbkfhlppcocamaaAt2
import Derived.Test.YtbkfhlppcocamaaLaws
import Derived.Test.YtbkfhlppcocamaaQuietB
namespace Go.Proofs.Ytbkfhlppcocamaa.fnItvWide
set_option linter.unusedSimpArgs false
set_option linter.unusedVariables false
open Go.ChangeShapes Go.WideShapes Go.ChangeAt Go.RowKit
open Go.ChangeMaps (open_string shut_string)
open Go.Sort

theorem cset {W : World} {p a : Addr} {u : Value} (hn : a.block ≠ p.block) : (W.setCell p u).cell? a = W.cell? a := World.cell?_of_block (w := W) (Below.heap_setCell W p u a.block hn)
theorem keep_under {W W' : World} {a : Addr} {v : Value} {o o' : Obj} (h : (W.alloc o).cell? a = some v) (hl : a.block < W.heap.size) (hs : W'.heap.size = W.heap.size) (k : W'.cell? a = W.cell? a) : (W'.alloc o').cell? a = some v := by
  rw [World.cell?_alloc_lt _ _ _ hl] at h
  rw [World.cell?_alloc_lt _ _ _ (by omega), k, h]
theorem below_under {w W W' : World} {o o' : Obj} (h : Below w.heap.size w (W.alloc o)) (hl : w.heap.size ≤ W.heap.size) (k : Below w.heap.size W W') : Below w.heap.size w (W'.alloc o') := by
  have k0 : Below w.heap.size w W := ⟨h.os, h.tape, h.output, hl, fun i hi => by rw [← Below.heap_alloc W o i (by omega)]; exact h.block i hi⟩
  exact (k0.trans k).alloc (by have := k.size; omega) o'

theorem keep_realloc2 {W : World} {a : Addr} {v : Value} {o o' o2 : Obj} (h : ((W.alloc o).alloc o2).cell? a = some v) (hl : a.block < W.heap.size) : ((W.alloc o').alloc o2).cell? a = some v := by
  rw [World.cell?_alloc_lt _ _ _ (by rw [World.size_alloc]; omega), World.cell?_alloc_lt _ _ _ hl] at h ⊢; exact h
theorem below_realloc2 {w W : World} {o o' o2 : Obj} (h : Below w.heap.size w ((W.alloc o).alloc o2)) (hl : w.heap.size ≤ W.heap.size) : Below w.heap.size w ((W.alloc o').alloc o2) :=
  ⟨h.os, h.tape, h.output, by simp; omega, fun k hk => by
    rw [Below.heap_alloc _ _ _ (by rw [World.size_alloc]; omega), Below.heap_alloc _ _ _ (by omega), ← Below.heap_alloc W o _ (by omega), ← Below.heap_alloc (W.alloc o) o2 _ (by rw [World.size_alloc]; omega)]; exact h.block k hk⟩
theorem owOk_at (w : World) : Calls Try.prog 23 #[] w fun e w' => e = .returned (.bool true) ∧ Below w.heap.size w w' := (owOk_l w).mono fun e w' h => ⟨h.1, by rw [h.2]; exact Below.refl _ _⟩

set_option maxRecDepth 100000 in
set_option maxHeartbeats 8000000 in
theorem walk (a0 : Option Addr) (len0 cap0 : Nat) (z0 : List Int) (w : World) (w0 : IsRow .u8 w a0 len0 cap0 z0) :
    Calls Try.prog 10 #[.slice a0 len0 cap0] w fun e w' => e = .returned (.bool true) ∧ Below w.heap.size w w' := by
  go_enter Try.func10, Try.ntmps10
  go_wp2_with fail
  all_goals (try (go_ret; exact ⟨rfl, by go_grown⟩))
  refine (drawItvWide_s _ _ _ _ _ w0).mono ?_
  rintro e wA ⟨al, ah, bl, bh, rfl, _, _, _, _, hBa⟩
  have hsA := hBa.size
  obtain ⟨⟨xl, xh⟩, hx⟩ : ∃ j, j = wideI (al, ah) (bl, bh) := ⟨_, rfl⟩
  have Hx := Lib.hid hx.symm
  clear hx
  go_upto_region 4 with fail
  go_cut [5] (fun s5 wx => ∃ W, W = wx ∧ ∃ g : Nat, s5 = .pointer (some ⟨g, 0, none⟩) ∧ wx.cell? ⟨g, 0, none⟩ = some (.int .i64 xl) ∧ wx.cell? ⟨g, 1, none⟩ = some (.int .i64 xh) ∧ wx.cell? ⟨wA.heap.size, 0, none⟩ = some (.int .i64 al) ∧ wx.cell? ⟨wA.heap.size, 1, none⟩ = some (.int .i64 ah) ∧ wx.cell? ⟨wA.heap.size + 1, 0, none⟩ = some (.int .i64 bl) ∧ wx.cell? ⟨wA.heap.size + 1, 1, none⟩ = some (.int .i64 bh) ∧ Below w.heap.size w wx)
  case first =>
    go_wp2_with fail
    refine (wide_at Hx.out _).mono ?_
    rintro e wC ⟨rfl, hBc⟩
    have r0 := hBc.cell (p := ⟨wA.heap.size, 0, none⟩) (by simp only [World.size_alloc]; omega)
    have r1 := hBc.cell (p := ⟨wA.heap.size, 1, none⟩) (by simp only [World.size_alloc]; omega)
    have r2 := hBc.cell (p := ⟨wA.heap.size + 1, 0, none⟩) (by simp only [World.size_alloc]; omega)
    have r3 := hBc.cell (p := ⟨wA.heap.size + 1, 1, none⟩) (by simp only [World.size_alloc]; omega)
    simp [go_sem] at r0 r1 r2 r3
    have hBx : Below w.heap.size w wC := below_on ((hBa.alloc hsA _).alloc (by simp only [World.size_alloc]; omega) _) hBc
    have l0 := blk r0
    have l2 := blk r2
    clear hBc hBa hsA
    go_wp2_with fail
    go_meet
    exact ⟨_, rfl, _, rfl, by simp [go_sem], by simp [go_sem], keep_alloc _ r0, keep_alloc _ r1, keep_alloc _ r2, keep_alloc _ r3, hBx.alloc hBx.size _⟩
  case rest =>
    clear hBa hsA
    obtain ⟨W0, rfl, g, rfl, c0, c1, c2, c3, c4, c5, hB0⟩ := hcut
    have hz0 := hB0.size
    have l0 := blk c0
    have l2 := blk c2
    have l4 := blk c4
    have k0 := cell_regrown c0
    have k1 := cell_regrown c1
    have k2 := cell_regrown c2
    have k3 := cell_regrown c3
    have k4 := cell_regrown c4
    have k5 := cell_regrown c5
    by_cases hab : okI (al, ah) = true ∧ okI (bl, bh) = true
    · obtain ⟨ha, hb⟩ := hab
      have hx := Hx.out
      have ia : inI (al, ah) (xl, xh) = true := hx ▸ wide_l ha hb
      have ib : inI (bl, bh) (xl, xh) = true := hx ▸ wide_r ha hb
      have hal := hx ▸ wide_all ha hb
      have Oa := Lib.hid ha
      have Ob := Lib.hid hb
      have Ia := Lib.hid ia
      have Ib := Lib.hid ib
      have Hxb := Lib.hid (wide_in ib)
      have Hxa := Lib.hid (wide_in ia)
      have Haa := Lib.hid (wide_in (in_self ha))
      have s1 : (xl == al) = true ∨ (xl == al) = false ∧ isStep xl = true := by
        by_cases e : xl = al
        · exact .inl (by simpa using e)
        · exact .inr ⟨by simpa using e, by rcases hal.2.2.2.2.2.2.1 with h | h; exact absurd h e; exact h⟩
      have s2 : (xh == ah) = true ∨ (xh == ah) = false ∧ isStep xh = true := by
        by_cases e : xh = ah
        · exact .inl (by simpa using e)
        · exact .inr ⟨by simpa using e, by rcases hal.2.2.2.2.2.2.2 with h | h; exact absurd h e; exact h⟩
      clear ha hb hx ia ib hal
      rcases s1 with e1 | ⟨e1, t1⟩ <;> rcases s2 with e2 | ⟨e2, t2⟩
      · skip
        all_goals go_wp2_with (first
      | (go_at_call 27; ((with_reducible refine (ok_s_at Oa.out _).mono ?_); rintro e w' ⟨rfl, hb⟩; obtain ⟨⟨dq, osq⟩, hq''⟩ := regrown_on (W0 := W0) (by first | exact below_regrown _ _ _ | exact Below.refl _ _ | go_grown) hb; subst hq''; clear hb))
      | (go_at_call 44; ((with_reducible refine (wide_s_at Hx.out _).mono ?_); rintro e w' ⟨rfl, hb⟩; obtain ⟨⟨dq, osq⟩, hq''⟩ := regrown_on (W0 := W0) (by first | exact below_regrown _ _ _ | exact Below.refl _ _ | go_grown) hb; subst hq''; clear hb))
      | (go_at_call 23; ((with_reducible refine (owOk_at  _).mono ?_); rintro e w' ⟨rfl, hb⟩; obtain ⟨⟨dq, osq⟩, hq''⟩ := regrown_on (W0 := W0) (by first | exact below_regrown _ _ _ | exact Below.refl _ _ | go_grown) hb; subst hq''; clear hb))
      | (go_at_call 27; ((with_reducible refine (ok_s_at Ob.out _).mono ?_); rintro e w' ⟨rfl, hb⟩; obtain ⟨⟨dq, osq⟩, hq''⟩ := regrown_on (W0 := W0) (by first | exact below_regrown _ _ _ | exact Below.refl _ _ | go_grown) hb; subst hq''; clear hb))
      | (go_at_call 25; ((with_reducible refine (in_at Ia.out _).mono ?_); rintro e w' ⟨rfl, hb⟩; obtain ⟨⟨dq, osq⟩, hq''⟩ := regrown_on (W0 := W0) (by first | exact below_regrown _ _ _ | exact Below.refl _ _ | go_grown) hb; subst hq''; clear hb))
      | (go_at_call 25; ((with_reducible refine (in_at Ib.out _).mono ?_); rintro e w' ⟨rfl, hb⟩; obtain ⟨⟨dq, osq⟩, hq''⟩ := regrown_on (W0 := W0) (by first | exact below_regrown _ _ _ | exact Below.refl _ _ | go_grown) hb; subst hq''; clear hb))
      | (go_at_call 43; ((with_reducible refine (wide_at Hxb.out _).mono ?_); rintro e w' ⟨rfl, hb⟩; obtain ⟨⟨dq, osq⟩, hq''⟩ := regrown_on (W0 := W0) (by first | exact below_regrown _ _ _ | exact Below.refl _ _ | go_grown) hb; subst hq''; clear hb))
      | (go_at_call 43; ((with_reducible refine (wide_at Hxa.out _).mono ?_); rintro e w' ⟨rfl, hb⟩; obtain ⟨⟨dq, osq⟩, hq''⟩ := regrown_on (W0 := W0) (by first | exact below_regrown _ _ _ | exact Below.refl _ _ | go_grown) hb; subst hq''; clear hb))
      | (go_at_call 43; ((with_reducible refine (wide_at Haa.out _).mono ?_); rintro e w' ⟨rfl, hb⟩; obtain ⟨⟨dq, osq⟩, hq''⟩ := regrown_on (W0 := W0) (by first | exact below_regrown _ _ _ | exact Below.refl _ _ | go_grown) hb; subst hq''; clear hb)))
        all_goals (try ((refine region_below (W0 := W0) mixed_ok (by kernel_rfl) (by first | exact below_regrown _ _ _ | exact Below.refl _ _ | go_grown) ?_); (repeat (go_big_quiet_step ((first | (go_at_call 27; with_reducible exact Calls.regrown_of (ok_s_at Oa.out _)) | (go_at_call 44; with_reducible exact Calls.regrown_of (wide_s_at Hx.out _)) | (go_at_call 23; with_reducible exact Calls.regrown_of (owOk_at  _)) | (go_at_call 27; with_reducible exact Calls.regrown_of (ok_s_at Ob.out _)) | (go_at_call 25; with_reducible exact Calls.regrown_of (in_at Ia.out _)) | (go_at_call 25; with_reducible exact Calls.regrown_of (in_at Ib.out _)) | (go_at_call 43; with_reducible exact Calls.regrown_of (wide_at Hxb.out _)) | (go_at_call 43; with_reducible exact Calls.regrown_of (wide_at Hxa.out _)) | (go_at_call 43; with_reducible exact Calls.regrown_of (wide_at Haa.out _)))))); (refine wpQuiet_nil ?_); (intro _ hq'); (obtain ⟨⟨dq, osq⟩, hq''⟩ := hq'); (subst hq'')))
        all_goals go_wp2_with (first
      | (go_at_call 27; ((with_reducible refine (ok_s_at Oa.out _).mono ?_); rintro e w' ⟨rfl, hb⟩; obtain ⟨⟨dq, osq⟩, hq''⟩ := regrown_on (W0 := W0) (by first | exact below_regrown _ _ _ | exact Below.refl _ _ | go_grown) hb; subst hq''; clear hb))
      | (go_at_call 44; ((with_reducible refine (wide_s_at Hx.out _).mono ?_); rintro e w' ⟨rfl, hb⟩; obtain ⟨⟨dq, osq⟩, hq''⟩ := regrown_on (W0 := W0) (by first | exact below_regrown _ _ _ | exact Below.refl _ _ | go_grown) hb; subst hq''; clear hb))
      | (go_at_call 23; ((with_reducible refine (owOk_at  _).mono ?_); rintro e w' ⟨rfl, hb⟩; obtain ⟨⟨dq, osq⟩, hq''⟩ := regrown_on (W0 := W0) (by first | exact below_regrown _ _ _ | exact Below.refl _ _ | go_grown) hb; subst hq''; clear hb))
      | (go_at_call 27; ((with_reducible refine (ok_s_at Ob.out _).mono ?_); rintro e w' ⟨rfl, hb⟩; obtain ⟨⟨dq, osq⟩, hq''⟩ := regrown_on (W0 := W0) (by first | exact below_regrown _ _ _ | exact Below.refl _ _ | go_grown) hb; subst hq''; clear hb))
      | (go_at_call 25; ((with_reducible refine (in_at Ia.out _).mono ?_); rintro e w' ⟨rfl, hb⟩; obtain ⟨⟨dq, osq⟩, hq''⟩ := regrown_on (W0 := W0) (by first | exact below_regrown _ _ _ | exact Below.refl _ _ | go_grown) hb; subst hq''; clear hb))
      | (go_at_call 25; ((with_reducible refine (in_at Ib.out _).mono ?_); rintro e w' ⟨rfl, hb⟩; obtain ⟨⟨dq, osq⟩, hq''⟩ := regrown_on (W0 := W0) (by first | exact below_regrown _ _ _ | exact Below.refl _ _ | go_grown) hb; subst hq''; clear hb))
      | (go_at_call 43; ((with_reducible refine (wide_at Hxb.out _).mono ?_); rintro e w' ⟨rfl, hb⟩; obtain ⟨⟨dq, osq⟩, hq''⟩ := regrown_on (W0 := W0) (by first | exact below_regrown _ _ _ | exact Below.refl _ _ | go_grown) hb; subst hq''; clear hb))
      | (go_at_call 43; ((with_reducible refine (wide_at Hxa.out _).mono ?_); rintro e w' ⟨rfl, hb⟩; obtain ⟨⟨dq, osq⟩, hq''⟩ := regrown_on (W0 := W0) (by first | exact below_regrown _ _ _ | exact Below.refl _ _ | go_grown) hb; subst hq''; clear hb))
      | (go_at_call 43; ((with_reducible refine (wide_at Haa.out _).mono ?_); rintro e w' ⟨rfl, hb⟩; obtain ⟨⟨dq, osq⟩, hq''⟩ := regrown_on (W0 := W0) (by first | exact below_regrown _ _ _ | exact Below.refl _ _ | go_grown) hb; subst hq''; clear hb)))
        all_goals (try ((refine region_below (W0 := W0) mixed_ok (by kernel_rfl) (by first | exact below_regrown _ _ _ | exact Below.refl _ _ | go_grown) ?_); (repeat (go_big_quiet_step ((first | (go_at_call 27; with_reducible exact Calls.regrown_of (ok_s_at Oa.out _)) | (go_at_call 44; with_reducible exact Calls.regrown_of (wide_s_at Hx.out _)) | (go_at_call 23; with_reducible exact Calls.regrown_of (owOk_at  _)) | (go_at_call 27; with_reducible exact Calls.regrown_of (ok_s_at Ob.out _)) | (go_at_call 25; with_reducible exact Calls.regrown_of (in_at Ia.out _)) | (go_at_call 25; with_reducible exact Calls.regrown_of (in_at Ib.out _)) | (go_at_call 43; with_reducible exact Calls.regrown_of (wide_at Hxb.out _)) | (go_at_call 43; with_reducible exact Calls.regrown_of (wide_at Hxa.out _)) | (go_at_call 43; with_reducible exact Calls.regrown_of (wide_at Haa.out _)))))); (refine wpQuiet_nil ?_); (intro _ hq'); (obtain ⟨⟨dq, osq⟩, hq''⟩ := hq'); (subst hq'')))
        all_goals go_wp2_with (first
      | (go_at_call 27; ((with_reducible refine (ok_s_at Oa.out _).mono ?_); rintro e w' ⟨rfl, hb⟩; obtain ⟨⟨dq, osq⟩, hq''⟩ := regrown_on (W0 := W0) (by first | exact below_regrown _ _ _ | exact Below.refl _ _ | go_grown) hb; subst hq''; clear hb))
      | (go_at_call 44; ((with_reducible refine (wide_s_at Hx.out _).mono ?_); rintro e w' ⟨rfl, hb⟩; obtain ⟨⟨dq, osq⟩, hq''⟩ := regrown_on (W0 := W0) (by first | exact below_regrown _ _ _ | exact Below.refl _ _ | go_grown) hb; subst hq''; clear hb))
      | (go_at_call 23; ((with_reducible refine (owOk_at  _).mono ?_); rintro e w' ⟨rfl, hb⟩; obtain ⟨⟨dq, osq⟩, hq''⟩ := regrown_on (W0 := W0) (by first | exact below_regrown _ _ _ | exact Below.refl _ _ | go_grown) hb; subst hq''; clear hb))
      | (go_at_call 27; ((with_reducible refine (ok_s_at Ob.out _).mono ?_); rintro e w' ⟨rfl, hb⟩; obtain ⟨⟨dq, osq⟩, hq''⟩ := regrown_on (W0 := W0) (by first | exact below_regrown _ _ _ | exact Below.refl _ _ | go_grown) hb; subst hq''; clear hb))
      | (go_at_call 25; ((with_reducible refine (in_at Ia.out _).mono ?_); rintro e w' ⟨rfl, hb⟩; obtain ⟨⟨dq, osq⟩, hq''⟩ := regrown_on (W0 := W0) (by first | exact below_regrown _ _ _ | exact Below.refl _ _ | go_grown) hb; subst hq''; clear hb))
      | (go_at_call 25; ((with_reducible refine (in_at Ib.out _).mono ?_); rintro e w' ⟨rfl, hb⟩; obtain ⟨⟨dq, osq⟩, hq''⟩ := regrown_on (W0 := W0) (by first | exact below_regrown _ _ _ | exact Below.refl _ _ | go_grown) hb; subst hq''; clear hb))
      | (go_at_call 43; ((with_reducible refine (wide_at Hxb.out _).mono ?_); rintro e w' ⟨rfl, hb⟩; obtain ⟨⟨dq, osq⟩, hq''⟩ := regrown_on (W0 := W0) (by first | exact below_regrown _ _ _ | exact Below.refl _ _ | go_grown) hb; subst hq''; clear hb))
      | (go_at_call 43; ((with_reducible refine (wide_at Hxa.out _).mono ?_); rintro e w' ⟨rfl, hb⟩; obtain ⟨⟨dq, osq⟩, hq''⟩ := regrown_on (W0 := W0) (by first | exact below_regrown _ _ _ | exact Below.refl _ _ | go_grown) hb; subst hq''; clear hb))
      | (go_at_call 43; ((with_reducible refine (wide_at Haa.out _).mono ?_); rintro e w' ⟨rfl, hb⟩; obtain ⟨⟨dq, osq⟩, hq''⟩ := regrown_on (W0 := W0) (by first | exact below_regrown _ _ _ | exact Below.refl _ _ | go_grown) hb; subst hq''; clear hb)))
        all_goals (try ((refine region_below (W0 := W0) mixed_ok (by kernel_rfl) (by first | exact below_regrown _ _ _ | exact Below.refl _ _ | go_grown) ?_); (repeat (go_big_quiet_step ((first | (go_at_call 27; with_reducible exact Calls.regrown_of (ok_s_at Oa.out _)) | (go_at_call 44; with_reducible exact Calls.regrown_of (wide_s_at Hx.out _)) | (go_at_call 23; with_reducible exact Calls.regrown_of (owOk_at  _)) | (go_at_call 27; with_reducible exact Calls.regrown_of (ok_s_at Ob.out _)) | (go_at_call 25; with_reducible exact Calls.regrown_of (in_at Ia.out _)) | (go_at_call 25; with_reducible exact Calls.regrown_of (in_at Ib.out _)) | (go_at_call 43; with_reducible exact Calls.regrown_of (wide_at Hxb.out _)) | (go_at_call 43; with_reducible exact Calls.regrown_of (wide_at Hxa.out _)) | (go_at_call 43; with_reducible exact Calls.regrown_of (wide_at Haa.out _)))))); (refine wpQuiet_nil ?_); (intro _ hq'); (obtain ⟨⟨dq, osq⟩, hq''⟩ := hq'); (subst hq'')))
        all_goals go_wp2_with (first
      | (go_at_call 27; ((with_reducible refine (ok_s_at Oa.out _).mono ?_); rintro e w' ⟨rfl, hb⟩; obtain ⟨⟨dq, osq⟩, hq''⟩ := regrown_on (W0 := W0) (by first | exact below_regrown _ _ _ | exact Below.refl _ _ | go_grown) hb; subst hq''; clear hb))
      | (go_at_call 44; ((with_reducible refine (wide_s_at Hx.out _).mono ?_); rintro e w' ⟨rfl, hb⟩; obtain ⟨⟨dq, osq⟩, hq''⟩ := regrown_on (W0 := W0) (by first | exact below_regrown _ _ _ | exact Below.refl _ _ | go_grown) hb; subst hq''; clear hb))
      | (go_at_call 23; ((with_reducible refine (owOk_at  _).mono ?_); rintro e w' ⟨rfl, hb⟩; obtain ⟨⟨dq, osq⟩, hq''⟩ := regrown_on (W0 := W0) (by first | exact below_regrown _ _ _ | exact Below.refl _ _ | go_grown) hb; subst hq''; clear hb))
      | (go_at_call 27; ((with_reducible refine (ok_s_at Ob.out _).mono ?_); rintro e w' ⟨rfl, hb⟩; obtain ⟨⟨dq, osq⟩, hq''⟩ := regrown_on (W0 := W0) (by first | exact below_regrown _ _ _ | exact Below.refl _ _ | go_grown) hb; subst hq''; clear hb))
      | (go_at_call 25; ((with_reducible refine (in_at Ia.out _).mono ?_); rintro e w' ⟨rfl, hb⟩; obtain ⟨⟨dq, osq⟩, hq''⟩ := regrown_on (W0 := W0) (by first | exact below_regrown _ _ _ | exact Below.refl _ _ | go_grown) hb; subst hq''; clear hb))
      | (go_at_call 25; ((with_reducible refine (in_at Ib.out _).mono ?_); rintro e w' ⟨rfl, hb⟩; obtain ⟨⟨dq, osq⟩, hq''⟩ := regrown_on (W0 := W0) (by first | exact below_regrown _ _ _ | exact Below.refl _ _ | go_grown) hb; subst hq''; clear hb))
      | (go_at_call 43; ((with_reducible refine (wide_at Hxb.out _).mono ?_); rintro e w' ⟨rfl, hb⟩; obtain ⟨⟨dq, osq⟩, hq''⟩ := regrown_on (W0 := W0) (by first | exact below_regrown _ _ _ | exact Below.refl _ _ | go_grown) hb; subst hq''; clear hb))
      | (go_at_call 43; ((with_reducible refine (wide_at Hxa.out _).mono ?_); rintro e w' ⟨rfl, hb⟩; obtain ⟨⟨dq, osq⟩, hq''⟩ := regrown_on (W0 := W0) (by first | exact below_regrown _ _ _ | exact Below.refl _ _ | go_grown) hb; subst hq''; clear hb))
      | (go_at_call 43; ((with_reducible refine (wide_at Haa.out _).mono ?_); rintro e w' ⟨rfl, hb⟩; obtain ⟨⟨dq, osq⟩, hq''⟩ := regrown_on (W0 := W0) (by first | exact below_regrown _ _ _ | exact Below.refl _ _ | go_grown) hb; subst hq''; clear hb)))
        all_goals (go_ret; exact ⟨rfl, below_on hB0 (by first | exact below_regrown _ _ _ | exact Below.refl _ _ | go_grown)⟩)
      · have S2 := Lib.hid t2
        clear t2
        all_goals go_wp2_with (first
      | (go_at_call 27; ((with_reducible refine (ok_s_at Oa.out _).mono ?_); rintro e w' ⟨rfl, hb⟩; obtain ⟨⟨dq, osq⟩, hq''⟩ := regrown_on (W0 := W0) (by first | exact below_regrown _ _ _ | exact Below.refl _ _ | go_grown) hb; subst hq''; clear hb))
      | (go_at_call 44; ((with_reducible refine (wide_s_at Hx.out _).mono ?_); rintro e w' ⟨rfl, hb⟩; obtain ⟨⟨dq, osq⟩, hq''⟩ := regrown_on (W0 := W0) (by first | exact below_regrown _ _ _ | exact Below.refl _ _ | go_grown) hb; subst hq''; clear hb))
      | (go_at_call 23; ((with_reducible refine (owOk_at  _).mono ?_); rintro e w' ⟨rfl, hb⟩; obtain ⟨⟨dq, osq⟩, hq''⟩ := regrown_on (W0 := W0) (by first | exact below_regrown _ _ _ | exact Below.refl _ _ | go_grown) hb; subst hq''; clear hb))
      | (go_at_call 27; ((with_reducible refine (ok_s_at Ob.out _).mono ?_); rintro e w' ⟨rfl, hb⟩; obtain ⟨⟨dq, osq⟩, hq''⟩ := regrown_on (W0 := W0) (by first | exact below_regrown _ _ _ | exact Below.refl _ _ | go_grown) hb; subst hq''; clear hb))
      | (go_at_call 25; ((with_reducible refine (in_at Ia.out _).mono ?_); rintro e w' ⟨rfl, hb⟩; obtain ⟨⟨dq, osq⟩, hq''⟩ := regrown_on (W0 := W0) (by first | exact below_regrown _ _ _ | exact Below.refl _ _ | go_grown) hb; subst hq''; clear hb))
      | (go_at_call 25; ((with_reducible refine (in_at Ib.out _).mono ?_); rintro e w' ⟨rfl, hb⟩; obtain ⟨⟨dq, osq⟩, hq''⟩ := regrown_on (W0 := W0) (by first | exact below_regrown _ _ _ | exact Below.refl _ _ | go_grown) hb; subst hq''; clear hb))
      | (go_at_call 43; ((with_reducible refine (wide_at Hxb.out _).mono ?_); rintro e w' ⟨rfl, hb⟩; obtain ⟨⟨dq, osq⟩, hq''⟩ := regrown_on (W0 := W0) (by first | exact below_regrown _ _ _ | exact Below.refl _ _ | go_grown) hb; subst hq''; clear hb))
      | (go_at_call 43; ((with_reducible refine (wide_at Hxa.out _).mono ?_); rintro e w' ⟨rfl, hb⟩; obtain ⟨⟨dq, osq⟩, hq''⟩ := regrown_on (W0 := W0) (by first | exact below_regrown _ _ _ | exact Below.refl _ _ | go_grown) hb; subst hq''; clear hb))
      | (go_at_call 43; ((with_reducible refine (wide_at Haa.out _).mono ?_); rintro e w' ⟨rfl, hb⟩; obtain ⟨⟨dq, osq⟩, hq''⟩ := regrown_on (W0 := W0) (by first | exact below_regrown _ _ _ | exact Below.refl _ _ | go_grown) hb; subst hq''; clear hb))
      | (go_at_call 45; ((with_reducible refine (owStep_at S2.out _).mono ?_); rintro e w' ⟨rfl, hb⟩; obtain ⟨⟨dq, osq⟩, hq''⟩ := regrown_on (W0 := W0) (by first | exact below_regrown _ _ _ | exact Below.refl _ _ | go_grown) hb; subst hq''; clear hb)))
        all_goals (try ((refine region_below (W0 := W0) mixed_ok (by kernel_rfl) (by first | exact below_regrown _ _ _ | exact Below.refl _ _ | go_grown) ?_); (repeat (go_big_quiet_step ((first | (go_at_call 27; with_reducible exact Calls.regrown_of (ok_s_at Oa.out _)) | (go_at_call 44; with_reducible exact Calls.regrown_of (wide_s_at Hx.out _)) | (go_at_call 23; with_reducible exact Calls.regrown_of (owOk_at  _)) | (go_at_call 27; with_reducible exact Calls.regrown_of (ok_s_at Ob.out _)) | (go_at_call 25; with_reducible exact Calls.regrown_of (in_at Ia.out _)) | (go_at_call 25; with_reducible exact Calls.regrown_of (in_at Ib.out _)) | (go_at_call 43; with_reducible exact Calls.regrown_of (wide_at Hxb.out _)) | (go_at_call 43; with_reducible exact Calls.regrown_of (wide_at Hxa.out _)) | (go_at_call 43; with_reducible exact Calls.regrown_of (wide_at Haa.out _)) | (go_at_call 45; with_reducible exact Calls.regrown_of (owStep_at S2.out _)))))); (refine wpQuiet_nil ?_); (intro _ hq'); (obtain ⟨⟨dq, osq⟩, hq''⟩ := hq'); (subst hq'')))
        all_goals go_wp2_with (first
      | (go_at_call 27; ((with_reducible refine (ok_s_at Oa.out _).mono ?_); rintro e w' ⟨rfl, hb⟩; obtain ⟨⟨dq, osq⟩, hq''⟩ := regrown_on (W0 := W0) (by first | exact below_regrown _ _ _ | exact Below.refl _ _ | go_grown) hb; subst hq''; clear hb))
      | (go_at_call 44; ((with_reducible refine (wide_s_at Hx.out _).mono ?_); rintro e w' ⟨rfl, hb⟩; obtain ⟨⟨dq, osq⟩, hq''⟩ := regrown_on (W0 := W0) (by first | exact below_regrown _ _ _ | exact Below.refl _ _ | go_grown) hb; subst hq''; clear hb))
      | (go_at_call 23; ((with_reducible refine (owOk_at  _).mono ?_); rintro e w' ⟨rfl, hb⟩; obtain ⟨⟨dq, osq⟩, hq''⟩ := regrown_on (W0 := W0) (by first | exact below_regrown _ _ _ | exact Below.refl _ _ | go_grown) hb; subst hq''; clear hb))
      | (go_at_call 27; ((with_reducible refine (ok_s_at Ob.out _).mono ?_); rintro e w' ⟨rfl, hb⟩; obtain ⟨⟨dq, osq⟩, hq''⟩ := regrown_on (W0 := W0) (by first | exact below_regrown _ _ _ | exact Below.refl _ _ | go_grown) hb; subst hq''; clear hb))
      | (go_at_call 25; ((with_reducible refine (in_at Ia.out _).mono ?_); rintro e w' ⟨rfl, hb⟩; obtain ⟨⟨dq, osq⟩, hq''⟩ := regrown_on (W0 := W0) (by first | exact below_regrown _ _ _ | exact Below.refl _ _ | go_grown) hb; subst hq''; clear hb))
      | (go_at_call 25; ((with_reducible refine (in_at Ib.out _).mono ?_); rintro e w' ⟨rfl, hb⟩; obtain ⟨⟨dq, osq⟩, hq''⟩ := regrown_on (W0 := W0) (by first | exact below_regrown _ _ _ | exact Below.refl _ _ | go_grown) hb; subst hq''; clear hb))
      | (go_at_call 43; ((with_reducible refine (wide_at Hxb.out _).mono ?_); rintro e w' ⟨rfl, hb⟩; obtain ⟨⟨dq, osq⟩, hq''⟩ := regrown_on (W0 := W0) (by first | exact below_regrown _ _ _ | exact Below.refl _ _ | go_grown) hb; subst hq''; clear hb))
      | (go_at_call 43; ((with_reducible refine (wide_at Hxa.out _).mono ?_); rintro e w' ⟨rfl, hb⟩; obtain ⟨⟨dq, osq⟩, hq''⟩ := regrown_on (W0 := W0) (by first | exact below_regrown _ _ _ | exact Below.refl _ _ | go_grown) hb; subst hq''; clear hb))
      | (go_at_call 43; ((with_reducible refine (wide_at Haa.out _).mono ?_); rintro e w' ⟨rfl, hb⟩; obtain ⟨⟨dq, osq⟩, hq''⟩ := regrown_on (W0 := W0) (by first | exact below_regrown _ _ _ | exact Below.refl _ _ | go_grown) hb; subst hq''; clear hb))
      | (go_at_call 45; ((with_reducible refine (owStep_at S2.out _).mono ?_); rintro e w' ⟨rfl, hb⟩; obtain ⟨⟨dq, osq⟩, hq''⟩ := regrown_on (W0 := W0) (by first | exact below_regrown _ _ _ | exact Below.refl _ _ | go_grown) hb; subst hq''; clear hb)))
        all_goals (try ((refine region_below (W0 := W0) mixed_ok (by kernel_rfl) (by first | exact below_regrown _ _ _ | exact Below.refl _ _ | go_grown) ?_); (repeat (go_big_quiet_step ((first | (go_at_call 27; with_reducible exact Calls.regrown_of (ok_s_at Oa.out _)) | (go_at_call 44; with_reducible exact Calls.regrown_of (wide_s_at Hx.out _)) | (go_at_call 23; with_reducible exact Calls.regrown_of (owOk_at  _)) | (go_at_call 27; with_reducible exact Calls.regrown_of (ok_s_at Ob.out _)) | (go_at_call 25; with_reducible exact Calls.regrown_of (in_at Ia.out _)) | (go_at_call 25; with_reducible exact Calls.regrown_of (in_at Ib.out _)) | (go_at_call 43; with_reducible exact Calls.regrown_of (wide_at Hxb.out _)) | (go_at_call 43; with_reducible exact Calls.regrown_of (wide_at Hxa.out _)) | (go_at_call 43; with_reducible exact Calls.regrown_of (wide_at Haa.out _)) | (go_at_call 45; with_reducible exact Calls.regrown_of (owStep_at S2.out _)))))); (refine wpQuiet_nil ?_); (intro _ hq'); (obtain ⟨⟨dq, osq⟩, hq''⟩ := hq'); (subst hq'')))
        all_goals go_wp2_with (first
      | (go_at_call 27; ((with_reducible refine (ok_s_at Oa.out _).mono ?_); rintro e w' ⟨rfl, hb⟩; obtain ⟨⟨dq, osq⟩, hq''⟩ := regrown_on (W0 := W0) (by first | exact below_regrown _ _ _ | exact Below.refl _ _ | go_grown) hb; subst hq''; clear hb))
      | (go_at_call 44; ((with_reducible refine (wide_s_at Hx.out _).mono ?_); rintro e w' ⟨rfl, hb⟩; obtain ⟨⟨dq, osq⟩, hq''⟩ := regrown_on (W0 := W0) (by first | exact below_regrown _ _ _ | exact Below.refl _ _ | go_grown) hb; subst hq''; clear hb))
      | (go_at_call 23; ((with_reducible refine (owOk_at  _).mono ?_); rintro e w' ⟨rfl, hb⟩; obtain ⟨⟨dq, osq⟩, hq''⟩ := regrown_on (W0 := W0) (by first | exact below_regrown _ _ _ | exact Below.refl _ _ | go_grown) hb; subst hq''; clear hb))
      | (go_at_call 27; ((with_reducible refine (ok_s_at Ob.out _).mono ?_); rintro e w' ⟨rfl, hb⟩; obtain ⟨⟨dq, osq⟩, hq''⟩ := regrown_on (W0 := W0) (by first | exact below_regrown _ _ _ | exact Below.refl _ _ | go_grown) hb; subst hq''; clear hb))
      | (go_at_call 25; ((with_reducible refine (in_at Ia.out _).mono ?_); rintro e w' ⟨rfl, hb⟩; obtain ⟨⟨dq, osq⟩, hq''⟩ := regrown_on (W0 := W0) (by first | exact below_regrown _ _ _ | exact Below.refl _ _ | go_grown) hb; subst hq''; clear hb))
      | (go_at_call 25; ((with_reducible refine (in_at Ib.out _).mono ?_); rintro e w' ⟨rfl, hb⟩; obtain ⟨⟨dq, osq⟩, hq''⟩ := regrown_on (W0 := W0) (by first | exact below_regrown _ _ _ | exact Below.refl _ _ | go_grown) hb; subst hq''; clear hb))
      | (go_at_call 43; ((with_reducible refine (wide_at Hxb.out _).mono ?_); rintro e w' ⟨rfl, hb⟩; obtain ⟨⟨dq, osq⟩, hq''⟩ := regrown_on (W0 := W0) (by first | exact below_regrown _ _ _ | exact Below.refl _ _ | go_grown) hb; subst hq''; clear hb))
      | (go_at_call 43; ((with_reducible refine (wide_at Hxa.out _).mono ?_); rintro e w' ⟨rfl, hb⟩; obtain ⟨⟨dq, osq⟩, hq''⟩ := regrown_on (W0 := W0) (by first | exact below_regrown _ _ _ | exact Below.refl _ _ | go_grown) hb; subst hq''; clear hb))
      | (go_at_call 43; ((with_reducible refine (wide_at Haa.out _).mono ?_); rintro e w' ⟨rfl, hb⟩; obtain ⟨⟨dq, osq⟩, hq''⟩ := regrown_on (W0 := W0) (by first | exact below_regrown _ _ _ | exact Below.refl _ _ | go_grown) hb; subst hq''; clear hb))
      | (go_at_call 45; ((with_reducible refine (owStep_at S2.out _).mono ?_); rintro e w' ⟨rfl, hb⟩; obtain ⟨⟨dq, osq⟩, hq''⟩ := regrown_on (W0 := W0) (by first | exact below_regrown _ _ _ | exact Below.refl _ _ | go_grown) hb; subst hq''; clear hb)))
        all_goals (try ((refine region_below (W0 := W0) mixed_ok (by kernel_rfl) (by first | exact below_regrown _ _ _ | exact Below.refl _ _ | go_grown) ?_); (repeat (go_big_quiet_step ((first | (go_at_call 27; with_reducible exact Calls.regrown_of (ok_s_at Oa.out _)) | (go_at_call 44; with_reducible exact Calls.regrown_of (wide_s_at Hx.out _)) | (go_at_call 23; with_reducible exact Calls.regrown_of (owOk_at  _)) | (go_at_call 27; with_reducible exact Calls.regrown_of (ok_s_at Ob.out _)) | (go_at_call 25; with_reducible exact Calls.regrown_of (in_at Ia.out _)) | (go_at_call 25; with_reducible exact Calls.regrown_of (in_at Ib.out _)) | (go_at_call 43; with_reducible exact Calls.regrown_of (wide_at Hxb.out _)) | (go_at_call 43; with_reducible exact Calls.regrown_of (wide_at Hxa.out _)) | (go_at_call 43; with_reducible exact Calls.regrown_of (wide_at Haa.out _)) | (go_at_call 45; with_reducible exact Calls.regrown_of (owStep_at S2.out _)))))); (refine wpQuiet_nil ?_); (intro _ hq'); (obtain ⟨⟨dq, osq⟩, hq''⟩ := hq'); (subst hq'')))
        all_goals go_wp2_with (first
      | (go_at_call 27; ((with_reducible refine (ok_s_at Oa.out _).mono ?_); rintro e w' ⟨rfl, hb⟩; obtain ⟨⟨dq, osq⟩, hq''⟩ := regrown_on (W0 := W0) (by first | exact below_regrown _ _ _ | exact Below.refl _ _ | go_grown) hb; subst hq''; clear hb))
      | (go_at_call 44; ((with_reducible refine (wide_s_at Hx.out _).mono ?_); rintro e w' ⟨rfl, hb⟩; obtain ⟨⟨dq, osq⟩, hq''⟩ := regrown_on (W0 := W0) (by first | exact below_regrown _ _ _ | exact Below.refl _ _ | go_grown) hb; subst hq''; clear hb))
      | (go_at_call 23; ((with_reducible refine (owOk_at  _).mono ?_); rintro e w' ⟨rfl, hb⟩; obtain ⟨⟨dq, osq⟩, hq''⟩ := regrown_on (W0 := W0) (by first | exact below_regrown _ _ _ | exact Below.refl _ _ | go_grown) hb; subst hq''; clear hb))
      | (go_at_call 27; ((with_reducible refine (ok_s_at Ob.out _).mono ?_); rintro e w' ⟨rfl, hb⟩; obtain ⟨⟨dq, osq⟩, hq''⟩ := regrown_on (W0 := W0) (by first | exact below_regrown _ _ _ | exact Below.refl _ _ | go_grown) hb; subst hq''; clear hb))
      | (go_at_call 25; ((with_reducible refine (in_at Ia.out _).mono ?_); rintro e w' ⟨rfl, hb⟩; obtain ⟨⟨dq, osq⟩, hq''⟩ := regrown_on (W0 := W0) (by first | exact below_regrown _ _ _ | exact Below.refl _ _ | go_grown) hb; subst hq''; clear hb))
      | (go_at_call 25; ((with_reducible refine (in_at Ib.out _).mono ?_); rintro e w' ⟨rfl, hb⟩; obtain ⟨⟨dq, osq⟩, hq''⟩ := regrown_on (W0 := W0) (by first | exact below_regrown _ _ _ | exact Below.refl _ _ | go_grown) hb; subst hq''; clear hb))
      | (go_at_call 43; ((with_reducible refine (wide_at Hxb.out _).mono ?_); rintro e w' ⟨rfl, hb⟩; obtain ⟨⟨dq, osq⟩, hq''⟩ := regrown_on (W0 := W0) (by first | exact below_regrown _ _ _ | exact Below.refl _ _ | go_grown) hb; subst hq''; clear hb))
      | (go_at_call 43; ((with_reducible refine (wide_at Hxa.out _).mono ?_); rintro e w' ⟨rfl, hb⟩; obtain ⟨⟨dq, osq⟩, hq''⟩ := regrown_on (W0 := W0) (by first | exact below_regrown _ _ _ | exact Below.refl _ _ | go_grown) hb; subst hq''; clear hb))
      | (go_at_call 43; ((with_reducible refine (wide_at Haa.out _).mono ?_); rintro e w' ⟨rfl, hb⟩; obtain ⟨⟨dq, osq⟩, hq''⟩ := regrown_on (W0 := W0) (by first | exact below_regrown _ _ _ | exact Below.refl _ _ | go_grown) hb; subst hq''; clear hb))
      | (go_at_call 45; ((with_reducible refine (owStep_at S2.out _).mono ?_); rintro e w' ⟨rfl, hb⟩; obtain ⟨⟨dq, osq⟩, hq''⟩ := regrown_on (W0 := W0) (by first | exact below_regrown _ _ _ | exact Below.refl _ _ | go_grown) hb; subst hq''; clear hb)))
        all_goals (go_ret; exact ⟨rfl, below_on hB0 (by first | exact below_regrown _ _ _ | exact Below.refl _ _ | go_grown)⟩)
      · have S1 := Lib.hid t1
        clear t1
        all_goals go_wp2_with (first
      | (go_at_call 27; ((with_reducible refine (ok_s_at Oa.out _).mono ?_); rintro e w' ⟨rfl, hb⟩; obtain ⟨⟨dq, osq⟩, hq''⟩ := regrown_on (W0 := W0) (by first | exact below_regrown _ _ _ | exact Below.refl _ _ | go_grown) hb; subst hq''; clear hb))
      | (go_at_call 44; ((with_reducible refine (wide_s_at Hx.out _).mono ?_); rintro e w' ⟨rfl, hb⟩; obtain ⟨⟨dq, osq⟩, hq''⟩ := regrown_on (W0 := W0) (by first | exact below_regrown _ _ _ | exact Below.refl _ _ | go_grown) hb; subst hq''; clear hb))
      | (go_at_call 23; ((with_reducible refine (owOk_at  _).mono ?_); rintro e w' ⟨rfl, hb⟩; obtain ⟨⟨dq, osq⟩, hq''⟩ := regrown_on (W0 := W0) (by first | exact below_regrown _ _ _ | exact Below.refl _ _ | go_grown) hb; subst hq''; clear hb))
      | (go_at_call 27; ((with_reducible refine (ok_s_at Ob.out _).mono ?_); rintro e w' ⟨rfl, hb⟩; obtain ⟨⟨dq, osq⟩, hq''⟩ := regrown_on (W0 := W0) (by first | exact below_regrown _ _ _ | exact Below.refl _ _ | go_grown) hb; subst hq''; clear hb))
      | (go_at_call 25; ((with_reducible refine (in_at Ia.out _).mono ?_); rintro e w' ⟨rfl, hb⟩; obtain ⟨⟨dq, osq⟩, hq''⟩ := regrown_on (W0 := W0) (by first | exact below_regrown _ _ _ | exact Below.refl _ _ | go_grown) hb; subst hq''; clear hb))
      | (go_at_call 25; ((with_reducible refine (in_at Ib.out _).mono ?_); rintro e w' ⟨rfl, hb⟩; obtain ⟨⟨dq, osq⟩, hq''⟩ := regrown_on (W0 := W0) (by first | exact below_regrown _ _ _ | exact Below.refl _ _ | go_grown) hb; subst hq''; clear hb))
      | (go_at_call 43; ((with_reducible refine (wide_at Hxb.out _).mono ?_); rintro e w' ⟨rfl, hb⟩; obtain ⟨⟨dq, osq⟩, hq''⟩ := regrown_on (W0 := W0) (by first | exact below_regrown _ _ _ | exact Below.refl _ _ | go_grown) hb; subst hq''; clear hb))
      | (go_at_call 43; ((with_reducible refine (wide_at Hxa.out _).mono ?_); rintro e w' ⟨rfl, hb⟩; obtain ⟨⟨dq, osq⟩, hq''⟩ := regrown_on (W0 := W0) (by first | exact below_regrown _ _ _ | exact Below.refl _ _ | go_grown) hb; subst hq''; clear hb))
      | (go_at_call 43; ((with_reducible refine (wide_at Haa.out _).mono ?_); rintro e w' ⟨rfl, hb⟩; obtain ⟨⟨dq, osq⟩, hq''⟩ := regrown_on (W0 := W0) (by first | exact below_regrown _ _ _ | exact Below.refl _ _ | go_grown) hb; subst hq''; clear hb))
      | (go_at_call 45; ((with_reducible refine (owStep_at S1.out _).mono ?_); rintro e w' ⟨rfl, hb⟩; obtain ⟨⟨dq, osq⟩, hq''⟩ := regrown_on (W0 := W0) (by first | exact below_regrown _ _ _ | exact Below.refl _ _ | go_grown) hb; subst hq''; clear hb)))
        all_goals (try ((refine region_below (W0 := W0) mixed_ok (by kernel_rfl) (by first | exact below_regrown _ _ _ | exact Below.refl _ _ | go_grown) ?_); (repeat (go_big_quiet_step ((first | (go_at_call 27; with_reducible exact Calls.regrown_of (ok_s_at Oa.out _)) | (go_at_call 44; with_reducible exact Calls.regrown_of (wide_s_at Hx.out _)) | (go_at_call 23; with_reducible exact Calls.regrown_of (owOk_at  _)) | (go_at_call 27; with_reducible exact Calls.regrown_of (ok_s_at Ob.out _)) | (go_at_call 25; with_reducible exact Calls.regrown_of (in_at Ia.out _)) | (go_at_call 25; with_reducible exact Calls.regrown_of (in_at Ib.out _)) | (go_at_call 43; with_reducible exact Calls.regrown_of (wide_at Hxb.out _)) | (go_at_call 43; with_reducible exact Calls.regrown_of (wide_at Hxa.out _)) | (go_at_call 43; with_reducible exact Calls.regrown_of (wide_at Haa.out _)) | (go_at_call 45; with_reducible exact Calls.regrown_of (owStep_at S1.out _)))))); (refine wpQuiet_nil ?_); (intro _ hq'); (obtain ⟨⟨dq, osq⟩, hq''⟩ := hq'); (subst hq'')))
        all_goals go_wp2_with (first
      | (go_at_call 27; ((with_reducible refine (ok_s_at Oa.out _).mono ?_); rintro e w' ⟨rfl, hb⟩; obtain ⟨⟨dq, osq⟩, hq''⟩ := regrown_on (W0 := W0) (by first | exact below_regrown _ _ _ | exact Below.refl _ _ | go_grown) hb; subst hq''; clear hb))
      | (go_at_call 44; ((with_reducible refine (wide_s_at Hx.out _).mono ?_); rintro e w' ⟨rfl, hb⟩; obtain ⟨⟨dq, osq⟩, hq''⟩ := regrown_on (W0 := W0) (by first | exact below_regrown _ _ _ | exact Below.refl _ _ | go_grown) hb; subst hq''; clear hb))
      | (go_at_call 23; ((with_reducible refine (owOk_at  _).mono ?_); rintro e w' ⟨rfl, hb⟩; obtain ⟨⟨dq, osq⟩, hq''⟩ := regrown_on (W0 := W0) (by first | exact below_regrown _ _ _ | exact Below.refl _ _ | go_grown) hb; subst hq''; clear hb))
      | (go_at_call 27; ((with_reducible refine (ok_s_at Ob.out _).mono ?_); rintro e w' ⟨rfl, hb⟩; obtain ⟨⟨dq, osq⟩, hq''⟩ := regrown_on (W0 := W0) (by first | exact below_regrown _ _ _ | exact Below.refl _ _ | go_grown) hb; subst hq''; clear hb))
      | (go_at_call 25; ((with_reducible refine (in_at Ia.out _).mono ?_); rintro e w' ⟨rfl, hb⟩; obtain ⟨⟨dq, osq⟩, hq''⟩ := regrown_on (W0 := W0) (by first | exact below_regrown _ _ _ | exact Below.refl _ _ | go_grown) hb; subst hq''; clear hb))
      | (go_at_call 25; ((with_reducible refine (in_at Ib.out _).mono ?_); rintro e w' ⟨rfl, hb⟩; obtain ⟨⟨dq, osq⟩, hq''⟩ := regrown_on (W0 := W0) (by first | exact below_regrown _ _ _ | exact Below.refl _ _ | go_grown) hb; subst hq''; clear hb))
      | (go_at_call 43; ((with_reducible refine (wide_at Hxb.out _).mono ?_); rintro e w' ⟨rfl, hb⟩; obtain ⟨⟨dq, osq⟩, hq''⟩ := regrown_on (W0 := W0) (by first | exact below_regrown _ _ _ | exact Below.refl _ _ | go_grown) hb; subst hq''; clear hb))
      | (go_at_call 43; ((with_reducible refine (wide_at Hxa.out _).mono ?_); rintro e w' ⟨rfl, hb⟩; obtain ⟨⟨dq, osq⟩, hq''⟩ := regrown_on (W0 := W0) (by first | exact below_regrown _ _ _ | exact Below.refl _ _ | go_grown) hb; subst hq''; clear hb))
      | (go_at_call 43; ((with_reducible refine (wide_at Haa.out _).mono ?_); rintro e w' ⟨rfl, hb⟩; obtain ⟨⟨dq, osq⟩, hq''⟩ := regrown_on (W0 := W0) (by first | exact below_regrown _ _ _ | exact Below.refl _ _ | go_grown) hb; subst hq''; clear hb))
      | (go_at_call 45; ((with_reducible refine (owStep_at S1.out _).mono ?_); rintro e w' ⟨rfl, hb⟩; obtain ⟨⟨dq, osq⟩, hq''⟩ := regrown_on (W0 := W0) (by first | exact below_regrown _ _ _ | exact Below.refl _ _ | go_grown) hb; subst hq''; clear hb)))
        all_goals (try ((refine region_below (W0 := W0) mixed_ok (by kernel_rfl) (by first | exact below_regrown _ _ _ | exact Below.refl _ _ | go_grown) ?_); (repeat (go_big_quiet_step ((first | (go_at_call 27; with_reducible exact Calls.regrown_of (ok_s_at Oa.out _)) | (go_at_call 44; with_reducible exact Calls.regrown_of (wide_s_at Hx.out _)) | (go_at_call 23; with_reducible exact Calls.regrown_of (owOk_at  _)) | (go_at_call 27; with_reducible exact Calls.regrown_of (ok_s_at Ob.out _)) | (go_at_call 25; with_reducible exact Calls.regrown_of (in_at Ia.out _)) | (go_at_call 25; with_reducible exact Calls.regrown_of (in_at Ib.out _)) | (go_at_call 43; with_reducible exact Calls.regrown_of (wide_at Hxb.out _)) | (go_at_call 43; with_reducible exact Calls.regrown_of (wide_at Hxa.out _)) | (go_at_call 43; with_reducible exact Calls.regrown_of (wide_at Haa.out _)) | (go_at_call 45; with_reducible exact Calls.regrown_of (owStep_at S1.out _)))))); (refine wpQuiet_nil ?_); (intro _ hq'); (obtain ⟨⟨dq, osq⟩, hq''⟩ := hq'); (subst hq'')))
        all_goals go_wp2_with (first
      | (go_at_call 27; ((with_reducible refine (ok_s_at Oa.out _).mono ?_); rintro e w' ⟨rfl, hb⟩; obtain ⟨⟨dq, osq⟩, hq''⟩ := regrown_on (W0 := W0) (by first | exact below_regrown _ _ _ | exact Below.refl _ _ | go_grown) hb; subst hq''; clear hb))
      | (go_at_call 44; ((with_reducible refine (wide_s_at Hx.out _).mono ?_); rintro e w' ⟨rfl, hb⟩; obtain ⟨⟨dq, osq⟩, hq''⟩ := regrown_on (W0 := W0) (by first | exact below_regrown _ _ _ | exact Below.refl _ _ | go_grown) hb; subst hq''; clear hb))
      | (go_at_call 23; ((with_reducible refine (owOk_at  _).mono ?_); rintro e w' ⟨rfl, hb⟩; obtain ⟨⟨dq, osq⟩, hq''⟩ := regrown_on (W0 := W0) (by first | exact below_regrown _ _ _ | exact Below.refl _ _ | go_grown) hb; subst hq''; clear hb))
      | (go_at_call 27; ((with_reducible refine (ok_s_at Ob.out _).mono ?_); rintro e w' ⟨rfl, hb⟩; obtain ⟨⟨dq, osq⟩, hq''⟩ := regrown_on (W0 := W0) (by first | exact below_regrown _ _ _ | exact Below.refl _ _ | go_grown) hb; subst hq''; clear hb))
      | (go_at_call 25; ((with_reducible refine (in_at Ia.out _).mono ?_); rintro e w' ⟨rfl, hb⟩; obtain ⟨⟨dq, osq⟩, hq''⟩ := regrown_on (W0 := W0) (by first | exact below_regrown _ _ _ | exact Below.refl _ _ | go_grown) hb; subst hq''; clear hb))
      | (go_at_call 25; ((with_reducible refine (in_at Ib.out _).mono ?_); rintro e w' ⟨rfl, hb⟩; obtain ⟨⟨dq, osq⟩, hq''⟩ := regrown_on (W0 := W0) (by first | exact below_regrown _ _ _ | exact Below.refl _ _ | go_grown) hb; subst hq''; clear hb))
      | (go_at_call 43; ((with_reducible refine (wide_at Hxb.out _).mono ?_); rintro e w' ⟨rfl, hb⟩; obtain ⟨⟨dq, osq⟩, hq''⟩ := regrown_on (W0 := W0) (by first | exact below_regrown _ _ _ | exact Below.refl _ _ | go_grown) hb; subst hq''; clear hb))
      | (go_at_call 43; ((with_reducible refine (wide_at Hxa.out _).mono ?_); rintro e w' ⟨rfl, hb⟩; obtain ⟨⟨dq, osq⟩, hq''⟩ := regrown_on (W0 := W0) (by first | exact below_regrown _ _ _ | exact Below.refl _ _ | go_grown) hb; subst hq''; clear hb))
      | (go_at_call 43; ((with_reducible refine (wide_at Haa.out _).mono ?_); rintro e w' ⟨rfl, hb⟩; obtain ⟨⟨dq, osq⟩, hq''⟩ := regrown_on (W0 := W0) (by first | exact below_regrown _ _ _ | exact Below.refl _ _ | go_grown) hb; subst hq''; clear hb))
      | (go_at_call 45; ((with_reducible refine (owStep_at S1.out _).mono ?_); rintro e w' ⟨rfl, hb⟩; obtain ⟨⟨dq, osq⟩, hq''⟩ := regrown_on (W0 := W0) (by first | exact below_regrown _ _ _ | exact Below.refl _ _ | go_grown) hb; subst hq''; clear hb)))
        all_goals (try ((refine region_below (W0 := W0) mixed_ok (by kernel_rfl) (by first | exact below_regrown _ _ _ | exact Below.refl _ _ | go_grown) ?_); (repeat (go_big_quiet_step ((first | (go_at_call 27; with_reducible exact Calls.regrown_of (ok_s_at Oa.out _)) | (go_at_call 44; with_reducible exact Calls.regrown_of (wide_s_at Hx.out _)) | (go_at_call 23; with_reducible exact Calls.regrown_of (owOk_at  _)) | (go_at_call 27; with_reducible exact Calls.regrown_of (ok_s_at Ob.out _)) | (go_at_call 25; with_reducible exact Calls.regrown_of (in_at Ia.out _)) | (go_at_call 25; with_reducible exact Calls.regrown_of (in_at Ib.out _)) | (go_at_call 43; with_reducible exact Calls.regrown_of (wide_at Hxb.out _)) | (go_at_call 43; with_reducible exact Calls.regrown_of (wide_at Hxa.out _)) | (go_at_call 43; with_reducible exact Calls.regrown_of (wide_at Haa.out _)) | (go_at_call 45; with_reducible exact Calls.regrown_of (owStep_at S1.out _)))))); (refine wpQuiet_nil ?_); (intro _ hq'); (obtain ⟨⟨dq, osq⟩, hq''⟩ := hq'); (subst hq'')))
        all_goals go_wp2_with (first
      | (go_at_call 27; ((with_reducible refine (ok_s_at Oa.out _).mono ?_); rintro e w' ⟨rfl, hb⟩; obtain ⟨⟨dq, osq⟩, hq''⟩ := regrown_on (W0 := W0) (by first | exact below_regrown _ _ _ | exact Below.refl _ _ | go_grown) hb; subst hq''; clear hb))
      | (go_at_call 44; ((with_reducible refine (wide_s_at Hx.out _).mono ?_); rintro e w' ⟨rfl, hb⟩; obtain ⟨⟨dq, osq⟩, hq''⟩ := regrown_on (W0 := W0) (by first | exact below_regrown _ _ _ | exact Below.refl _ _ | go_grown) hb; subst hq''; clear hb))
      | (go_at_call 23; ((with_reducible refine (owOk_at  _).mono ?_); rintro e w' ⟨rfl, hb⟩; obtain ⟨⟨dq, osq⟩, hq''⟩ := regrown_on (W0 := W0) (by first | exact below_regrown _ _ _ | exact Below.refl _ _ | go_grown) hb; subst hq''; clear hb))
      | (go_at_call 27; ((with_reducible refine (ok_s_at Ob.out _).mono ?_); rintro e w' ⟨rfl, hb⟩; obtain ⟨⟨dq, osq⟩, hq''⟩ := regrown_on (W0 := W0) (by first | exact below_regrown _ _ _ | exact Below.refl _ _ | go_grown) hb; subst hq''; clear hb))
      | (go_at_call 25; ((with_reducible refine (in_at Ia.out _).mono ?_); rintro e w' ⟨rfl, hb⟩; obtain ⟨⟨dq, osq⟩, hq''⟩ := regrown_on (W0 := W0) (by first | exact below_regrown _ _ _ | exact Below.refl _ _ | go_grown) hb; subst hq''; clear hb))
      | (go_at_call 25; ((with_reducible refine (in_at Ib.out _).mono ?_); rintro e w' ⟨rfl, hb⟩; obtain ⟨⟨dq, osq⟩, hq''⟩ := regrown_on (W0 := W0) (by first | exact below_regrown _ _ _ | exact Below.refl _ _ | go_grown) hb; subst hq''; clear hb))
      | (go_at_call 43; ((with_reducible refine (wide_at Hxb.out _).mono ?_); rintro e w' ⟨rfl, hb⟩; obtain ⟨⟨dq, osq⟩, hq''⟩ := regrown_on (W0 := W0) (by first | exact below_regrown _ _ _ | exact Below.refl _ _ | go_grown) hb; subst hq''; clear hb))
      | (go_at_call 43; ((with_reducible refine (wide_at Hxa.out _).mono ?_); rintro e w' ⟨rfl, hb⟩; obtain ⟨⟨dq, osq⟩, hq''⟩ := regrown_on (W0 := W0) (by first | exact below_regrown _ _ _ | exact Below.refl _ _ | go_grown) hb; subst hq''; clear hb))
      | (go_at_call 43; ((with_reducible refine (wide_at Haa.out _).mono ?_); rintro e w' ⟨rfl, hb⟩; obtain ⟨⟨dq, osq⟩, hq''⟩ := regrown_on (W0 := W0) (by first | exact below_regrown _ _ _ | exact Below.refl _ _ | go_grown) hb; subst hq''; clear hb))
      | (go_at_call 45; ((with_reducible refine (owStep_at S1.out _).mono ?_); rintro e w' ⟨rfl, hb⟩; obtain ⟨⟨dq, osq⟩, hq''⟩ := regrown_on (W0 := W0) (by first | exact below_regrown _ _ _ | exact Below.refl _ _ | go_grown) hb; subst hq''; clear hb)))
        all_goals (go_ret; exact ⟨rfl, below_on hB0 (by first | exact below_regrown _ _ _ | exact Below.refl _ _ | go_grown)⟩)
      · have S1 := Lib.hid t1
        have S2 := Lib.hid t2
        clear t1 t2
        all_goals go_wp2_with (first
      | (go_at_call 27; ((with_reducible refine (ok_s_at Oa.out _).mono ?_); rintro e w' ⟨rfl, hb⟩; obtain ⟨⟨dq, osq⟩, hq''⟩ := regrown_on (W0 := W0) (by first | exact below_regrown _ _ _ | exact Below.refl _ _ | go_grown) hb; subst hq''; clear hb))
      | (go_at_call 44; ((with_reducible refine (wide_s_at Hx.out _).mono ?_); rintro e w' ⟨rfl, hb⟩; obtain ⟨⟨dq, osq⟩, hq''⟩ := regrown_on (W0 := W0) (by first | exact below_regrown _ _ _ | exact Below.refl _ _ | go_grown) hb; subst hq''; clear hb))
      | (go_at_call 23; ((with_reducible refine (owOk_at  _).mono ?_); rintro e w' ⟨rfl, hb⟩; obtain ⟨⟨dq, osq⟩, hq''⟩ := regrown_on (W0 := W0) (by first | exact below_regrown _ _ _ | exact Below.refl _ _ | go_grown) hb; subst hq''; clear hb))
      | (go_at_call 27; ((with_reducible refine (ok_s_at Ob.out _).mono ?_); rintro e w' ⟨rfl, hb⟩; obtain ⟨⟨dq, osq⟩, hq''⟩ := regrown_on (W0 := W0) (by first | exact below_regrown _ _ _ | exact Below.refl _ _ | go_grown) hb; subst hq''; clear hb))
      | (go_at_call 25; ((with_reducible refine (in_at Ia.out _).mono ?_); rintro e w' ⟨rfl, hb⟩; obtain ⟨⟨dq, osq⟩, hq''⟩ := regrown_on (W0 := W0) (by first | exact below_regrown _ _ _ | exact Below.refl _ _ | go_grown) hb; subst hq''; clear hb))
      | (go_at_call 25; ((with_reducible refine (in_at Ib.out _).mono ?_); rintro e w' ⟨rfl, hb⟩; obtain ⟨⟨dq, osq⟩, hq''⟩ := regrown_on (W0 := W0) (by first | exact below_regrown _ _ _ | exact Below.refl _ _ | go_grown) hb; subst hq''; clear hb))
      | (go_at_call 43; ((with_reducible refine (wide_at Hxb.out _).mono ?_); rintro e w' ⟨rfl, hb⟩; obtain ⟨⟨dq, osq⟩, hq''⟩ := regrown_on (W0 := W0) (by first | exact below_regrown _ _ _ | exact Below.refl _ _ | go_grown) hb; subst hq''; clear hb))
      | (go_at_call 43; ((with_reducible refine (wide_at Hxa.out _).mono ?_); rintro e w' ⟨rfl, hb⟩; obtain ⟨⟨dq, osq⟩, hq''⟩ := regrown_on (W0 := W0) (by first | exact below_regrown _ _ _ | exact Below.refl _ _ | go_grown) hb; subst hq''; clear hb))
      | (go_at_call 43; ((with_reducible refine (wide_at Haa.out _).mono ?_); rintro e w' ⟨rfl, hb⟩; obtain ⟨⟨dq, osq⟩, hq''⟩ := regrown_on (W0 := W0) (by first | exact below_regrown _ _ _ | exact Below.refl _ _ | go_grown) hb; subst hq''; clear hb))
      | (go_at_call 45; ((with_reducible refine (owStep_at S1.out _).mono ?_); rintro e w' ⟨rfl, hb⟩; obtain ⟨⟨dq, osq⟩, hq''⟩ := regrown_on (W0 := W0) (by first | exact below_regrown _ _ _ | exact Below.refl _ _ | go_grown) hb; subst hq''; clear hb))
      | (go_at_call 45; ((with_reducible refine (owStep_at S2.out _).mono ?_); rintro e w' ⟨rfl, hb⟩; obtain ⟨⟨dq, osq⟩, hq''⟩ := regrown_on (W0 := W0) (by first | exact below_regrown _ _ _ | exact Below.refl _ _ | go_grown) hb; subst hq''; clear hb)))
        all_goals (try ((refine region_below (W0 := W0) mixed_ok (by kernel_rfl) (by first | exact below_regrown _ _ _ | exact Below.refl _ _ | go_grown) ?_); (repeat (go_big_quiet_step ((first | (go_at_call 27; with_reducible exact Calls.regrown_of (ok_s_at Oa.out _)) | (go_at_call 44; with_reducible exact Calls.regrown_of (wide_s_at Hx.out _)) | (go_at_call 23; with_reducible exact Calls.regrown_of (owOk_at  _)) | (go_at_call 27; with_reducible exact Calls.regrown_of (ok_s_at Ob.out _)) | (go_at_call 25; with_reducible exact Calls.regrown_of (in_at Ia.out _)) | (go_at_call 25; with_reducible exact Calls.regrown_of (in_at Ib.out _)) | (go_at_call 43; with_reducible exact Calls.regrown_of (wide_at Hxb.out _)) | (go_at_call 43; with_reducible exact Calls.regrown_of (wide_at Hxa.out _)) | (go_at_call 43; with_reducible exact Calls.regrown_of (wide_at Haa.out _)) | (go_at_call 45; with_reducible exact Calls.regrown_of (owStep_at S1.out _)) | (go_at_call 45; with_reducible exact Calls.regrown_of (owStep_at S2.out _)))))); (refine wpQuiet_nil ?_); (intro _ hq'); (obtain ⟨⟨dq, osq⟩, hq''⟩ := hq'); (subst hq'')))
        all_goals go_wp2_with (first
      | (go_at_call 27; ((with_reducible refine (ok_s_at Oa.out _).mono ?_); rintro e w' ⟨rfl, hb⟩; obtain ⟨⟨dq, osq⟩, hq''⟩ := regrown_on (W0 := W0) (by first | exact below_regrown _ _ _ | exact Below.refl _ _ | go_grown) hb; subst hq''; clear hb))
      | (go_at_call 44; ((with_reducible refine (wide_s_at Hx.out _).mono ?_); rintro e w' ⟨rfl, hb⟩; obtain ⟨⟨dq, osq⟩, hq''⟩ := regrown_on (W0 := W0) (by first | exact below_regrown _ _ _ | exact Below.refl _ _ | go_grown) hb; subst hq''; clear hb))
      | (go_at_call 23; ((with_reducible refine (owOk_at  _).mono ?_); rintro e w' ⟨rfl, hb⟩; obtain ⟨⟨dq, osq⟩, hq''⟩ := regrown_on (W0 := W0) (by first | exact below_regrown _ _ _ | exact Below.refl _ _ | go_grown) hb; subst hq''; clear hb))
      | (go_at_call 27; ((with_reducible refine (ok_s_at Ob.out _).mono ?_); rintro e w' ⟨rfl, hb⟩; obtain ⟨⟨dq, osq⟩, hq''⟩ := regrown_on (W0 := W0) (by first | exact below_regrown _ _ _ | exact Below.refl _ _ | go_grown) hb; subst hq''; clear hb))
      | (go_at_call 25; ((with_reducible refine (in_at Ia.out _).mono ?_); rintro e w' ⟨rfl, hb⟩; obtain ⟨⟨dq, osq⟩, hq''⟩ := regrown_on (W0 := W0) (by first | exact below_regrown _ _ _ | exact Below.refl _ _ | go_grown) hb; subst hq''; clear hb))
      | (go_at_call 25; ((with_reducible refine (in_at Ib.out _).mono ?_); rintro e w' ⟨rfl, hb⟩; obtain ⟨⟨dq, osq⟩, hq''⟩ := regrown_on (W0 := W0) (by first | exact below_regrown _ _ _ | exact Below.refl _ _ | go_grown) hb; subst hq''; clear hb))
      | (go_at_call 43; ((with_reducible refine (wide_at Hxb.out _).mono ?_); rintro e w' ⟨rfl, hb⟩; obtain ⟨⟨dq, osq⟩, hq''⟩ := regrown_on (W0 := W0) (by first | exact below_regrown _ _ _ | exact Below.refl _ _ | go_grown) hb; subst hq''; clear hb))
      | (go_at_call 43; ((with_reducible refine (wide_at Hxa.out _).mono ?_); rintro e w' ⟨rfl, hb⟩; obtain ⟨⟨dq, osq⟩, hq''⟩ := regrown_on (W0 := W0) (by first | exact below_regrown _ _ _ | exact Below.refl _ _ | go_grown) hb; subst hq''; clear hb))
      | (go_at_call 43; ((with_reducible refine (wide_at Haa.out _).mono ?_); rintro e w' ⟨rfl, hb⟩; obtain ⟨⟨dq, osq⟩, hq''⟩ := regrown_on (W0 := W0) (by first | exact below_regrown _ _ _ | exact Below.refl _ _ | go_grown) hb; subst hq''; clear hb))
      | (go_at_call 45; ((with_reducible refine (owStep_at S1.out _).mono ?_); rintro e w' ⟨rfl, hb⟩; obtain ⟨⟨dq, osq⟩, hq''⟩ := regrown_on (W0 := W0) (by first | exact below_regrown _ _ _ | exact Below.refl _ _ | go_grown) hb; subst hq''; clear hb))
      | (go_at_call 45; ((with_reducible refine (owStep_at S2.out _).mono ?_); rintro e w' ⟨rfl, hb⟩; obtain ⟨⟨dq, osq⟩, hq''⟩ := regrown_on (W0 := W0) (by first | exact below_regrown _ _ _ | exact Below.refl _ _ | go_grown) hb; subst hq''; clear hb)))
        all_goals (try ((refine region_below (W0 := W0) mixed_ok (by kernel_rfl) (by first | exact below_regrown _ _ _ | exact Below.refl _ _ | go_grown) ?_); (repeat (go_big_quiet_step ((first | (go_at_call 27; with_reducible exact Calls.regrown_of (ok_s_at Oa.out _)) | (go_at_call 44; with_reducible exact Calls.regrown_of (wide_s_at Hx.out _)) | (go_at_call 23; with_reducible exact Calls.regrown_of (owOk_at  _)) | (go_at_call 27; with_reducible exact Calls.regrown_of (ok_s_at Ob.out _)) | (go_at_call 25; with_reducible exact Calls.regrown_of (in_at Ia.out _)) | (go_at_call 25; with_reducible exact Calls.regrown_of (in_at Ib.out _)) | (go_at_call 43; with_reducible exact Calls.regrown_of (wide_at Hxb.out _)) | (go_at_call 43; with_reducible exact Calls.regrown_of (wide_at Hxa.out _)) | (go_at_call 43; with_reducible exact Calls.regrown_of (wide_at Haa.out _)) | (go_at_call 45; with_reducible exact Calls.regrown_of (owStep_at S1.out _)) | (go_at_call 45; with_reducible exact Calls.regrown_of (owStep_at S2.out _)))))); (refine wpQuiet_nil ?_); (intro _ hq'); (obtain ⟨⟨dq, osq⟩, hq''⟩ := hq'); (subst hq'')))
        all_goals go_wp2_with (first
      | (go_at_call 27; ((with_reducible refine (ok_s_at Oa.out _).mono ?_); rintro e w' ⟨rfl, hb⟩; obtain ⟨⟨dq, osq⟩, hq''⟩ := regrown_on (W0 := W0) (by first | exact below_regrown _ _ _ | exact Below.refl _ _ | go_grown) hb; subst hq''; clear hb))
      | (go_at_call 44; ((with_reducible refine (wide_s_at Hx.out _).mono ?_); rintro e w' ⟨rfl, hb⟩; obtain ⟨⟨dq, osq⟩, hq''⟩ := regrown_on (W0 := W0) (by first | exact below_regrown _ _ _ | exact Below.refl _ _ | go_grown) hb; subst hq''; clear hb))
      | (go_at_call 23; ((with_reducible refine (owOk_at  _).mono ?_); rintro e w' ⟨rfl, hb⟩; obtain ⟨⟨dq, osq⟩, hq''⟩ := regrown_on (W0 := W0) (by first | exact below_regrown _ _ _ | exact Below.refl _ _ | go_grown) hb; subst hq''; clear hb))
      | (go_at_call 27; ((with_reducible refine (ok_s_at Ob.out _).mono ?_); rintro e w' ⟨rfl, hb⟩; obtain ⟨⟨dq, osq⟩, hq''⟩ := regrown_on (W0 := W0) (by first | exact below_regrown _ _ _ | exact Below.refl _ _ | go_grown) hb; subst hq''; clear hb))
      | (go_at_call 25; ((with_reducible refine (in_at Ia.out _).mono ?_); rintro e w' ⟨rfl, hb⟩; obtain ⟨⟨dq, osq⟩, hq''⟩ := regrown_on (W0 := W0) (by first | exact below_regrown _ _ _ | exact Below.refl _ _ | go_grown) hb; subst hq''; clear hb))
      | (go_at_call 25; ((with_reducible refine (in_at Ib.out _).mono ?_); rintro e w' ⟨rfl, hb⟩; obtain ⟨⟨dq, osq⟩, hq''⟩ := regrown_on (W0 := W0) (by first | exact below_regrown _ _ _ | exact Below.refl _ _ | go_grown) hb; subst hq''; clear hb))
      | (go_at_call 43; ((with_reducible refine (wide_at Hxb.out _).mono ?_); rintro e w' ⟨rfl, hb⟩; obtain ⟨⟨dq, osq⟩, hq''⟩ := regrown_on (W0 := W0) (by first | exact below_regrown _ _ _ | exact Below.refl _ _ | go_grown) hb; subst hq''; clear hb))
      | (go_at_call 43; ((with_reducible refine (wide_at Hxa.out _).mono ?_); rintro e w' ⟨rfl, hb⟩; obtain ⟨⟨dq, osq⟩, hq''⟩ := regrown_on (W0 := W0) (by first | exact below_regrown _ _ _ | exact Below.refl _ _ | go_grown) hb; subst hq''; clear hb))
      | (go_at_call 43; ((with_reducible refine (wide_at Haa.out _).mono ?_); rintro e w' ⟨rfl, hb⟩; obtain ⟨⟨dq, osq⟩, hq''⟩ := regrown_on (W0 := W0) (by first | exact below_regrown _ _ _ | exact Below.refl _ _ | go_grown) hb; subst hq''; clear hb))
      | (go_at_call 45; ((with_reducible refine (owStep_at S1.out _).mono ?_); rintro e w' ⟨rfl, hb⟩; obtain ⟨⟨dq, osq⟩, hq''⟩ := regrown_on (W0 := W0) (by first | exact below_regrown _ _ _ | exact Below.refl _ _ | go_grown) hb; subst hq''; clear hb))
      | (go_at_call 45; ((with_reducible refine (owStep_at S2.out _).mono ?_); rintro e w' ⟨rfl, hb⟩; obtain ⟨⟨dq, osq⟩, hq''⟩ := regrown_on (W0 := W0) (by first | exact below_regrown _ _ _ | exact Below.refl _ _ | go_grown) hb; subst hq''; clear hb)))
        all_goals (try ((refine region_below (W0 := W0) mixed_ok (by kernel_rfl) (by first | exact below_regrown _ _ _ | exact Below.refl _ _ | go_grown) ?_); (repeat (go_big_quiet_step ((first | (go_at_call 27; with_reducible exact Calls.regrown_of (ok_s_at Oa.out _)) | (go_at_call 44; with_reducible exact Calls.regrown_of (wide_s_at Hx.out _)) | (go_at_call 23; with_reducible exact Calls.regrown_of (owOk_at  _)) | (go_at_call 27; with_reducible exact Calls.regrown_of (ok_s_at Ob.out _)) | (go_at_call 25; with_reducible exact Calls.regrown_of (in_at Ia.out _)) | (go_at_call 25; with_reducible exact Calls.regrown_of (in_at Ib.out _)) | (go_at_call 43; with_reducible exact Calls.regrown_of (wide_at Hxb.out _)) | (go_at_call 43; with_reducible exact Calls.regrown_of (wide_at Hxa.out _)) | (go_at_call 43; with_reducible exact Calls.regrown_of (wide_at Haa.out _)) | (go_at_call 45; with_reducible exact Calls.regrown_of (owStep_at S1.out _)) | (go_at_call 45; with_reducible exact Calls.regrown_of (owStep_at S2.out _)))))); (refine wpQuiet_nil ?_); (intro _ hq'); (obtain ⟨⟨dq, osq⟩, hq''⟩ := hq'); (subst hq'')))
        all_goals go_wp2_with (first
      | (go_at_call 27; ((with_reducible refine (ok_s_at Oa.out _).mono ?_); rintro e w' ⟨rfl, hb⟩; obtain ⟨⟨dq, osq⟩, hq''⟩ := regrown_on (W0 := W0) (by first | exact below_regrown _ _ _ | exact Below.refl _ _ | go_grown) hb; subst hq''; clear hb))
      | (go_at_call 44; ((with_reducible refine (wide_s_at Hx.out _).mono ?_); rintro e w' ⟨rfl, hb⟩; obtain ⟨⟨dq, osq⟩, hq''⟩ := regrown_on (W0 := W0) (by first | exact below_regrown _ _ _ | exact Below.refl _ _ | go_grown) hb; subst hq''; clear hb))
      | (go_at_call 23; ((with_reducible refine (owOk_at  _).mono ?_); rintro e w' ⟨rfl, hb⟩; obtain ⟨⟨dq, osq⟩, hq''⟩ := regrown_on (W0 := W0) (by first | exact below_regrown _ _ _ | exact Below.refl _ _ | go_grown) hb; subst hq''; clear hb))
      | (go_at_call 27; ((with_reducible refine (ok_s_at Ob.out _).mono ?_); rintro e w' ⟨rfl, hb⟩; obtain ⟨⟨dq, osq⟩, hq''⟩ := regrown_on (W0 := W0) (by first | exact below_regrown _ _ _ | exact Below.refl _ _ | go_grown) hb; subst hq''; clear hb))
      | (go_at_call 25; ((with_reducible refine (in_at Ia.out _).mono ?_); rintro e w' ⟨rfl, hb⟩; obtain ⟨⟨dq, osq⟩, hq''⟩ := regrown_on (W0 := W0) (by first | exact below_regrown _ _ _ | exact Below.refl _ _ | go_grown) hb; subst hq''; clear hb))
      | (go_at_call 25; ((with_reducible refine (in_at Ib.out _).mono ?_); rintro e w' ⟨rfl, hb⟩; obtain ⟨⟨dq, osq⟩, hq''⟩ := regrown_on (W0 := W0) (by first | exact below_regrown _ _ _ | exact Below.refl _ _ | go_grown) hb; subst hq''; clear hb))
      | (go_at_call 43; ((with_reducible refine (wide_at Hxb.out _).mono ?_); rintro e w' ⟨rfl, hb⟩; obtain ⟨⟨dq, osq⟩, hq''⟩ := regrown_on (W0 := W0) (by first | exact below_regrown _ _ _ | exact Below.refl _ _ | go_grown) hb; subst hq''; clear hb))
      | (go_at_call 43; ((with_reducible refine (wide_at Hxa.out _).mono ?_); rintro e w' ⟨rfl, hb⟩; obtain ⟨⟨dq, osq⟩, hq''⟩ := regrown_on (W0 := W0) (by first | exact below_regrown _ _ _ | exact Below.refl _ _ | go_grown) hb; subst hq''; clear hb))
      | (go_at_call 43; ((with_reducible refine (wide_at Haa.out _).mono ?_); rintro e w' ⟨rfl, hb⟩; obtain ⟨⟨dq, osq⟩, hq''⟩ := regrown_on (W0 := W0) (by first | exact below_regrown _ _ _ | exact Below.refl _ _ | go_grown) hb; subst hq''; clear hb))
      | (go_at_call 45; ((with_reducible refine (owStep_at S1.out _).mono ?_); rintro e w' ⟨rfl, hb⟩; obtain ⟨⟨dq, osq⟩, hq''⟩ := regrown_on (W0 := W0) (by first | exact below_regrown _ _ _ | exact Below.refl _ _ | go_grown) hb; subst hq''; clear hb))
      | (go_at_call 45; ((with_reducible refine (owStep_at S2.out _).mono ?_); rintro e w' ⟨rfl, hb⟩; obtain ⟨⟨dq, osq⟩, hq''⟩ := regrown_on (W0 := W0) (by first | exact below_regrown _ _ _ | exact Below.refl _ _ | go_grown) hb; subst hq''; clear hb)))
        all_goals (go_ret; exact ⟨rfl, below_on hB0 (by first | exact below_regrown _ _ _ | exact Below.refl _ _ | go_grown)⟩)
    · have hj0 : (xl, xh) = ((0, 0) : Int × Int) := Hx.out.symm.trans (wideI_bad hab)
      have e1 : xl = 0 := congrArg Prod.fst hj0
      have e2 : xh = 0 := congrArg Prod.snd hj0
      subst e1 e2
      clear hj0
      rcases Bool.eq_false_or_eq_true (okI (al, ah)) with ha | ha
      · have hb : okI (bl, bh) = false := by
          rcases Bool.eq_false_or_eq_true (okI (bl, bh)) with hb | hb
          · exact absurd ⟨ha, hb⟩ hab
          · exact hb
        have Oa := Lib.hid ha
        have Ob := Lib.hid hb
        clear ha hb hab
        all_goals go_wp2_with (first
      | (go_at_call 27; ((with_reducible refine (ok_s_at Oa.out _).mono ?_); rintro e w' ⟨rfl, hb⟩; obtain ⟨⟨dq, osq⟩, hq''⟩ := regrown_on (W0 := W0) (by first | exact below_regrown _ _ _ | exact Below.refl _ _ | go_grown) hb; subst hq''; clear hb))
      | (go_at_call 44; ((with_reducible refine (wide_s_at Hx.out _).mono ?_); rintro e w' ⟨rfl, hb⟩; obtain ⟨⟨dq, osq⟩, hq''⟩ := regrown_on (W0 := W0) (by first | exact below_regrown _ _ _ | exact Below.refl _ _ | go_grown) hb; subst hq''; clear hb))
      | (go_at_call 23; ((with_reducible refine (owOk_at  _).mono ?_); rintro e w' ⟨rfl, hb⟩; obtain ⟨⟨dq, osq⟩, hq''⟩ := regrown_on (W0 := W0) (by first | exact below_regrown _ _ _ | exact Below.refl _ _ | go_grown) hb; subst hq''; clear hb))
      | (go_at_call 27; ((with_reducible refine (ok_s_at Ob.out _).mono ?_); rintro e w' ⟨rfl, hb⟩; obtain ⟨⟨dq, osq⟩, hq''⟩ := regrown_on (W0 := W0) (by first | exact below_regrown _ _ _ | exact Below.refl _ _ | go_grown) hb; subst hq''; clear hb)))
        all_goals (try ((refine region_below (W0 := W0) mixed_ok (by kernel_rfl) (by first | exact below_regrown _ _ _ | exact Below.refl _ _ | go_grown) ?_); (repeat (go_big_quiet_step ((first | (go_at_call 27; with_reducible exact Calls.regrown_of (ok_s_at Oa.out _)) | (go_at_call 44; with_reducible exact Calls.regrown_of (wide_s_at Hx.out _)) | (go_at_call 23; with_reducible exact Calls.regrown_of (owOk_at  _)) | (go_at_call 27; with_reducible exact Calls.regrown_of (ok_s_at Ob.out _)))))); (refine wpQuiet_nil ?_); (intro _ hq'); (obtain ⟨⟨dq, osq⟩, hq''⟩ := hq'); (subst hq'')))
        all_goals go_wp2_with (first
      | (go_at_call 27; ((with_reducible refine (ok_s_at Oa.out _).mono ?_); rintro e w' ⟨rfl, hb⟩; obtain ⟨⟨dq, osq⟩, hq''⟩ := regrown_on (W0 := W0) (by first | exact below_regrown _ _ _ | exact Below.refl _ _ | go_grown) hb; subst hq''; clear hb))
      | (go_at_call 44; ((with_reducible refine (wide_s_at Hx.out _).mono ?_); rintro e w' ⟨rfl, hb⟩; obtain ⟨⟨dq, osq⟩, hq''⟩ := regrown_on (W0 := W0) (by first | exact below_regrown _ _ _ | exact Below.refl _ _ | go_grown) hb; subst hq''; clear hb))
      | (go_at_call 23; ((with_reducible refine (owOk_at  _).mono ?_); rintro e w' ⟨rfl, hb⟩; obtain ⟨⟨dq, osq⟩, hq''⟩ := regrown_on (W0 := W0) (by first | exact below_regrown _ _ _ | exact Below.refl _ _ | go_grown) hb; subst hq''; clear hb))
      | (go_at_call 27; ((with_reducible refine (ok_s_at Ob.out _).mono ?_); rintro e w' ⟨rfl, hb⟩; obtain ⟨⟨dq, osq⟩, hq''⟩ := regrown_on (W0 := W0) (by first | exact below_regrown _ _ _ | exact Below.refl _ _ | go_grown) hb; subst hq''; clear hb)))
        all_goals (go_ret; exact ⟨rfl, below_on hB0 (by first | exact below_regrown _ _ _ | exact Below.refl _ _ | go_grown)⟩)
      · have Oa := Lib.hid ha
        clear ha hab
        all_goals go_wp2_with (first
      | (go_at_call 27; ((with_reducible refine (ok_s_at Oa.out _).mono ?_); rintro e w' ⟨rfl, hb⟩; obtain ⟨⟨dq, osq⟩, hq''⟩ := regrown_on (W0 := W0) (by first | exact below_regrown _ _ _ | exact Below.refl _ _ | go_grown) hb; subst hq''; clear hb))
      | (go_at_call 44; ((with_reducible refine (wide_s_at Hx.out _).mono ?_); rintro e w' ⟨rfl, hb⟩; obtain ⟨⟨dq, osq⟩, hq''⟩ := regrown_on (W0 := W0) (by first | exact below_regrown _ _ _ | exact Below.refl _ _ | go_grown) hb; subst hq''; clear hb))
      | (go_at_call 23; ((with_reducible refine (owOk_at  _).mono ?_); rintro e w' ⟨rfl, hb⟩; obtain ⟨⟨dq, osq⟩, hq''⟩ := regrown_on (W0 := W0) (by first | exact below_regrown _ _ _ | exact Below.refl _ _ | go_grown) hb; subst hq''; clear hb)))
        all_goals (try ((refine region_below (W0 := W0) mixed_ok (by kernel_rfl) (by first | exact below_regrown _ _ _ | exact Below.refl _ _ | go_grown) ?_); (repeat (go_big_quiet_step ((first | (go_at_call 27; with_reducible exact Calls.regrown_of (ok_s_at Oa.out _)) | (go_at_call 44; with_reducible exact Calls.regrown_of (wide_s_at Hx.out _)) | (go_at_call 23; with_reducible exact Calls.regrown_of (owOk_at  _)))))); (refine wpQuiet_nil ?_); (intro _ hq'); (obtain ⟨⟨dq, osq⟩, hq''⟩ := hq'); (subst hq'')))
        all_goals go_wp2_with (first
      | (go_at_call 27; ((with_reducible refine (ok_s_at Oa.out _).mono ?_); rintro e w' ⟨rfl, hb⟩; obtain ⟨⟨dq, osq⟩, hq''⟩ := regrown_on (W0 := W0) (by first | exact below_regrown _ _ _ | exact Below.refl _ _ | go_grown) hb; subst hq''; clear hb))
      | (go_at_call 44; ((with_reducible refine (wide_s_at Hx.out _).mono ?_); rintro e w' ⟨rfl, hb⟩; obtain ⟨⟨dq, osq⟩, hq''⟩ := regrown_on (W0 := W0) (by first | exact below_regrown _ _ _ | exact Below.refl _ _ | go_grown) hb; subst hq''; clear hb))
      | (go_at_call 23; ((with_reducible refine (owOk_at  _).mono ?_); rintro e w' ⟨rfl, hb⟩; obtain ⟨⟨dq, osq⟩, hq''⟩ := regrown_on (W0 := W0) (by first | exact below_regrown _ _ _ | exact Below.refl _ _ | go_grown) hb; subst hq''; clear hb)))
        all_goals (go_ret; exact ⟨rfl, below_on hB0 (by first | exact below_regrown _ _ _ | exact Below.refl _ _ | go_grown)⟩)
/-! ### The row, off the walk -/
set_option maxRecDepth 100000 in
theorem lifted (os : Os) (started : os.Started) (H : Type) (enc : TypeId × Value → H) :
    ReturnsInHanded {} Try.checked os 10 .any (Rows.fnItvWideSpec.pre6 enc Try.prog Try.f10 Rows.fnItvWideRow.domain false) (Rows.fnItvWideSpec.post enc Try.prog Try.f10 false true false false) := by
  refine returnsInHanded_of_change (C := Try.checked) own started (by kernel_rfl) Try.func10
    (ChangeSpec.witness6 (enc := enc) (C := Try.checked) false ⟨#[], #[.slice none 0 0], []⟩ 8 (by kernel_rfl) (by kernel_rfl) (by kernel_rfl) (by kernel_rfl)) ?_
  intro W base args ds gs before hval0 hW hcnd _
  have hval : ∀ (j : Nat) t v, Try.f10.params[j]? = some t → args[j]? = some v → Value.okWide Try.prog W .any base t v := hval0
  have hW' := hW
  obtain ⟨p, q, hA0, hV, rfl, hfz, hnd⟩ := hW
  have hA : DataW.TrodAll enc Try.prog W 0 (fun _ => true) true Try.f10.params.toList args.toList ds p := hA0
  rw [Try.params10] at hA hval
  obtain ⟨v0, vs0, d0, ds0, p0, q0, hargs, rfl, rfl, h0, r0⟩ := trodAll_cons hA
  obtain ⟨rfl, rfl, rfl⟩ := trodAll_nil r0
  obtain rfl : args = #[v0] := by cases args; simp_all
  obtain ⟨rfl, rfl⟩ := trodVars_none hV
  have k0 := h0
  have lt0 : ∀ x ∈ p0, x.block < W.heap.size := by obtain ⟨m, hm⟩ := k0; exact DataW.trod_lt m _ _ _ hm
  obtain ⟨a0, len0, cap0, rfl⟩ := okWide_slice Try.underlying22 (hval 0 22 v0 rfl rfl)
  obtain ⟨z0, w0⟩ : ∃ zs, IsRow .u8 W a0 len0 cap0 zs := by
    obtain ⟨fuel, hf⟩ := h0
    rcases open_ints Try.underlying22 Try.underlying5 (by kernel_rfl) hf with ⟨hcs, _⟩ | ⟨x, l, c, zs, hcs, _, hl, hm, hz, _, hcell, hwz⟩
    · simp [Value.cells] at hcs
      obtain ⟨rfl, rfl, rfl⟩ := hcs
      exact ⟨[], .inl ⟨rfl, rfl, rfl, rfl⟩⟩
    · simp [Value.cells] at hcs
      obtain ⟨rfl, rfl, rfl⟩ := hcs
      exact ⟨zs, .inr ⟨_, rfl, hl, hm, by simpa using hz, hcell, hwz⟩⟩
  clear hA0 hval0
  refine (walk a0 len0 cap0 z0 W w0).mono fun e W' ⟨he, bel⟩ => ?_
  subst he
  exact ⟨_, rfl, _, _, _, [], _, [], hW', trodAll_mk1 (shut_bool Try.underlying4 _), (trodAll_cons_mk (Below.trod laidOut (by kernel_rfl) (of_decide_eq_true (by kernel_rfl)) k0 bel lt0) trodAll_mk0), rfl, bel.frame _, fun h => by cases h⟩

theorem over : Rows.fnItvWideRow.holds Try.pinned (OpenSpec.ofChange Rows.fnItvWideSpec) :=
  OpenClaim.holds_of_wide 10 Try.f10 rfl rfl rfl rfl rfl rfl rfl ⟨rfl, rfl, rfl, rfl, rfl⟩ rfl rfl rfl rfl rfl (by kernel_rfl) Try.func10 (by kernel_rfl)
    (of_decide_eq_true (by kernel_rfl)) (by unfold Func.isWrapper; rw [if_neg (of_decide_eq_false (by kernel_rfl))]; exact ⟨rfl, rfl⟩)
    (fun os started H enc _ => lifted os started H enc)

/-- The given statement. -/
theorem proved : Rows.FnItvWideSaid := over
#print axioms proved
end Go.Proofs.Ytbkfhlppcocamaa.fnItvWide
