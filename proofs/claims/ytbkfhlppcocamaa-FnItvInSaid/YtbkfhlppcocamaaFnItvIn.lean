/-
  FnItvIn: for every input the law returns true, and its arguments read as before. No conditions.
-/
import Derived.Test.YtbkfhlppcocamaaAt2
import Derived.Test.YtbkfhlppcocamaaLaws
import Derived.Test.YtbkfhlppcocamaaQuietB
namespace Go.Proofs.Ytbkfhlppcocamaa.fnItvIn
set_option linter.unusedSimpArgs false
set_option linter.unusedVariables false
open Go.ChangeShapes Go.WideShapes Go.ChangeAt Go.RowKit
open Go.ChangeMaps (open_string shut_string)
open Go.Sort

theorem cset {W : World} {p a : Addr} {u : Value} (hn : a.block ≠ p.block) : (W.setCell p u).cell? a = W.cell? a := World.cell?_of_block (w := W) (Below.heap_setCell W p u a.block hn)
theorem keep_under {W W' : World} {a : Addr} {v : Value} {o o' : Obj} (h : (W.alloc o).cell? a = some v) (hl : a.block < W.heap.size) (hs : W'.heap.size = W.heap.size) (k : W'.cell? a = W.cell? a) : (W'.alloc o').cell? a = some v := by
  rw [World.cell?_alloc_lt _ _ _ hl] at h
  rw [World.cell?_alloc_lt _ _ _ (by omega), k, h]
theorem below_under {w W W' : World} {o o' : Obj} (h : Below w.heap.size w (W.alloc o)) (hl : w.heap.size ≤ W.heap.size) (k : Below w.heap.size W W') : Below w.heap.size w (W'.alloc o') := by
  have k0 : Below w.heap.size w W := ⟨h.os, h.tape, h.output, hl, fun i hi => by rw [← Below.heap_alloc W o i (by omega)]; exact h.block i hi⟩
  exact (k0.trans k).alloc (by have := k.size; omega) o'

theorem keep_realloc2 {W : World} {a : Addr} {v : Value} {o o' o2 : Obj} (h : ((W.alloc o).alloc o2).cell? a = some v) (hl : a.block < W.heap.size) : ((W.alloc o').alloc o2).cell? a = some v := by
  rw [World.cell?_alloc_lt _ _ _ (by rw [World.size_alloc]; omega), World.cell?_alloc_lt _ _ _ hl] at h ⊢; exact h
theorem below_realloc2 {w W : World} {o o' o2 : Obj} (h : Below w.heap.size w ((W.alloc o).alloc o2)) (hl : w.heap.size ≤ W.heap.size) : Below w.heap.size w ((W.alloc o').alloc o2) :=
  ⟨h.os, h.tape, h.output, by simp; omega, fun k hk => by
    rw [Below.heap_alloc _ _ _ (by rw [World.size_alloc]; omega), Below.heap_alloc _ _ _ (by omega), ← Below.heap_alloc W o _ (by omega), ← Below.heap_alloc (W.alloc o) o2 _ (by rw [World.size_alloc]; omega)]; exact h.block k hk⟩
theorem owOk_at (w : World) : Calls Try.prog 23 #[] w fun e w' => e = .returned (.bool true) ∧ Below w.heap.size w w' := (owOk_l w).mono fun e w' h => ⟨h.1, by rw [h.2]; exact Below.refl _ _⟩

set_option maxRecDepth 100000 in
set_option maxHeartbeats 8000000 in
theorem walk (a0 : Option Addr) (len0 cap0 : Nat) (z0 : List Int) (a1 : Option Addr) (len1 cap1 : Nat) (z1 : List Int) (w : World) (w0 : IsRow .u8 w a0 len0 cap0 z0) (w1 : IsRow .u8 w a1 len1 cap1 z1) :
    Calls Try.prog 6 #[.slice a0 len0 cap0, .slice a1 len1 cap1] w fun e w' => e = .returned (.bool true) ∧ Below w.heap.size w w' := by
  go_enter Try.func6, Try.ntmps6
  go_wp2_with fail
  all_goals (try (go_ret; exact ⟨rfl, by go_grown⟩))
  refine (drawItvIn_s _ _ _ _ _ w0).mono ?_
  rintro e wA ⟨al, ah, bl, bh, rfl, _, _, _, _, hBa⟩
  have hsA := hBa.size
  go_wp2_with fail
  refine (drawItvIn_s _ _ _ _ _ (((w1.below hBa).alloc _).alloc _)).mono ?_
  rintro e wB ⟨cl, ch, dl, dh, rfl, _, _, _, _, hBb⟩
  have hsB := hBb.size
  have q0 := hBb.cell (p := ⟨wA.heap.size, 0, none⟩) (by simp only [World.size_alloc]; omega)
  have q1 := hBb.cell (p := ⟨wA.heap.size, 1, none⟩) (by simp only [World.size_alloc]; omega)
  have q2 := hBb.cell (p := ⟨wA.heap.size + 1, 0, none⟩) (by simp only [World.size_alloc]; omega)
  have q3 := hBb.cell (p := ⟨wA.heap.size + 1, 1, none⟩) (by simp only [World.size_alloc]; omega)
  simp [go_sem] at q0 q1 q2 q3
  have hBw : Below w.heap.size w wB := below_on ((hBa.alloc hsA _).alloc (by simp only [World.size_alloc]; omega) _) hBb
  have hzw := hBw.size
  simp only [World.size_alloc] at hsB
  have hzA : wA.heap.size < wB.heap.size := by omega
  have hzA1 : wA.heap.size + 1 < wB.heap.size := by omega
  clear hBa hBb hsA hsB
  obtain ⟨x, hx⟩ : ∃ x, x = inI (al, ah) (bl, bh) := ⟨_, rfl⟩
  obtain ⟨y, hy⟩ : ∃ y, y = inI (cl, ch) (dl, dh) := ⟨_, rfl⟩
  have Hx := Lib.hid hx.symm
  have Hy := Lib.hid hy.symm
  clear hx hy
  go_upto_region 5 with fail
  go_cut [9] (fun s9 wx => ∃ W, W = wx ∧ s9 = .bool x ∧ wx.cell? ⟨wA.heap.size, 0, none⟩ = some (.int .i64 al) ∧ wx.cell? ⟨wA.heap.size, 1, none⟩ = some (.int .i64 ah) ∧ wx.cell? ⟨wA.heap.size + 1, 0, none⟩ = some (.int .i64 bl) ∧ wx.cell? ⟨wA.heap.size + 1, 1, none⟩ = some (.int .i64 bh) ∧ wx.cell? ⟨wB.heap.size, 0, none⟩ = some (.int .i64 cl) ∧ wx.cell? ⟨wB.heap.size, 1, none⟩ = some (.int .i64 ch) ∧ wx.cell? ⟨wB.heap.size + 1, 0, none⟩ = some (.int .i64 dl) ∧ wx.cell? ⟨wB.heap.size + 1, 1, none⟩ = some (.int .i64 dh) ∧ Below w.heap.size w wx)
  case first =>
    go_wp2_with fail
    refine (in_at Hx.out _).mono ?_
    rintro e wC ⟨rfl, hBc⟩
    have r0 := hBc.cell (p := ⟨wA.heap.size, 0, none⟩) (by simp only [World.size_alloc]; omega)
    have r1 := hBc.cell (p := ⟨wA.heap.size, 1, none⟩) (by simp only [World.size_alloc]; omega)
    have r2 := hBc.cell (p := ⟨wA.heap.size + 1, 0, none⟩) (by simp only [World.size_alloc]; omega)
    have r3 := hBc.cell (p := ⟨wA.heap.size + 1, 1, none⟩) (by simp only [World.size_alloc]; omega)
    have r4 := hBc.cell (p := ⟨wB.heap.size, 0, none⟩) (by simp only [World.size_alloc]; omega)
    have r5 := hBc.cell (p := ⟨wB.heap.size, 1, none⟩) (by simp only [World.size_alloc]; omega)
    have r6 := hBc.cell (p := ⟨wB.heap.size + 1, 0, none⟩) (by simp only [World.size_alloc]; omega)
    have r7 := hBc.cell (p := ⟨wB.heap.size + 1, 1, none⟩) (by simp only [World.size_alloc]; omega)
    simp [go_sem, *] at r0 r1 r2 r3 r4 r5 r6 r7
    have hBx : Below w.heap.size w wC := below_on ((hBw.alloc hzw _).alloc (by simp only [World.size_alloc]; omega) _) hBc
    clear hBc
    go_wp2_with fail
    go_meet
    exact ⟨_, rfl, rfl, r0, r1, r2, r3, r4, r5, r6, r7, hBx⟩
  case rest =>
    clear q0 q1 q2 q3 hBw hzA hzA1 hzw
    obtain ⟨W0, rfl, rfl, c0, c1, c2, c3, c4, c5, c6, c7, hB0⟩ := hcut
    have hz0 := hB0.size
    have l0 := blk c0
    have l2 := blk c2
    have l4 := blk c4
    have l6 := blk c6
    have k0 := cell_regrown c0
    have k1 := cell_regrown c1
    have k2 := cell_regrown c2
    have k3 := cell_regrown c3
    have k4 := cell_regrown c4
    have k5 := cell_regrown c5
    have k6 := cell_regrown c6
    have k7 := cell_regrown c7
    by_cases hab : okI (al, ah) = true ∧ okI (bl, bh) = true
    · obtain ⟨ha, hb⟩ := hab
      have hh := in_has ha hb
      simp only at hh
      have Oa := Lib.hid ha
      have Ob := Lib.hid hb
      have Iaa := Lib.hid (in_self ha)
      have Iall := Lib.hid (in_all ha)
      obtain ⟨⟨jl, jh⟩, hj⟩ : ∃ j, j = joinI (bl, bh) (dl, dh) := ⟨_, rfl⟩
      have Hj := Lib.hid hj.symm
      rcases Bool.eq_false_or_eq_true (hasI (bl, bh) al) with u | u
      · rcases Bool.eq_false_or_eq_true (hasI (bl, bh) ah) with v | v
        · have hxt : inI (al, ah) (bl, bh) = true := by rw [hh, u, v]; rfl
          have ex : x = true := Hx.out.symm.trans hxt
          subst ex
          have U := Lib.hid u
          have V := Lib.hid v
          have hjn : okI (dl, dh) = true → inI (al, ah) (jl, jh) = true := fun hd => hj ▸ in_join hxt hd
          rcases Bool.eq_false_or_eq_true (okI (dl, dh)) with hd | hd
          · have Od := Lib.hid hd
            have Iaj := Lib.hid (hjn hd)
            rcases Bool.eq_false_or_eq_true (inI (bl, bh) (al, ah)) with z | z
            · have e := in_anti hxt z
              have e1 : al = bl := congrArg Prod.fst e
              have e2 : ah = bh := congrArg Prod.snd e
              have Z := Lib.hid z
              clear ha hb hh hj u v hxt hjn hd z e
              subst e1 e2
              all_goals go_wp2_with (first
      | (go_at_call 26; ((with_reducible refine (in_s_at Hx.out _).mono ?_); rintro e w' ⟨rfl, hb⟩; obtain ⟨⟨dq, osq⟩, hq''⟩ := regrown_on (W0 := W0) (by first | exact below_regrown _ _ _ | exact Below.refl _ _ | go_grown) hb; subst hq''; clear hb))
      | (go_at_call 25; ((with_reducible refine (in_at Hy.out _).mono ?_); rintro e w' ⟨rfl, hb⟩; obtain ⟨⟨dq, osq⟩, hq''⟩ := regrown_on (W0 := W0) (by first | exact below_regrown _ _ _ | exact Below.refl _ _ | go_grown) hb; subst hq''; clear hb))
      | (go_at_call 26; ((with_reducible refine (in_s_at Hy.out _).mono ?_); rintro e w' ⟨rfl, hb⟩; obtain ⟨⟨dq, osq⟩, hq''⟩ := regrown_on (W0 := W0) (by first | exact below_regrown _ _ _ | exact Below.refl _ _ | go_grown) hb; subst hq''; clear hb))
      | (go_at_call 27; ((with_reducible refine (ok_s_at Oa.out _).mono ?_); rintro e w' ⟨rfl, hb⟩; obtain ⟨⟨dq, osq⟩, hq''⟩ := regrown_on (W0 := W0) (by first | exact below_regrown _ _ _ | exact Below.refl _ _ | go_grown) hb; subst hq''; clear hb))
      | (go_at_call 23; ((with_reducible refine (owOk_at  _).mono ?_); rintro e w' ⟨rfl, hb⟩; obtain ⟨⟨dq, osq⟩, hq''⟩ := regrown_on (W0 := W0) (by first | exact below_regrown _ _ _ | exact Below.refl _ _ | go_grown) hb; subst hq''; clear hb))
      | (go_at_call 27; ((with_reducible refine (ok_s_at Ob.out _).mono ?_); rintro e w' ⟨rfl, hb⟩; obtain ⟨⟨dq, osq⟩, hq''⟩ := regrown_on (W0 := W0) (by first | exact below_regrown _ _ _ | exact Below.refl _ _ | go_grown) hb; subst hq''; clear hb))
      | (go_at_call 28; ((with_reducible refine (has_at U.out _).mono ?_); rintro e w' ⟨rfl, hb⟩; obtain ⟨⟨dq, osq⟩, hq''⟩ := regrown_on (W0 := W0) (by first | exact below_regrown _ _ _ | exact Below.refl _ _ | go_grown) hb; subst hq''; clear hb))
      | (go_at_call 25; ((with_reducible refine (in_at Iaa.out _).mono ?_); rintro e w' ⟨rfl, hb⟩; obtain ⟨⟨dq, osq⟩, hq''⟩ := regrown_on (W0 := W0) (by first | exact below_regrown _ _ _ | exact Below.refl _ _ | go_grown) hb; subst hq''; clear hb))
      | (go_at_call 29; ((with_reducible refine (itvAll_i  _).mono ?_); rintro e w' ⟨rfl, hb⟩; obtain ⟨⟨dq, osq⟩, hq''⟩ := regrown_on (W0 := W0) (by first | exact below_regrown _ _ _ | exact Below.refl _ _ | go_grown) hb; subst hq''; clear hb))
      | (go_at_call 25; ((with_reducible refine (in_at Iall.out _).mono ?_); rintro e w' ⟨rfl, hb⟩; obtain ⟨⟨dq, osq⟩, hq''⟩ := regrown_on (W0 := W0) (by first | exact below_regrown _ _ _ | exact Below.refl _ _ | go_grown) hb; subst hq''; clear hb))
      | (go_at_call 28; ((with_reducible refine (has_at V.out _).mono ?_); rintro e w' ⟨rfl, hb⟩; obtain ⟨⟨dq, osq⟩, hq''⟩ := regrown_on (W0 := W0) (by first | exact below_regrown _ _ _ | exact Below.refl _ _ | go_grown) hb; subst hq''; clear hb))
      | (go_at_call 25; ((with_reducible refine (in_at Z.out _).mono ?_); rintro e w' ⟨rfl, hb⟩; obtain ⟨⟨dq, osq⟩, hq''⟩ := regrown_on (W0 := W0) (by first | exact below_regrown _ _ _ | exact Below.refl _ _ | go_grown) hb; subst hq''; clear hb))
      | (go_at_call 27; ((with_reducible refine (ok_s_at Od.out _).mono ?_); rintro e w' ⟨rfl, hb⟩; obtain ⟨⟨dq, osq⟩, hq''⟩ := regrown_on (W0 := W0) (by first | exact below_regrown _ _ _ | exact Below.refl _ _ | go_grown) hb; subst hq''; clear hb))
      | (go_at_call 25; ((with_reducible refine (in_at Iaj.out _).mono ?_); rintro e w' ⟨rfl, hb⟩; obtain ⟨⟨dq, osq⟩, hq''⟩ := regrown_on (W0 := W0) (by first | exact below_regrown _ _ _ | exact Below.refl _ _ | go_grown) hb; subst hq''; clear hb)))
              all_goals (try ((refine region_below (W0 := W0) mixed_ok (by kernel_rfl) (by first | exact below_regrown _ _ _ | exact Below.refl _ _ | go_grown) ?_); (repeat (go_big_quiet_step ((first | (go_at_call 26; with_reducible exact Calls.regrown_of (in_s_at Hx.out _)) | (go_at_call 25; with_reducible exact Calls.regrown_of (in_at Hy.out _)) | (go_at_call 26; with_reducible exact Calls.regrown_of (in_s_at Hy.out _)) | (go_at_call 27; with_reducible exact Calls.regrown_of (ok_s_at Oa.out _)) | (go_at_call 23; with_reducible exact Calls.regrown_of (owOk_at  _)) | (go_at_call 27; with_reducible exact Calls.regrown_of (ok_s_at Ob.out _)) | (go_at_call 28; with_reducible exact Calls.regrown_of (has_at U.out _)) | (go_at_call 25; with_reducible exact Calls.regrown_of (in_at Iaa.out _)) | (go_at_call 29; with_reducible exact Calls.regrown_of (itvAll_i  _)) | (go_at_call 25; with_reducible exact Calls.regrown_of (in_at Iall.out _)) | (go_at_call 28; with_reducible exact Calls.regrown_of (has_at V.out _)) | (go_at_call 25; with_reducible exact Calls.regrown_of (in_at Z.out _)) | (go_at_call 27; with_reducible exact Calls.regrown_of (ok_s_at Od.out _)) | (go_at_call 25; with_reducible exact Calls.regrown_of (in_at Iaj.out _)))))); (refine wpQuiet_nil ?_); (intro _ hq'); (obtain ⟨⟨dq, osq⟩, hq''⟩ := hq'); (subst hq'')))
              all_goals go_wp2_with (first
      | (go_at_call 26; ((with_reducible refine (in_s_at Hx.out _).mono ?_); rintro e w' ⟨rfl, hb⟩; obtain ⟨⟨dq, osq⟩, hq''⟩ := regrown_on (W0 := W0) (by first | exact below_regrown _ _ _ | exact Below.refl _ _ | go_grown) hb; subst hq''; clear hb))
      | (go_at_call 25; ((with_reducible refine (in_at Hy.out _).mono ?_); rintro e w' ⟨rfl, hb⟩; obtain ⟨⟨dq, osq⟩, hq''⟩ := regrown_on (W0 := W0) (by first | exact below_regrown _ _ _ | exact Below.refl _ _ | go_grown) hb; subst hq''; clear hb))
      | (go_at_call 26; ((with_reducible refine (in_s_at Hy.out _).mono ?_); rintro e w' ⟨rfl, hb⟩; obtain ⟨⟨dq, osq⟩, hq''⟩ := regrown_on (W0 := W0) (by first | exact below_regrown _ _ _ | exact Below.refl _ _ | go_grown) hb; subst hq''; clear hb))
      | (go_at_call 27; ((with_reducible refine (ok_s_at Oa.out _).mono ?_); rintro e w' ⟨rfl, hb⟩; obtain ⟨⟨dq, osq⟩, hq''⟩ := regrown_on (W0 := W0) (by first | exact below_regrown _ _ _ | exact Below.refl _ _ | go_grown) hb; subst hq''; clear hb))
      | (go_at_call 23; ((with_reducible refine (owOk_at  _).mono ?_); rintro e w' ⟨rfl, hb⟩; obtain ⟨⟨dq, osq⟩, hq''⟩ := regrown_on (W0 := W0) (by first | exact below_regrown _ _ _ | exact Below.refl _ _ | go_grown) hb; subst hq''; clear hb))
      | (go_at_call 27; ((with_reducible refine (ok_s_at Ob.out _).mono ?_); rintro e w' ⟨rfl, hb⟩; obtain ⟨⟨dq, osq⟩, hq''⟩ := regrown_on (W0 := W0) (by first | exact below_regrown _ _ _ | exact Below.refl _ _ | go_grown) hb; subst hq''; clear hb))
      | (go_at_call 28; ((with_reducible refine (has_at U.out _).mono ?_); rintro e w' ⟨rfl, hb⟩; obtain ⟨⟨dq, osq⟩, hq''⟩ := regrown_on (W0 := W0) (by first | exact below_regrown _ _ _ | exact Below.refl _ _ | go_grown) hb; subst hq''; clear hb))
      | (go_at_call 25; ((with_reducible refine (in_at Iaa.out _).mono ?_); rintro e w' ⟨rfl, hb⟩; obtain ⟨⟨dq, osq⟩, hq''⟩ := regrown_on (W0 := W0) (by first | exact below_regrown _ _ _ | exact Below.refl _ _ | go_grown) hb; subst hq''; clear hb))
      | (go_at_call 29; ((with_reducible refine (itvAll_i  _).mono ?_); rintro e w' ⟨rfl, hb⟩; obtain ⟨⟨dq, osq⟩, hq''⟩ := regrown_on (W0 := W0) (by first | exact below_regrown _ _ _ | exact Below.refl _ _ | go_grown) hb; subst hq''; clear hb))
      | (go_at_call 25; ((with_reducible refine (in_at Iall.out _).mono ?_); rintro e w' ⟨rfl, hb⟩; obtain ⟨⟨dq, osq⟩, hq''⟩ := regrown_on (W0 := W0) (by first | exact below_regrown _ _ _ | exact Below.refl _ _ | go_grown) hb; subst hq''; clear hb))
      | (go_at_call 28; ((with_reducible refine (has_at V.out _).mono ?_); rintro e w' ⟨rfl, hb⟩; obtain ⟨⟨dq, osq⟩, hq''⟩ := regrown_on (W0 := W0) (by first | exact below_regrown _ _ _ | exact Below.refl _ _ | go_grown) hb; subst hq''; clear hb))
      | (go_at_call 25; ((with_reducible refine (in_at Z.out _).mono ?_); rintro e w' ⟨rfl, hb⟩; obtain ⟨⟨dq, osq⟩, hq''⟩ := regrown_on (W0 := W0) (by first | exact below_regrown _ _ _ | exact Below.refl _ _ | go_grown) hb; subst hq''; clear hb))
      | (go_at_call 27; ((with_reducible refine (ok_s_at Od.out _).mono ?_); rintro e w' ⟨rfl, hb⟩; obtain ⟨⟨dq, osq⟩, hq''⟩ := regrown_on (W0 := W0) (by first | exact below_regrown _ _ _ | exact Below.refl _ _ | go_grown) hb; subst hq''; clear hb))
      | (go_at_call 25; ((with_reducible refine (in_at Iaj.out _).mono ?_); rintro e w' ⟨rfl, hb⟩; obtain ⟨⟨dq, osq⟩, hq''⟩ := regrown_on (W0 := W0) (by first | exact below_regrown _ _ _ | exact Below.refl _ _ | go_grown) hb; subst hq''; clear hb)))
              all_goals (try ((refine region_below (W0 := W0) mixed_ok (by kernel_rfl) (by first | exact below_regrown _ _ _ | exact Below.refl _ _ | go_grown) ?_); (repeat (go_big_quiet_step ((first | (go_at_call 26; with_reducible exact Calls.regrown_of (in_s_at Hx.out _)) | (go_at_call 25; with_reducible exact Calls.regrown_of (in_at Hy.out _)) | (go_at_call 26; with_reducible exact Calls.regrown_of (in_s_at Hy.out _)) | (go_at_call 27; with_reducible exact Calls.regrown_of (ok_s_at Oa.out _)) | (go_at_call 23; with_reducible exact Calls.regrown_of (owOk_at  _)) | (go_at_call 27; with_reducible exact Calls.regrown_of (ok_s_at Ob.out _)) | (go_at_call 28; with_reducible exact Calls.regrown_of (has_at U.out _)) | (go_at_call 25; with_reducible exact Calls.regrown_of (in_at Iaa.out _)) | (go_at_call 29; with_reducible exact Calls.regrown_of (itvAll_i  _)) | (go_at_call 25; with_reducible exact Calls.regrown_of (in_at Iall.out _)) | (go_at_call 28; with_reducible exact Calls.regrown_of (has_at V.out _)) | (go_at_call 25; with_reducible exact Calls.regrown_of (in_at Z.out _)) | (go_at_call 27; with_reducible exact Calls.regrown_of (ok_s_at Od.out _)) | (go_at_call 25; with_reducible exact Calls.regrown_of (in_at Iaj.out _)))))); (refine wpQuiet_nil ?_); (intro _ hq'); (obtain ⟨⟨dq, osq⟩, hq''⟩ := hq'); (subst hq'')))
              all_goals go_wp2_with (first
      | (go_at_call 26; ((with_reducible refine (in_s_at Hx.out _).mono ?_); rintro e w' ⟨rfl, hb⟩; obtain ⟨⟨dq, osq⟩, hq''⟩ := regrown_on (W0 := W0) (by first | exact below_regrown _ _ _ | exact Below.refl _ _ | go_grown) hb; subst hq''; clear hb))
      | (go_at_call 25; ((with_reducible refine (in_at Hy.out _).mono ?_); rintro e w' ⟨rfl, hb⟩; obtain ⟨⟨dq, osq⟩, hq''⟩ := regrown_on (W0 := W0) (by first | exact below_regrown _ _ _ | exact Below.refl _ _ | go_grown) hb; subst hq''; clear hb))
      | (go_at_call 26; ((with_reducible refine (in_s_at Hy.out _).mono ?_); rintro e w' ⟨rfl, hb⟩; obtain ⟨⟨dq, osq⟩, hq''⟩ := regrown_on (W0 := W0) (by first | exact below_regrown _ _ _ | exact Below.refl _ _ | go_grown) hb; subst hq''; clear hb))
      | (go_at_call 27; ((with_reducible refine (ok_s_at Oa.out _).mono ?_); rintro e w' ⟨rfl, hb⟩; obtain ⟨⟨dq, osq⟩, hq''⟩ := regrown_on (W0 := W0) (by first | exact below_regrown _ _ _ | exact Below.refl _ _ | go_grown) hb; subst hq''; clear hb))
      | (go_at_call 23; ((with_reducible refine (owOk_at  _).mono ?_); rintro e w' ⟨rfl, hb⟩; obtain ⟨⟨dq, osq⟩, hq''⟩ := regrown_on (W0 := W0) (by first | exact below_regrown _ _ _ | exact Below.refl _ _ | go_grown) hb; subst hq''; clear hb))
      | (go_at_call 27; ((with_reducible refine (ok_s_at Ob.out _).mono ?_); rintro e w' ⟨rfl, hb⟩; obtain ⟨⟨dq, osq⟩, hq''⟩ := regrown_on (W0 := W0) (by first | exact below_regrown _ _ _ | exact Below.refl _ _ | go_grown) hb; subst hq''; clear hb))
      | (go_at_call 28; ((with_reducible refine (has_at U.out _).mono ?_); rintro e w' ⟨rfl, hb⟩; obtain ⟨⟨dq, osq⟩, hq''⟩ := regrown_on (W0 := W0) (by first | exact below_regrown _ _ _ | exact Below.refl _ _ | go_grown) hb; subst hq''; clear hb))
      | (go_at_call 25; ((with_reducible refine (in_at Iaa.out _).mono ?_); rintro e w' ⟨rfl, hb⟩; obtain ⟨⟨dq, osq⟩, hq''⟩ := regrown_on (W0 := W0) (by first | exact below_regrown _ _ _ | exact Below.refl _ _ | go_grown) hb; subst hq''; clear hb))
      | (go_at_call 29; ((with_reducible refine (itvAll_i  _).mono ?_); rintro e w' ⟨rfl, hb⟩; obtain ⟨⟨dq, osq⟩, hq''⟩ := regrown_on (W0 := W0) (by first | exact below_regrown _ _ _ | exact Below.refl _ _ | go_grown) hb; subst hq''; clear hb))
      | (go_at_call 25; ((with_reducible refine (in_at Iall.out _).mono ?_); rintro e w' ⟨rfl, hb⟩; obtain ⟨⟨dq, osq⟩, hq''⟩ := regrown_on (W0 := W0) (by first | exact below_regrown _ _ _ | exact Below.refl _ _ | go_grown) hb; subst hq''; clear hb))
      | (go_at_call 28; ((with_reducible refine (has_at V.out _).mono ?_); rintro e w' ⟨rfl, hb⟩; obtain ⟨⟨dq, osq⟩, hq''⟩ := regrown_on (W0 := W0) (by first | exact below_regrown _ _ _ | exact Below.refl _ _ | go_grown) hb; subst hq''; clear hb))
      | (go_at_call 25; ((with_reducible refine (in_at Z.out _).mono ?_); rintro e w' ⟨rfl, hb⟩; obtain ⟨⟨dq, osq⟩, hq''⟩ := regrown_on (W0 := W0) (by first | exact below_regrown _ _ _ | exact Below.refl _ _ | go_grown) hb; subst hq''; clear hb))
      | (go_at_call 27; ((with_reducible refine (ok_s_at Od.out _).mono ?_); rintro e w' ⟨rfl, hb⟩; obtain ⟨⟨dq, osq⟩, hq''⟩ := regrown_on (W0 := W0) (by first | exact below_regrown _ _ _ | exact Below.refl _ _ | go_grown) hb; subst hq''; clear hb))
      | (go_at_call 25; ((with_reducible refine (in_at Iaj.out _).mono ?_); rintro e w' ⟨rfl, hb⟩; obtain ⟨⟨dq, osq⟩, hq''⟩ := regrown_on (W0 := W0) (by first | exact below_regrown _ _ _ | exact Below.refl _ _ | go_grown) hb; subst hq''; clear hb)))
              all_goals (refine (join_at Hj.out _).mono ?_)
              all_goals rintro e wJ ⟨rfl, hbJ⟩
              all_goals have hBJ : Below W0.heap.size W0 wJ := below_on (by first | exact below_regrown _ _ _ | exact Below.refl _ _ | go_grown) hbJ
              all_goals clear hbJ
              all_goals have d0 := keep_alloc (.cells #[.int .i64 jl, .int .i64 jh] 34) ((hBJ.cell (p := ⟨wA.heap.size, 0, none⟩) (blk c0)).trans c0)
              all_goals have d1 := keep_alloc (.cells #[.int .i64 jl, .int .i64 jh] 34) ((hBJ.cell (p := ⟨wA.heap.size, 1, none⟩) (blk c1)).trans c1)
              all_goals have d2 := keep_alloc (.cells #[.int .i64 jl, .int .i64 jh] 34) ((hBJ.cell (p := ⟨wA.heap.size + 1, 0, none⟩) (blk c2)).trans c2)
              all_goals have d3 := keep_alloc (.cells #[.int .i64 jl, .int .i64 jh] 34) ((hBJ.cell (p := ⟨wA.heap.size + 1, 1, none⟩) (blk c3)).trans c3)
              all_goals have d4 := keep_alloc (.cells #[.int .i64 jl, .int .i64 jh] 34) ((hBJ.cell (p := ⟨wB.heap.size, 0, none⟩) (blk c4)).trans c4)
              all_goals have d5 := keep_alloc (.cells #[.int .i64 jl, .int .i64 jh] 34) ((hBJ.cell (p := ⟨wB.heap.size, 1, none⟩) (blk c5)).trans c5)
              all_goals have d6 := keep_alloc (.cells #[.int .i64 jl, .int .i64 jh] 34) ((hBJ.cell (p := ⟨wB.heap.size + 1, 0, none⟩) (blk c6)).trans c6)
              all_goals have d7 := keep_alloc (.cells #[.int .i64 jl, .int .i64 jh] 34) ((hBJ.cell (p := ⟨wB.heap.size + 1, 1, none⟩) (blk c7)).trans c7)
              all_goals have e0 : (wJ.alloc (.cells #[.int .i64 jl, .int .i64 jh] 34)).cell? ⟨wJ.heap.size, 0, none⟩ = some (.int .i64 jl) := by simp [go_sem]
              all_goals have e1 : (wJ.alloc (.cells #[.int .i64 jl, .int .i64 jh] 34)).cell? ⟨wJ.heap.size, 1, none⟩ = some (.int .i64 jh) := by simp [go_sem]
              all_goals have hB1 := hBJ.alloc hBJ.size (.cells #[.int .i64 jl, .int .i64 jh] 34)
              all_goals clear hBJ
              all_goals go_wp2_with fail
              all_goals generalize wJ.alloc (.cells #[.int .i64 jl, .int .i64 jh] 34) = W1 at *
              all_goals have kd0 := cell_regrown d0
              all_goals have kd1 := cell_regrown d1
              all_goals have kd2 := cell_regrown d2
              all_goals have kd3 := cell_regrown d3
              all_goals have kd4 := cell_regrown d4
              all_goals have kd5 := cell_regrown d5
              all_goals have kd6 := cell_regrown d6
              all_goals have kd7 := cell_regrown d7
              all_goals have ke0 := cell_regrown e0
              all_goals have ke1 := cell_regrown e1
              all_goals go_wp2_with (first
      | (go_at_call 27; ((with_reducible refine (ok_s_at Od.out _).mono ?_); rintro e w' ⟨rfl, hb⟩; obtain ⟨⟨dq, osq⟩, hq''⟩ := regrown_on (W0 := W1) (by first | exact below_regrown _ _ _ | exact Below.refl _ _ | go_grown) hb; subst hq''; clear hb))
      | (go_at_call 25; ((with_reducible refine (in_at Iaj.out _).mono ?_); rintro e w' ⟨rfl, hb⟩; obtain ⟨⟨dq, osq⟩, hq''⟩ := regrown_on (W0 := W1) (by first | exact below_regrown _ _ _ | exact Below.refl _ _ | go_grown) hb; subst hq''; clear hb)))
              all_goals (go_ret; exact ⟨rfl, below_on hB0 (below_on hB1 (by first | exact below_regrown _ _ _ | exact Below.refl _ _ | go_grown))⟩)

            · have Z := Lib.hid z
              clear ha hb hh hj u v hxt hjn hd z
              all_goals go_wp2_with (first
      | (go_at_call 26; ((with_reducible refine (in_s_at Hx.out _).mono ?_); rintro e w' ⟨rfl, hb⟩; obtain ⟨⟨dq, osq⟩, hq''⟩ := regrown_on (W0 := W0) (by first | exact below_regrown _ _ _ | exact Below.refl _ _ | go_grown) hb; subst hq''; clear hb))
      | (go_at_call 25; ((with_reducible refine (in_at Hy.out _).mono ?_); rintro e w' ⟨rfl, hb⟩; obtain ⟨⟨dq, osq⟩, hq''⟩ := regrown_on (W0 := W0) (by first | exact below_regrown _ _ _ | exact Below.refl _ _ | go_grown) hb; subst hq''; clear hb))
      | (go_at_call 26; ((with_reducible refine (in_s_at Hy.out _).mono ?_); rintro e w' ⟨rfl, hb⟩; obtain ⟨⟨dq, osq⟩, hq''⟩ := regrown_on (W0 := W0) (by first | exact below_regrown _ _ _ | exact Below.refl _ _ | go_grown) hb; subst hq''; clear hb))
      | (go_at_call 27; ((with_reducible refine (ok_s_at Oa.out _).mono ?_); rintro e w' ⟨rfl, hb⟩; obtain ⟨⟨dq, osq⟩, hq''⟩ := regrown_on (W0 := W0) (by first | exact below_regrown _ _ _ | exact Below.refl _ _ | go_grown) hb; subst hq''; clear hb))
      | (go_at_call 23; ((with_reducible refine (owOk_at  _).mono ?_); rintro e w' ⟨rfl, hb⟩; obtain ⟨⟨dq, osq⟩, hq''⟩ := regrown_on (W0 := W0) (by first | exact below_regrown _ _ _ | exact Below.refl _ _ | go_grown) hb; subst hq''; clear hb))
      | (go_at_call 27; ((with_reducible refine (ok_s_at Ob.out _).mono ?_); rintro e w' ⟨rfl, hb⟩; obtain ⟨⟨dq, osq⟩, hq''⟩ := regrown_on (W0 := W0) (by first | exact below_regrown _ _ _ | exact Below.refl _ _ | go_grown) hb; subst hq''; clear hb))
      | (go_at_call 28; ((with_reducible refine (has_at U.out _).mono ?_); rintro e w' ⟨rfl, hb⟩; obtain ⟨⟨dq, osq⟩, hq''⟩ := regrown_on (W0 := W0) (by first | exact below_regrown _ _ _ | exact Below.refl _ _ | go_grown) hb; subst hq''; clear hb))
      | (go_at_call 25; ((with_reducible refine (in_at Iaa.out _).mono ?_); rintro e w' ⟨rfl, hb⟩; obtain ⟨⟨dq, osq⟩, hq''⟩ := regrown_on (W0 := W0) (by first | exact below_regrown _ _ _ | exact Below.refl _ _ | go_grown) hb; subst hq''; clear hb))
      | (go_at_call 29; ((with_reducible refine (itvAll_i  _).mono ?_); rintro e w' ⟨rfl, hb⟩; obtain ⟨⟨dq, osq⟩, hq''⟩ := regrown_on (W0 := W0) (by first | exact below_regrown _ _ _ | exact Below.refl _ _ | go_grown) hb; subst hq''; clear hb))
      | (go_at_call 25; ((with_reducible refine (in_at Iall.out _).mono ?_); rintro e w' ⟨rfl, hb⟩; obtain ⟨⟨dq, osq⟩, hq''⟩ := regrown_on (W0 := W0) (by first | exact below_regrown _ _ _ | exact Below.refl _ _ | go_grown) hb; subst hq''; clear hb))
      | (go_at_call 28; ((with_reducible refine (has_at V.out _).mono ?_); rintro e w' ⟨rfl, hb⟩; obtain ⟨⟨dq, osq⟩, hq''⟩ := regrown_on (W0 := W0) (by first | exact below_regrown _ _ _ | exact Below.refl _ _ | go_grown) hb; subst hq''; clear hb))
      | (go_at_call 25; ((with_reducible refine (in_at Z.out _).mono ?_); rintro e w' ⟨rfl, hb⟩; obtain ⟨⟨dq, osq⟩, hq''⟩ := regrown_on (W0 := W0) (by first | exact below_regrown _ _ _ | exact Below.refl _ _ | go_grown) hb; subst hq''; clear hb))
      | (go_at_call 27; ((with_reducible refine (ok_s_at Od.out _).mono ?_); rintro e w' ⟨rfl, hb⟩; obtain ⟨⟨dq, osq⟩, hq''⟩ := regrown_on (W0 := W0) (by first | exact below_regrown _ _ _ | exact Below.refl _ _ | go_grown) hb; subst hq''; clear hb))
      | (go_at_call 25; ((with_reducible refine (in_at Iaj.out _).mono ?_); rintro e w' ⟨rfl, hb⟩; obtain ⟨⟨dq, osq⟩, hq''⟩ := regrown_on (W0 := W0) (by first | exact below_regrown _ _ _ | exact Below.refl _ _ | go_grown) hb; subst hq''; clear hb)))
              all_goals (try ((refine region_below (W0 := W0) mixed_ok (by kernel_rfl) (by first | exact below_regrown _ _ _ | exact Below.refl _ _ | go_grown) ?_); (repeat (go_big_quiet_step ((first | (go_at_call 26; with_reducible exact Calls.regrown_of (in_s_at Hx.out _)) | (go_at_call 25; with_reducible exact Calls.regrown_of (in_at Hy.out _)) | (go_at_call 26; with_reducible exact Calls.regrown_of (in_s_at Hy.out _)) | (go_at_call 27; with_reducible exact Calls.regrown_of (ok_s_at Oa.out _)) | (go_at_call 23; with_reducible exact Calls.regrown_of (owOk_at  _)) | (go_at_call 27; with_reducible exact Calls.regrown_of (ok_s_at Ob.out _)) | (go_at_call 28; with_reducible exact Calls.regrown_of (has_at U.out _)) | (go_at_call 25; with_reducible exact Calls.regrown_of (in_at Iaa.out _)) | (go_at_call 29; with_reducible exact Calls.regrown_of (itvAll_i  _)) | (go_at_call 25; with_reducible exact Calls.regrown_of (in_at Iall.out _)) | (go_at_call 28; with_reducible exact Calls.regrown_of (has_at V.out _)) | (go_at_call 25; with_reducible exact Calls.regrown_of (in_at Z.out _)) | (go_at_call 27; with_reducible exact Calls.regrown_of (ok_s_at Od.out _)) | (go_at_call 25; with_reducible exact Calls.regrown_of (in_at Iaj.out _)))))); (refine wpQuiet_nil ?_); (intro _ hq'); (obtain ⟨⟨dq, osq⟩, hq''⟩ := hq'); (subst hq'')))
              all_goals go_wp2_with (first
      | (go_at_call 26; ((with_reducible refine (in_s_at Hx.out _).mono ?_); rintro e w' ⟨rfl, hb⟩; obtain ⟨⟨dq, osq⟩, hq''⟩ := regrown_on (W0 := W0) (by first | exact below_regrown _ _ _ | exact Below.refl _ _ | go_grown) hb; subst hq''; clear hb))
      | (go_at_call 25; ((with_reducible refine (in_at Hy.out _).mono ?_); rintro e w' ⟨rfl, hb⟩; obtain ⟨⟨dq, osq⟩, hq''⟩ := regrown_on (W0 := W0) (by first | exact below_regrown _ _ _ | exact Below.refl _ _ | go_grown) hb; subst hq''; clear hb))
      | (go_at_call 26; ((with_reducible refine (in_s_at Hy.out _).mono ?_); rintro e w' ⟨rfl, hb⟩; obtain ⟨⟨dq, osq⟩, hq''⟩ := regrown_on (W0 := W0) (by first | exact below_regrown _ _ _ | exact Below.refl _ _ | go_grown) hb; subst hq''; clear hb))
      | (go_at_call 27; ((with_reducible refine (ok_s_at Oa.out _).mono ?_); rintro e w' ⟨rfl, hb⟩; obtain ⟨⟨dq, osq⟩, hq''⟩ := regrown_on (W0 := W0) (by first | exact below_regrown _ _ _ | exact Below.refl _ _ | go_grown) hb; subst hq''; clear hb))
      | (go_at_call 23; ((with_reducible refine (owOk_at  _).mono ?_); rintro e w' ⟨rfl, hb⟩; obtain ⟨⟨dq, osq⟩, hq''⟩ := regrown_on (W0 := W0) (by first | exact below_regrown _ _ _ | exact Below.refl _ _ | go_grown) hb; subst hq''; clear hb))
      | (go_at_call 27; ((with_reducible refine (ok_s_at Ob.out _).mono ?_); rintro e w' ⟨rfl, hb⟩; obtain ⟨⟨dq, osq⟩, hq''⟩ := regrown_on (W0 := W0) (by first | exact below_regrown _ _ _ | exact Below.refl _ _ | go_grown) hb; subst hq''; clear hb))
      | (go_at_call 28; ((with_reducible refine (has_at U.out _).mono ?_); rintro e w' ⟨rfl, hb⟩; obtain ⟨⟨dq, osq⟩, hq''⟩ := regrown_on (W0 := W0) (by first | exact below_regrown _ _ _ | exact Below.refl _ _ | go_grown) hb; subst hq''; clear hb))
      | (go_at_call 25; ((with_reducible refine (in_at Iaa.out _).mono ?_); rintro e w' ⟨rfl, hb⟩; obtain ⟨⟨dq, osq⟩, hq''⟩ := regrown_on (W0 := W0) (by first | exact below_regrown _ _ _ | exact Below.refl _ _ | go_grown) hb; subst hq''; clear hb))
      | (go_at_call 29; ((with_reducible refine (itvAll_i  _).mono ?_); rintro e w' ⟨rfl, hb⟩; obtain ⟨⟨dq, osq⟩, hq''⟩ := regrown_on (W0 := W0) (by first | exact below_regrown _ _ _ | exact Below.refl _ _ | go_grown) hb; subst hq''; clear hb))
      | (go_at_call 25; ((with_reducible refine (in_at Iall.out _).mono ?_); rintro e w' ⟨rfl, hb⟩; obtain ⟨⟨dq, osq⟩, hq''⟩ := regrown_on (W0 := W0) (by first | exact below_regrown _ _ _ | exact Below.refl _ _ | go_grown) hb; subst hq''; clear hb))
      | (go_at_call 28; ((with_reducible refine (has_at V.out _).mono ?_); rintro e w' ⟨rfl, hb⟩; obtain ⟨⟨dq, osq⟩, hq''⟩ := regrown_on (W0 := W0) (by first | exact below_regrown _ _ _ | exact Below.refl _ _ | go_grown) hb; subst hq''; clear hb))
      | (go_at_call 25; ((with_reducible refine (in_at Z.out _).mono ?_); rintro e w' ⟨rfl, hb⟩; obtain ⟨⟨dq, osq⟩, hq''⟩ := regrown_on (W0 := W0) (by first | exact below_regrown _ _ _ | exact Below.refl _ _ | go_grown) hb; subst hq''; clear hb))
      | (go_at_call 27; ((with_reducible refine (ok_s_at Od.out _).mono ?_); rintro e w' ⟨rfl, hb⟩; obtain ⟨⟨dq, osq⟩, hq''⟩ := regrown_on (W0 := W0) (by first | exact below_regrown _ _ _ | exact Below.refl _ _ | go_grown) hb; subst hq''; clear hb))
      | (go_at_call 25; ((with_reducible refine (in_at Iaj.out _).mono ?_); rintro e w' ⟨rfl, hb⟩; obtain ⟨⟨dq, osq⟩, hq''⟩ := regrown_on (W0 := W0) (by first | exact below_regrown _ _ _ | exact Below.refl _ _ | go_grown) hb; subst hq''; clear hb)))
              all_goals (try ((refine region_below (W0 := W0) mixed_ok (by kernel_rfl) (by first | exact below_regrown _ _ _ | exact Below.refl _ _ | go_grown) ?_); (repeat (go_big_quiet_step ((first | (go_at_call 26; with_reducible exact Calls.regrown_of (in_s_at Hx.out _)) | (go_at_call 25; with_reducible exact Calls.regrown_of (in_at Hy.out _)) | (go_at_call 26; with_reducible exact Calls.regrown_of (in_s_at Hy.out _)) | (go_at_call 27; with_reducible exact Calls.regrown_of (ok_s_at Oa.out _)) | (go_at_call 23; with_reducible exact Calls.regrown_of (owOk_at  _)) | (go_at_call 27; with_reducible exact Calls.regrown_of (ok_s_at Ob.out _)) | (go_at_call 28; with_reducible exact Calls.regrown_of (has_at U.out _)) | (go_at_call 25; with_reducible exact Calls.regrown_of (in_at Iaa.out _)) | (go_at_call 29; with_reducible exact Calls.regrown_of (itvAll_i  _)) | (go_at_call 25; with_reducible exact Calls.regrown_of (in_at Iall.out _)) | (go_at_call 28; with_reducible exact Calls.regrown_of (has_at V.out _)) | (go_at_call 25; with_reducible exact Calls.regrown_of (in_at Z.out _)) | (go_at_call 27; with_reducible exact Calls.regrown_of (ok_s_at Od.out _)) | (go_at_call 25; with_reducible exact Calls.regrown_of (in_at Iaj.out _)))))); (refine wpQuiet_nil ?_); (intro _ hq'); (obtain ⟨⟨dq, osq⟩, hq''⟩ := hq'); (subst hq'')))
              all_goals go_wp2_with (first
      | (go_at_call 26; ((with_reducible refine (in_s_at Hx.out _).mono ?_); rintro e w' ⟨rfl, hb⟩; obtain ⟨⟨dq, osq⟩, hq''⟩ := regrown_on (W0 := W0) (by first | exact below_regrown _ _ _ | exact Below.refl _ _ | go_grown) hb; subst hq''; clear hb))
      | (go_at_call 25; ((with_reducible refine (in_at Hy.out _).mono ?_); rintro e w' ⟨rfl, hb⟩; obtain ⟨⟨dq, osq⟩, hq''⟩ := regrown_on (W0 := W0) (by first | exact below_regrown _ _ _ | exact Below.refl _ _ | go_grown) hb; subst hq''; clear hb))
      | (go_at_call 26; ((with_reducible refine (in_s_at Hy.out _).mono ?_); rintro e w' ⟨rfl, hb⟩; obtain ⟨⟨dq, osq⟩, hq''⟩ := regrown_on (W0 := W0) (by first | exact below_regrown _ _ _ | exact Below.refl _ _ | go_grown) hb; subst hq''; clear hb))
      | (go_at_call 27; ((with_reducible refine (ok_s_at Oa.out _).mono ?_); rintro e w' ⟨rfl, hb⟩; obtain ⟨⟨dq, osq⟩, hq''⟩ := regrown_on (W0 := W0) (by first | exact below_regrown _ _ _ | exact Below.refl _ _ | go_grown) hb; subst hq''; clear hb))
      | (go_at_call 23; ((with_reducible refine (owOk_at  _).mono ?_); rintro e w' ⟨rfl, hb⟩; obtain ⟨⟨dq, osq⟩, hq''⟩ := regrown_on (W0 := W0) (by first | exact below_regrown _ _ _ | exact Below.refl _ _ | go_grown) hb; subst hq''; clear hb))
      | (go_at_call 27; ((with_reducible refine (ok_s_at Ob.out _).mono ?_); rintro e w' ⟨rfl, hb⟩; obtain ⟨⟨dq, osq⟩, hq''⟩ := regrown_on (W0 := W0) (by first | exact below_regrown _ _ _ | exact Below.refl _ _ | go_grown) hb; subst hq''; clear hb))
      | (go_at_call 28; ((with_reducible refine (has_at U.out _).mono ?_); rintro e w' ⟨rfl, hb⟩; obtain ⟨⟨dq, osq⟩, hq''⟩ := regrown_on (W0 := W0) (by first | exact below_regrown _ _ _ | exact Below.refl _ _ | go_grown) hb; subst hq''; clear hb))
      | (go_at_call 25; ((with_reducible refine (in_at Iaa.out _).mono ?_); rintro e w' ⟨rfl, hb⟩; obtain ⟨⟨dq, osq⟩, hq''⟩ := regrown_on (W0 := W0) (by first | exact below_regrown _ _ _ | exact Below.refl _ _ | go_grown) hb; subst hq''; clear hb))
      | (go_at_call 29; ((with_reducible refine (itvAll_i  _).mono ?_); rintro e w' ⟨rfl, hb⟩; obtain ⟨⟨dq, osq⟩, hq''⟩ := regrown_on (W0 := W0) (by first | exact below_regrown _ _ _ | exact Below.refl _ _ | go_grown) hb; subst hq''; clear hb))
      | (go_at_call 25; ((with_reducible refine (in_at Iall.out _).mono ?_); rintro e w' ⟨rfl, hb⟩; obtain ⟨⟨dq, osq⟩, hq''⟩ := regrown_on (W0 := W0) (by first | exact below_regrown _ _ _ | exact Below.refl _ _ | go_grown) hb; subst hq''; clear hb))
      | (go_at_call 28; ((with_reducible refine (has_at V.out _).mono ?_); rintro e w' ⟨rfl, hb⟩; obtain ⟨⟨dq, osq⟩, hq''⟩ := regrown_on (W0 := W0) (by first | exact below_regrown _ _ _ | exact Below.refl _ _ | go_grown) hb; subst hq''; clear hb))
      | (go_at_call 25; ((with_reducible refine (in_at Z.out _).mono ?_); rintro e w' ⟨rfl, hb⟩; obtain ⟨⟨dq, osq⟩, hq''⟩ := regrown_on (W0 := W0) (by first | exact below_regrown _ _ _ | exact Below.refl _ _ | go_grown) hb; subst hq''; clear hb))
      | (go_at_call 27; ((with_reducible refine (ok_s_at Od.out _).mono ?_); rintro e w' ⟨rfl, hb⟩; obtain ⟨⟨dq, osq⟩, hq''⟩ := regrown_on (W0 := W0) (by first | exact below_regrown _ _ _ | exact Below.refl _ _ | go_grown) hb; subst hq''; clear hb))
      | (go_at_call 25; ((with_reducible refine (in_at Iaj.out _).mono ?_); rintro e w' ⟨rfl, hb⟩; obtain ⟨⟨dq, osq⟩, hq''⟩ := regrown_on (W0 := W0) (by first | exact below_regrown _ _ _ | exact Below.refl _ _ | go_grown) hb; subst hq''; clear hb)))
              all_goals (refine (join_at Hj.out _).mono ?_)
              all_goals rintro e wJ ⟨rfl, hbJ⟩
              all_goals have hBJ : Below W0.heap.size W0 wJ := below_on (by first | exact below_regrown _ _ _ | exact Below.refl _ _ | go_grown) hbJ
              all_goals clear hbJ
              all_goals have d0 := keep_alloc (.cells #[.int .i64 jl, .int .i64 jh] 34) ((hBJ.cell (p := ⟨wA.heap.size, 0, none⟩) (blk c0)).trans c0)
              all_goals have d1 := keep_alloc (.cells #[.int .i64 jl, .int .i64 jh] 34) ((hBJ.cell (p := ⟨wA.heap.size, 1, none⟩) (blk c1)).trans c1)
              all_goals have d2 := keep_alloc (.cells #[.int .i64 jl, .int .i64 jh] 34) ((hBJ.cell (p := ⟨wA.heap.size + 1, 0, none⟩) (blk c2)).trans c2)
              all_goals have d3 := keep_alloc (.cells #[.int .i64 jl, .int .i64 jh] 34) ((hBJ.cell (p := ⟨wA.heap.size + 1, 1, none⟩) (blk c3)).trans c3)
              all_goals have d4 := keep_alloc (.cells #[.int .i64 jl, .int .i64 jh] 34) ((hBJ.cell (p := ⟨wB.heap.size, 0, none⟩) (blk c4)).trans c4)
              all_goals have d5 := keep_alloc (.cells #[.int .i64 jl, .int .i64 jh] 34) ((hBJ.cell (p := ⟨wB.heap.size, 1, none⟩) (blk c5)).trans c5)
              all_goals have d6 := keep_alloc (.cells #[.int .i64 jl, .int .i64 jh] 34) ((hBJ.cell (p := ⟨wB.heap.size + 1, 0, none⟩) (blk c6)).trans c6)
              all_goals have d7 := keep_alloc (.cells #[.int .i64 jl, .int .i64 jh] 34) ((hBJ.cell (p := ⟨wB.heap.size + 1, 1, none⟩) (blk c7)).trans c7)
              all_goals have e0 : (wJ.alloc (.cells #[.int .i64 jl, .int .i64 jh] 34)).cell? ⟨wJ.heap.size, 0, none⟩ = some (.int .i64 jl) := by simp [go_sem]
              all_goals have e1 : (wJ.alloc (.cells #[.int .i64 jl, .int .i64 jh] 34)).cell? ⟨wJ.heap.size, 1, none⟩ = some (.int .i64 jh) := by simp [go_sem]
              all_goals have hB1 := hBJ.alloc hBJ.size (.cells #[.int .i64 jl, .int .i64 jh] 34)
              all_goals clear hBJ
              all_goals go_wp2_with fail
              all_goals generalize wJ.alloc (.cells #[.int .i64 jl, .int .i64 jh] 34) = W1 at *
              all_goals have kd0 := cell_regrown d0
              all_goals have kd1 := cell_regrown d1
              all_goals have kd2 := cell_regrown d2
              all_goals have kd3 := cell_regrown d3
              all_goals have kd4 := cell_regrown d4
              all_goals have kd5 := cell_regrown d5
              all_goals have kd6 := cell_regrown d6
              all_goals have kd7 := cell_regrown d7
              all_goals have ke0 := cell_regrown e0
              all_goals have ke1 := cell_regrown e1
              all_goals go_wp2_with (first
      | (go_at_call 27; ((with_reducible refine (ok_s_at Od.out _).mono ?_); rintro e w' ⟨rfl, hb⟩; obtain ⟨⟨dq, osq⟩, hq''⟩ := regrown_on (W0 := W1) (by first | exact below_regrown _ _ _ | exact Below.refl _ _ | go_grown) hb; subst hq''; clear hb))
      | (go_at_call 25; ((with_reducible refine (in_at Iaj.out _).mono ?_); rintro e w' ⟨rfl, hb⟩; obtain ⟨⟨dq, osq⟩, hq''⟩ := regrown_on (W0 := W1) (by first | exact below_regrown _ _ _ | exact Below.refl _ _ | go_grown) hb; subst hq''; clear hb)))
              all_goals (go_ret; exact ⟨rfl, below_on hB0 (below_on hB1 (by first | exact below_regrown _ _ _ | exact Below.refl _ _ | go_grown))⟩)

          · have Od := Lib.hid hd
            rcases Bool.eq_false_or_eq_true (inI (bl, bh) (al, ah)) with z | z
            · have e := in_anti hxt z
              have e1 : al = bl := congrArg Prod.fst e
              have e2 : ah = bh := congrArg Prod.snd e
              have Z := Lib.hid z
              clear ha hb hh hj u v hxt hjn hd z e
              subst e1 e2
              all_goals go_wp2_with (first
      | (go_at_call 26; ((with_reducible refine (in_s_at Hx.out _).mono ?_); rintro e w' ⟨rfl, hb⟩; obtain ⟨⟨dq, osq⟩, hq''⟩ := regrown_on (W0 := W0) (by first | exact below_regrown _ _ _ | exact Below.refl _ _ | go_grown) hb; subst hq''; clear hb))
      | (go_at_call 25; ((with_reducible refine (in_at Hy.out _).mono ?_); rintro e w' ⟨rfl, hb⟩; obtain ⟨⟨dq, osq⟩, hq''⟩ := regrown_on (W0 := W0) (by first | exact below_regrown _ _ _ | exact Below.refl _ _ | go_grown) hb; subst hq''; clear hb))
      | (go_at_call 26; ((with_reducible refine (in_s_at Hy.out _).mono ?_); rintro e w' ⟨rfl, hb⟩; obtain ⟨⟨dq, osq⟩, hq''⟩ := regrown_on (W0 := W0) (by first | exact below_regrown _ _ _ | exact Below.refl _ _ | go_grown) hb; subst hq''; clear hb))
      | (go_at_call 27; ((with_reducible refine (ok_s_at Oa.out _).mono ?_); rintro e w' ⟨rfl, hb⟩; obtain ⟨⟨dq, osq⟩, hq''⟩ := regrown_on (W0 := W0) (by first | exact below_regrown _ _ _ | exact Below.refl _ _ | go_grown) hb; subst hq''; clear hb))
      | (go_at_call 23; ((with_reducible refine (owOk_at  _).mono ?_); rintro e w' ⟨rfl, hb⟩; obtain ⟨⟨dq, osq⟩, hq''⟩ := regrown_on (W0 := W0) (by first | exact below_regrown _ _ _ | exact Below.refl _ _ | go_grown) hb; subst hq''; clear hb))
      | (go_at_call 27; ((with_reducible refine (ok_s_at Ob.out _).mono ?_); rintro e w' ⟨rfl, hb⟩; obtain ⟨⟨dq, osq⟩, hq''⟩ := regrown_on (W0 := W0) (by first | exact below_regrown _ _ _ | exact Below.refl _ _ | go_grown) hb; subst hq''; clear hb))
      | (go_at_call 28; ((with_reducible refine (has_at U.out _).mono ?_); rintro e w' ⟨rfl, hb⟩; obtain ⟨⟨dq, osq⟩, hq''⟩ := regrown_on (W0 := W0) (by first | exact below_regrown _ _ _ | exact Below.refl _ _ | go_grown) hb; subst hq''; clear hb))
      | (go_at_call 25; ((with_reducible refine (in_at Iaa.out _).mono ?_); rintro e w' ⟨rfl, hb⟩; obtain ⟨⟨dq, osq⟩, hq''⟩ := regrown_on (W0 := W0) (by first | exact below_regrown _ _ _ | exact Below.refl _ _ | go_grown) hb; subst hq''; clear hb))
      | (go_at_call 29; ((with_reducible refine (itvAll_i  _).mono ?_); rintro e w' ⟨rfl, hb⟩; obtain ⟨⟨dq, osq⟩, hq''⟩ := regrown_on (W0 := W0) (by first | exact below_regrown _ _ _ | exact Below.refl _ _ | go_grown) hb; subst hq''; clear hb))
      | (go_at_call 25; ((with_reducible refine (in_at Iall.out _).mono ?_); rintro e w' ⟨rfl, hb⟩; obtain ⟨⟨dq, osq⟩, hq''⟩ := regrown_on (W0 := W0) (by first | exact below_regrown _ _ _ | exact Below.refl _ _ | go_grown) hb; subst hq''; clear hb))
      | (go_at_call 28; ((with_reducible refine (has_at V.out _).mono ?_); rintro e w' ⟨rfl, hb⟩; obtain ⟨⟨dq, osq⟩, hq''⟩ := regrown_on (W0 := W0) (by first | exact below_regrown _ _ _ | exact Below.refl _ _ | go_grown) hb; subst hq''; clear hb))
      | (go_at_call 25; ((with_reducible refine (in_at Z.out _).mono ?_); rintro e w' ⟨rfl, hb⟩; obtain ⟨⟨dq, osq⟩, hq''⟩ := regrown_on (W0 := W0) (by first | exact below_regrown _ _ _ | exact Below.refl _ _ | go_grown) hb; subst hq''; clear hb))
      | (go_at_call 27; ((with_reducible refine (ok_s_at Od.out _).mono ?_); rintro e w' ⟨rfl, hb⟩; obtain ⟨⟨dq, osq⟩, hq''⟩ := regrown_on (W0 := W0) (by first | exact below_regrown _ _ _ | exact Below.refl _ _ | go_grown) hb; subst hq''; clear hb)))
              all_goals (try ((refine region_below (W0 := W0) mixed_ok (by kernel_rfl) (by first | exact below_regrown _ _ _ | exact Below.refl _ _ | go_grown) ?_); (repeat (go_big_quiet_step ((first | (go_at_call 26; with_reducible exact Calls.regrown_of (in_s_at Hx.out _)) | (go_at_call 25; with_reducible exact Calls.regrown_of (in_at Hy.out _)) | (go_at_call 26; with_reducible exact Calls.regrown_of (in_s_at Hy.out _)) | (go_at_call 27; with_reducible exact Calls.regrown_of (ok_s_at Oa.out _)) | (go_at_call 23; with_reducible exact Calls.regrown_of (owOk_at  _)) | (go_at_call 27; with_reducible exact Calls.regrown_of (ok_s_at Ob.out _)) | (go_at_call 28; with_reducible exact Calls.regrown_of (has_at U.out _)) | (go_at_call 25; with_reducible exact Calls.regrown_of (in_at Iaa.out _)) | (go_at_call 29; with_reducible exact Calls.regrown_of (itvAll_i  _)) | (go_at_call 25; with_reducible exact Calls.regrown_of (in_at Iall.out _)) | (go_at_call 28; with_reducible exact Calls.regrown_of (has_at V.out _)) | (go_at_call 25; with_reducible exact Calls.regrown_of (in_at Z.out _)) | (go_at_call 27; with_reducible exact Calls.regrown_of (ok_s_at Od.out _)))))); (refine wpQuiet_nil ?_); (intro _ hq'); (obtain ⟨⟨dq, osq⟩, hq''⟩ := hq'); (subst hq'')))
              all_goals go_wp2_with (first
      | (go_at_call 26; ((with_reducible refine (in_s_at Hx.out _).mono ?_); rintro e w' ⟨rfl, hb⟩; obtain ⟨⟨dq, osq⟩, hq''⟩ := regrown_on (W0 := W0) (by first | exact below_regrown _ _ _ | exact Below.refl _ _ | go_grown) hb; subst hq''; clear hb))
      | (go_at_call 25; ((with_reducible refine (in_at Hy.out _).mono ?_); rintro e w' ⟨rfl, hb⟩; obtain ⟨⟨dq, osq⟩, hq''⟩ := regrown_on (W0 := W0) (by first | exact below_regrown _ _ _ | exact Below.refl _ _ | go_grown) hb; subst hq''; clear hb))
      | (go_at_call 26; ((with_reducible refine (in_s_at Hy.out _).mono ?_); rintro e w' ⟨rfl, hb⟩; obtain ⟨⟨dq, osq⟩, hq''⟩ := regrown_on (W0 := W0) (by first | exact below_regrown _ _ _ | exact Below.refl _ _ | go_grown) hb; subst hq''; clear hb))
      | (go_at_call 27; ((with_reducible refine (ok_s_at Oa.out _).mono ?_); rintro e w' ⟨rfl, hb⟩; obtain ⟨⟨dq, osq⟩, hq''⟩ := regrown_on (W0 := W0) (by first | exact below_regrown _ _ _ | exact Below.refl _ _ | go_grown) hb; subst hq''; clear hb))
      | (go_at_call 23; ((with_reducible refine (owOk_at  _).mono ?_); rintro e w' ⟨rfl, hb⟩; obtain ⟨⟨dq, osq⟩, hq''⟩ := regrown_on (W0 := W0) (by first | exact below_regrown _ _ _ | exact Below.refl _ _ | go_grown) hb; subst hq''; clear hb))
      | (go_at_call 27; ((with_reducible refine (ok_s_at Ob.out _).mono ?_); rintro e w' ⟨rfl, hb⟩; obtain ⟨⟨dq, osq⟩, hq''⟩ := regrown_on (W0 := W0) (by first | exact below_regrown _ _ _ | exact Below.refl _ _ | go_grown) hb; subst hq''; clear hb))
      | (go_at_call 28; ((with_reducible refine (has_at U.out _).mono ?_); rintro e w' ⟨rfl, hb⟩; obtain ⟨⟨dq, osq⟩, hq''⟩ := regrown_on (W0 := W0) (by first | exact below_regrown _ _ _ | exact Below.refl _ _ | go_grown) hb; subst hq''; clear hb))
      | (go_at_call 25; ((with_reducible refine (in_at Iaa.out _).mono ?_); rintro e w' ⟨rfl, hb⟩; obtain ⟨⟨dq, osq⟩, hq''⟩ := regrown_on (W0 := W0) (by first | exact below_regrown _ _ _ | exact Below.refl _ _ | go_grown) hb; subst hq''; clear hb))
      | (go_at_call 29; ((with_reducible refine (itvAll_i  _).mono ?_); rintro e w' ⟨rfl, hb⟩; obtain ⟨⟨dq, osq⟩, hq''⟩ := regrown_on (W0 := W0) (by first | exact below_regrown _ _ _ | exact Below.refl _ _ | go_grown) hb; subst hq''; clear hb))
      | (go_at_call 25; ((with_reducible refine (in_at Iall.out _).mono ?_); rintro e w' ⟨rfl, hb⟩; obtain ⟨⟨dq, osq⟩, hq''⟩ := regrown_on (W0 := W0) (by first | exact below_regrown _ _ _ | exact Below.refl _ _ | go_grown) hb; subst hq''; clear hb))
      | (go_at_call 28; ((with_reducible refine (has_at V.out _).mono ?_); rintro e w' ⟨rfl, hb⟩; obtain ⟨⟨dq, osq⟩, hq''⟩ := regrown_on (W0 := W0) (by first | exact below_regrown _ _ _ | exact Below.refl _ _ | go_grown) hb; subst hq''; clear hb))
      | (go_at_call 25; ((with_reducible refine (in_at Z.out _).mono ?_); rintro e w' ⟨rfl, hb⟩; obtain ⟨⟨dq, osq⟩, hq''⟩ := regrown_on (W0 := W0) (by first | exact below_regrown _ _ _ | exact Below.refl _ _ | go_grown) hb; subst hq''; clear hb))
      | (go_at_call 27; ((with_reducible refine (ok_s_at Od.out _).mono ?_); rintro e w' ⟨rfl, hb⟩; obtain ⟨⟨dq, osq⟩, hq''⟩ := regrown_on (W0 := W0) (by first | exact below_regrown _ _ _ | exact Below.refl _ _ | go_grown) hb; subst hq''; clear hb)))
              all_goals (try ((refine region_below (W0 := W0) mixed_ok (by kernel_rfl) (by first | exact below_regrown _ _ _ | exact Below.refl _ _ | go_grown) ?_); (repeat (go_big_quiet_step ((first | (go_at_call 26; with_reducible exact Calls.regrown_of (in_s_at Hx.out _)) | (go_at_call 25; with_reducible exact Calls.regrown_of (in_at Hy.out _)) | (go_at_call 26; with_reducible exact Calls.regrown_of (in_s_at Hy.out _)) | (go_at_call 27; with_reducible exact Calls.regrown_of (ok_s_at Oa.out _)) | (go_at_call 23; with_reducible exact Calls.regrown_of (owOk_at  _)) | (go_at_call 27; with_reducible exact Calls.regrown_of (ok_s_at Ob.out _)) | (go_at_call 28; with_reducible exact Calls.regrown_of (has_at U.out _)) | (go_at_call 25; with_reducible exact Calls.regrown_of (in_at Iaa.out _)) | (go_at_call 29; with_reducible exact Calls.regrown_of (itvAll_i  _)) | (go_at_call 25; with_reducible exact Calls.regrown_of (in_at Iall.out _)) | (go_at_call 28; with_reducible exact Calls.regrown_of (has_at V.out _)) | (go_at_call 25; with_reducible exact Calls.regrown_of (in_at Z.out _)) | (go_at_call 27; with_reducible exact Calls.regrown_of (ok_s_at Od.out _)))))); (refine wpQuiet_nil ?_); (intro _ hq'); (obtain ⟨⟨dq, osq⟩, hq''⟩ := hq'); (subst hq'')))
              all_goals go_wp2_with (first
      | (go_at_call 26; ((with_reducible refine (in_s_at Hx.out _).mono ?_); rintro e w' ⟨rfl, hb⟩; obtain ⟨⟨dq, osq⟩, hq''⟩ := regrown_on (W0 := W0) (by first | exact below_regrown _ _ _ | exact Below.refl _ _ | go_grown) hb; subst hq''; clear hb))
      | (go_at_call 25; ((with_reducible refine (in_at Hy.out _).mono ?_); rintro e w' ⟨rfl, hb⟩; obtain ⟨⟨dq, osq⟩, hq''⟩ := regrown_on (W0 := W0) (by first | exact below_regrown _ _ _ | exact Below.refl _ _ | go_grown) hb; subst hq''; clear hb))
      | (go_at_call 26; ((with_reducible refine (in_s_at Hy.out _).mono ?_); rintro e w' ⟨rfl, hb⟩; obtain ⟨⟨dq, osq⟩, hq''⟩ := regrown_on (W0 := W0) (by first | exact below_regrown _ _ _ | exact Below.refl _ _ | go_grown) hb; subst hq''; clear hb))
      | (go_at_call 27; ((with_reducible refine (ok_s_at Oa.out _).mono ?_); rintro e w' ⟨rfl, hb⟩; obtain ⟨⟨dq, osq⟩, hq''⟩ := regrown_on (W0 := W0) (by first | exact below_regrown _ _ _ | exact Below.refl _ _ | go_grown) hb; subst hq''; clear hb))
      | (go_at_call 23; ((with_reducible refine (owOk_at  _).mono ?_); rintro e w' ⟨rfl, hb⟩; obtain ⟨⟨dq, osq⟩, hq''⟩ := regrown_on (W0 := W0) (by first | exact below_regrown _ _ _ | exact Below.refl _ _ | go_grown) hb; subst hq''; clear hb))
      | (go_at_call 27; ((with_reducible refine (ok_s_at Ob.out _).mono ?_); rintro e w' ⟨rfl, hb⟩; obtain ⟨⟨dq, osq⟩, hq''⟩ := regrown_on (W0 := W0) (by first | exact below_regrown _ _ _ | exact Below.refl _ _ | go_grown) hb; subst hq''; clear hb))
      | (go_at_call 28; ((with_reducible refine (has_at U.out _).mono ?_); rintro e w' ⟨rfl, hb⟩; obtain ⟨⟨dq, osq⟩, hq''⟩ := regrown_on (W0 := W0) (by first | exact below_regrown _ _ _ | exact Below.refl _ _ | go_grown) hb; subst hq''; clear hb))
      | (go_at_call 25; ((with_reducible refine (in_at Iaa.out _).mono ?_); rintro e w' ⟨rfl, hb⟩; obtain ⟨⟨dq, osq⟩, hq''⟩ := regrown_on (W0 := W0) (by first | exact below_regrown _ _ _ | exact Below.refl _ _ | go_grown) hb; subst hq''; clear hb))
      | (go_at_call 29; ((with_reducible refine (itvAll_i  _).mono ?_); rintro e w' ⟨rfl, hb⟩; obtain ⟨⟨dq, osq⟩, hq''⟩ := regrown_on (W0 := W0) (by first | exact below_regrown _ _ _ | exact Below.refl _ _ | go_grown) hb; subst hq''; clear hb))
      | (go_at_call 25; ((with_reducible refine (in_at Iall.out _).mono ?_); rintro e w' ⟨rfl, hb⟩; obtain ⟨⟨dq, osq⟩, hq''⟩ := regrown_on (W0 := W0) (by first | exact below_regrown _ _ _ | exact Below.refl _ _ | go_grown) hb; subst hq''; clear hb))
      | (go_at_call 28; ((with_reducible refine (has_at V.out _).mono ?_); rintro e w' ⟨rfl, hb⟩; obtain ⟨⟨dq, osq⟩, hq''⟩ := regrown_on (W0 := W0) (by first | exact below_regrown _ _ _ | exact Below.refl _ _ | go_grown) hb; subst hq''; clear hb))
      | (go_at_call 25; ((with_reducible refine (in_at Z.out _).mono ?_); rintro e w' ⟨rfl, hb⟩; obtain ⟨⟨dq, osq⟩, hq''⟩ := regrown_on (W0 := W0) (by first | exact below_regrown _ _ _ | exact Below.refl _ _ | go_grown) hb; subst hq''; clear hb))
      | (go_at_call 27; ((with_reducible refine (ok_s_at Od.out _).mono ?_); rintro e w' ⟨rfl, hb⟩; obtain ⟨⟨dq, osq⟩, hq''⟩ := regrown_on (W0 := W0) (by first | exact below_regrown _ _ _ | exact Below.refl _ _ | go_grown) hb; subst hq''; clear hb)))
              all_goals (refine (join_at Hj.out _).mono ?_)
              all_goals rintro e wJ ⟨rfl, hbJ⟩
              all_goals have hBJ : Below W0.heap.size W0 wJ := below_on (by first | exact below_regrown _ _ _ | exact Below.refl _ _ | go_grown) hbJ
              all_goals clear hbJ
              all_goals have d0 := keep_alloc (.cells #[.int .i64 jl, .int .i64 jh] 34) ((hBJ.cell (p := ⟨wA.heap.size, 0, none⟩) (blk c0)).trans c0)
              all_goals have d1 := keep_alloc (.cells #[.int .i64 jl, .int .i64 jh] 34) ((hBJ.cell (p := ⟨wA.heap.size, 1, none⟩) (blk c1)).trans c1)
              all_goals have d2 := keep_alloc (.cells #[.int .i64 jl, .int .i64 jh] 34) ((hBJ.cell (p := ⟨wA.heap.size + 1, 0, none⟩) (blk c2)).trans c2)
              all_goals have d3 := keep_alloc (.cells #[.int .i64 jl, .int .i64 jh] 34) ((hBJ.cell (p := ⟨wA.heap.size + 1, 1, none⟩) (blk c3)).trans c3)
              all_goals have d4 := keep_alloc (.cells #[.int .i64 jl, .int .i64 jh] 34) ((hBJ.cell (p := ⟨wB.heap.size, 0, none⟩) (blk c4)).trans c4)
              all_goals have d5 := keep_alloc (.cells #[.int .i64 jl, .int .i64 jh] 34) ((hBJ.cell (p := ⟨wB.heap.size, 1, none⟩) (blk c5)).trans c5)
              all_goals have d6 := keep_alloc (.cells #[.int .i64 jl, .int .i64 jh] 34) ((hBJ.cell (p := ⟨wB.heap.size + 1, 0, none⟩) (blk c6)).trans c6)
              all_goals have d7 := keep_alloc (.cells #[.int .i64 jl, .int .i64 jh] 34) ((hBJ.cell (p := ⟨wB.heap.size + 1, 1, none⟩) (blk c7)).trans c7)
              all_goals have e0 : (wJ.alloc (.cells #[.int .i64 jl, .int .i64 jh] 34)).cell? ⟨wJ.heap.size, 0, none⟩ = some (.int .i64 jl) := by simp [go_sem]
              all_goals have e1 : (wJ.alloc (.cells #[.int .i64 jl, .int .i64 jh] 34)).cell? ⟨wJ.heap.size, 1, none⟩ = some (.int .i64 jh) := by simp [go_sem]
              all_goals have hB1 := hBJ.alloc hBJ.size (.cells #[.int .i64 jl, .int .i64 jh] 34)
              all_goals clear hBJ
              all_goals go_wp2_with fail
              all_goals generalize wJ.alloc (.cells #[.int .i64 jl, .int .i64 jh] 34) = W1 at *
              all_goals have kd0 := cell_regrown d0
              all_goals have kd1 := cell_regrown d1
              all_goals have kd2 := cell_regrown d2
              all_goals have kd3 := cell_regrown d3
              all_goals have kd4 := cell_regrown d4
              all_goals have kd5 := cell_regrown d5
              all_goals have kd6 := cell_regrown d6
              all_goals have kd7 := cell_regrown d7
              all_goals have ke0 := cell_regrown e0
              all_goals have ke1 := cell_regrown e1
              all_goals go_wp2_with (first
      | (go_at_call 27; ((with_reducible refine (ok_s_at Od.out _).mono ?_); rintro e w' ⟨rfl, hb⟩; obtain ⟨⟨dq, osq⟩, hq''⟩ := regrown_on (W0 := W1) (by first | exact below_regrown _ _ _ | exact Below.refl _ _ | go_grown) hb; subst hq''; clear hb)))
              all_goals (go_ret; exact ⟨rfl, below_on hB0 (below_on hB1 (by first | exact below_regrown _ _ _ | exact Below.refl _ _ | go_grown))⟩)

            · have Z := Lib.hid z
              clear ha hb hh hj u v hxt hjn hd z
              all_goals go_wp2_with (first
      | (go_at_call 26; ((with_reducible refine (in_s_at Hx.out _).mono ?_); rintro e w' ⟨rfl, hb⟩; obtain ⟨⟨dq, osq⟩, hq''⟩ := regrown_on (W0 := W0) (by first | exact below_regrown _ _ _ | exact Below.refl _ _ | go_grown) hb; subst hq''; clear hb))
      | (go_at_call 25; ((with_reducible refine (in_at Hy.out _).mono ?_); rintro e w' ⟨rfl, hb⟩; obtain ⟨⟨dq, osq⟩, hq''⟩ := regrown_on (W0 := W0) (by first | exact below_regrown _ _ _ | exact Below.refl _ _ | go_grown) hb; subst hq''; clear hb))
      | (go_at_call 26; ((with_reducible refine (in_s_at Hy.out _).mono ?_); rintro e w' ⟨rfl, hb⟩; obtain ⟨⟨dq, osq⟩, hq''⟩ := regrown_on (W0 := W0) (by first | exact below_regrown _ _ _ | exact Below.refl _ _ | go_grown) hb; subst hq''; clear hb))
      | (go_at_call 27; ((with_reducible refine (ok_s_at Oa.out _).mono ?_); rintro e w' ⟨rfl, hb⟩; obtain ⟨⟨dq, osq⟩, hq''⟩ := regrown_on (W0 := W0) (by first | exact below_regrown _ _ _ | exact Below.refl _ _ | go_grown) hb; subst hq''; clear hb))
      | (go_at_call 23; ((with_reducible refine (owOk_at  _).mono ?_); rintro e w' ⟨rfl, hb⟩; obtain ⟨⟨dq, osq⟩, hq''⟩ := regrown_on (W0 := W0) (by first | exact below_regrown _ _ _ | exact Below.refl _ _ | go_grown) hb; subst hq''; clear hb))
      | (go_at_call 27; ((with_reducible refine (ok_s_at Ob.out _).mono ?_); rintro e w' ⟨rfl, hb⟩; obtain ⟨⟨dq, osq⟩, hq''⟩ := regrown_on (W0 := W0) (by first | exact below_regrown _ _ _ | exact Below.refl _ _ | go_grown) hb; subst hq''; clear hb))
      | (go_at_call 28; ((with_reducible refine (has_at U.out _).mono ?_); rintro e w' ⟨rfl, hb⟩; obtain ⟨⟨dq, osq⟩, hq''⟩ := regrown_on (W0 := W0) (by first | exact below_regrown _ _ _ | exact Below.refl _ _ | go_grown) hb; subst hq''; clear hb))
      | (go_at_call 25; ((with_reducible refine (in_at Iaa.out _).mono ?_); rintro e w' ⟨rfl, hb⟩; obtain ⟨⟨dq, osq⟩, hq''⟩ := regrown_on (W0 := W0) (by first | exact below_regrown _ _ _ | exact Below.refl _ _ | go_grown) hb; subst hq''; clear hb))
      | (go_at_call 29; ((with_reducible refine (itvAll_i  _).mono ?_); rintro e w' ⟨rfl, hb⟩; obtain ⟨⟨dq, osq⟩, hq''⟩ := regrown_on (W0 := W0) (by first | exact below_regrown _ _ _ | exact Below.refl _ _ | go_grown) hb; subst hq''; clear hb))
      | (go_at_call 25; ((with_reducible refine (in_at Iall.out _).mono ?_); rintro e w' ⟨rfl, hb⟩; obtain ⟨⟨dq, osq⟩, hq''⟩ := regrown_on (W0 := W0) (by first | exact below_regrown _ _ _ | exact Below.refl _ _ | go_grown) hb; subst hq''; clear hb))
      | (go_at_call 28; ((with_reducible refine (has_at V.out _).mono ?_); rintro e w' ⟨rfl, hb⟩; obtain ⟨⟨dq, osq⟩, hq''⟩ := regrown_on (W0 := W0) (by first | exact below_regrown _ _ _ | exact Below.refl _ _ | go_grown) hb; subst hq''; clear hb))
      | (go_at_call 25; ((with_reducible refine (in_at Z.out _).mono ?_); rintro e w' ⟨rfl, hb⟩; obtain ⟨⟨dq, osq⟩, hq''⟩ := regrown_on (W0 := W0) (by first | exact below_regrown _ _ _ | exact Below.refl _ _ | go_grown) hb; subst hq''; clear hb))
      | (go_at_call 27; ((with_reducible refine (ok_s_at Od.out _).mono ?_); rintro e w' ⟨rfl, hb⟩; obtain ⟨⟨dq, osq⟩, hq''⟩ := regrown_on (W0 := W0) (by first | exact below_regrown _ _ _ | exact Below.refl _ _ | go_grown) hb; subst hq''; clear hb)))
              all_goals (try ((refine region_below (W0 := W0) mixed_ok (by kernel_rfl) (by first | exact below_regrown _ _ _ | exact Below.refl _ _ | go_grown) ?_); (repeat (go_big_quiet_step ((first | (go_at_call 26; with_reducible exact Calls.regrown_of (in_s_at Hx.out _)) | (go_at_call 25; with_reducible exact Calls.regrown_of (in_at Hy.out _)) | (go_at_call 26; with_reducible exact Calls.regrown_of (in_s_at Hy.out _)) | (go_at_call 27; with_reducible exact Calls.regrown_of (ok_s_at Oa.out _)) | (go_at_call 23; with_reducible exact Calls.regrown_of (owOk_at  _)) | (go_at_call 27; with_reducible exact Calls.regrown_of (ok_s_at Ob.out _)) | (go_at_call 28; with_reducible exact Calls.regrown_of (has_at U.out _)) | (go_at_call 25; with_reducible exact Calls.regrown_of (in_at Iaa.out _)) | (go_at_call 29; with_reducible exact Calls.regrown_of (itvAll_i  _)) | (go_at_call 25; with_reducible exact Calls.regrown_of (in_at Iall.out _)) | (go_at_call 28; with_reducible exact Calls.regrown_of (has_at V.out _)) | (go_at_call 25; with_reducible exact Calls.regrown_of (in_at Z.out _)) | (go_at_call 27; with_reducible exact Calls.regrown_of (ok_s_at Od.out _)))))); (refine wpQuiet_nil ?_); (intro _ hq'); (obtain ⟨⟨dq, osq⟩, hq''⟩ := hq'); (subst hq'')))
              all_goals go_wp2_with (first
      | (go_at_call 26; ((with_reducible refine (in_s_at Hx.out _).mono ?_); rintro e w' ⟨rfl, hb⟩; obtain ⟨⟨dq, osq⟩, hq''⟩ := regrown_on (W0 := W0) (by first | exact below_regrown _ _ _ | exact Below.refl _ _ | go_grown) hb; subst hq''; clear hb))
      | (go_at_call 25; ((with_reducible refine (in_at Hy.out _).mono ?_); rintro e w' ⟨rfl, hb⟩; obtain ⟨⟨dq, osq⟩, hq''⟩ := regrown_on (W0 := W0) (by first | exact below_regrown _ _ _ | exact Below.refl _ _ | go_grown) hb; subst hq''; clear hb))
      | (go_at_call 26; ((with_reducible refine (in_s_at Hy.out _).mono ?_); rintro e w' ⟨rfl, hb⟩; obtain ⟨⟨dq, osq⟩, hq''⟩ := regrown_on (W0 := W0) (by first | exact below_regrown _ _ _ | exact Below.refl _ _ | go_grown) hb; subst hq''; clear hb))
      | (go_at_call 27; ((with_reducible refine (ok_s_at Oa.out _).mono ?_); rintro e w' ⟨rfl, hb⟩; obtain ⟨⟨dq, osq⟩, hq''⟩ := regrown_on (W0 := W0) (by first | exact below_regrown _ _ _ | exact Below.refl _ _ | go_grown) hb; subst hq''; clear hb))
      | (go_at_call 23; ((with_reducible refine (owOk_at  _).mono ?_); rintro e w' ⟨rfl, hb⟩; obtain ⟨⟨dq, osq⟩, hq''⟩ := regrown_on (W0 := W0) (by first | exact below_regrown _ _ _ | exact Below.refl _ _ | go_grown) hb; subst hq''; clear hb))
      | (go_at_call 27; ((with_reducible refine (ok_s_at Ob.out _).mono ?_); rintro e w' ⟨rfl, hb⟩; obtain ⟨⟨dq, osq⟩, hq''⟩ := regrown_on (W0 := W0) (by first | exact below_regrown _ _ _ | exact Below.refl _ _ | go_grown) hb; subst hq''; clear hb))
      | (go_at_call 28; ((with_reducible refine (has_at U.out _).mono ?_); rintro e w' ⟨rfl, hb⟩; obtain ⟨⟨dq, osq⟩, hq''⟩ := regrown_on (W0 := W0) (by first | exact below_regrown _ _ _ | exact Below.refl _ _ | go_grown) hb; subst hq''; clear hb))
      | (go_at_call 25; ((with_reducible refine (in_at Iaa.out _).mono ?_); rintro e w' ⟨rfl, hb⟩; obtain ⟨⟨dq, osq⟩, hq''⟩ := regrown_on (W0 := W0) (by first | exact below_regrown _ _ _ | exact Below.refl _ _ | go_grown) hb; subst hq''; clear hb))
      | (go_at_call 29; ((with_reducible refine (itvAll_i  _).mono ?_); rintro e w' ⟨rfl, hb⟩; obtain ⟨⟨dq, osq⟩, hq''⟩ := regrown_on (W0 := W0) (by first | exact below_regrown _ _ _ | exact Below.refl _ _ | go_grown) hb; subst hq''; clear hb))
      | (go_at_call 25; ((with_reducible refine (in_at Iall.out _).mono ?_); rintro e w' ⟨rfl, hb⟩; obtain ⟨⟨dq, osq⟩, hq''⟩ := regrown_on (W0 := W0) (by first | exact below_regrown _ _ _ | exact Below.refl _ _ | go_grown) hb; subst hq''; clear hb))
      | (go_at_call 28; ((with_reducible refine (has_at V.out _).mono ?_); rintro e w' ⟨rfl, hb⟩; obtain ⟨⟨dq, osq⟩, hq''⟩ := regrown_on (W0 := W0) (by first | exact below_regrown _ _ _ | exact Below.refl _ _ | go_grown) hb; subst hq''; clear hb))
      | (go_at_call 25; ((with_reducible refine (in_at Z.out _).mono ?_); rintro e w' ⟨rfl, hb⟩; obtain ⟨⟨dq, osq⟩, hq''⟩ := regrown_on (W0 := W0) (by first | exact below_regrown _ _ _ | exact Below.refl _ _ | go_grown) hb; subst hq''; clear hb))
      | (go_at_call 27; ((with_reducible refine (ok_s_at Od.out _).mono ?_); rintro e w' ⟨rfl, hb⟩; obtain ⟨⟨dq, osq⟩, hq''⟩ := regrown_on (W0 := W0) (by first | exact below_regrown _ _ _ | exact Below.refl _ _ | go_grown) hb; subst hq''; clear hb)))
              all_goals (try ((refine region_below (W0 := W0) mixed_ok (by kernel_rfl) (by first | exact below_regrown _ _ _ | exact Below.refl _ _ | go_grown) ?_); (repeat (go_big_quiet_step ((first | (go_at_call 26; with_reducible exact Calls.regrown_of (in_s_at Hx.out _)) | (go_at_call 25; with_reducible exact Calls.regrown_of (in_at Hy.out _)) | (go_at_call 26; with_reducible exact Calls.regrown_of (in_s_at Hy.out _)) | (go_at_call 27; with_reducible exact Calls.regrown_of (ok_s_at Oa.out _)) | (go_at_call 23; with_reducible exact Calls.regrown_of (owOk_at  _)) | (go_at_call 27; with_reducible exact Calls.regrown_of (ok_s_at Ob.out _)) | (go_at_call 28; with_reducible exact Calls.regrown_of (has_at U.out _)) | (go_at_call 25; with_reducible exact Calls.regrown_of (in_at Iaa.out _)) | (go_at_call 29; with_reducible exact Calls.regrown_of (itvAll_i  _)) | (go_at_call 25; with_reducible exact Calls.regrown_of (in_at Iall.out _)) | (go_at_call 28; with_reducible exact Calls.regrown_of (has_at V.out _)) | (go_at_call 25; with_reducible exact Calls.regrown_of (in_at Z.out _)) | (go_at_call 27; with_reducible exact Calls.regrown_of (ok_s_at Od.out _)))))); (refine wpQuiet_nil ?_); (intro _ hq'); (obtain ⟨⟨dq, osq⟩, hq''⟩ := hq'); (subst hq'')))
              all_goals go_wp2_with (first
      | (go_at_call 26; ((with_reducible refine (in_s_at Hx.out _).mono ?_); rintro e w' ⟨rfl, hb⟩; obtain ⟨⟨dq, osq⟩, hq''⟩ := regrown_on (W0 := W0) (by first | exact below_regrown _ _ _ | exact Below.refl _ _ | go_grown) hb; subst hq''; clear hb))
      | (go_at_call 25; ((with_reducible refine (in_at Hy.out _).mono ?_); rintro e w' ⟨rfl, hb⟩; obtain ⟨⟨dq, osq⟩, hq''⟩ := regrown_on (W0 := W0) (by first | exact below_regrown _ _ _ | exact Below.refl _ _ | go_grown) hb; subst hq''; clear hb))
      | (go_at_call 26; ((with_reducible refine (in_s_at Hy.out _).mono ?_); rintro e w' ⟨rfl, hb⟩; obtain ⟨⟨dq, osq⟩, hq''⟩ := regrown_on (W0 := W0) (by first | exact below_regrown _ _ _ | exact Below.refl _ _ | go_grown) hb; subst hq''; clear hb))
      | (go_at_call 27; ((with_reducible refine (ok_s_at Oa.out _).mono ?_); rintro e w' ⟨rfl, hb⟩; obtain ⟨⟨dq, osq⟩, hq''⟩ := regrown_on (W0 := W0) (by first | exact below_regrown _ _ _ | exact Below.refl _ _ | go_grown) hb; subst hq''; clear hb))
      | (go_at_call 23; ((with_reducible refine (owOk_at  _).mono ?_); rintro e w' ⟨rfl, hb⟩; obtain ⟨⟨dq, osq⟩, hq''⟩ := regrown_on (W0 := W0) (by first | exact below_regrown _ _ _ | exact Below.refl _ _ | go_grown) hb; subst hq''; clear hb))
      | (go_at_call 27; ((with_reducible refine (ok_s_at Ob.out _).mono ?_); rintro e w' ⟨rfl, hb⟩; obtain ⟨⟨dq, osq⟩, hq''⟩ := regrown_on (W0 := W0) (by first | exact below_regrown _ _ _ | exact Below.refl _ _ | go_grown) hb; subst hq''; clear hb))
      | (go_at_call 28; ((with_reducible refine (has_at U.out _).mono ?_); rintro e w' ⟨rfl, hb⟩; obtain ⟨⟨dq, osq⟩, hq''⟩ := regrown_on (W0 := W0) (by first | exact below_regrown _ _ _ | exact Below.refl _ _ | go_grown) hb; subst hq''; clear hb))
      | (go_at_call 25; ((with_reducible refine (in_at Iaa.out _).mono ?_); rintro e w' ⟨rfl, hb⟩; obtain ⟨⟨dq, osq⟩, hq''⟩ := regrown_on (W0 := W0) (by first | exact below_regrown _ _ _ | exact Below.refl _ _ | go_grown) hb; subst hq''; clear hb))
      | (go_at_call 29; ((with_reducible refine (itvAll_i  _).mono ?_); rintro e w' ⟨rfl, hb⟩; obtain ⟨⟨dq, osq⟩, hq''⟩ := regrown_on (W0 := W0) (by first | exact below_regrown _ _ _ | exact Below.refl _ _ | go_grown) hb; subst hq''; clear hb))
      | (go_at_call 25; ((with_reducible refine (in_at Iall.out _).mono ?_); rintro e w' ⟨rfl, hb⟩; obtain ⟨⟨dq, osq⟩, hq''⟩ := regrown_on (W0 := W0) (by first | exact below_regrown _ _ _ | exact Below.refl _ _ | go_grown) hb; subst hq''; clear hb))
      | (go_at_call 28; ((with_reducible refine (has_at V.out _).mono ?_); rintro e w' ⟨rfl, hb⟩; obtain ⟨⟨dq, osq⟩, hq''⟩ := regrown_on (W0 := W0) (by first | exact below_regrown _ _ _ | exact Below.refl _ _ | go_grown) hb; subst hq''; clear hb))
      | (go_at_call 25; ((with_reducible refine (in_at Z.out _).mono ?_); rintro e w' ⟨rfl, hb⟩; obtain ⟨⟨dq, osq⟩, hq''⟩ := regrown_on (W0 := W0) (by first | exact below_regrown _ _ _ | exact Below.refl _ _ | go_grown) hb; subst hq''; clear hb))
      | (go_at_call 27; ((with_reducible refine (ok_s_at Od.out _).mono ?_); rintro e w' ⟨rfl, hb⟩; obtain ⟨⟨dq, osq⟩, hq''⟩ := regrown_on (W0 := W0) (by first | exact below_regrown _ _ _ | exact Below.refl _ _ | go_grown) hb; subst hq''; clear hb)))
              all_goals (refine (join_at Hj.out _).mono ?_)
              all_goals rintro e wJ ⟨rfl, hbJ⟩
              all_goals have hBJ : Below W0.heap.size W0 wJ := below_on (by first | exact below_regrown _ _ _ | exact Below.refl _ _ | go_grown) hbJ
              all_goals clear hbJ
              all_goals have d0 := keep_alloc (.cells #[.int .i64 jl, .int .i64 jh] 34) ((hBJ.cell (p := ⟨wA.heap.size, 0, none⟩) (blk c0)).trans c0)
              all_goals have d1 := keep_alloc (.cells #[.int .i64 jl, .int .i64 jh] 34) ((hBJ.cell (p := ⟨wA.heap.size, 1, none⟩) (blk c1)).trans c1)
              all_goals have d2 := keep_alloc (.cells #[.int .i64 jl, .int .i64 jh] 34) ((hBJ.cell (p := ⟨wA.heap.size + 1, 0, none⟩) (blk c2)).trans c2)
              all_goals have d3 := keep_alloc (.cells #[.int .i64 jl, .int .i64 jh] 34) ((hBJ.cell (p := ⟨wA.heap.size + 1, 1, none⟩) (blk c3)).trans c3)
              all_goals have d4 := keep_alloc (.cells #[.int .i64 jl, .int .i64 jh] 34) ((hBJ.cell (p := ⟨wB.heap.size, 0, none⟩) (blk c4)).trans c4)
              all_goals have d5 := keep_alloc (.cells #[.int .i64 jl, .int .i64 jh] 34) ((hBJ.cell (p := ⟨wB.heap.size, 1, none⟩) (blk c5)).trans c5)
              all_goals have d6 := keep_alloc (.cells #[.int .i64 jl, .int .i64 jh] 34) ((hBJ.cell (p := ⟨wB.heap.size + 1, 0, none⟩) (blk c6)).trans c6)
              all_goals have d7 := keep_alloc (.cells #[.int .i64 jl, .int .i64 jh] 34) ((hBJ.cell (p := ⟨wB.heap.size + 1, 1, none⟩) (blk c7)).trans c7)
              all_goals have e0 : (wJ.alloc (.cells #[.int .i64 jl, .int .i64 jh] 34)).cell? ⟨wJ.heap.size, 0, none⟩ = some (.int .i64 jl) := by simp [go_sem]
              all_goals have e1 : (wJ.alloc (.cells #[.int .i64 jl, .int .i64 jh] 34)).cell? ⟨wJ.heap.size, 1, none⟩ = some (.int .i64 jh) := by simp [go_sem]
              all_goals have hB1 := hBJ.alloc hBJ.size (.cells #[.int .i64 jl, .int .i64 jh] 34)
              all_goals clear hBJ
              all_goals go_wp2_with fail
              all_goals generalize wJ.alloc (.cells #[.int .i64 jl, .int .i64 jh] 34) = W1 at *
              all_goals have kd0 := cell_regrown d0
              all_goals have kd1 := cell_regrown d1
              all_goals have kd2 := cell_regrown d2
              all_goals have kd3 := cell_regrown d3
              all_goals have kd4 := cell_regrown d4
              all_goals have kd5 := cell_regrown d5
              all_goals have kd6 := cell_regrown d6
              all_goals have kd7 := cell_regrown d7
              all_goals have ke0 := cell_regrown e0
              all_goals have ke1 := cell_regrown e1
              all_goals go_wp2_with (first
      | (go_at_call 27; ((with_reducible refine (ok_s_at Od.out _).mono ?_); rintro e w' ⟨rfl, hb⟩; obtain ⟨⟨dq, osq⟩, hq''⟩ := regrown_on (W0 := W1) (by first | exact below_regrown _ _ _ | exact Below.refl _ _ | go_grown) hb; subst hq''; clear hb)))
              all_goals (go_ret; exact ⟨rfl, below_on hB0 (below_on hB1 (by first | exact below_regrown _ _ _ | exact Below.refl _ _ | go_grown))⟩)

        · have ex : x = false := Hx.out.symm.trans (by rw [hh, u, v]; rfl)
          subst ex
          have U := Lib.hid u
          have V := Lib.hid v
          clear ha hb hh hj u v
          all_goals go_wp2_with (first
      | (go_at_call 26; ((with_reducible refine (in_s_at Hx.out _).mono ?_); rintro e w' ⟨rfl, hb⟩; obtain ⟨⟨dq, osq⟩, hq''⟩ := regrown_on (W0 := W0) (by first | exact below_regrown _ _ _ | exact Below.refl _ _ | go_grown) hb; subst hq''; clear hb))
      | (go_at_call 25; ((with_reducible refine (in_at Hy.out _).mono ?_); rintro e w' ⟨rfl, hb⟩; obtain ⟨⟨dq, osq⟩, hq''⟩ := regrown_on (W0 := W0) (by first | exact below_regrown _ _ _ | exact Below.refl _ _ | go_grown) hb; subst hq''; clear hb))
      | (go_at_call 26; ((with_reducible refine (in_s_at Hy.out _).mono ?_); rintro e w' ⟨rfl, hb⟩; obtain ⟨⟨dq, osq⟩, hq''⟩ := regrown_on (W0 := W0) (by first | exact below_regrown _ _ _ | exact Below.refl _ _ | go_grown) hb; subst hq''; clear hb))
      | (go_at_call 27; ((with_reducible refine (ok_s_at Oa.out _).mono ?_); rintro e w' ⟨rfl, hb⟩; obtain ⟨⟨dq, osq⟩, hq''⟩ := regrown_on (W0 := W0) (by first | exact below_regrown _ _ _ | exact Below.refl _ _ | go_grown) hb; subst hq''; clear hb))
      | (go_at_call 23; ((with_reducible refine (owOk_at  _).mono ?_); rintro e w' ⟨rfl, hb⟩; obtain ⟨⟨dq, osq⟩, hq''⟩ := regrown_on (W0 := W0) (by first | exact below_regrown _ _ _ | exact Below.refl _ _ | go_grown) hb; subst hq''; clear hb))
      | (go_at_call 27; ((with_reducible refine (ok_s_at Ob.out _).mono ?_); rintro e w' ⟨rfl, hb⟩; obtain ⟨⟨dq, osq⟩, hq''⟩ := regrown_on (W0 := W0) (by first | exact below_regrown _ _ _ | exact Below.refl _ _ | go_grown) hb; subst hq''; clear hb))
      | (go_at_call 28; ((with_reducible refine (has_at U.out _).mono ?_); rintro e w' ⟨rfl, hb⟩; obtain ⟨⟨dq, osq⟩, hq''⟩ := regrown_on (W0 := W0) (by first | exact below_regrown _ _ _ | exact Below.refl _ _ | go_grown) hb; subst hq''; clear hb))
      | (go_at_call 25; ((with_reducible refine (in_at Iaa.out _).mono ?_); rintro e w' ⟨rfl, hb⟩; obtain ⟨⟨dq, osq⟩, hq''⟩ := regrown_on (W0 := W0) (by first | exact below_regrown _ _ _ | exact Below.refl _ _ | go_grown) hb; subst hq''; clear hb))
      | (go_at_call 29; ((with_reducible refine (itvAll_i  _).mono ?_); rintro e w' ⟨rfl, hb⟩; obtain ⟨⟨dq, osq⟩, hq''⟩ := regrown_on (W0 := W0) (by first | exact below_regrown _ _ _ | exact Below.refl _ _ | go_grown) hb; subst hq''; clear hb))
      | (go_at_call 25; ((with_reducible refine (in_at Iall.out _).mono ?_); rintro e w' ⟨rfl, hb⟩; obtain ⟨⟨dq, osq⟩, hq''⟩ := regrown_on (W0 := W0) (by first | exact below_regrown _ _ _ | exact Below.refl _ _ | go_grown) hb; subst hq''; clear hb))
      | (go_at_call 28; ((with_reducible refine (has_at V.out _).mono ?_); rintro e w' ⟨rfl, hb⟩; obtain ⟨⟨dq, osq⟩, hq''⟩ := regrown_on (W0 := W0) (by first | exact below_regrown _ _ _ | exact Below.refl _ _ | go_grown) hb; subst hq''; clear hb)))
          all_goals (try ((refine region_below (W0 := W0) mixed_ok (by kernel_rfl) (by first | exact below_regrown _ _ _ | exact Below.refl _ _ | go_grown) ?_); (repeat (go_big_quiet_step ((first | (go_at_call 26; with_reducible exact Calls.regrown_of (in_s_at Hx.out _)) | (go_at_call 25; with_reducible exact Calls.regrown_of (in_at Hy.out _)) | (go_at_call 26; with_reducible exact Calls.regrown_of (in_s_at Hy.out _)) | (go_at_call 27; with_reducible exact Calls.regrown_of (ok_s_at Oa.out _)) | (go_at_call 23; with_reducible exact Calls.regrown_of (owOk_at  _)) | (go_at_call 27; with_reducible exact Calls.regrown_of (ok_s_at Ob.out _)) | (go_at_call 28; with_reducible exact Calls.regrown_of (has_at U.out _)) | (go_at_call 25; with_reducible exact Calls.regrown_of (in_at Iaa.out _)) | (go_at_call 29; with_reducible exact Calls.regrown_of (itvAll_i  _)) | (go_at_call 25; with_reducible exact Calls.regrown_of (in_at Iall.out _)) | (go_at_call 28; with_reducible exact Calls.regrown_of (has_at V.out _)))))); (refine wpQuiet_nil ?_); (intro _ hq'); (obtain ⟨⟨dq, osq⟩, hq''⟩ := hq'); (subst hq'')))
          all_goals go_wp2_with (first
      | (go_at_call 26; ((with_reducible refine (in_s_at Hx.out _).mono ?_); rintro e w' ⟨rfl, hb⟩; obtain ⟨⟨dq, osq⟩, hq''⟩ := regrown_on (W0 := W0) (by first | exact below_regrown _ _ _ | exact Below.refl _ _ | go_grown) hb; subst hq''; clear hb))
      | (go_at_call 25; ((with_reducible refine (in_at Hy.out _).mono ?_); rintro e w' ⟨rfl, hb⟩; obtain ⟨⟨dq, osq⟩, hq''⟩ := regrown_on (W0 := W0) (by first | exact below_regrown _ _ _ | exact Below.refl _ _ | go_grown) hb; subst hq''; clear hb))
      | (go_at_call 26; ((with_reducible refine (in_s_at Hy.out _).mono ?_); rintro e w' ⟨rfl, hb⟩; obtain ⟨⟨dq, osq⟩, hq''⟩ := regrown_on (W0 := W0) (by first | exact below_regrown _ _ _ | exact Below.refl _ _ | go_grown) hb; subst hq''; clear hb))
      | (go_at_call 27; ((with_reducible refine (ok_s_at Oa.out _).mono ?_); rintro e w' ⟨rfl, hb⟩; obtain ⟨⟨dq, osq⟩, hq''⟩ := regrown_on (W0 := W0) (by first | exact below_regrown _ _ _ | exact Below.refl _ _ | go_grown) hb; subst hq''; clear hb))
      | (go_at_call 23; ((with_reducible refine (owOk_at  _).mono ?_); rintro e w' ⟨rfl, hb⟩; obtain ⟨⟨dq, osq⟩, hq''⟩ := regrown_on (W0 := W0) (by first | exact below_regrown _ _ _ | exact Below.refl _ _ | go_grown) hb; subst hq''; clear hb))
      | (go_at_call 27; ((with_reducible refine (ok_s_at Ob.out _).mono ?_); rintro e w' ⟨rfl, hb⟩; obtain ⟨⟨dq, osq⟩, hq''⟩ := regrown_on (W0 := W0) (by first | exact below_regrown _ _ _ | exact Below.refl _ _ | go_grown) hb; subst hq''; clear hb))
      | (go_at_call 28; ((with_reducible refine (has_at U.out _).mono ?_); rintro e w' ⟨rfl, hb⟩; obtain ⟨⟨dq, osq⟩, hq''⟩ := regrown_on (W0 := W0) (by first | exact below_regrown _ _ _ | exact Below.refl _ _ | go_grown) hb; subst hq''; clear hb))
      | (go_at_call 25; ((with_reducible refine (in_at Iaa.out _).mono ?_); rintro e w' ⟨rfl, hb⟩; obtain ⟨⟨dq, osq⟩, hq''⟩ := regrown_on (W0 := W0) (by first | exact below_regrown _ _ _ | exact Below.refl _ _ | go_grown) hb; subst hq''; clear hb))
      | (go_at_call 29; ((with_reducible refine (itvAll_i  _).mono ?_); rintro e w' ⟨rfl, hb⟩; obtain ⟨⟨dq, osq⟩, hq''⟩ := regrown_on (W0 := W0) (by first | exact below_regrown _ _ _ | exact Below.refl _ _ | go_grown) hb; subst hq''; clear hb))
      | (go_at_call 25; ((with_reducible refine (in_at Iall.out _).mono ?_); rintro e w' ⟨rfl, hb⟩; obtain ⟨⟨dq, osq⟩, hq''⟩ := regrown_on (W0 := W0) (by first | exact below_regrown _ _ _ | exact Below.refl _ _ | go_grown) hb; subst hq''; clear hb))
      | (go_at_call 28; ((with_reducible refine (has_at V.out _).mono ?_); rintro e w' ⟨rfl, hb⟩; obtain ⟨⟨dq, osq⟩, hq''⟩ := regrown_on (W0 := W0) (by first | exact below_regrown _ _ _ | exact Below.refl _ _ | go_grown) hb; subst hq''; clear hb)))
          all_goals (try ((refine region_below (W0 := W0) mixed_ok (by kernel_rfl) (by first | exact below_regrown _ _ _ | exact Below.refl _ _ | go_grown) ?_); (repeat (go_big_quiet_step ((first | (go_at_call 26; with_reducible exact Calls.regrown_of (in_s_at Hx.out _)) | (go_at_call 25; with_reducible exact Calls.regrown_of (in_at Hy.out _)) | (go_at_call 26; with_reducible exact Calls.regrown_of (in_s_at Hy.out _)) | (go_at_call 27; with_reducible exact Calls.regrown_of (ok_s_at Oa.out _)) | (go_at_call 23; with_reducible exact Calls.regrown_of (owOk_at  _)) | (go_at_call 27; with_reducible exact Calls.regrown_of (ok_s_at Ob.out _)) | (go_at_call 28; with_reducible exact Calls.regrown_of (has_at U.out _)) | (go_at_call 25; with_reducible exact Calls.regrown_of (in_at Iaa.out _)) | (go_at_call 29; with_reducible exact Calls.regrown_of (itvAll_i  _)) | (go_at_call 25; with_reducible exact Calls.regrown_of (in_at Iall.out _)) | (go_at_call 28; with_reducible exact Calls.regrown_of (has_at V.out _)))))); (refine wpQuiet_nil ?_); (intro _ hq'); (obtain ⟨⟨dq, osq⟩, hq''⟩ := hq'); (subst hq'')))
          all_goals go_wp2_with (first
      | (go_at_call 26; ((with_reducible refine (in_s_at Hx.out _).mono ?_); rintro e w' ⟨rfl, hb⟩; obtain ⟨⟨dq, osq⟩, hq''⟩ := regrown_on (W0 := W0) (by first | exact below_regrown _ _ _ | exact Below.refl _ _ | go_grown) hb; subst hq''; clear hb))
      | (go_at_call 25; ((with_reducible refine (in_at Hy.out _).mono ?_); rintro e w' ⟨rfl, hb⟩; obtain ⟨⟨dq, osq⟩, hq''⟩ := regrown_on (W0 := W0) (by first | exact below_regrown _ _ _ | exact Below.refl _ _ | go_grown) hb; subst hq''; clear hb))
      | (go_at_call 26; ((with_reducible refine (in_s_at Hy.out _).mono ?_); rintro e w' ⟨rfl, hb⟩; obtain ⟨⟨dq, osq⟩, hq''⟩ := regrown_on (W0 := W0) (by first | exact below_regrown _ _ _ | exact Below.refl _ _ | go_grown) hb; subst hq''; clear hb))
      | (go_at_call 27; ((with_reducible refine (ok_s_at Oa.out _).mono ?_); rintro e w' ⟨rfl, hb⟩; obtain ⟨⟨dq, osq⟩, hq''⟩ := regrown_on (W0 := W0) (by first | exact below_regrown _ _ _ | exact Below.refl _ _ | go_grown) hb; subst hq''; clear hb))
      | (go_at_call 23; ((with_reducible refine (owOk_at  _).mono ?_); rintro e w' ⟨rfl, hb⟩; obtain ⟨⟨dq, osq⟩, hq''⟩ := regrown_on (W0 := W0) (by first | exact below_regrown _ _ _ | exact Below.refl _ _ | go_grown) hb; subst hq''; clear hb))
      | (go_at_call 27; ((with_reducible refine (ok_s_at Ob.out _).mono ?_); rintro e w' ⟨rfl, hb⟩; obtain ⟨⟨dq, osq⟩, hq''⟩ := regrown_on (W0 := W0) (by first | exact below_regrown _ _ _ | exact Below.refl _ _ | go_grown) hb; subst hq''; clear hb))
      | (go_at_call 28; ((with_reducible refine (has_at U.out _).mono ?_); rintro e w' ⟨rfl, hb⟩; obtain ⟨⟨dq, osq⟩, hq''⟩ := regrown_on (W0 := W0) (by first | exact below_regrown _ _ _ | exact Below.refl _ _ | go_grown) hb; subst hq''; clear hb))
      | (go_at_call 25; ((with_reducible refine (in_at Iaa.out _).mono ?_); rintro e w' ⟨rfl, hb⟩; obtain ⟨⟨dq, osq⟩, hq''⟩ := regrown_on (W0 := W0) (by first | exact below_regrown _ _ _ | exact Below.refl _ _ | go_grown) hb; subst hq''; clear hb))
      | (go_at_call 29; ((with_reducible refine (itvAll_i  _).mono ?_); rintro e w' ⟨rfl, hb⟩; obtain ⟨⟨dq, osq⟩, hq''⟩ := regrown_on (W0 := W0) (by first | exact below_regrown _ _ _ | exact Below.refl _ _ | go_grown) hb; subst hq''; clear hb))
      | (go_at_call 25; ((with_reducible refine (in_at Iall.out _).mono ?_); rintro e w' ⟨rfl, hb⟩; obtain ⟨⟨dq, osq⟩, hq''⟩ := regrown_on (W0 := W0) (by first | exact below_regrown _ _ _ | exact Below.refl _ _ | go_grown) hb; subst hq''; clear hb))
      | (go_at_call 28; ((with_reducible refine (has_at V.out _).mono ?_); rintro e w' ⟨rfl, hb⟩; obtain ⟨⟨dq, osq⟩, hq''⟩ := regrown_on (W0 := W0) (by first | exact below_regrown _ _ _ | exact Below.refl _ _ | go_grown) hb; subst hq''; clear hb)))
          all_goals (refine (join_at Hj.out _).mono ?_)
          all_goals rintro e wJ ⟨rfl, hbJ⟩
          all_goals have hBJ : Below W0.heap.size W0 wJ := below_on (by first | exact below_regrown _ _ _ | exact Below.refl _ _ | go_grown) hbJ
          all_goals clear hbJ
          all_goals have d0 := keep_alloc (.cells #[.int .i64 jl, .int .i64 jh] 34) ((hBJ.cell (p := ⟨wA.heap.size, 0, none⟩) (blk c0)).trans c0)
          all_goals have d1 := keep_alloc (.cells #[.int .i64 jl, .int .i64 jh] 34) ((hBJ.cell (p := ⟨wA.heap.size, 1, none⟩) (blk c1)).trans c1)
          all_goals have d2 := keep_alloc (.cells #[.int .i64 jl, .int .i64 jh] 34) ((hBJ.cell (p := ⟨wA.heap.size + 1, 0, none⟩) (blk c2)).trans c2)
          all_goals have d3 := keep_alloc (.cells #[.int .i64 jl, .int .i64 jh] 34) ((hBJ.cell (p := ⟨wA.heap.size + 1, 1, none⟩) (blk c3)).trans c3)
          all_goals have d4 := keep_alloc (.cells #[.int .i64 jl, .int .i64 jh] 34) ((hBJ.cell (p := ⟨wB.heap.size, 0, none⟩) (blk c4)).trans c4)
          all_goals have d5 := keep_alloc (.cells #[.int .i64 jl, .int .i64 jh] 34) ((hBJ.cell (p := ⟨wB.heap.size, 1, none⟩) (blk c5)).trans c5)
          all_goals have d6 := keep_alloc (.cells #[.int .i64 jl, .int .i64 jh] 34) ((hBJ.cell (p := ⟨wB.heap.size + 1, 0, none⟩) (blk c6)).trans c6)
          all_goals have d7 := keep_alloc (.cells #[.int .i64 jl, .int .i64 jh] 34) ((hBJ.cell (p := ⟨wB.heap.size + 1, 1, none⟩) (blk c7)).trans c7)
          all_goals have e0 : (wJ.alloc (.cells #[.int .i64 jl, .int .i64 jh] 34)).cell? ⟨wJ.heap.size, 0, none⟩ = some (.int .i64 jl) := by simp [go_sem]
          all_goals have e1 : (wJ.alloc (.cells #[.int .i64 jl, .int .i64 jh] 34)).cell? ⟨wJ.heap.size, 1, none⟩ = some (.int .i64 jh) := by simp [go_sem]
          all_goals have hB1 := hBJ.alloc hBJ.size (.cells #[.int .i64 jl, .int .i64 jh] 34)
          all_goals clear hBJ
          all_goals go_wp2_with fail
          all_goals generalize wJ.alloc (.cells #[.int .i64 jl, .int .i64 jh] 34) = W1 at *
          all_goals have kd0 := cell_regrown d0
          all_goals have kd1 := cell_regrown d1
          all_goals have kd2 := cell_regrown d2
          all_goals have kd3 := cell_regrown d3
          all_goals have kd4 := cell_regrown d4
          all_goals have kd5 := cell_regrown d5
          all_goals have kd6 := cell_regrown d6
          all_goals have kd7 := cell_regrown d7
          all_goals have ke0 := cell_regrown e0
          all_goals have ke1 := cell_regrown e1
          all_goals go_wp2_with (first
      | (go_at_call 23; ((with_reducible refine (owOk_at  _).mono ?_); rintro e w' ⟨rfl, hb⟩; obtain ⟨⟨dq, osq⟩, hq''⟩ := regrown_on (W0 := W1) (by first | exact below_regrown _ _ _ | exact Below.refl _ _ | go_grown) hb; subst hq''; clear hb)))
          all_goals (go_ret; exact ⟨rfl, below_on hB0 (below_on hB1 (by first | exact below_regrown _ _ _ | exact Below.refl _ _ | go_grown))⟩)

      · have ex : x = false := Hx.out.symm.trans (by rw [hh, u]; rfl)
        subst ex
        have U := Lib.hid u
        clear ha hb hh hj u
        all_goals go_wp2_with (first
      | (go_at_call 26; ((with_reducible refine (in_s_at Hx.out _).mono ?_); rintro e w' ⟨rfl, hb⟩; obtain ⟨⟨dq, osq⟩, hq''⟩ := regrown_on (W0 := W0) (by first | exact below_regrown _ _ _ | exact Below.refl _ _ | go_grown) hb; subst hq''; clear hb))
      | (go_at_call 25; ((with_reducible refine (in_at Hy.out _).mono ?_); rintro e w' ⟨rfl, hb⟩; obtain ⟨⟨dq, osq⟩, hq''⟩ := regrown_on (W0 := W0) (by first | exact below_regrown _ _ _ | exact Below.refl _ _ | go_grown) hb; subst hq''; clear hb))
      | (go_at_call 26; ((with_reducible refine (in_s_at Hy.out _).mono ?_); rintro e w' ⟨rfl, hb⟩; obtain ⟨⟨dq, osq⟩, hq''⟩ := regrown_on (W0 := W0) (by first | exact below_regrown _ _ _ | exact Below.refl _ _ | go_grown) hb; subst hq''; clear hb))
      | (go_at_call 27; ((with_reducible refine (ok_s_at Oa.out _).mono ?_); rintro e w' ⟨rfl, hb⟩; obtain ⟨⟨dq, osq⟩, hq''⟩ := regrown_on (W0 := W0) (by first | exact below_regrown _ _ _ | exact Below.refl _ _ | go_grown) hb; subst hq''; clear hb))
      | (go_at_call 23; ((with_reducible refine (owOk_at  _).mono ?_); rintro e w' ⟨rfl, hb⟩; obtain ⟨⟨dq, osq⟩, hq''⟩ := regrown_on (W0 := W0) (by first | exact below_regrown _ _ _ | exact Below.refl _ _ | go_grown) hb; subst hq''; clear hb))
      | (go_at_call 27; ((with_reducible refine (ok_s_at Ob.out _).mono ?_); rintro e w' ⟨rfl, hb⟩; obtain ⟨⟨dq, osq⟩, hq''⟩ := regrown_on (W0 := W0) (by first | exact below_regrown _ _ _ | exact Below.refl _ _ | go_grown) hb; subst hq''; clear hb))
      | (go_at_call 28; ((with_reducible refine (has_at U.out _).mono ?_); rintro e w' ⟨rfl, hb⟩; obtain ⟨⟨dq, osq⟩, hq''⟩ := regrown_on (W0 := W0) (by first | exact below_regrown _ _ _ | exact Below.refl _ _ | go_grown) hb; subst hq''; clear hb))
      | (go_at_call 25; ((with_reducible refine (in_at Iaa.out _).mono ?_); rintro e w' ⟨rfl, hb⟩; obtain ⟨⟨dq, osq⟩, hq''⟩ := regrown_on (W0 := W0) (by first | exact below_regrown _ _ _ | exact Below.refl _ _ | go_grown) hb; subst hq''; clear hb))
      | (go_at_call 29; ((with_reducible refine (itvAll_i  _).mono ?_); rintro e w' ⟨rfl, hb⟩; obtain ⟨⟨dq, osq⟩, hq''⟩ := regrown_on (W0 := W0) (by first | exact below_regrown _ _ _ | exact Below.refl _ _ | go_grown) hb; subst hq''; clear hb))
      | (go_at_call 25; ((with_reducible refine (in_at Iall.out _).mono ?_); rintro e w' ⟨rfl, hb⟩; obtain ⟨⟨dq, osq⟩, hq''⟩ := regrown_on (W0 := W0) (by first | exact below_regrown _ _ _ | exact Below.refl _ _ | go_grown) hb; subst hq''; clear hb)))
        all_goals (try ((refine region_below (W0 := W0) mixed_ok (by kernel_rfl) (by first | exact below_regrown _ _ _ | exact Below.refl _ _ | go_grown) ?_); (repeat (go_big_quiet_step ((first | (go_at_call 26; with_reducible exact Calls.regrown_of (in_s_at Hx.out _)) | (go_at_call 25; with_reducible exact Calls.regrown_of (in_at Hy.out _)) | (go_at_call 26; with_reducible exact Calls.regrown_of (in_s_at Hy.out _)) | (go_at_call 27; with_reducible exact Calls.regrown_of (ok_s_at Oa.out _)) | (go_at_call 23; with_reducible exact Calls.regrown_of (owOk_at  _)) | (go_at_call 27; with_reducible exact Calls.regrown_of (ok_s_at Ob.out _)) | (go_at_call 28; with_reducible exact Calls.regrown_of (has_at U.out _)) | (go_at_call 25; with_reducible exact Calls.regrown_of (in_at Iaa.out _)) | (go_at_call 29; with_reducible exact Calls.regrown_of (itvAll_i  _)) | (go_at_call 25; with_reducible exact Calls.regrown_of (in_at Iall.out _)))))); (refine wpQuiet_nil ?_); (intro _ hq'); (obtain ⟨⟨dq, osq⟩, hq''⟩ := hq'); (subst hq'')))
        all_goals go_wp2_with (first
      | (go_at_call 26; ((with_reducible refine (in_s_at Hx.out _).mono ?_); rintro e w' ⟨rfl, hb⟩; obtain ⟨⟨dq, osq⟩, hq''⟩ := regrown_on (W0 := W0) (by first | exact below_regrown _ _ _ | exact Below.refl _ _ | go_grown) hb; subst hq''; clear hb))
      | (go_at_call 25; ((with_reducible refine (in_at Hy.out _).mono ?_); rintro e w' ⟨rfl, hb⟩; obtain ⟨⟨dq, osq⟩, hq''⟩ := regrown_on (W0 := W0) (by first | exact below_regrown _ _ _ | exact Below.refl _ _ | go_grown) hb; subst hq''; clear hb))
      | (go_at_call 26; ((with_reducible refine (in_s_at Hy.out _).mono ?_); rintro e w' ⟨rfl, hb⟩; obtain ⟨⟨dq, osq⟩, hq''⟩ := regrown_on (W0 := W0) (by first | exact below_regrown _ _ _ | exact Below.refl _ _ | go_grown) hb; subst hq''; clear hb))
      | (go_at_call 27; ((with_reducible refine (ok_s_at Oa.out _).mono ?_); rintro e w' ⟨rfl, hb⟩; obtain ⟨⟨dq, osq⟩, hq''⟩ := regrown_on (W0 := W0) (by first | exact below_regrown _ _ _ | exact Below.refl _ _ | go_grown) hb; subst hq''; clear hb))
      | (go_at_call 23; ((with_reducible refine (owOk_at  _).mono ?_); rintro e w' ⟨rfl, hb⟩; obtain ⟨⟨dq, osq⟩, hq''⟩ := regrown_on (W0 := W0) (by first | exact below_regrown _ _ _ | exact Below.refl _ _ | go_grown) hb; subst hq''; clear hb))
      | (go_at_call 27; ((with_reducible refine (ok_s_at Ob.out _).mono ?_); rintro e w' ⟨rfl, hb⟩; obtain ⟨⟨dq, osq⟩, hq''⟩ := regrown_on (W0 := W0) (by first | exact below_regrown _ _ _ | exact Below.refl _ _ | go_grown) hb; subst hq''; clear hb))
      | (go_at_call 28; ((with_reducible refine (has_at U.out _).mono ?_); rintro e w' ⟨rfl, hb⟩; obtain ⟨⟨dq, osq⟩, hq''⟩ := regrown_on (W0 := W0) (by first | exact below_regrown _ _ _ | exact Below.refl _ _ | go_grown) hb; subst hq''; clear hb))
      | (go_at_call 25; ((with_reducible refine (in_at Iaa.out _).mono ?_); rintro e w' ⟨rfl, hb⟩; obtain ⟨⟨dq, osq⟩, hq''⟩ := regrown_on (W0 := W0) (by first | exact below_regrown _ _ _ | exact Below.refl _ _ | go_grown) hb; subst hq''; clear hb))
      | (go_at_call 29; ((with_reducible refine (itvAll_i  _).mono ?_); rintro e w' ⟨rfl, hb⟩; obtain ⟨⟨dq, osq⟩, hq''⟩ := regrown_on (W0 := W0) (by first | exact below_regrown _ _ _ | exact Below.refl _ _ | go_grown) hb; subst hq''; clear hb))
      | (go_at_call 25; ((with_reducible refine (in_at Iall.out _).mono ?_); rintro e w' ⟨rfl, hb⟩; obtain ⟨⟨dq, osq⟩, hq''⟩ := regrown_on (W0 := W0) (by first | exact below_regrown _ _ _ | exact Below.refl _ _ | go_grown) hb; subst hq''; clear hb)))
        all_goals (try ((refine region_below (W0 := W0) mixed_ok (by kernel_rfl) (by first | exact below_regrown _ _ _ | exact Below.refl _ _ | go_grown) ?_); (repeat (go_big_quiet_step ((first | (go_at_call 26; with_reducible exact Calls.regrown_of (in_s_at Hx.out _)) | (go_at_call 25; with_reducible exact Calls.regrown_of (in_at Hy.out _)) | (go_at_call 26; with_reducible exact Calls.regrown_of (in_s_at Hy.out _)) | (go_at_call 27; with_reducible exact Calls.regrown_of (ok_s_at Oa.out _)) | (go_at_call 23; with_reducible exact Calls.regrown_of (owOk_at  _)) | (go_at_call 27; with_reducible exact Calls.regrown_of (ok_s_at Ob.out _)) | (go_at_call 28; with_reducible exact Calls.regrown_of (has_at U.out _)) | (go_at_call 25; with_reducible exact Calls.regrown_of (in_at Iaa.out _)) | (go_at_call 29; with_reducible exact Calls.regrown_of (itvAll_i  _)) | (go_at_call 25; with_reducible exact Calls.regrown_of (in_at Iall.out _)))))); (refine wpQuiet_nil ?_); (intro _ hq'); (obtain ⟨⟨dq, osq⟩, hq''⟩ := hq'); (subst hq'')))
        all_goals go_wp2_with (first
      | (go_at_call 26; ((with_reducible refine (in_s_at Hx.out _).mono ?_); rintro e w' ⟨rfl, hb⟩; obtain ⟨⟨dq, osq⟩, hq''⟩ := regrown_on (W0 := W0) (by first | exact below_regrown _ _ _ | exact Below.refl _ _ | go_grown) hb; subst hq''; clear hb))
      | (go_at_call 25; ((with_reducible refine (in_at Hy.out _).mono ?_); rintro e w' ⟨rfl, hb⟩; obtain ⟨⟨dq, osq⟩, hq''⟩ := regrown_on (W0 := W0) (by first | exact below_regrown _ _ _ | exact Below.refl _ _ | go_grown) hb; subst hq''; clear hb))
      | (go_at_call 26; ((with_reducible refine (in_s_at Hy.out _).mono ?_); rintro e w' ⟨rfl, hb⟩; obtain ⟨⟨dq, osq⟩, hq''⟩ := regrown_on (W0 := W0) (by first | exact below_regrown _ _ _ | exact Below.refl _ _ | go_grown) hb; subst hq''; clear hb))
      | (go_at_call 27; ((with_reducible refine (ok_s_at Oa.out _).mono ?_); rintro e w' ⟨rfl, hb⟩; obtain ⟨⟨dq, osq⟩, hq''⟩ := regrown_on (W0 := W0) (by first | exact below_regrown _ _ _ | exact Below.refl _ _ | go_grown) hb; subst hq''; clear hb))
      | (go_at_call 23; ((with_reducible refine (owOk_at  _).mono ?_); rintro e w' ⟨rfl, hb⟩; obtain ⟨⟨dq, osq⟩, hq''⟩ := regrown_on (W0 := W0) (by first | exact below_regrown _ _ _ | exact Below.refl _ _ | go_grown) hb; subst hq''; clear hb))
      | (go_at_call 27; ((with_reducible refine (ok_s_at Ob.out _).mono ?_); rintro e w' ⟨rfl, hb⟩; obtain ⟨⟨dq, osq⟩, hq''⟩ := regrown_on (W0 := W0) (by first | exact below_regrown _ _ _ | exact Below.refl _ _ | go_grown) hb; subst hq''; clear hb))
      | (go_at_call 28; ((with_reducible refine (has_at U.out _).mono ?_); rintro e w' ⟨rfl, hb⟩; obtain ⟨⟨dq, osq⟩, hq''⟩ := regrown_on (W0 := W0) (by first | exact below_regrown _ _ _ | exact Below.refl _ _ | go_grown) hb; subst hq''; clear hb))
      | (go_at_call 25; ((with_reducible refine (in_at Iaa.out _).mono ?_); rintro e w' ⟨rfl, hb⟩; obtain ⟨⟨dq, osq⟩, hq''⟩ := regrown_on (W0 := W0) (by first | exact below_regrown _ _ _ | exact Below.refl _ _ | go_grown) hb; subst hq''; clear hb))
      | (go_at_call 29; ((with_reducible refine (itvAll_i  _).mono ?_); rintro e w' ⟨rfl, hb⟩; obtain ⟨⟨dq, osq⟩, hq''⟩ := regrown_on (W0 := W0) (by first | exact below_regrown _ _ _ | exact Below.refl _ _ | go_grown) hb; subst hq''; clear hb))
      | (go_at_call 25; ((with_reducible refine (in_at Iall.out _).mono ?_); rintro e w' ⟨rfl, hb⟩; obtain ⟨⟨dq, osq⟩, hq''⟩ := regrown_on (W0 := W0) (by first | exact below_regrown _ _ _ | exact Below.refl _ _ | go_grown) hb; subst hq''; clear hb)))
        all_goals (refine (join_at Hj.out _).mono ?_)
        all_goals rintro e wJ ⟨rfl, hbJ⟩
        all_goals have hBJ : Below W0.heap.size W0 wJ := below_on (by first | exact below_regrown _ _ _ | exact Below.refl _ _ | go_grown) hbJ
        all_goals clear hbJ
        all_goals have d0 := keep_alloc (.cells #[.int .i64 jl, .int .i64 jh] 34) ((hBJ.cell (p := ⟨wA.heap.size, 0, none⟩) (blk c0)).trans c0)
        all_goals have d1 := keep_alloc (.cells #[.int .i64 jl, .int .i64 jh] 34) ((hBJ.cell (p := ⟨wA.heap.size, 1, none⟩) (blk c1)).trans c1)
        all_goals have d2 := keep_alloc (.cells #[.int .i64 jl, .int .i64 jh] 34) ((hBJ.cell (p := ⟨wA.heap.size + 1, 0, none⟩) (blk c2)).trans c2)
        all_goals have d3 := keep_alloc (.cells #[.int .i64 jl, .int .i64 jh] 34) ((hBJ.cell (p := ⟨wA.heap.size + 1, 1, none⟩) (blk c3)).trans c3)
        all_goals have d4 := keep_alloc (.cells #[.int .i64 jl, .int .i64 jh] 34) ((hBJ.cell (p := ⟨wB.heap.size, 0, none⟩) (blk c4)).trans c4)
        all_goals have d5 := keep_alloc (.cells #[.int .i64 jl, .int .i64 jh] 34) ((hBJ.cell (p := ⟨wB.heap.size, 1, none⟩) (blk c5)).trans c5)
        all_goals have d6 := keep_alloc (.cells #[.int .i64 jl, .int .i64 jh] 34) ((hBJ.cell (p := ⟨wB.heap.size + 1, 0, none⟩) (blk c6)).trans c6)
        all_goals have d7 := keep_alloc (.cells #[.int .i64 jl, .int .i64 jh] 34) ((hBJ.cell (p := ⟨wB.heap.size + 1, 1, none⟩) (blk c7)).trans c7)
        all_goals have e0 : (wJ.alloc (.cells #[.int .i64 jl, .int .i64 jh] 34)).cell? ⟨wJ.heap.size, 0, none⟩ = some (.int .i64 jl) := by simp [go_sem]
        all_goals have e1 : (wJ.alloc (.cells #[.int .i64 jl, .int .i64 jh] 34)).cell? ⟨wJ.heap.size, 1, none⟩ = some (.int .i64 jh) := by simp [go_sem]
        all_goals have hB1 := hBJ.alloc hBJ.size (.cells #[.int .i64 jl, .int .i64 jh] 34)
        all_goals clear hBJ
        all_goals go_wp2_with fail
        all_goals generalize wJ.alloc (.cells #[.int .i64 jl, .int .i64 jh] 34) = W1 at *
        all_goals have kd0 := cell_regrown d0
        all_goals have kd1 := cell_regrown d1
        all_goals have kd2 := cell_regrown d2
        all_goals have kd3 := cell_regrown d3
        all_goals have kd4 := cell_regrown d4
        all_goals have kd5 := cell_regrown d5
        all_goals have kd6 := cell_regrown d6
        all_goals have kd7 := cell_regrown d7
        all_goals have ke0 := cell_regrown e0
        all_goals have ke1 := cell_regrown e1
        all_goals go_wp2_with (first
      | (go_at_call 23; ((with_reducible refine (owOk_at  _).mono ?_); rintro e w' ⟨rfl, hb⟩; obtain ⟨⟨dq, osq⟩, hq''⟩ := regrown_on (W0 := W1) (by first | exact below_regrown _ _ _ | exact Below.refl _ _ | go_grown) hb; subst hq''; clear hb)))
        all_goals (go_ret; exact ⟨rfl, below_on hB0 (below_on hB1 (by first | exact below_regrown _ _ _ | exact Below.refl _ _ | go_grown))⟩)

    · have ex : x = false := Hx.out.symm.trans (by
        have h2 : ¬ (inI (al, ah) (bl, bh) = true) := fun h => hab ⟨((inI_iff _ _).1 h).1, ((inI_iff _ _).1 h).2.1⟩
        simpa using h2)
      subst ex
      rcases Bool.eq_false_or_eq_true (okI (al, ah)) with ha | ha
      · have hb : okI (bl, bh) = false := by
          rcases Bool.eq_false_or_eq_true (okI (bl, bh)) with hb | hb
          · exact absurd ⟨ha, hb⟩ hab
          · exact hb
        have Oa := Lib.hid ha
        have Ob := Lib.hid hb
        clear ha hb hab
        all_goals go_wp2_with (first
      | (go_at_call 26; ((with_reducible refine (in_s_at Hx.out _).mono ?_); rintro e w' ⟨rfl, hb⟩; obtain ⟨⟨dq, osq⟩, hq''⟩ := regrown_on (W0 := W0) (by first | exact below_regrown _ _ _ | exact Below.refl _ _ | go_grown) hb; subst hq''; clear hb))
      | (go_at_call 25; ((with_reducible refine (in_at Hy.out _).mono ?_); rintro e w' ⟨rfl, hb⟩; obtain ⟨⟨dq, osq⟩, hq''⟩ := regrown_on (W0 := W0) (by first | exact below_regrown _ _ _ | exact Below.refl _ _ | go_grown) hb; subst hq''; clear hb))
      | (go_at_call 26; ((with_reducible refine (in_s_at Hy.out _).mono ?_); rintro e w' ⟨rfl, hb⟩; obtain ⟨⟨dq, osq⟩, hq''⟩ := regrown_on (W0 := W0) (by first | exact below_regrown _ _ _ | exact Below.refl _ _ | go_grown) hb; subst hq''; clear hb))
      | (go_at_call 27; ((with_reducible refine (ok_s_at Oa.out _).mono ?_); rintro e w' ⟨rfl, hb⟩; obtain ⟨⟨dq, osq⟩, hq''⟩ := regrown_on (W0 := W0) (by first | exact below_regrown _ _ _ | exact Below.refl _ _ | go_grown) hb; subst hq''; clear hb))
      | (go_at_call 23; ((with_reducible refine (owOk_at  _).mono ?_); rintro e w' ⟨rfl, hb⟩; obtain ⟨⟨dq, osq⟩, hq''⟩ := regrown_on (W0 := W0) (by first | exact below_regrown _ _ _ | exact Below.refl _ _ | go_grown) hb; subst hq''; clear hb))
      | (go_at_call 27; ((with_reducible refine (ok_s_at Ob.out _).mono ?_); rintro e w' ⟨rfl, hb⟩; obtain ⟨⟨dq, osq⟩, hq''⟩ := regrown_on (W0 := W0) (by first | exact below_regrown _ _ _ | exact Below.refl _ _ | go_grown) hb; subst hq''; clear hb)))
        all_goals (try ((refine region_below (W0 := W0) mixed_ok (by kernel_rfl) (by first | exact below_regrown _ _ _ | exact Below.refl _ _ | go_grown) ?_); (repeat (go_big_quiet_step ((first | (go_at_call 26; with_reducible exact Calls.regrown_of (in_s_at Hx.out _)) | (go_at_call 25; with_reducible exact Calls.regrown_of (in_at Hy.out _)) | (go_at_call 26; with_reducible exact Calls.regrown_of (in_s_at Hy.out _)) | (go_at_call 27; with_reducible exact Calls.regrown_of (ok_s_at Oa.out _)) | (go_at_call 23; with_reducible exact Calls.regrown_of (owOk_at  _)) | (go_at_call 27; with_reducible exact Calls.regrown_of (ok_s_at Ob.out _)))))); (refine wpQuiet_nil ?_); (intro _ hq'); (obtain ⟨⟨dq, osq⟩, hq''⟩ := hq'); (subst hq'')))
        all_goals go_wp2_with (first
      | (go_at_call 26; ((with_reducible refine (in_s_at Hx.out _).mono ?_); rintro e w' ⟨rfl, hb⟩; obtain ⟨⟨dq, osq⟩, hq''⟩ := regrown_on (W0 := W0) (by first | exact below_regrown _ _ _ | exact Below.refl _ _ | go_grown) hb; subst hq''; clear hb))
      | (go_at_call 25; ((with_reducible refine (in_at Hy.out _).mono ?_); rintro e w' ⟨rfl, hb⟩; obtain ⟨⟨dq, osq⟩, hq''⟩ := regrown_on (W0 := W0) (by first | exact below_regrown _ _ _ | exact Below.refl _ _ | go_grown) hb; subst hq''; clear hb))
      | (go_at_call 26; ((with_reducible refine (in_s_at Hy.out _).mono ?_); rintro e w' ⟨rfl, hb⟩; obtain ⟨⟨dq, osq⟩, hq''⟩ := regrown_on (W0 := W0) (by first | exact below_regrown _ _ _ | exact Below.refl _ _ | go_grown) hb; subst hq''; clear hb))
      | (go_at_call 27; ((with_reducible refine (ok_s_at Oa.out _).mono ?_); rintro e w' ⟨rfl, hb⟩; obtain ⟨⟨dq, osq⟩, hq''⟩ := regrown_on (W0 := W0) (by first | exact below_regrown _ _ _ | exact Below.refl _ _ | go_grown) hb; subst hq''; clear hb))
      | (go_at_call 23; ((with_reducible refine (owOk_at  _).mono ?_); rintro e w' ⟨rfl, hb⟩; obtain ⟨⟨dq, osq⟩, hq''⟩ := regrown_on (W0 := W0) (by first | exact below_regrown _ _ _ | exact Below.refl _ _ | go_grown) hb; subst hq''; clear hb))
      | (go_at_call 27; ((with_reducible refine (ok_s_at Ob.out _).mono ?_); rintro e w' ⟨rfl, hb⟩; obtain ⟨⟨dq, osq⟩, hq''⟩ := regrown_on (W0 := W0) (by first | exact below_regrown _ _ _ | exact Below.refl _ _ | go_grown) hb; subst hq''; clear hb)))
        all_goals (go_ret; exact ⟨rfl, below_on hB0 (by first | exact below_regrown _ _ _ | exact Below.refl _ _ | go_grown)⟩)
      · have Oa := Lib.hid ha
        clear ha hab
        all_goals go_wp2_with (first
      | (go_at_call 26; ((with_reducible refine (in_s_at Hx.out _).mono ?_); rintro e w' ⟨rfl, hb⟩; obtain ⟨⟨dq, osq⟩, hq''⟩ := regrown_on (W0 := W0) (by first | exact below_regrown _ _ _ | exact Below.refl _ _ | go_grown) hb; subst hq''; clear hb))
      | (go_at_call 25; ((with_reducible refine (in_at Hy.out _).mono ?_); rintro e w' ⟨rfl, hb⟩; obtain ⟨⟨dq, osq⟩, hq''⟩ := regrown_on (W0 := W0) (by first | exact below_regrown _ _ _ | exact Below.refl _ _ | go_grown) hb; subst hq''; clear hb))
      | (go_at_call 26; ((with_reducible refine (in_s_at Hy.out _).mono ?_); rintro e w' ⟨rfl, hb⟩; obtain ⟨⟨dq, osq⟩, hq''⟩ := regrown_on (W0 := W0) (by first | exact below_regrown _ _ _ | exact Below.refl _ _ | go_grown) hb; subst hq''; clear hb))
      | (go_at_call 27; ((with_reducible refine (ok_s_at Oa.out _).mono ?_); rintro e w' ⟨rfl, hb⟩; obtain ⟨⟨dq, osq⟩, hq''⟩ := regrown_on (W0 := W0) (by first | exact below_regrown _ _ _ | exact Below.refl _ _ | go_grown) hb; subst hq''; clear hb))
      | (go_at_call 23; ((with_reducible refine (owOk_at  _).mono ?_); rintro e w' ⟨rfl, hb⟩; obtain ⟨⟨dq, osq⟩, hq''⟩ := regrown_on (W0 := W0) (by first | exact below_regrown _ _ _ | exact Below.refl _ _ | go_grown) hb; subst hq''; clear hb)))
        all_goals (try ((refine region_below (W0 := W0) mixed_ok (by kernel_rfl) (by first | exact below_regrown _ _ _ | exact Below.refl _ _ | go_grown) ?_); (repeat (go_big_quiet_step ((first | (go_at_call 26; with_reducible exact Calls.regrown_of (in_s_at Hx.out _)) | (go_at_call 25; with_reducible exact Calls.regrown_of (in_at Hy.out _)) | (go_at_call 26; with_reducible exact Calls.regrown_of (in_s_at Hy.out _)) | (go_at_call 27; with_reducible exact Calls.regrown_of (ok_s_at Oa.out _)) | (go_at_call 23; with_reducible exact Calls.regrown_of (owOk_at  _)))))); (refine wpQuiet_nil ?_); (intro _ hq'); (obtain ⟨⟨dq, osq⟩, hq''⟩ := hq'); (subst hq'')))
        all_goals go_wp2_with (first
      | (go_at_call 26; ((with_reducible refine (in_s_at Hx.out _).mono ?_); rintro e w' ⟨rfl, hb⟩; obtain ⟨⟨dq, osq⟩, hq''⟩ := regrown_on (W0 := W0) (by first | exact below_regrown _ _ _ | exact Below.refl _ _ | go_grown) hb; subst hq''; clear hb))
      | (go_at_call 25; ((with_reducible refine (in_at Hy.out _).mono ?_); rintro e w' ⟨rfl, hb⟩; obtain ⟨⟨dq, osq⟩, hq''⟩ := regrown_on (W0 := W0) (by first | exact below_regrown _ _ _ | exact Below.refl _ _ | go_grown) hb; subst hq''; clear hb))
      | (go_at_call 26; ((with_reducible refine (in_s_at Hy.out _).mono ?_); rintro e w' ⟨rfl, hb⟩; obtain ⟨⟨dq, osq⟩, hq''⟩ := regrown_on (W0 := W0) (by first | exact below_regrown _ _ _ | exact Below.refl _ _ | go_grown) hb; subst hq''; clear hb))
      | (go_at_call 27; ((with_reducible refine (ok_s_at Oa.out _).mono ?_); rintro e w' ⟨rfl, hb⟩; obtain ⟨⟨dq, osq⟩, hq''⟩ := regrown_on (W0 := W0) (by first | exact below_regrown _ _ _ | exact Below.refl _ _ | go_grown) hb; subst hq''; clear hb))
      | (go_at_call 23; ((with_reducible refine (owOk_at  _).mono ?_); rintro e w' ⟨rfl, hb⟩; obtain ⟨⟨dq, osq⟩, hq''⟩ := regrown_on (W0 := W0) (by first | exact below_regrown _ _ _ | exact Below.refl _ _ | go_grown) hb; subst hq''; clear hb)))
        all_goals (go_ret; exact ⟨rfl, below_on hB0 (by first | exact below_regrown _ _ _ | exact Below.refl _ _ | go_grown)⟩)
/-! ### The row, off the walk -/
set_option maxRecDepth 100000 in
theorem lifted (os : Os) (started : os.Started) (H : Type) (enc : TypeId × Value → H) :
    ReturnsInHanded {} Try.checked os 6 .any (Rows.fnItvInSpec.pre6 enc Try.prog Try.f6 Rows.fnItvInRow.domain false) (Rows.fnItvInSpec.post enc Try.prog Try.f6 false true false false) := by
  refine returnsInHanded_of_change (C := Try.checked) own started (by kernel_rfl) Try.func6
    (ChangeSpec.witness6 (enc := enc) (C := Try.checked) false ⟨#[], #[.slice none 0 0, .slice none 0 0], []⟩ 8 (by kernel_rfl) (by kernel_rfl) (by kernel_rfl) (by kernel_rfl)) ?_
  intro W base args ds gs before hval0 hW hcnd _
  have hval : ∀ (j : Nat) t v, Try.f6.params[j]? = some t → args[j]? = some v → Value.okWide Try.prog W .any base t v := hval0
  have hW' := hW
  obtain ⟨p, q, hA0, hV, rfl, hfz, hnd⟩ := hW
  have hA : DataW.TrodAll enc Try.prog W 0 (fun _ => true) true Try.f6.params.toList args.toList ds p := hA0
  rw [Try.params6] at hA hval
  obtain ⟨v0, vs0, d0, ds0, p0, q0, hargs, rfl, rfl, h0, r0⟩ := trodAll_cons hA
  obtain ⟨v1, vs1, d1, ds1, p1, q1, rfl, rfl, rfl, h1, r1⟩ := trodAll_cons r0
  obtain ⟨rfl, rfl, rfl⟩ := trodAll_nil r1
  obtain rfl : args = #[v0, v1] := by cases args; simp_all
  obtain ⟨rfl, rfl⟩ := trodVars_none hV
  have k0 := h0
  have lt0 : ∀ x ∈ p0, x.block < W.heap.size := by obtain ⟨m, hm⟩ := k0; exact DataW.trod_lt m _ _ _ hm
  obtain ⟨a0, len0, cap0, rfl⟩ := okWide_slice Try.underlying22 (hval 0 22 v0 rfl rfl)
  obtain ⟨z0, w0⟩ : ∃ zs, IsRow .u8 W a0 len0 cap0 zs := by
    obtain ⟨fuel, hf⟩ := h0
    rcases open_ints Try.underlying22 Try.underlying5 (by kernel_rfl) hf with ⟨hcs, _⟩ | ⟨x, l, c, zs, hcs, _, hl, hm, hz, _, hcell, hwz⟩
    · simp [Value.cells] at hcs
      obtain ⟨rfl, rfl, rfl⟩ := hcs
      exact ⟨[], .inl ⟨rfl, rfl, rfl, rfl⟩⟩
    · simp [Value.cells] at hcs
      obtain ⟨rfl, rfl, rfl⟩ := hcs
      exact ⟨zs, .inr ⟨_, rfl, hl, hm, by simpa using hz, hcell, hwz⟩⟩
  have k1 := h1
  have lt1 : ∀ x ∈ p1, x.block < W.heap.size := by obtain ⟨m, hm⟩ := k1; exact DataW.trod_lt m _ _ _ hm
  obtain ⟨a1, len1, cap1, rfl⟩ := okWide_slice Try.underlying22 (hval 1 22 v1 rfl rfl)
  obtain ⟨z1, w1⟩ : ∃ zs, IsRow .u8 W a1 len1 cap1 zs := by
    obtain ⟨fuel, hf⟩ := h1
    rcases open_ints Try.underlying22 Try.underlying5 (by kernel_rfl) hf with ⟨hcs, _⟩ | ⟨x, l, c, zs, hcs, _, hl, hm, hz, _, hcell, hwz⟩
    · simp [Value.cells] at hcs
      obtain ⟨rfl, rfl, rfl⟩ := hcs
      exact ⟨[], .inl ⟨rfl, rfl, rfl, rfl⟩⟩
    · simp [Value.cells] at hcs
      obtain ⟨rfl, rfl, rfl⟩ := hcs
      exact ⟨zs, .inr ⟨_, rfl, hl, hm, by simpa using hz, hcell, hwz⟩⟩
  clear hA0 hval0
  refine (walk a0 len0 cap0 z0 a1 len1 cap1 z1 W w0 w1).mono fun e W' ⟨he, bel⟩ => ?_
  subst he
  exact ⟨_, rfl, _, _, _, [], _, [], hW', trodAll_mk1 (shut_bool Try.underlying4 _), (trodAll_cons_mk (Below.trod laidOut (by kernel_rfl) (of_decide_eq_true (by kernel_rfl)) k0 bel lt0) (trodAll_cons_mk (Below.trod laidOut (by kernel_rfl) (of_decide_eq_true (by kernel_rfl)) k1 bel lt1) trodAll_mk0)), rfl, bel.frame _, fun h => by cases h⟩

theorem over : Rows.fnItvInRow.holds Try.pinned (OpenSpec.ofChange Rows.fnItvInSpec) :=
  OpenClaim.holds_of_wide 6 Try.f6 rfl rfl rfl rfl rfl rfl rfl ⟨rfl, rfl, rfl, rfl, rfl⟩ rfl rfl rfl rfl rfl (by kernel_rfl) Try.func6 (by kernel_rfl)
    (of_decide_eq_true (by kernel_rfl)) (by unfold Func.isWrapper; rw [if_neg (of_decide_eq_false (by kernel_rfl))]; exact ⟨rfl, rfl⟩)
    (fun os started H enc _ => lifted os started H enc)

/-- The given statement. -/
theorem proved : Rows.FnItvInSaid := over
#print axioms proved
end Go.Proofs.Ytbkfhlppcocamaa.fnItvIn
