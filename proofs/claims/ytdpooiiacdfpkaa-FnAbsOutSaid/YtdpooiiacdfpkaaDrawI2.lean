/-
  The reference's draws of instructions, on: l20SpoilIns, l20InsOr. No conditions but bounds on how far the reader has come.
-/
import Derived.Test.YtdpooiiacdfpkaaDrawI
namespace Go.Proofs.Ytdpooiiacdfpkaa
set_option linter.unusedSimpArgs false
set_option linter.unusedVariables false
open Go.ChangeShapes Go.WideShapes Go.ChangeAt Go.RowKit Go.Sort

/-- An instruction that is being drawn, in the variable's block V; the result's block R is still empty. -/
structure LK (W : World) (rb R V : Nat) (p : Int) (wr : World) : Prop where
  rd : Rd wr rb p
  but : But rb W wr
  res : Blk wr R 24 #[.int .i64 0, .int .i64 0, .int .i64 0, .int .i64 0, .int .i64 0, .int .i64 0, .int .i64 0, .int .i64 0]
  var : InsB wr V
  hR : W.heap.size ≤ R
  hV : W.heap.size ≤ V
  hn : R ≠ V
  hr : rb < W.heap.size
section
variable {w w' W : World} {rb R V g : Nat} {p p' : Int}
theorem LK.next (h : LK W rb R V p w) (hR : Rd w' rb p') (hb : But rb w w') : LK W rb R V p' w' := by
  have h1 := h.hr; have h2 := h.hR; have h3 := h.hV
  obtain ⟨i0, i1, i2, i3, i4, i5, i6, i7, hv⟩ := h.var
  exact ⟨hR, h.but.trans hb, h.res.but hb (by omega), ⟨i0, i1, i2, i3, i4, i5, i6, i7, hv.but hb (by omega)⟩, h2, h3, h.hn, h1⟩
theorem LK.put (h : LK W rb R V p w) (a0 a1 a2 a3 a4 a5 a6 a7 : Int) : LK W rb R V p ((((((((w.setCell ⟨V, 0, none⟩ (.int .i64 a0)).setCell ⟨V, 1, none⟩ (.int .i64 a1)).setCell ⟨V, 2, none⟩ (.int .i64 a2)).setCell ⟨V, 3, none⟩ (.int .i64 a3)).setCell ⟨V, 4, none⟩ (.int .i64 a4)).setCell ⟨V, 5, none⟩ (.int .i64 a5)).setCell ⟨V, 6, none⟩ (.int .i64 a6)).setCell ⟨V, 7, none⟩ (.int .i64 a7)) := by
  have h1 := h.hr; have h2 := h.hR; have h3 := h.hV
  obtain ⟨i0, i1, i2, i3, i4, i5, i6, i7, hv⟩ := h.var
  exact ⟨h.rd.put8 (by omega) _ _ _ _ _ _ _ _, h.but.put8 (by omega) _ _ _ _ _ _ _ _, h.res.far8 h.hn _ _ _ _ _ _ _ _, ⟨_, _, _, _, _, _, _, _, hv.put8 _ _ _ _ _ _ _ _⟩, h2, h3, h.hn, h1⟩
theorem InsB.set (h : InsB w V) {k : Nat} (hk : k < 8) (y : Int) : InsB (w.setCell ⟨V, k, none⟩ (.int .i64 y)) V := by
  obtain ⟨i0, i1, i2, i3, i4, i5, i6, i7, hv⟩ := h
  have e := hv.set_ k (.int .i64 y)
  match k, hk, e with
  | 0, _, e => exact ⟨y, i1, i2, i3, i4, i5, i6, i7, by simpa only [List.setIfInBounds_toArray, List.set_cons_zero, List.set_cons_succ] using e⟩
  | 1, _, e => exact ⟨i0, y, i2, i3, i4, i5, i6, i7, by simpa only [List.setIfInBounds_toArray, List.set_cons_zero, List.set_cons_succ] using e⟩
  | 2, _, e => exact ⟨i0, i1, y, i3, i4, i5, i6, i7, by simpa only [List.setIfInBounds_toArray, List.set_cons_zero, List.set_cons_succ] using e⟩
  | 3, _, e => exact ⟨i0, i1, i2, y, i4, i5, i6, i7, by simpa only [List.setIfInBounds_toArray, List.set_cons_zero, List.set_cons_succ] using e⟩
  | 4, _, e => exact ⟨i0, i1, i2, i3, y, i5, i6, i7, by simpa only [List.setIfInBounds_toArray, List.set_cons_zero, List.set_cons_succ] using e⟩
  | 5, _, e => exact ⟨i0, i1, i2, i3, i4, y, i6, i7, by simpa only [List.setIfInBounds_toArray, List.set_cons_zero, List.set_cons_succ] using e⟩
  | 6, _, e => exact ⟨i0, i1, i2, i3, i4, i5, y, i7, by simpa only [List.setIfInBounds_toArray, List.set_cons_zero, List.set_cons_succ] using e⟩
  | 7, _, e => exact ⟨i0, i1, i2, i3, i4, i5, i6, y, by simpa only [List.setIfInBounds_toArray, List.set_cons_zero, List.set_cons_succ] using e⟩
theorem LK.set (h : LK W rb R V p w) {k : Nat} (hk : k < 8) (y : Int) : LK W rb R V p (w.setCell ⟨V, k, none⟩ (.int .i64 y)) := by
  have h1 := h.hr; have h2 := h.hR; have h3 := h.hV
  exact ⟨h.rd.setCell (by simp only []; omega) _, h.but.setCell (.inr (by simp only []; omega)) _, h.res.far (by simp only []; exact h.hn) _, h.var.set hk y, h2, h3, h.hn, h1⟩
theorem LK.done (h : LK W rb R V p w) (a0 a1 a2 a3 a4 a5 a6 a7 : Int) : Rd ((((((((w.setCell ⟨R, 0, none⟩ (.int .i64 a0)).setCell ⟨R, 1, none⟩ (.int .i64 a1)).setCell ⟨R, 2, none⟩ (.int .i64 a2)).setCell ⟨R, 3, none⟩ (.int .i64 a3)).setCell ⟨R, 4, none⟩ (.int .i64 a4)).setCell ⟨R, 5, none⟩ (.int .i64 a5)).setCell ⟨R, 6, none⟩ (.int .i64 a6)).setCell ⟨R, 7, none⟩ (.int .i64 a7)) rb p ∧ But rb W ((((((((w.setCell ⟨R, 0, none⟩ (.int .i64 a0)).setCell ⟨R, 1, none⟩ (.int .i64 a1)).setCell ⟨R, 2, none⟩ (.int .i64 a2)).setCell ⟨R, 3, none⟩ (.int .i64 a3)).setCell ⟨R, 4, none⟩ (.int .i64 a4)).setCell ⟨R, 5, none⟩ (.int .i64 a5)).setCell ⟨R, 6, none⟩ (.int .i64 a6)).setCell ⟨R, 7, none⟩ (.int .i64 a7)) := ⟨h.rd.put8 (by have := h.hr; have := h.hR; omega) _ _ _ _ _ _ _ _, h.but.put8 h.hR _ _ _ _ _ _ _ _⟩
theorem LK.ltV (h : LK W rb R V p w) : V < w.heap.size := by
  obtain ⟨i0, i1, i2, i3, i4, i5, i6, i7, hv⟩ := h.var
  exact hv.lt
theorem Blk.one {t : TypeId} {cs : Array Value} (h : Blk w g t cs) (i : Nat) {v : Value} (hv : cs[i]? = some v) : w.cell? ⟨g, i, none⟩ = some v := (h.cell i).trans hv
end
theorem lt7 {x : Int} (h : Pick 7 x) : x = 0 ∨ x = 1 ∨ x = 2 ∨ x = 3 ∨ x = 4 ∨ x = 5 ∨ x = 6 := by have := h.1; have := h.2.1 (by omega); omega
set_option maxRecDepth 100000 in
set_option maxHeartbeats 8000000 in
theorem l20SpoilIns_s (rb : Nat) (p i0 i1 i2 i3 i4 i5 i6 i7 : Int) (w : World) (h : Rd w rb p) (hp : p ≤ 999999600) :
    Calls Try.prog 53 #[.pointer (some ⟨rb, 0, none⟩), .agg #[.int .i64 i0, .int .i64 i1, .int .i64 i2, .int .i64 i3, .int .i64 i4, .int .i64 i5, .int .i64 i6, .int .i64 i7]] w (DrawIns rb p 2 w) := by
  have hrb := h.lt
  go_enter Try.func53, Try.ntmps53
  go_wp2_with fail
  refine (pick_s rb p 7 _ ((h.alloc _).alloc _) (by omega) (by unfold I64; omega)).mono ?_
  rintro e w1 ⟨x, p1, rfl, hx, hq1, hq2, hR1, hb1⟩
  have hL : LK w rb (w.heap.size + 1) w.heap.size p1 w1 := ⟨hR1, (((But.refl rb w).alloc _).alloc _).trans hb1, (Blk.new_at (by simp only [World.size_alloc])).but hb1 (by omega), ⟨i0, i1, i2, i3, i4, i5, i6, i7, ((Blk.new w _ _).alloc _).but hb1 (by omega)⟩, by omega, by omega, by omega, hrb⟩
  have HL := Lib.hid hL
  clear hL hR1 hb1 h
  go_upto_block 0 with fail
  go_cut [7] from 7 to 60 (fun s7 wx => ∃ W, W = wx ∧ ∃ p2 : Int, p1 ≤ p2 ∧ p2 ≤ p1 + 1 ∧ LK w rb (w.heap.size + 1) w.heap.size p2 wx)
  case first =>
    rcases lt7 hx with rfl | rfl | rfl | rfl | rfl | rfl | rfl
    · clear hx
      go_wp2_with fail
      refine (pick_s rb p1 3 _ (HL.out.rd.alloc _) (by omega) (by unfold I64; omega)).mono ?_
      rintro e w2 ⟨x, p2, rfl, hx, hq3, hq4, hR2, hb2⟩
      have kT := (Blk.new w1 _ _).but hb2 (by have := HL.out.rd.lt; omega)
      have hL := HL.out.next hR2 (((But.refl _ _).alloc _).trans hb2)
      have HM := Lib.hid hL
      clear HL hR2 hb2 hL
      have HL := HM
      clear HM
      obtain ⟨i0, i1, i2, i3, i4, i5, i6, i7, hv⟩ := HL.out.var; obtain ⟨c0, c1, c2, c3, c4, c5, c6, c7⟩ := hv.eight; obtain ⟨f0, f1, f2, f3, f4, f5, f6, f7⟩ := hv.free8; clear hv
      have t0 := kT.one 0 rfl
      have t1 := kT.one 1 rfl
      have t2 := kT.one 2 rfl
      clear kT
      rcases lt3 hx with rfl | rfl | rfl
      all_goals (clear hx; go_wp2_with fail; go_meet; exact ⟨_, rfl, p2, by omega, by omega, HL.out.set (by omega) _⟩)
    · clear hx
      go_wp2_with fail
      refine (pick_s rb p1 2 _ (HL.out.rd.alloc _) (by omega) (by unfold I64; omega)).mono ?_
      rintro e w2 ⟨x, p2, rfl, hx, hq3, hq4, hR2, hb2⟩
      have kT := (Blk.new w1 _ _).but hb2 (by have := HL.out.rd.lt; omega)
      have hL := HL.out.next hR2 (((But.refl _ _).alloc _).trans hb2)
      have HM := Lib.hid hL
      clear HL hR2 hb2 hL
      have HL := HM
      clear HM
      obtain ⟨i0, i1, i2, i3, i4, i5, i6, i7, hv⟩ := HL.out.var; obtain ⟨c0, c1, c2, c3, c4, c5, c6, c7⟩ := hv.eight; obtain ⟨f0, f1, f2, f3, f4, f5, f6, f7⟩ := hv.free8; clear hv
      have t0 := kT.one 0 rfl
      have t1 := kT.one 1 rfl
      clear kT
      rcases lt2 hx with rfl | rfl
      all_goals (clear hx; go_wp2_with fail; go_meet; exact ⟨_, rfl, p2, by omega, by omega, HL.out.set (by omega) _⟩)
    · clear hx
      go_wp2_with fail
      refine (pick_s rb p1 3 _ (HL.out.rd.alloc _) (by omega) (by unfold I64; omega)).mono ?_
      rintro e w2 ⟨x, p2, rfl, hx, hq3, hq4, hR2, hb2⟩
      have kT := (Blk.new w1 _ _).but hb2 (by have := HL.out.rd.lt; omega)
      have hL := HL.out.next hR2 (((But.refl _ _).alloc _).trans hb2)
      have HM := Lib.hid hL
      clear HL hR2 hb2 hL
      have HL := HM
      clear HM
      obtain ⟨i0, i1, i2, i3, i4, i5, i6, i7, hv⟩ := HL.out.var; obtain ⟨c0, c1, c2, c3, c4, c5, c6, c7⟩ := hv.eight; obtain ⟨f0, f1, f2, f3, f4, f5, f6, f7⟩ := hv.free8; clear hv
      have t0 := kT.one 0 rfl
      have t1 := kT.one 1 rfl
      have t2 := kT.one 2 rfl
      clear kT
      rcases lt3 hx with rfl | rfl | rfl
      all_goals (clear hx; go_wp2_with fail; go_meet; exact ⟨_, rfl, p2, by omega, by omega, HL.out.set (by omega) _⟩)
    · clear hx
      go_wp2_with fail
      refine (pick_s rb p1 3 _ (HL.out.rd.alloc _) (by omega) (by unfold I64; omega)).mono ?_
      rintro e w2 ⟨x, p2, rfl, hx, hq3, hq4, hR2, hb2⟩
      have kT := (Blk.new w1 _ _).but hb2 (by have := HL.out.rd.lt; omega)
      have hL := HL.out.next hR2 (((But.refl _ _).alloc _).trans hb2)
      have HM := Lib.hid hL
      clear HL hR2 hb2 hL
      have HL := HM
      clear HM
      obtain ⟨i0, i1, i2, i3, i4, i5, i6, i7, hv⟩ := HL.out.var; obtain ⟨c0, c1, c2, c3, c4, c5, c6, c7⟩ := hv.eight; obtain ⟨f0, f1, f2, f3, f4, f5, f6, f7⟩ := hv.free8; clear hv
      have t0 := kT.one 0 rfl
      have t1 := kT.one 1 rfl
      have t2 := kT.one 2 rfl
      clear kT
      rcases lt3 hx with rfl | rfl | rfl
      all_goals (clear hx; go_wp2_with fail; go_meet; exact ⟨_, rfl, p2, by omega, by omega, HL.out.set (by omega) _⟩)
    · clear hx
      go_wp2_with fail
      refine (pick_s rb p1 3 _ (HL.out.rd.alloc _) (by omega) (by unfold I64; omega)).mono ?_
      rintro e w2 ⟨x, p2, rfl, hx, hq3, hq4, hR2, hb2⟩
      have kT := (Blk.new w1 _ _).but hb2 (by have := HL.out.rd.lt; omega)
      have hL := HL.out.next hR2 (((But.refl _ _).alloc _).trans hb2)
      have HM := Lib.hid hL
      clear HL hR2 hb2 hL
      have HL := HM
      clear HM
      obtain ⟨i0, i1, i2, i3, i4, i5, i6, i7, hv⟩ := HL.out.var; obtain ⟨c0, c1, c2, c3, c4, c5, c6, c7⟩ := hv.eight; obtain ⟨f0, f1, f2, f3, f4, f5, f6, f7⟩ := hv.free8; clear hv
      have t0 := kT.one 0 rfl
      have t1 := kT.one 1 rfl
      have t2 := kT.one 2 rfl
      clear kT
      rcases lt3 hx with rfl | rfl | rfl
      all_goals (clear hx; go_wp2_with fail; go_meet; exact ⟨_, rfl, p2, by omega, by omega, HL.out.set (by omega) _⟩)
    · clear hx
      go_wp2_with fail
      refine (pick_s rb p1 3 _ (HL.out.rd.alloc _) (by omega) (by unfold I64; omega)).mono ?_
      rintro e w2 ⟨x, p2, rfl, hx, hq3, hq4, hR2, hb2⟩
      have kT := (Blk.new w1 _ _).but hb2 (by have := HL.out.rd.lt; omega)
      have hL := HL.out.next hR2 (((But.refl _ _).alloc _).trans hb2)
      have HM := Lib.hid hL
      clear HL hR2 hb2 hL
      have HL := HM
      clear HM
      obtain ⟨i0, i1, i2, i3, i4, i5, i6, i7, hv⟩ := HL.out.var; obtain ⟨c0, c1, c2, c3, c4, c5, c6, c7⟩ := hv.eight; obtain ⟨f0, f1, f2, f3, f4, f5, f6, f7⟩ := hv.free8; clear hv
      have t0 := kT.one 0 rfl
      have t1 := kT.one 1 rfl
      have t2 := kT.one 2 rfl
      clear kT
      rcases lt3 hx with rfl | rfl | rfl
      all_goals (clear hx; go_wp2_with fail; go_meet; exact ⟨_, rfl, p2, by omega, by omega, HL.out.set (by omega) _⟩)
    · clear hx
      go_wp2_with fail
      refine (pick_s rb p1 4 _ (HL.out.rd.alloc _) (by omega) (by unfold I64; omega)).mono ?_
      rintro e w2 ⟨x, p2, rfl, hx, hq3, hq4, hR2, hb2⟩
      have kT := (Blk.new w1 _ _).but hb2 (by have := HL.out.rd.lt; omega)
      have hL := HL.out.next hR2 (((But.refl _ _).alloc _).trans hb2)
      have HM := Lib.hid hL
      clear HL hR2 hb2 hL
      have HL := HM
      clear HM
      obtain ⟨i0, i1, i2, i3, i4, i5, i6, i7, hv⟩ := HL.out.var; obtain ⟨c0, c1, c2, c3, c4, c5, c6, c7⟩ := hv.eight; obtain ⟨f0, f1, f2, f3, f4, f5, f6, f7⟩ := hv.free8; clear hv
      have t0 := kT.one 0 rfl
      have t1 := kT.one 1 rfl
      have t2 := kT.one 2 rfl
      have t3 := kT.one 3 rfl
      clear kT
      rcases lt4 hx with rfl | rfl | rfl | rfl
      all_goals (clear hx; go_wp2_with fail; go_meet; exact ⟨_, rfl, p2, by omega, by omega, HL.out.set (by omega) _⟩)
  case rest =>
    obtain ⟨W2, rfl, p2, hq3, hq4, hL⟩ := hcut
    have HL := Lib.hid hL
    clear hL hx
    obtain ⟨j0, j1, j2, j3, j4, j5, j6, j7, hv⟩ := HL.out.var; obtain ⟨c0, c1, c2, c3, c4, c5, c6, c7⟩ := hv.eight; obtain ⟨f0, f1, f2, f3, f4, f5, f6, f7⟩ := hv.free8; clear hv
    obtain ⟨r0, r1, r2, r3, r4, r5, r6, r7⟩ := HL.out.res.eight; obtain ⟨s0, s1, s2, s3, s4, s5, s6, s7⟩ := HL.out.res.free8
    go_wp2_with fail
    refine bodyPost_ret (by simp [results, Try.results53, go_sem, *]; try rfl) rfl ?_
    unfold DrawIns
    exact ⟨_, _, _, _, _, _, _, _, p2, rfl, by omega, by omega, (HL.out.done _ _ _ _ _ _ _ _).1, (HL.out.done _ _ _ _ _ _ _ _).2⟩
set_option maxRecDepth 100000 in
set_option maxHeartbeats 8000000 in
theorem l20InsOr_s (rb : Nat) (p n : Int) (w : World) (h : Rd w rb p) (hp : p ≤ 999999500) (hn : I64 n) :
    Calls Try.prog 29 #[.pointer (some ⟨rb, 0, none⟩), .int .i64 n] w (DrawIns rb p 50 w) := by
  have hrb := h.lt
  go_enter Try.func29, Try.ntmps29
  go_wp2_with fail
  refine (l20Ins_s rb p _ (h.alloc _) (by omega)).mono ?_
  rintro e w1 ⟨k0, k1, k2, k3, k4, k5, k6, k7, p1, rfl, hq1, hq2, hR1, hb1⟩
  have hz1 := hb1.size
  simp only [World.size_alloc] at hz1
  have hL : LK w rb w.heap.size w1.heap.size p1 (w1.alloc (.cells #[.int .i64 k0, .int .i64 k1, .int .i64 k2, .int .i64 k3, .int .i64 k4, .int .i64 k5, .int .i64 k6, .int .i64 k7] 24)) := ⟨hR1.alloc _, (((But.refl rb w).alloc _).trans hb1).alloc _, ((Blk.new w _ _).but hb1 (by omega)).alloc _, ⟨_, _, _, _, _, _, _, _, Blk.new _ _ _⟩, by omega, by omega, by omega, hrb⟩
  have HL := Lib.hid hL
  clear hL hR1 hb1 h
  go_wp2_with fail
  refine (odd_s rb p1 9 _ HL.out.rd (by omega) (by unfold I64; omega)).mono ?_
  rintro e w2 ⟨x, p2, rfl, hq3, hq4, hR2, hb2⟩
  have HM := Lib.hid (HL.out.next hR2 hb2); clear HL hR2 hb2; have HL := HM; clear HM
  have hzV := HL.out.ltV
  cases x
  · go_wp2_with fail
    refine (odd_s rb p2 n _ HL.out.rd (by omega) hn).mono ?_
    rintro e w4 ⟨y, p4, rfl, hq7, hq8, hR4, hb4⟩
    have HM := Lib.hid (HL.out.next hR4 hb4); clear HL hR4 hb4; have HL := HM; clear HM
    cases y
    · obtain ⟨i0, i1, i2, i3, i4, i5, i6, i7, hv⟩ := HL.out.var; obtain ⟨c0, c1, c2, c3, c4, c5, c6, c7⟩ := hv.eight; obtain ⟨f0, f1, f2, f3, f4, f5, f6, f7⟩ := hv.free8; clear hv
      obtain ⟨r0, r1, r2, r3, r4, r5, r6, r7⟩ := HL.out.res.eight; obtain ⟨s0, s1, s2, s3, s4, s5, s6, s7⟩ := HL.out.res.free8
      go_wp2_with fail
      refine bodyPost_ret (by simp [results, Try.results29, go_sem, *]; try rfl) rfl ?_
      unfold DrawIns
      exact ⟨_, _, _, _, _, _, _, _, p4, rfl, by omega, by omega, (HL.out.done _ _ _ _ _ _ _ _).1, (HL.out.done _ _ _ _ _ _ _ _).2⟩
    · obtain ⟨i0, i1, i2, i3, i4, i5, i6, i7, hv⟩ := HL.out.var; obtain ⟨c0, c1, c2, c3, c4, c5, c6, c7⟩ := hv.eight; obtain ⟨f0, f1, f2, f3, f4, f5, f6, f7⟩ := hv.free8; clear hv
      go_wp2_with fail
      refine (l20SpoilIns_s rb p4 _ _ _ _ _ _ _ _ _ HL.out.rd (by omega)).mono ?_
      rintro e w5 ⟨m0, m1, m2, m3, m4, m5, m6, m7, p5, rfl, hq9, hq10, hR5, hb5⟩
      clear c0 c1 c2 c3 c4 c5 c6 c7 f0 f1 f2 f3 f4 f5 f6 f7
      have HM := Lib.hid (HL.out.next hR5 hb5); clear HL hR5 hb5; have HL := HM; clear HM
      obtain ⟨r0, r1, r2, r3, r4, r5, r6, r7⟩ := HL.out.res.eight; obtain ⟨s0, s1, s2, s3, s4, s5, s6, s7⟩ := HL.out.res.free8
      go_wp2_with fail
      refine bodyPost_ret (by simp [results, Try.results29, go_sem, *]; try rfl) rfl ?_
      unfold DrawIns
      exact ⟨_, _, _, _, _, _, _, _, p5, rfl, by omega, by omega, (HL.out.done _ _ _ _ _ _ _ _).1, (HL.out.done _ _ _ _ _ _ _ _).2⟩
  · go_wp2_with fail
    refine (pick_s rb p2 4 _ HL.out.rd (by omega) (by unfold I64; omega)).mono ?_
    rintro e w3 ⟨x, p3, rfl, hx, hq5, hq6, hR3, hb3⟩
    have HM := Lib.hid (HL.out.next hR3 hb3); clear HL hR3 hb3; have HL := HM; clear HM
    clear hx
    obtain ⟨i0, i1, i2, i3, i4, i5, i6, i7, hv⟩ := HL.out.var; obtain ⟨c0, c1, c2, c3, c4, c5, c6, c7⟩ := hv.eight; obtain ⟨f0, f1, f2, f3, f4, f5, f6, f7⟩ := hv.free8; clear hv
    go_upto_region 4 with fail
    have HM := Lib.hid (HL.out.put 12 0 x 0 0 0 0 0)
    clear HL c0 c1 c2 c3 c4 c5 c6 c7 f0 f1 f2 f3 f4 f5 f6 f7
    have HL := HM
    clear HM
    generalize ((((((((w3.setCell ⟨w1.heap.size, 0, none⟩ (.int .i64 12)).setCell ⟨w1.heap.size, 1, none⟩ (.int .i64 0)).setCell ⟨w1.heap.size, 2, none⟩ (.int .i64 x)).setCell ⟨w1.heap.size, 3, none⟩ (.int .i64 0)).setCell ⟨w1.heap.size, 4, none⟩ (.int .i64 0)).setCell ⟨w1.heap.size, 5, none⟩ (.int .i64 0)).setCell ⟨w1.heap.size, 6, none⟩ (.int .i64 0)).setCell ⟨w1.heap.size, 7, none⟩ (.int .i64 0)) = w6 at *
    go_wp2_with fail
    refine (odd_s rb p3 n _ HL.out.rd (by omega) hn).mono ?_
    rintro e w4 ⟨y, p4, rfl, hq7, hq8, hR4, hb4⟩
    have HM := Lib.hid (HL.out.next hR4 hb4); clear HL hR4 hb4; have HL := HM; clear HM
    cases y
    · obtain ⟨i0, i1, i2, i3, i4, i5, i6, i7, hv⟩ := HL.out.var; obtain ⟨c0, c1, c2, c3, c4, c5, c6, c7⟩ := hv.eight; obtain ⟨f0, f1, f2, f3, f4, f5, f6, f7⟩ := hv.free8; clear hv
      obtain ⟨r0, r1, r2, r3, r4, r5, r6, r7⟩ := HL.out.res.eight; obtain ⟨s0, s1, s2, s3, s4, s5, s6, s7⟩ := HL.out.res.free8
      go_wp2_with fail
      refine bodyPost_ret (by simp [results, Try.results29, go_sem, *]; try rfl) rfl ?_
      unfold DrawIns
      exact ⟨_, _, _, _, _, _, _, _, p4, rfl, by omega, by omega, (HL.out.done _ _ _ _ _ _ _ _).1, (HL.out.done _ _ _ _ _ _ _ _).2⟩
    · obtain ⟨i0, i1, i2, i3, i4, i5, i6, i7, hv⟩ := HL.out.var; obtain ⟨c0, c1, c2, c3, c4, c5, c6, c7⟩ := hv.eight; obtain ⟨f0, f1, f2, f3, f4, f5, f6, f7⟩ := hv.free8; clear hv
      go_wp2_with fail
      refine (l20SpoilIns_s rb p4 _ _ _ _ _ _ _ _ _ HL.out.rd (by omega)).mono ?_
      rintro e w5 ⟨m0, m1, m2, m3, m4, m5, m6, m7, p5, rfl, hq9, hq10, hR5, hb5⟩
      clear c0 c1 c2 c3 c4 c5 c6 c7 f0 f1 f2 f3 f4 f5 f6 f7
      have HM := Lib.hid (HL.out.next hR5 hb5); clear HL hR5 hb5; have HL := HM; clear HM
      obtain ⟨r0, r1, r2, r3, r4, r5, r6, r7⟩ := HL.out.res.eight; obtain ⟨s0, s1, s2, s3, s4, s5, s6, s7⟩ := HL.out.res.free8
      go_wp2_with fail
      refine bodyPost_ret (by simp [results, Try.results29, go_sem, *]; try rfl) rfl ?_
      unfold DrawIns
      exact ⟨_, _, _, _, _, _, _, _, p5, rfl, by omega, by omega, (HL.out.done _ _ _ _ _ _ _ _).1, (HL.out.done _ _ _ _ _ _ _ _).2⟩
end Go.Proofs.Ytdpooiiacdfpkaa
