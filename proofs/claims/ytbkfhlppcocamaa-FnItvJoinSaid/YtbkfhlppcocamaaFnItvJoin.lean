/-
  FnItvJoin: for every input the law returns true, and its arguments read as before. No conditions.
-/
import Derived.Test.YtbkfhlppcocamaaAt
import Derived.Test.YtbkfhlppcocamaaLaws
namespace Go.Proofs.Ytbkfhlppcocamaa.fnItvJoin
set_option linter.unusedSimpArgs false
set_option linter.unusedVariables false
open Go.ChangeShapes Go.WideShapes Go.ChangeAt Go.RowKit
open Go.ChangeMaps (open_string shut_string)

theorem cset {W : World} {p a : Addr} {u : Value} (hn : a.block ≠ p.block) : (W.setCell p u).cell? a = W.cell? a := World.cell?_of_block (w := W) (Below.heap_setCell W p u a.block hn)
theorem keep_under {W W' : World} {a : Addr} {v : Value} {o o' : Obj} (h : (W.alloc o).cell? a = some v) (hl : a.block < W.heap.size) (hs : W'.heap.size = W.heap.size) (k : W'.cell? a = W.cell? a) : (W'.alloc o').cell? a = some v := by
  rw [World.cell?_alloc_lt _ _ _ hl] at h
  rw [World.cell?_alloc_lt _ _ _ (by omega), k, h]
theorem below_under {w W W' : World} {o o' : Obj} (h : Below w.heap.size w (W.alloc o)) (hl : w.heap.size ≤ W.heap.size) (k : Below w.heap.size W W') : Below w.heap.size w (W'.alloc o') := by
  have k0 : Below w.heap.size w W := ⟨h.os, h.tape, h.output, hl, fun i hi => by rw [← Below.heap_alloc W o i (by omega)]; exact h.block i hi⟩
  exact (k0.trans k).alloc (by have := k.size; omega) o'

theorem keep_realloc2 {W : World} {a : Addr} {v : Value} {o o' o2 : Obj} (h : ((W.alloc o).alloc o2).cell? a = some v) (hl : a.block < W.heap.size) : ((W.alloc o').alloc o2).cell? a = some v := by
  rw [World.cell?_alloc_lt _ _ _ (by rw [World.size_alloc]; omega), World.cell?_alloc_lt _ _ _ hl] at h ⊢; exact h
theorem below_realloc2 {w W : World} {o o' o2 : Obj} (h : Below w.heap.size w ((W.alloc o).alloc o2)) (hl : w.heap.size ≤ W.heap.size) : Below w.heap.size w ((W.alloc o').alloc o2) :=
  ⟨h.os, h.tape, h.output, by simp; omega, fun k hk => by
    rw [Below.heap_alloc _ _ _ (by rw [World.size_alloc]; omega), Below.heap_alloc _ _ _ (by omega), ← Below.heap_alloc W o _ (by omega), ← Below.heap_alloc (W.alloc o) o2 _ (by rw [World.size_alloc]; omega)]; exact h.block k hk⟩
theorem owOk_at (w : World) : Calls Try.prog 23 #[] w fun e w' => e = .returned (.bool true) ∧ Below w.heap.size w w' := (owOk_l w).mono fun e w' h => ⟨h.1, by rw [h.2]; exact Below.refl _ _⟩

set_option maxRecDepth 100000 in
set_option maxHeartbeats 8000000 in
theorem walk (a0 : Option Addr) (len0 cap0 : Nat) (z0 : List Int) (a1 : Option Addr) (len1 cap1 : Nat) (z1 : List Int) (w : World) (w0 : IsRow .u8 w a0 len0 cap0 z0) (w1 : IsRow .u8 w a1 len1 cap1 z1) :
    Calls Try.prog 7 #[.slice a0 len0 cap0, .slice a1 len1 cap1] w fun e w' => e = .returned (.bool true) ∧ Below w.heap.size w w' := by
  go_enter Try.func7, Try.ntmps7
  go_wp2_with fail
  all_goals (try (go_ret; exact ⟨rfl, by go_grown⟩))
  refine (drawItvJoin_s _ _ _ _ _ w0).mono ?_
  rintro e wA ⟨al, ah, bl, bh, rfl, _, _, _, _, hBa⟩
  have hsA := hBa.size
  go_wp2_with fail
  refine (drawItvJoin_s _ _ _ _ _ (((w1.below hBa).alloc _).alloc _)).mono ?_
  rintro e wB ⟨cl, ch, dl, dh, rfl, _, _, _, _, hBb⟩
  have hsB := hBb.size
  have q0 := hBb.cell (p := ⟨wA.heap.size, 0, none⟩) (by simp only [World.size_alloc]; omega)
  have q1 := hBb.cell (p := ⟨wA.heap.size, 1, none⟩) (by simp only [World.size_alloc]; omega)
  have q2 := hBb.cell (p := ⟨wA.heap.size + 1, 0, none⟩) (by simp only [World.size_alloc]; omega)
  have q3 := hBb.cell (p := ⟨wA.heap.size + 1, 1, none⟩) (by simp only [World.size_alloc]; omega)
  simp [go_sem] at q0 q1 q2 q3
  have hBw : Below w.heap.size w wB := below_on ((hBa.alloc hsA _).alloc (by simp only [World.size_alloc]; omega) _) hBb
  have hzw := hBw.size
  simp only [World.size_alloc] at hsB
  have hzA : wA.heap.size < wB.heap.size := by omega
  have hzA1 : wA.heap.size + 1 < wB.heap.size := by omega
  clear hBa hBb hsA hsB
  obtain ⟨⟨jl, jh⟩, hj⟩ : ∃ j, j = joinI (al, ah) (bl, bh) := ⟨_, rfl⟩
  have Hj := Lib.hid hj.symm
  clear hj
  go_upto_region 5 with fail
  go_cut [9] (fun s9 wx => ∃ W, W = wx ∧ ∃ g : Nat, s9 = .pointer (some ⟨g, 0, none⟩) ∧ wx.cell? ⟨g, 0, none⟩ = some (.int .i64 jl) ∧ wx.cell? ⟨g, 1, none⟩ = some (.int .i64 jh) ∧ wx.cell? ⟨wA.heap.size, 0, none⟩ = some (.int .i64 al) ∧ wx.cell? ⟨wA.heap.size, 1, none⟩ = some (.int .i64 ah) ∧ wx.cell? ⟨wA.heap.size + 1, 0, none⟩ = some (.int .i64 bl) ∧ wx.cell? ⟨wA.heap.size + 1, 1, none⟩ = some (.int .i64 bh) ∧ wx.cell? ⟨wB.heap.size, 0, none⟩ = some (.int .i64 cl) ∧ wx.cell? ⟨wB.heap.size, 1, none⟩ = some (.int .i64 ch) ∧ Below w.heap.size w wx)
  case first =>
    go_wp2_with fail
    refine (join_at Hj.out _).mono ?_
    rintro e wC ⟨rfl, hBc⟩
    have r0 := hBc.cell (p := ⟨wA.heap.size, 0, none⟩) (by simp only [World.size_alloc]; omega)
    have r1 := hBc.cell (p := ⟨wA.heap.size, 1, none⟩) (by simp only [World.size_alloc]; omega)
    have r2 := hBc.cell (p := ⟨wA.heap.size + 1, 0, none⟩) (by simp only [World.size_alloc]; omega)
    have r3 := hBc.cell (p := ⟨wA.heap.size + 1, 1, none⟩) (by simp only [World.size_alloc]; omega)
    have r4 := hBc.cell (p := ⟨wB.heap.size, 0, none⟩) (by simp only [World.size_alloc]; omega)
    have r5 := hBc.cell (p := ⟨wB.heap.size, 1, none⟩) (by simp only [World.size_alloc]; omega)
    simp [go_sem, *] at r0 r1 r2 r3 r4 r5
    have hBx : Below w.heap.size w wC := below_on ((hBw.alloc hzw _).alloc (by simp only [World.size_alloc]; omega) _) hBc
    have l0 := blk r0
    have l2 := blk r2
    have l4 := blk r4
    clear hBc
    go_wp2_with fail
    go_meet
    exact ⟨_, rfl, _, rfl, by simp [go_sem], by simp [go_sem], keep_alloc _ r0, keep_alloc _ r1, keep_alloc _ r2, keep_alloc _ r3, keep_alloc _ r4, keep_alloc _ r5, hBx.alloc hBx.size _⟩
  case rest =>
    clear q0 q1 q2 q3 hBw hzA hzA1 hzw
    obtain ⟨W0, rfl, g, rfl, c0, c1, c2, c3, c4, c5, c6, c7, hB0⟩ := hcut
    have hz0 := hB0.size
    have l0 := blk c0
    have l2 := blk c2
    have l4 := blk c4
    have l6 := blk c6
    have hS := s2_mk (Below.refl W0.heap.size W0)
    by_cases hab : okI (al, ah) = true ∧ okI (bl, bh) = true
    · obtain ⟨ha, hb⟩ := hab
      have hj := Hj.out
      have hIa : inI (al, ah) (jl, jh) = true := hj ▸ join_l ha hb
      have hIb : inI (bl, bh) (jl, jh) = true := hj ▸ join_r ha hb
      have hji : joinI (bl, bh) (al, ah) = (jl, jh) := (join_comm _ _).trans hj
      have hoj : okI (jl, jh) = true := hj ▸ join_ok ha hb
      have Oa := Lib.hid ha
      have Ob := Lib.hid hb
      have Ia := Lib.hid hIa
      have Ib := Lib.hid hIb
      have Hji := Lib.hid hji
      by_cases hc : okI (cl, ch) = true
      · obtain ⟨⟨ml, mh⟩, hm⟩ : ∃ m, m = joinI (jl, jh) (cl, ch) := ⟨_, rfl⟩
        obtain ⟨⟨nl, nh⟩, hn⟩ : ∃ m, m = joinI (bl, bh) (cl, ch) := ⟨_, rfl⟩
        have ham : joinI (al, ah) (nl, nh) = (ml, mh) := by rw [hm, hn, ← hj]; exact (join_assoc ha hb hc).symm
        have Hm := Lib.hid hm.symm
        have Hn := Lib.hid hn.symm
        have Ha := Lib.hid ham
        have Oc := Lib.hid hc
        have hlub : inI (al, ah) (cl, ch) = true → inI (bl, bh) (cl, ch) = true → inI (jl, jh) (cl, ch) = true := fun x y => hj ▸ join_lub x y
        rcases Bool.eq_false_or_eq_true (inI (al, ah) (cl, ch)) with x | x
        · rcases Bool.eq_false_or_eq_true (inI (bl, bh) (cl, ch)) with y | y
          · have Xac := Lib.hid x
            have Xbc := Lib.hid y
            have Xjc := Lib.hid (hlub x y)
            clear ha hb hj hIa hIb hji hoj hc hm hn ham hlub x y
            all_goals (try (go_region_held3 (fun w' => Below W0.heap.size W0 w' ∧ (∀ b o, b < W0.heap.size → w'.cell? ⟨b, o, none⟩ = W0.cell? ⟨b, o, none⟩) ∧ W0.heap.size ≤ w'.heap.size) (((try go_split_ands); (refine s2_mk ?_); first | with_reducible assumption | (with_reducible exact below_on (by assumption) hb) | exact (Below.refl _ _).drew | ((with_reducible refine Below.drew ?_); with_reducible assumption))) (first
      | (go_at_call 27; ((with_reducible refine (ok_s_at Oa.out _).mono ?_); rintro e w' ⟨rfl, hb⟩))
      | (go_at_call 27; ((with_reducible refine (ok_s_at Ob.out _).mono ?_); rintro e w' ⟨rfl, hb⟩))
      | (go_at_call 32; ((with_reducible refine (join_s_at Hj.out _).mono ?_); rintro e w' ⟨rfl, hb⟩))
      | (go_at_call 30; ((with_reducible refine (join_at Hj.out _).mono ?_); rintro e w' ⟨rfl, hb⟩))
      | (go_at_call 25; ((with_reducible refine (in_at Ia.out _).mono ?_); rintro e w' ⟨rfl, hb⟩))
      | (go_at_call 25; ((with_reducible refine (in_at Ib.out _).mono ?_); rintro e w' ⟨rfl, hb⟩))
      | (go_at_call 30; ((with_reducible refine (join_at Hji.out _).mono ?_); rintro e w' ⟨rfl, hb⟩))
      | (go_at_call 27; ((with_reducible refine (ok_s_at Oc.out _).mono ?_); rintro e w' ⟨rfl, hb⟩))
      | (go_at_call 23; ((with_reducible refine (owOk_at  _).mono ?_); rintro e w' ⟨rfl, hb⟩))
      | (go_at_call 30; ((with_reducible refine (join_at Hm.out _).mono ?_); rintro e w' ⟨rfl, hb⟩))
      | (go_at_call 30; ((with_reducible refine (join_at Hn.out _).mono ?_); rintro e w' ⟨rfl, hb⟩))
      | (go_at_call 30; ((with_reducible refine (join_at Ha.out _).mono ?_); rintro e w' ⟨rfl, hb⟩))
      | (go_at_call 25; ((with_reducible refine (in_at Xac.out _).mono ?_); rintro e w' ⟨rfl, hb⟩))
      | (go_at_call 25; ((with_reducible refine (in_at Xbc.out _).mono ?_); rintro e w' ⟨rfl, hb⟩))
      | (go_at_call 25; ((with_reducible refine (in_at Xjc.out _).mono ?_); rintro e w' ⟨rfl, hb⟩)))))
            all_goals go_wp2_with (first
      | (go_at_call 27; ((with_reducible refine (ok_s_at Oa.out _).mono ?_); rintro e w' ⟨rfl, hb⟩; have hS := s2_mk (below_on (by (try go_split_ands); first | with_reducible assumption | exact Below.refl _ _ | go_grown) hb); clear hb))
      | (go_at_call 27; ((with_reducible refine (ok_s_at Ob.out _).mono ?_); rintro e w' ⟨rfl, hb⟩; have hS := s2_mk (below_on (by (try go_split_ands); first | with_reducible assumption | exact Below.refl _ _ | go_grown) hb); clear hb))
      | (go_at_call 32; ((with_reducible refine (join_s_at Hj.out _).mono ?_); rintro e w' ⟨rfl, hb⟩; have hS := s2_mk (below_on (by (try go_split_ands); first | with_reducible assumption | exact Below.refl _ _ | go_grown) hb); clear hb))
      | (go_at_call 30; ((with_reducible refine (join_at Hj.out _).mono ?_); rintro e w' ⟨rfl, hb⟩; have hS := s2_mk (below_on (by (try go_split_ands); first | with_reducible assumption | exact Below.refl _ _ | go_grown) hb); clear hb))
      | (go_at_call 25; ((with_reducible refine (in_at Ia.out _).mono ?_); rintro e w' ⟨rfl, hb⟩; have hS := s2_mk (below_on (by (try go_split_ands); first | with_reducible assumption | exact Below.refl _ _ | go_grown) hb); clear hb))
      | (go_at_call 25; ((with_reducible refine (in_at Ib.out _).mono ?_); rintro e w' ⟨rfl, hb⟩; have hS := s2_mk (below_on (by (try go_split_ands); first | with_reducible assumption | exact Below.refl _ _ | go_grown) hb); clear hb))
      | (go_at_call 30; ((with_reducible refine (join_at Hji.out _).mono ?_); rintro e w' ⟨rfl, hb⟩; have hS := s2_mk (below_on (by (try go_split_ands); first | with_reducible assumption | exact Below.refl _ _ | go_grown) hb); clear hb))
      | (go_at_call 27; ((with_reducible refine (ok_s_at Oc.out _).mono ?_); rintro e w' ⟨rfl, hb⟩; have hS := s2_mk (below_on (by (try go_split_ands); first | with_reducible assumption | exact Below.refl _ _ | go_grown) hb); clear hb))
      | (go_at_call 23; ((with_reducible refine (owOk_at  _).mono ?_); rintro e w' ⟨rfl, hb⟩; have hS := s2_mk (below_on (by (try go_split_ands); first | with_reducible assumption | exact Below.refl _ _ | go_grown) hb); clear hb))
      | (go_at_call 30; ((with_reducible refine (join_at Hm.out _).mono ?_); rintro e w' ⟨rfl, hb⟩; have hS := s2_mk (below_on (by (try go_split_ands); first | with_reducible assumption | exact Below.refl _ _ | go_grown) hb); clear hb))
      | (go_at_call 30; ((with_reducible refine (join_at Hn.out _).mono ?_); rintro e w' ⟨rfl, hb⟩; have hS := s2_mk (below_on (by (try go_split_ands); first | with_reducible assumption | exact Below.refl _ _ | go_grown) hb); clear hb))
      | (go_at_call 30; ((with_reducible refine (join_at Ha.out _).mono ?_); rintro e w' ⟨rfl, hb⟩; have hS := s2_mk (below_on (by (try go_split_ands); first | with_reducible assumption | exact Below.refl _ _ | go_grown) hb); clear hb))
      | (go_at_call 25; ((with_reducible refine (in_at Xac.out _).mono ?_); rintro e w' ⟨rfl, hb⟩; have hS := s2_mk (below_on (by (try go_split_ands); first | with_reducible assumption | exact Below.refl _ _ | go_grown) hb); clear hb))
      | (go_at_call 25; ((with_reducible refine (in_at Xbc.out _).mono ?_); rintro e w' ⟨rfl, hb⟩; have hS := s2_mk (below_on (by (try go_split_ands); first | with_reducible assumption | exact Below.refl _ _ | go_grown) hb); clear hb))
      | (go_at_call 25; ((with_reducible refine (in_at Xjc.out _).mono ?_); rintro e w' ⟨rfl, hb⟩; have hS := s2_mk (below_on (by (try go_split_ands); first | with_reducible assumption | exact Below.refl _ _ | go_grown) hb); clear hb)))
            all_goals (try (go_region_held3 (fun w' => Below W0.heap.size W0 w' ∧ (∀ b o, b < W0.heap.size → w'.cell? ⟨b, o, none⟩ = W0.cell? ⟨b, o, none⟩) ∧ W0.heap.size ≤ w'.heap.size) (((try go_split_ands); (refine s2_mk ?_); first | with_reducible assumption | (with_reducible exact below_on (by assumption) hb) | exact (Below.refl _ _).drew | ((with_reducible refine Below.drew ?_); with_reducible assumption))) (first
      | (go_at_call 27; ((with_reducible refine (ok_s_at Oa.out _).mono ?_); rintro e w' ⟨rfl, hb⟩))
      | (go_at_call 27; ((with_reducible refine (ok_s_at Ob.out _).mono ?_); rintro e w' ⟨rfl, hb⟩))
      | (go_at_call 32; ((with_reducible refine (join_s_at Hj.out _).mono ?_); rintro e w' ⟨rfl, hb⟩))
      | (go_at_call 30; ((with_reducible refine (join_at Hj.out _).mono ?_); rintro e w' ⟨rfl, hb⟩))
      | (go_at_call 25; ((with_reducible refine (in_at Ia.out _).mono ?_); rintro e w' ⟨rfl, hb⟩))
      | (go_at_call 25; ((with_reducible refine (in_at Ib.out _).mono ?_); rintro e w' ⟨rfl, hb⟩))
      | (go_at_call 30; ((with_reducible refine (join_at Hji.out _).mono ?_); rintro e w' ⟨rfl, hb⟩))
      | (go_at_call 27; ((with_reducible refine (ok_s_at Oc.out _).mono ?_); rintro e w' ⟨rfl, hb⟩))
      | (go_at_call 23; ((with_reducible refine (owOk_at  _).mono ?_); rintro e w' ⟨rfl, hb⟩))
      | (go_at_call 30; ((with_reducible refine (join_at Hm.out _).mono ?_); rintro e w' ⟨rfl, hb⟩))
      | (go_at_call 30; ((with_reducible refine (join_at Hn.out _).mono ?_); rintro e w' ⟨rfl, hb⟩))
      | (go_at_call 30; ((with_reducible refine (join_at Ha.out _).mono ?_); rintro e w' ⟨rfl, hb⟩))
      | (go_at_call 25; ((with_reducible refine (in_at Xac.out _).mono ?_); rintro e w' ⟨rfl, hb⟩))
      | (go_at_call 25; ((with_reducible refine (in_at Xbc.out _).mono ?_); rintro e w' ⟨rfl, hb⟩))
      | (go_at_call 25; ((with_reducible refine (in_at Xjc.out _).mono ?_); rintro e w' ⟨rfl, hb⟩)))))
            all_goals go_wp2_with (first
      | (go_at_call 27; ((with_reducible refine (ok_s_at Oa.out _).mono ?_); rintro e w' ⟨rfl, hb⟩; have hS := s2_mk (below_on (by (try go_split_ands); first | with_reducible assumption | exact Below.refl _ _ | go_grown) hb); clear hb))
      | (go_at_call 27; ((with_reducible refine (ok_s_at Ob.out _).mono ?_); rintro e w' ⟨rfl, hb⟩; have hS := s2_mk (below_on (by (try go_split_ands); first | with_reducible assumption | exact Below.refl _ _ | go_grown) hb); clear hb))
      | (go_at_call 32; ((with_reducible refine (join_s_at Hj.out _).mono ?_); rintro e w' ⟨rfl, hb⟩; have hS := s2_mk (below_on (by (try go_split_ands); first | with_reducible assumption | exact Below.refl _ _ | go_grown) hb); clear hb))
      | (go_at_call 30; ((with_reducible refine (join_at Hj.out _).mono ?_); rintro e w' ⟨rfl, hb⟩; have hS := s2_mk (below_on (by (try go_split_ands); first | with_reducible assumption | exact Below.refl _ _ | go_grown) hb); clear hb))
      | (go_at_call 25; ((with_reducible refine (in_at Ia.out _).mono ?_); rintro e w' ⟨rfl, hb⟩; have hS := s2_mk (below_on (by (try go_split_ands); first | with_reducible assumption | exact Below.refl _ _ | go_grown) hb); clear hb))
      | (go_at_call 25; ((with_reducible refine (in_at Ib.out _).mono ?_); rintro e w' ⟨rfl, hb⟩; have hS := s2_mk (below_on (by (try go_split_ands); first | with_reducible assumption | exact Below.refl _ _ | go_grown) hb); clear hb))
      | (go_at_call 30; ((with_reducible refine (join_at Hji.out _).mono ?_); rintro e w' ⟨rfl, hb⟩; have hS := s2_mk (below_on (by (try go_split_ands); first | with_reducible assumption | exact Below.refl _ _ | go_grown) hb); clear hb))
      | (go_at_call 27; ((with_reducible refine (ok_s_at Oc.out _).mono ?_); rintro e w' ⟨rfl, hb⟩; have hS := s2_mk (below_on (by (try go_split_ands); first | with_reducible assumption | exact Below.refl _ _ | go_grown) hb); clear hb))
      | (go_at_call 23; ((with_reducible refine (owOk_at  _).mono ?_); rintro e w' ⟨rfl, hb⟩; have hS := s2_mk (below_on (by (try go_split_ands); first | with_reducible assumption | exact Below.refl _ _ | go_grown) hb); clear hb))
      | (go_at_call 30; ((with_reducible refine (join_at Hm.out _).mono ?_); rintro e w' ⟨rfl, hb⟩; have hS := s2_mk (below_on (by (try go_split_ands); first | with_reducible assumption | exact Below.refl _ _ | go_grown) hb); clear hb))
      | (go_at_call 30; ((with_reducible refine (join_at Hn.out _).mono ?_); rintro e w' ⟨rfl, hb⟩; have hS := s2_mk (below_on (by (try go_split_ands); first | with_reducible assumption | exact Below.refl _ _ | go_grown) hb); clear hb))
      | (go_at_call 30; ((with_reducible refine (join_at Ha.out _).mono ?_); rintro e w' ⟨rfl, hb⟩; have hS := s2_mk (below_on (by (try go_split_ands); first | with_reducible assumption | exact Below.refl _ _ | go_grown) hb); clear hb))
      | (go_at_call 25; ((with_reducible refine (in_at Xac.out _).mono ?_); rintro e w' ⟨rfl, hb⟩; have hS := s2_mk (below_on (by (try go_split_ands); first | with_reducible assumption | exact Below.refl _ _ | go_grown) hb); clear hb))
      | (go_at_call 25; ((with_reducible refine (in_at Xbc.out _).mono ?_); rintro e w' ⟨rfl, hb⟩; have hS := s2_mk (below_on (by (try go_split_ands); first | with_reducible assumption | exact Below.refl _ _ | go_grown) hb); clear hb))
      | (go_at_call 25; ((with_reducible refine (in_at Xjc.out _).mono ?_); rintro e w' ⟨rfl, hb⟩; have hS := s2_mk (below_on (by (try go_split_ands); first | with_reducible assumption | exact Below.refl _ _ | go_grown) hb); clear hb)))
            all_goals (try (go_region_held3 (fun w' => Below W0.heap.size W0 w' ∧ (∀ b o, b < W0.heap.size → w'.cell? ⟨b, o, none⟩ = W0.cell? ⟨b, o, none⟩) ∧ W0.heap.size ≤ w'.heap.size) (((try go_split_ands); (refine s2_mk ?_); first | with_reducible assumption | (with_reducible exact below_on (by assumption) hb) | exact (Below.refl _ _).drew | ((with_reducible refine Below.drew ?_); with_reducible assumption))) (first
      | (go_at_call 27; ((with_reducible refine (ok_s_at Oa.out _).mono ?_); rintro e w' ⟨rfl, hb⟩))
      | (go_at_call 27; ((with_reducible refine (ok_s_at Ob.out _).mono ?_); rintro e w' ⟨rfl, hb⟩))
      | (go_at_call 32; ((with_reducible refine (join_s_at Hj.out _).mono ?_); rintro e w' ⟨rfl, hb⟩))
      | (go_at_call 30; ((with_reducible refine (join_at Hj.out _).mono ?_); rintro e w' ⟨rfl, hb⟩))
      | (go_at_call 25; ((with_reducible refine (in_at Ia.out _).mono ?_); rintro e w' ⟨rfl, hb⟩))
      | (go_at_call 25; ((with_reducible refine (in_at Ib.out _).mono ?_); rintro e w' ⟨rfl, hb⟩))
      | (go_at_call 30; ((with_reducible refine (join_at Hji.out _).mono ?_); rintro e w' ⟨rfl, hb⟩))
      | (go_at_call 27; ((with_reducible refine (ok_s_at Oc.out _).mono ?_); rintro e w' ⟨rfl, hb⟩))
      | (go_at_call 23; ((with_reducible refine (owOk_at  _).mono ?_); rintro e w' ⟨rfl, hb⟩))
      | (go_at_call 30; ((with_reducible refine (join_at Hm.out _).mono ?_); rintro e w' ⟨rfl, hb⟩))
      | (go_at_call 30; ((with_reducible refine (join_at Hn.out _).mono ?_); rintro e w' ⟨rfl, hb⟩))
      | (go_at_call 30; ((with_reducible refine (join_at Ha.out _).mono ?_); rintro e w' ⟨rfl, hb⟩))
      | (go_at_call 25; ((with_reducible refine (in_at Xac.out _).mono ?_); rintro e w' ⟨rfl, hb⟩))
      | (go_at_call 25; ((with_reducible refine (in_at Xbc.out _).mono ?_); rintro e w' ⟨rfl, hb⟩))
      | (go_at_call 25; ((with_reducible refine (in_at Xjc.out _).mono ?_); rintro e w' ⟨rfl, hb⟩)))))
            all_goals go_wp2_with (first
      | (go_at_call 27; ((with_reducible refine (ok_s_at Oa.out _).mono ?_); rintro e w' ⟨rfl, hb⟩; have hS := s2_mk (below_on (by (try go_split_ands); first | with_reducible assumption | exact Below.refl _ _ | go_grown) hb); clear hb))
      | (go_at_call 27; ((with_reducible refine (ok_s_at Ob.out _).mono ?_); rintro e w' ⟨rfl, hb⟩; have hS := s2_mk (below_on (by (try go_split_ands); first | with_reducible assumption | exact Below.refl _ _ | go_grown) hb); clear hb))
      | (go_at_call 32; ((with_reducible refine (join_s_at Hj.out _).mono ?_); rintro e w' ⟨rfl, hb⟩; have hS := s2_mk (below_on (by (try go_split_ands); first | with_reducible assumption | exact Below.refl _ _ | go_grown) hb); clear hb))
      | (go_at_call 30; ((with_reducible refine (join_at Hj.out _).mono ?_); rintro e w' ⟨rfl, hb⟩; have hS := s2_mk (below_on (by (try go_split_ands); first | with_reducible assumption | exact Below.refl _ _ | go_grown) hb); clear hb))
      | (go_at_call 25; ((with_reducible refine (in_at Ia.out _).mono ?_); rintro e w' ⟨rfl, hb⟩; have hS := s2_mk (below_on (by (try go_split_ands); first | with_reducible assumption | exact Below.refl _ _ | go_grown) hb); clear hb))
      | (go_at_call 25; ((with_reducible refine (in_at Ib.out _).mono ?_); rintro e w' ⟨rfl, hb⟩; have hS := s2_mk (below_on (by (try go_split_ands); first | with_reducible assumption | exact Below.refl _ _ | go_grown) hb); clear hb))
      | (go_at_call 30; ((with_reducible refine (join_at Hji.out _).mono ?_); rintro e w' ⟨rfl, hb⟩; have hS := s2_mk (below_on (by (try go_split_ands); first | with_reducible assumption | exact Below.refl _ _ | go_grown) hb); clear hb))
      | (go_at_call 27; ((with_reducible refine (ok_s_at Oc.out _).mono ?_); rintro e w' ⟨rfl, hb⟩; have hS := s2_mk (below_on (by (try go_split_ands); first | with_reducible assumption | exact Below.refl _ _ | go_grown) hb); clear hb))
      | (go_at_call 23; ((with_reducible refine (owOk_at  _).mono ?_); rintro e w' ⟨rfl, hb⟩; have hS := s2_mk (below_on (by (try go_split_ands); first | with_reducible assumption | exact Below.refl _ _ | go_grown) hb); clear hb))
      | (go_at_call 30; ((with_reducible refine (join_at Hm.out _).mono ?_); rintro e w' ⟨rfl, hb⟩; have hS := s2_mk (below_on (by (try go_split_ands); first | with_reducible assumption | exact Below.refl _ _ | go_grown) hb); clear hb))
      | (go_at_call 30; ((with_reducible refine (join_at Hn.out _).mono ?_); rintro e w' ⟨rfl, hb⟩; have hS := s2_mk (below_on (by (try go_split_ands); first | with_reducible assumption | exact Below.refl _ _ | go_grown) hb); clear hb))
      | (go_at_call 30; ((with_reducible refine (join_at Ha.out _).mono ?_); rintro e w' ⟨rfl, hb⟩; have hS := s2_mk (below_on (by (try go_split_ands); first | with_reducible assumption | exact Below.refl _ _ | go_grown) hb); clear hb))
      | (go_at_call 25; ((with_reducible refine (in_at Xac.out _).mono ?_); rintro e w' ⟨rfl, hb⟩; have hS := s2_mk (below_on (by (try go_split_ands); first | with_reducible assumption | exact Below.refl _ _ | go_grown) hb); clear hb))
      | (go_at_call 25; ((with_reducible refine (in_at Xbc.out _).mono ?_); rintro e w' ⟨rfl, hb⟩; have hS := s2_mk (below_on (by (try go_split_ands); first | with_reducible assumption | exact Below.refl _ _ | go_grown) hb); clear hb))
      | (go_at_call 25; ((with_reducible refine (in_at Xjc.out _).mono ?_); rintro e w' ⟨rfl, hb⟩; have hS := s2_mk (below_on (by (try go_split_ands); first | with_reducible assumption | exact Below.refl _ _ | go_grown) hb); clear hb)))
            all_goals (try (go_region_held3 (fun w' => Below W0.heap.size W0 w' ∧ (∀ b o, b < W0.heap.size → w'.cell? ⟨b, o, none⟩ = W0.cell? ⟨b, o, none⟩) ∧ W0.heap.size ≤ w'.heap.size) (((try go_split_ands); (refine s2_mk ?_); first | with_reducible assumption | (with_reducible exact below_on (by assumption) hb) | exact (Below.refl _ _).drew | ((with_reducible refine Below.drew ?_); with_reducible assumption))) (first
      | (go_at_call 27; ((with_reducible refine (ok_s_at Oa.out _).mono ?_); rintro e w' ⟨rfl, hb⟩))
      | (go_at_call 27; ((with_reducible refine (ok_s_at Ob.out _).mono ?_); rintro e w' ⟨rfl, hb⟩))
      | (go_at_call 32; ((with_reducible refine (join_s_at Hj.out _).mono ?_); rintro e w' ⟨rfl, hb⟩))
      | (go_at_call 30; ((with_reducible refine (join_at Hj.out _).mono ?_); rintro e w' ⟨rfl, hb⟩))
      | (go_at_call 25; ((with_reducible refine (in_at Ia.out _).mono ?_); rintro e w' ⟨rfl, hb⟩))
      | (go_at_call 25; ((with_reducible refine (in_at Ib.out _).mono ?_); rintro e w' ⟨rfl, hb⟩))
      | (go_at_call 30; ((with_reducible refine (join_at Hji.out _).mono ?_); rintro e w' ⟨rfl, hb⟩))
      | (go_at_call 27; ((with_reducible refine (ok_s_at Oc.out _).mono ?_); rintro e w' ⟨rfl, hb⟩))
      | (go_at_call 23; ((with_reducible refine (owOk_at  _).mono ?_); rintro e w' ⟨rfl, hb⟩))
      | (go_at_call 30; ((with_reducible refine (join_at Hm.out _).mono ?_); rintro e w' ⟨rfl, hb⟩))
      | (go_at_call 30; ((with_reducible refine (join_at Hn.out _).mono ?_); rintro e w' ⟨rfl, hb⟩))
      | (go_at_call 30; ((with_reducible refine (join_at Ha.out _).mono ?_); rintro e w' ⟨rfl, hb⟩))
      | (go_at_call 25; ((with_reducible refine (in_at Xac.out _).mono ?_); rintro e w' ⟨rfl, hb⟩))
      | (go_at_call 25; ((with_reducible refine (in_at Xbc.out _).mono ?_); rintro e w' ⟨rfl, hb⟩))
      | (go_at_call 25; ((with_reducible refine (in_at Xjc.out _).mono ?_); rintro e w' ⟨rfl, hb⟩)))))
            all_goals go_wp2_with (first
      | (go_at_call 27; ((with_reducible refine (ok_s_at Oa.out _).mono ?_); rintro e w' ⟨rfl, hb⟩; have hS := s2_mk (below_on (by (try go_split_ands); first | with_reducible assumption | exact Below.refl _ _ | go_grown) hb); clear hb))
      | (go_at_call 27; ((with_reducible refine (ok_s_at Ob.out _).mono ?_); rintro e w' ⟨rfl, hb⟩; have hS := s2_mk (below_on (by (try go_split_ands); first | with_reducible assumption | exact Below.refl _ _ | go_grown) hb); clear hb))
      | (go_at_call 32; ((with_reducible refine (join_s_at Hj.out _).mono ?_); rintro e w' ⟨rfl, hb⟩; have hS := s2_mk (below_on (by (try go_split_ands); first | with_reducible assumption | exact Below.refl _ _ | go_grown) hb); clear hb))
      | (go_at_call 30; ((with_reducible refine (join_at Hj.out _).mono ?_); rintro e w' ⟨rfl, hb⟩; have hS := s2_mk (below_on (by (try go_split_ands); first | with_reducible assumption | exact Below.refl _ _ | go_grown) hb); clear hb))
      | (go_at_call 25; ((with_reducible refine (in_at Ia.out _).mono ?_); rintro e w' ⟨rfl, hb⟩; have hS := s2_mk (below_on (by (try go_split_ands); first | with_reducible assumption | exact Below.refl _ _ | go_grown) hb); clear hb))
      | (go_at_call 25; ((with_reducible refine (in_at Ib.out _).mono ?_); rintro e w' ⟨rfl, hb⟩; have hS := s2_mk (below_on (by (try go_split_ands); first | with_reducible assumption | exact Below.refl _ _ | go_grown) hb); clear hb))
      | (go_at_call 30; ((with_reducible refine (join_at Hji.out _).mono ?_); rintro e w' ⟨rfl, hb⟩; have hS := s2_mk (below_on (by (try go_split_ands); first | with_reducible assumption | exact Below.refl _ _ | go_grown) hb); clear hb))
      | (go_at_call 27; ((with_reducible refine (ok_s_at Oc.out _).mono ?_); rintro e w' ⟨rfl, hb⟩; have hS := s2_mk (below_on (by (try go_split_ands); first | with_reducible assumption | exact Below.refl _ _ | go_grown) hb); clear hb))
      | (go_at_call 23; ((with_reducible refine (owOk_at  _).mono ?_); rintro e w' ⟨rfl, hb⟩; have hS := s2_mk (below_on (by (try go_split_ands); first | with_reducible assumption | exact Below.refl _ _ | go_grown) hb); clear hb))
      | (go_at_call 30; ((with_reducible refine (join_at Hm.out _).mono ?_); rintro e w' ⟨rfl, hb⟩; have hS := s2_mk (below_on (by (try go_split_ands); first | with_reducible assumption | exact Below.refl _ _ | go_grown) hb); clear hb))
      | (go_at_call 30; ((with_reducible refine (join_at Hn.out _).mono ?_); rintro e w' ⟨rfl, hb⟩; have hS := s2_mk (below_on (by (try go_split_ands); first | with_reducible assumption | exact Below.refl _ _ | go_grown) hb); clear hb))
      | (go_at_call 30; ((with_reducible refine (join_at Ha.out _).mono ?_); rintro e w' ⟨rfl, hb⟩; have hS := s2_mk (below_on (by (try go_split_ands); first | with_reducible assumption | exact Below.refl _ _ | go_grown) hb); clear hb))
      | (go_at_call 25; ((with_reducible refine (in_at Xac.out _).mono ?_); rintro e w' ⟨rfl, hb⟩; have hS := s2_mk (below_on (by (try go_split_ands); first | with_reducible assumption | exact Below.refl _ _ | go_grown) hb); clear hb))
      | (go_at_call 25; ((with_reducible refine (in_at Xbc.out _).mono ?_); rintro e w' ⟨rfl, hb⟩; have hS := s2_mk (below_on (by (try go_split_ands); first | with_reducible assumption | exact Below.refl _ _ | go_grown) hb); clear hb))
      | (go_at_call 25; ((with_reducible refine (in_at Xjc.out _).mono ?_); rintro e w' ⟨rfl, hb⟩; have hS := s2_mk (below_on (by (try go_split_ands); first | with_reducible assumption | exact Below.refl _ _ | go_grown) hb); clear hb)))
            all_goals (go_ret; exact ⟨rfl, below_on hB0 (by (try go_split_ands); first | with_reducible assumption | go_grown)⟩)
          · have Xac := Lib.hid x
            have Xbc := Lib.hid y
            clear ha hb hj hIa hIb hji hoj hc hm hn ham hlub x y
            all_goals (try (go_region_held3 (fun w' => Below W0.heap.size W0 w' ∧ (∀ b o, b < W0.heap.size → w'.cell? ⟨b, o, none⟩ = W0.cell? ⟨b, o, none⟩) ∧ W0.heap.size ≤ w'.heap.size) (((try go_split_ands); (refine s2_mk ?_); first | with_reducible assumption | (with_reducible exact below_on (by assumption) hb) | exact (Below.refl _ _).drew | ((with_reducible refine Below.drew ?_); with_reducible assumption))) (first
      | (go_at_call 27; ((with_reducible refine (ok_s_at Oa.out _).mono ?_); rintro e w' ⟨rfl, hb⟩))
      | (go_at_call 27; ((with_reducible refine (ok_s_at Ob.out _).mono ?_); rintro e w' ⟨rfl, hb⟩))
      | (go_at_call 32; ((with_reducible refine (join_s_at Hj.out _).mono ?_); rintro e w' ⟨rfl, hb⟩))
      | (go_at_call 30; ((with_reducible refine (join_at Hj.out _).mono ?_); rintro e w' ⟨rfl, hb⟩))
      | (go_at_call 25; ((with_reducible refine (in_at Ia.out _).mono ?_); rintro e w' ⟨rfl, hb⟩))
      | (go_at_call 25; ((with_reducible refine (in_at Ib.out _).mono ?_); rintro e w' ⟨rfl, hb⟩))
      | (go_at_call 30; ((with_reducible refine (join_at Hji.out _).mono ?_); rintro e w' ⟨rfl, hb⟩))
      | (go_at_call 27; ((with_reducible refine (ok_s_at Oc.out _).mono ?_); rintro e w' ⟨rfl, hb⟩))
      | (go_at_call 23; ((with_reducible refine (owOk_at  _).mono ?_); rintro e w' ⟨rfl, hb⟩))
      | (go_at_call 30; ((with_reducible refine (join_at Hm.out _).mono ?_); rintro e w' ⟨rfl, hb⟩))
      | (go_at_call 30; ((with_reducible refine (join_at Hn.out _).mono ?_); rintro e w' ⟨rfl, hb⟩))
      | (go_at_call 30; ((with_reducible refine (join_at Ha.out _).mono ?_); rintro e w' ⟨rfl, hb⟩))
      | (go_at_call 25; ((with_reducible refine (in_at Xac.out _).mono ?_); rintro e w' ⟨rfl, hb⟩))
      | (go_at_call 25; ((with_reducible refine (in_at Xbc.out _).mono ?_); rintro e w' ⟨rfl, hb⟩)))))
            all_goals go_wp2_with (first
      | (go_at_call 27; ((with_reducible refine (ok_s_at Oa.out _).mono ?_); rintro e w' ⟨rfl, hb⟩; have hS := s2_mk (below_on (by (try go_split_ands); first | with_reducible assumption | exact Below.refl _ _ | go_grown) hb); clear hb))
      | (go_at_call 27; ((with_reducible refine (ok_s_at Ob.out _).mono ?_); rintro e w' ⟨rfl, hb⟩; have hS := s2_mk (below_on (by (try go_split_ands); first | with_reducible assumption | exact Below.refl _ _ | go_grown) hb); clear hb))
      | (go_at_call 32; ((with_reducible refine (join_s_at Hj.out _).mono ?_); rintro e w' ⟨rfl, hb⟩; have hS := s2_mk (below_on (by (try go_split_ands); first | with_reducible assumption | exact Below.refl _ _ | go_grown) hb); clear hb))
      | (go_at_call 30; ((with_reducible refine (join_at Hj.out _).mono ?_); rintro e w' ⟨rfl, hb⟩; have hS := s2_mk (below_on (by (try go_split_ands); first | with_reducible assumption | exact Below.refl _ _ | go_grown) hb); clear hb))
      | (go_at_call 25; ((with_reducible refine (in_at Ia.out _).mono ?_); rintro e w' ⟨rfl, hb⟩; have hS := s2_mk (below_on (by (try go_split_ands); first | with_reducible assumption | exact Below.refl _ _ | go_grown) hb); clear hb))
      | (go_at_call 25; ((with_reducible refine (in_at Ib.out _).mono ?_); rintro e w' ⟨rfl, hb⟩; have hS := s2_mk (below_on (by (try go_split_ands); first | with_reducible assumption | exact Below.refl _ _ | go_grown) hb); clear hb))
      | (go_at_call 30; ((with_reducible refine (join_at Hji.out _).mono ?_); rintro e w' ⟨rfl, hb⟩; have hS := s2_mk (below_on (by (try go_split_ands); first | with_reducible assumption | exact Below.refl _ _ | go_grown) hb); clear hb))
      | (go_at_call 27; ((with_reducible refine (ok_s_at Oc.out _).mono ?_); rintro e w' ⟨rfl, hb⟩; have hS := s2_mk (below_on (by (try go_split_ands); first | with_reducible assumption | exact Below.refl _ _ | go_grown) hb); clear hb))
      | (go_at_call 23; ((with_reducible refine (owOk_at  _).mono ?_); rintro e w' ⟨rfl, hb⟩; have hS := s2_mk (below_on (by (try go_split_ands); first | with_reducible assumption | exact Below.refl _ _ | go_grown) hb); clear hb))
      | (go_at_call 30; ((with_reducible refine (join_at Hm.out _).mono ?_); rintro e w' ⟨rfl, hb⟩; have hS := s2_mk (below_on (by (try go_split_ands); first | with_reducible assumption | exact Below.refl _ _ | go_grown) hb); clear hb))
      | (go_at_call 30; ((with_reducible refine (join_at Hn.out _).mono ?_); rintro e w' ⟨rfl, hb⟩; have hS := s2_mk (below_on (by (try go_split_ands); first | with_reducible assumption | exact Below.refl _ _ | go_grown) hb); clear hb))
      | (go_at_call 30; ((with_reducible refine (join_at Ha.out _).mono ?_); rintro e w' ⟨rfl, hb⟩; have hS := s2_mk (below_on (by (try go_split_ands); first | with_reducible assumption | exact Below.refl _ _ | go_grown) hb); clear hb))
      | (go_at_call 25; ((with_reducible refine (in_at Xac.out _).mono ?_); rintro e w' ⟨rfl, hb⟩; have hS := s2_mk (below_on (by (try go_split_ands); first | with_reducible assumption | exact Below.refl _ _ | go_grown) hb); clear hb))
      | (go_at_call 25; ((with_reducible refine (in_at Xbc.out _).mono ?_); rintro e w' ⟨rfl, hb⟩; have hS := s2_mk (below_on (by (try go_split_ands); first | with_reducible assumption | exact Below.refl _ _ | go_grown) hb); clear hb)))
            all_goals (try (go_region_held3 (fun w' => Below W0.heap.size W0 w' ∧ (∀ b o, b < W0.heap.size → w'.cell? ⟨b, o, none⟩ = W0.cell? ⟨b, o, none⟩) ∧ W0.heap.size ≤ w'.heap.size) (((try go_split_ands); (refine s2_mk ?_); first | with_reducible assumption | (with_reducible exact below_on (by assumption) hb) | exact (Below.refl _ _).drew | ((with_reducible refine Below.drew ?_); with_reducible assumption))) (first
      | (go_at_call 27; ((with_reducible refine (ok_s_at Oa.out _).mono ?_); rintro e w' ⟨rfl, hb⟩))
      | (go_at_call 27; ((with_reducible refine (ok_s_at Ob.out _).mono ?_); rintro e w' ⟨rfl, hb⟩))
      | (go_at_call 32; ((with_reducible refine (join_s_at Hj.out _).mono ?_); rintro e w' ⟨rfl, hb⟩))
      | (go_at_call 30; ((with_reducible refine (join_at Hj.out _).mono ?_); rintro e w' ⟨rfl, hb⟩))
      | (go_at_call 25; ((with_reducible refine (in_at Ia.out _).mono ?_); rintro e w' ⟨rfl, hb⟩))
      | (go_at_call 25; ((with_reducible refine (in_at Ib.out _).mono ?_); rintro e w' ⟨rfl, hb⟩))
      | (go_at_call 30; ((with_reducible refine (join_at Hji.out _).mono ?_); rintro e w' ⟨rfl, hb⟩))
      | (go_at_call 27; ((with_reducible refine (ok_s_at Oc.out _).mono ?_); rintro e w' ⟨rfl, hb⟩))
      | (go_at_call 23; ((with_reducible refine (owOk_at  _).mono ?_); rintro e w' ⟨rfl, hb⟩))
      | (go_at_call 30; ((with_reducible refine (join_at Hm.out _).mono ?_); rintro e w' ⟨rfl, hb⟩))
      | (go_at_call 30; ((with_reducible refine (join_at Hn.out _).mono ?_); rintro e w' ⟨rfl, hb⟩))
      | (go_at_call 30; ((with_reducible refine (join_at Ha.out _).mono ?_); rintro e w' ⟨rfl, hb⟩))
      | (go_at_call 25; ((with_reducible refine (in_at Xac.out _).mono ?_); rintro e w' ⟨rfl, hb⟩))
      | (go_at_call 25; ((with_reducible refine (in_at Xbc.out _).mono ?_); rintro e w' ⟨rfl, hb⟩)))))
            all_goals go_wp2_with (first
      | (go_at_call 27; ((with_reducible refine (ok_s_at Oa.out _).mono ?_); rintro e w' ⟨rfl, hb⟩; have hS := s2_mk (below_on (by (try go_split_ands); first | with_reducible assumption | exact Below.refl _ _ | go_grown) hb); clear hb))
      | (go_at_call 27; ((with_reducible refine (ok_s_at Ob.out _).mono ?_); rintro e w' ⟨rfl, hb⟩; have hS := s2_mk (below_on (by (try go_split_ands); first | with_reducible assumption | exact Below.refl _ _ | go_grown) hb); clear hb))
      | (go_at_call 32; ((with_reducible refine (join_s_at Hj.out _).mono ?_); rintro e w' ⟨rfl, hb⟩; have hS := s2_mk (below_on (by (try go_split_ands); first | with_reducible assumption | exact Below.refl _ _ | go_grown) hb); clear hb))
      | (go_at_call 30; ((with_reducible refine (join_at Hj.out _).mono ?_); rintro e w' ⟨rfl, hb⟩; have hS := s2_mk (below_on (by (try go_split_ands); first | with_reducible assumption | exact Below.refl _ _ | go_grown) hb); clear hb))
      | (go_at_call 25; ((with_reducible refine (in_at Ia.out _).mono ?_); rintro e w' ⟨rfl, hb⟩; have hS := s2_mk (below_on (by (try go_split_ands); first | with_reducible assumption | exact Below.refl _ _ | go_grown) hb); clear hb))
      | (go_at_call 25; ((with_reducible refine (in_at Ib.out _).mono ?_); rintro e w' ⟨rfl, hb⟩; have hS := s2_mk (below_on (by (try go_split_ands); first | with_reducible assumption | exact Below.refl _ _ | go_grown) hb); clear hb))
      | (go_at_call 30; ((with_reducible refine (join_at Hji.out _).mono ?_); rintro e w' ⟨rfl, hb⟩; have hS := s2_mk (below_on (by (try go_split_ands); first | with_reducible assumption | exact Below.refl _ _ | go_grown) hb); clear hb))
      | (go_at_call 27; ((with_reducible refine (ok_s_at Oc.out _).mono ?_); rintro e w' ⟨rfl, hb⟩; have hS := s2_mk (below_on (by (try go_split_ands); first | with_reducible assumption | exact Below.refl _ _ | go_grown) hb); clear hb))
      | (go_at_call 23; ((with_reducible refine (owOk_at  _).mono ?_); rintro e w' ⟨rfl, hb⟩; have hS := s2_mk (below_on (by (try go_split_ands); first | with_reducible assumption | exact Below.refl _ _ | go_grown) hb); clear hb))
      | (go_at_call 30; ((with_reducible refine (join_at Hm.out _).mono ?_); rintro e w' ⟨rfl, hb⟩; have hS := s2_mk (below_on (by (try go_split_ands); first | with_reducible assumption | exact Below.refl _ _ | go_grown) hb); clear hb))
      | (go_at_call 30; ((with_reducible refine (join_at Hn.out _).mono ?_); rintro e w' ⟨rfl, hb⟩; have hS := s2_mk (below_on (by (try go_split_ands); first | with_reducible assumption | exact Below.refl _ _ | go_grown) hb); clear hb))
      | (go_at_call 30; ((with_reducible refine (join_at Ha.out _).mono ?_); rintro e w' ⟨rfl, hb⟩; have hS := s2_mk (below_on (by (try go_split_ands); first | with_reducible assumption | exact Below.refl _ _ | go_grown) hb); clear hb))
      | (go_at_call 25; ((with_reducible refine (in_at Xac.out _).mono ?_); rintro e w' ⟨rfl, hb⟩; have hS := s2_mk (below_on (by (try go_split_ands); first | with_reducible assumption | exact Below.refl _ _ | go_grown) hb); clear hb))
      | (go_at_call 25; ((with_reducible refine (in_at Xbc.out _).mono ?_); rintro e w' ⟨rfl, hb⟩; have hS := s2_mk (below_on (by (try go_split_ands); first | with_reducible assumption | exact Below.refl _ _ | go_grown) hb); clear hb)))
            all_goals (try (go_region_held3 (fun w' => Below W0.heap.size W0 w' ∧ (∀ b o, b < W0.heap.size → w'.cell? ⟨b, o, none⟩ = W0.cell? ⟨b, o, none⟩) ∧ W0.heap.size ≤ w'.heap.size) (((try go_split_ands); (refine s2_mk ?_); first | with_reducible assumption | (with_reducible exact below_on (by assumption) hb) | exact (Below.refl _ _).drew | ((with_reducible refine Below.drew ?_); with_reducible assumption))) (first
      | (go_at_call 27; ((with_reducible refine (ok_s_at Oa.out _).mono ?_); rintro e w' ⟨rfl, hb⟩))
      | (go_at_call 27; ((with_reducible refine (ok_s_at Ob.out _).mono ?_); rintro e w' ⟨rfl, hb⟩))
      | (go_at_call 32; ((with_reducible refine (join_s_at Hj.out _).mono ?_); rintro e w' ⟨rfl, hb⟩))
      | (go_at_call 30; ((with_reducible refine (join_at Hj.out _).mono ?_); rintro e w' ⟨rfl, hb⟩))
      | (go_at_call 25; ((with_reducible refine (in_at Ia.out _).mono ?_); rintro e w' ⟨rfl, hb⟩))
      | (go_at_call 25; ((with_reducible refine (in_at Ib.out _).mono ?_); rintro e w' ⟨rfl, hb⟩))
      | (go_at_call 30; ((with_reducible refine (join_at Hji.out _).mono ?_); rintro e w' ⟨rfl, hb⟩))
      | (go_at_call 27; ((with_reducible refine (ok_s_at Oc.out _).mono ?_); rintro e w' ⟨rfl, hb⟩))
      | (go_at_call 23; ((with_reducible refine (owOk_at  _).mono ?_); rintro e w' ⟨rfl, hb⟩))
      | (go_at_call 30; ((with_reducible refine (join_at Hm.out _).mono ?_); rintro e w' ⟨rfl, hb⟩))
      | (go_at_call 30; ((with_reducible refine (join_at Hn.out _).mono ?_); rintro e w' ⟨rfl, hb⟩))
      | (go_at_call 30; ((with_reducible refine (join_at Ha.out _).mono ?_); rintro e w' ⟨rfl, hb⟩))
      | (go_at_call 25; ((with_reducible refine (in_at Xac.out _).mono ?_); rintro e w' ⟨rfl, hb⟩))
      | (go_at_call 25; ((with_reducible refine (in_at Xbc.out _).mono ?_); rintro e w' ⟨rfl, hb⟩)))))
            all_goals go_wp2_with (first
      | (go_at_call 27; ((with_reducible refine (ok_s_at Oa.out _).mono ?_); rintro e w' ⟨rfl, hb⟩; have hS := s2_mk (below_on (by (try go_split_ands); first | with_reducible assumption | exact Below.refl _ _ | go_grown) hb); clear hb))
      | (go_at_call 27; ((with_reducible refine (ok_s_at Ob.out _).mono ?_); rintro e w' ⟨rfl, hb⟩; have hS := s2_mk (below_on (by (try go_split_ands); first | with_reducible assumption | exact Below.refl _ _ | go_grown) hb); clear hb))
      | (go_at_call 32; ((with_reducible refine (join_s_at Hj.out _).mono ?_); rintro e w' ⟨rfl, hb⟩; have hS := s2_mk (below_on (by (try go_split_ands); first | with_reducible assumption | exact Below.refl _ _ | go_grown) hb); clear hb))
      | (go_at_call 30; ((with_reducible refine (join_at Hj.out _).mono ?_); rintro e w' ⟨rfl, hb⟩; have hS := s2_mk (below_on (by (try go_split_ands); first | with_reducible assumption | exact Below.refl _ _ | go_grown) hb); clear hb))
      | (go_at_call 25; ((with_reducible refine (in_at Ia.out _).mono ?_); rintro e w' ⟨rfl, hb⟩; have hS := s2_mk (below_on (by (try go_split_ands); first | with_reducible assumption | exact Below.refl _ _ | go_grown) hb); clear hb))
      | (go_at_call 25; ((with_reducible refine (in_at Ib.out _).mono ?_); rintro e w' ⟨rfl, hb⟩; have hS := s2_mk (below_on (by (try go_split_ands); first | with_reducible assumption | exact Below.refl _ _ | go_grown) hb); clear hb))
      | (go_at_call 30; ((with_reducible refine (join_at Hji.out _).mono ?_); rintro e w' ⟨rfl, hb⟩; have hS := s2_mk (below_on (by (try go_split_ands); first | with_reducible assumption | exact Below.refl _ _ | go_grown) hb); clear hb))
      | (go_at_call 27; ((with_reducible refine (ok_s_at Oc.out _).mono ?_); rintro e w' ⟨rfl, hb⟩; have hS := s2_mk (below_on (by (try go_split_ands); first | with_reducible assumption | exact Below.refl _ _ | go_grown) hb); clear hb))
      | (go_at_call 23; ((with_reducible refine (owOk_at  _).mono ?_); rintro e w' ⟨rfl, hb⟩; have hS := s2_mk (below_on (by (try go_split_ands); first | with_reducible assumption | exact Below.refl _ _ | go_grown) hb); clear hb))
      | (go_at_call 30; ((with_reducible refine (join_at Hm.out _).mono ?_); rintro e w' ⟨rfl, hb⟩; have hS := s2_mk (below_on (by (try go_split_ands); first | with_reducible assumption | exact Below.refl _ _ | go_grown) hb); clear hb))
      | (go_at_call 30; ((with_reducible refine (join_at Hn.out _).mono ?_); rintro e w' ⟨rfl, hb⟩; have hS := s2_mk (below_on (by (try go_split_ands); first | with_reducible assumption | exact Below.refl _ _ | go_grown) hb); clear hb))
      | (go_at_call 30; ((with_reducible refine (join_at Ha.out _).mono ?_); rintro e w' ⟨rfl, hb⟩; have hS := s2_mk (below_on (by (try go_split_ands); first | with_reducible assumption | exact Below.refl _ _ | go_grown) hb); clear hb))
      | (go_at_call 25; ((with_reducible refine (in_at Xac.out _).mono ?_); rintro e w' ⟨rfl, hb⟩; have hS := s2_mk (below_on (by (try go_split_ands); first | with_reducible assumption | exact Below.refl _ _ | go_grown) hb); clear hb))
      | (go_at_call 25; ((with_reducible refine (in_at Xbc.out _).mono ?_); rintro e w' ⟨rfl, hb⟩; have hS := s2_mk (below_on (by (try go_split_ands); first | with_reducible assumption | exact Below.refl _ _ | go_grown) hb); clear hb)))
            all_goals (try (go_region_held3 (fun w' => Below W0.heap.size W0 w' ∧ (∀ b o, b < W0.heap.size → w'.cell? ⟨b, o, none⟩ = W0.cell? ⟨b, o, none⟩) ∧ W0.heap.size ≤ w'.heap.size) (((try go_split_ands); (refine s2_mk ?_); first | with_reducible assumption | (with_reducible exact below_on (by assumption) hb) | exact (Below.refl _ _).drew | ((with_reducible refine Below.drew ?_); with_reducible assumption))) (first
      | (go_at_call 27; ((with_reducible refine (ok_s_at Oa.out _).mono ?_); rintro e w' ⟨rfl, hb⟩))
      | (go_at_call 27; ((with_reducible refine (ok_s_at Ob.out _).mono ?_); rintro e w' ⟨rfl, hb⟩))
      | (go_at_call 32; ((with_reducible refine (join_s_at Hj.out _).mono ?_); rintro e w' ⟨rfl, hb⟩))
      | (go_at_call 30; ((with_reducible refine (join_at Hj.out _).mono ?_); rintro e w' ⟨rfl, hb⟩))
      | (go_at_call 25; ((with_reducible refine (in_at Ia.out _).mono ?_); rintro e w' ⟨rfl, hb⟩))
      | (go_at_call 25; ((with_reducible refine (in_at Ib.out _).mono ?_); rintro e w' ⟨rfl, hb⟩))
      | (go_at_call 30; ((with_reducible refine (join_at Hji.out _).mono ?_); rintro e w' ⟨rfl, hb⟩))
      | (go_at_call 27; ((with_reducible refine (ok_s_at Oc.out _).mono ?_); rintro e w' ⟨rfl, hb⟩))
      | (go_at_call 23; ((with_reducible refine (owOk_at  _).mono ?_); rintro e w' ⟨rfl, hb⟩))
      | (go_at_call 30; ((with_reducible refine (join_at Hm.out _).mono ?_); rintro e w' ⟨rfl, hb⟩))
      | (go_at_call 30; ((with_reducible refine (join_at Hn.out _).mono ?_); rintro e w' ⟨rfl, hb⟩))
      | (go_at_call 30; ((with_reducible refine (join_at Ha.out _).mono ?_); rintro e w' ⟨rfl, hb⟩))
      | (go_at_call 25; ((with_reducible refine (in_at Xac.out _).mono ?_); rintro e w' ⟨rfl, hb⟩))
      | (go_at_call 25; ((with_reducible refine (in_at Xbc.out _).mono ?_); rintro e w' ⟨rfl, hb⟩)))))
            all_goals go_wp2_with (first
      | (go_at_call 27; ((with_reducible refine (ok_s_at Oa.out _).mono ?_); rintro e w' ⟨rfl, hb⟩; have hS := s2_mk (below_on (by (try go_split_ands); first | with_reducible assumption | exact Below.refl _ _ | go_grown) hb); clear hb))
      | (go_at_call 27; ((with_reducible refine (ok_s_at Ob.out _).mono ?_); rintro e w' ⟨rfl, hb⟩; have hS := s2_mk (below_on (by (try go_split_ands); first | with_reducible assumption | exact Below.refl _ _ | go_grown) hb); clear hb))
      | (go_at_call 32; ((with_reducible refine (join_s_at Hj.out _).mono ?_); rintro e w' ⟨rfl, hb⟩; have hS := s2_mk (below_on (by (try go_split_ands); first | with_reducible assumption | exact Below.refl _ _ | go_grown) hb); clear hb))
      | (go_at_call 30; ((with_reducible refine (join_at Hj.out _).mono ?_); rintro e w' ⟨rfl, hb⟩; have hS := s2_mk (below_on (by (try go_split_ands); first | with_reducible assumption | exact Below.refl _ _ | go_grown) hb); clear hb))
      | (go_at_call 25; ((with_reducible refine (in_at Ia.out _).mono ?_); rintro e w' ⟨rfl, hb⟩; have hS := s2_mk (below_on (by (try go_split_ands); first | with_reducible assumption | exact Below.refl _ _ | go_grown) hb); clear hb))
      | (go_at_call 25; ((with_reducible refine (in_at Ib.out _).mono ?_); rintro e w' ⟨rfl, hb⟩; have hS := s2_mk (below_on (by (try go_split_ands); first | with_reducible assumption | exact Below.refl _ _ | go_grown) hb); clear hb))
      | (go_at_call 30; ((with_reducible refine (join_at Hji.out _).mono ?_); rintro e w' ⟨rfl, hb⟩; have hS := s2_mk (below_on (by (try go_split_ands); first | with_reducible assumption | exact Below.refl _ _ | go_grown) hb); clear hb))
      | (go_at_call 27; ((with_reducible refine (ok_s_at Oc.out _).mono ?_); rintro e w' ⟨rfl, hb⟩; have hS := s2_mk (below_on (by (try go_split_ands); first | with_reducible assumption | exact Below.refl _ _ | go_grown) hb); clear hb))
      | (go_at_call 23; ((with_reducible refine (owOk_at  _).mono ?_); rintro e w' ⟨rfl, hb⟩; have hS := s2_mk (below_on (by (try go_split_ands); first | with_reducible assumption | exact Below.refl _ _ | go_grown) hb); clear hb))
      | (go_at_call 30; ((with_reducible refine (join_at Hm.out _).mono ?_); rintro e w' ⟨rfl, hb⟩; have hS := s2_mk (below_on (by (try go_split_ands); first | with_reducible assumption | exact Below.refl _ _ | go_grown) hb); clear hb))
      | (go_at_call 30; ((with_reducible refine (join_at Hn.out _).mono ?_); rintro e w' ⟨rfl, hb⟩; have hS := s2_mk (below_on (by (try go_split_ands); first | with_reducible assumption | exact Below.refl _ _ | go_grown) hb); clear hb))
      | (go_at_call 30; ((with_reducible refine (join_at Ha.out _).mono ?_); rintro e w' ⟨rfl, hb⟩; have hS := s2_mk (below_on (by (try go_split_ands); first | with_reducible assumption | exact Below.refl _ _ | go_grown) hb); clear hb))
      | (go_at_call 25; ((with_reducible refine (in_at Xac.out _).mono ?_); rintro e w' ⟨rfl, hb⟩; have hS := s2_mk (below_on (by (try go_split_ands); first | with_reducible assumption | exact Below.refl _ _ | go_grown) hb); clear hb))
      | (go_at_call 25; ((with_reducible refine (in_at Xbc.out _).mono ?_); rintro e w' ⟨rfl, hb⟩; have hS := s2_mk (below_on (by (try go_split_ands); first | with_reducible assumption | exact Below.refl _ _ | go_grown) hb); clear hb)))
            all_goals (go_ret; exact ⟨rfl, below_on hB0 (by (try go_split_ands); first | with_reducible assumption | go_grown)⟩)
        · have Xac := Lib.hid x
          clear ha hb hj hIa hIb hji hoj hc hm hn ham hlub x
          all_goals (try (go_region_held3 (fun w' => Below W0.heap.size W0 w' ∧ (∀ b o, b < W0.heap.size → w'.cell? ⟨b, o, none⟩ = W0.cell? ⟨b, o, none⟩) ∧ W0.heap.size ≤ w'.heap.size) (((try go_split_ands); (refine s2_mk ?_); first | with_reducible assumption | (with_reducible exact below_on (by assumption) hb) | exact (Below.refl _ _).drew | ((with_reducible refine Below.drew ?_); with_reducible assumption))) (first
      | (go_at_call 27; ((with_reducible refine (ok_s_at Oa.out _).mono ?_); rintro e w' ⟨rfl, hb⟩))
      | (go_at_call 27; ((with_reducible refine (ok_s_at Ob.out _).mono ?_); rintro e w' ⟨rfl, hb⟩))
      | (go_at_call 32; ((with_reducible refine (join_s_at Hj.out _).mono ?_); rintro e w' ⟨rfl, hb⟩))
      | (go_at_call 30; ((with_reducible refine (join_at Hj.out _).mono ?_); rintro e w' ⟨rfl, hb⟩))
      | (go_at_call 25; ((with_reducible refine (in_at Ia.out _).mono ?_); rintro e w' ⟨rfl, hb⟩))
      | (go_at_call 25; ((with_reducible refine (in_at Ib.out _).mono ?_); rintro e w' ⟨rfl, hb⟩))
      | (go_at_call 30; ((with_reducible refine (join_at Hji.out _).mono ?_); rintro e w' ⟨rfl, hb⟩))
      | (go_at_call 27; ((with_reducible refine (ok_s_at Oc.out _).mono ?_); rintro e w' ⟨rfl, hb⟩))
      | (go_at_call 23; ((with_reducible refine (owOk_at  _).mono ?_); rintro e w' ⟨rfl, hb⟩))
      | (go_at_call 30; ((with_reducible refine (join_at Hm.out _).mono ?_); rintro e w' ⟨rfl, hb⟩))
      | (go_at_call 30; ((with_reducible refine (join_at Hn.out _).mono ?_); rintro e w' ⟨rfl, hb⟩))
      | (go_at_call 30; ((with_reducible refine (join_at Ha.out _).mono ?_); rintro e w' ⟨rfl, hb⟩))
      | (go_at_call 25; ((with_reducible refine (in_at Xac.out _).mono ?_); rintro e w' ⟨rfl, hb⟩)))))
          all_goals go_wp2_with (first
      | (go_at_call 27; ((with_reducible refine (ok_s_at Oa.out _).mono ?_); rintro e w' ⟨rfl, hb⟩; have hS := s2_mk (below_on (by (try go_split_ands); first | with_reducible assumption | exact Below.refl _ _ | go_grown) hb); clear hb))
      | (go_at_call 27; ((with_reducible refine (ok_s_at Ob.out _).mono ?_); rintro e w' ⟨rfl, hb⟩; have hS := s2_mk (below_on (by (try go_split_ands); first | with_reducible assumption | exact Below.refl _ _ | go_grown) hb); clear hb))
      | (go_at_call 32; ((with_reducible refine (join_s_at Hj.out _).mono ?_); rintro e w' ⟨rfl, hb⟩; have hS := s2_mk (below_on (by (try go_split_ands); first | with_reducible assumption | exact Below.refl _ _ | go_grown) hb); clear hb))
      | (go_at_call 30; ((with_reducible refine (join_at Hj.out _).mono ?_); rintro e w' ⟨rfl, hb⟩; have hS := s2_mk (below_on (by (try go_split_ands); first | with_reducible assumption | exact Below.refl _ _ | go_grown) hb); clear hb))
      | (go_at_call 25; ((with_reducible refine (in_at Ia.out _).mono ?_); rintro e w' ⟨rfl, hb⟩; have hS := s2_mk (below_on (by (try go_split_ands); first | with_reducible assumption | exact Below.refl _ _ | go_grown) hb); clear hb))
      | (go_at_call 25; ((with_reducible refine (in_at Ib.out _).mono ?_); rintro e w' ⟨rfl, hb⟩; have hS := s2_mk (below_on (by (try go_split_ands); first | with_reducible assumption | exact Below.refl _ _ | go_grown) hb); clear hb))
      | (go_at_call 30; ((with_reducible refine (join_at Hji.out _).mono ?_); rintro e w' ⟨rfl, hb⟩; have hS := s2_mk (below_on (by (try go_split_ands); first | with_reducible assumption | exact Below.refl _ _ | go_grown) hb); clear hb))
      | (go_at_call 27; ((with_reducible refine (ok_s_at Oc.out _).mono ?_); rintro e w' ⟨rfl, hb⟩; have hS := s2_mk (below_on (by (try go_split_ands); first | with_reducible assumption | exact Below.refl _ _ | go_grown) hb); clear hb))
      | (go_at_call 23; ((with_reducible refine (owOk_at  _).mono ?_); rintro e w' ⟨rfl, hb⟩; have hS := s2_mk (below_on (by (try go_split_ands); first | with_reducible assumption | exact Below.refl _ _ | go_grown) hb); clear hb))
      | (go_at_call 30; ((with_reducible refine (join_at Hm.out _).mono ?_); rintro e w' ⟨rfl, hb⟩; have hS := s2_mk (below_on (by (try go_split_ands); first | with_reducible assumption | exact Below.refl _ _ | go_grown) hb); clear hb))
      | (go_at_call 30; ((with_reducible refine (join_at Hn.out _).mono ?_); rintro e w' ⟨rfl, hb⟩; have hS := s2_mk (below_on (by (try go_split_ands); first | with_reducible assumption | exact Below.refl _ _ | go_grown) hb); clear hb))
      | (go_at_call 30; ((with_reducible refine (join_at Ha.out _).mono ?_); rintro e w' ⟨rfl, hb⟩; have hS := s2_mk (below_on (by (try go_split_ands); first | with_reducible assumption | exact Below.refl _ _ | go_grown) hb); clear hb))
      | (go_at_call 25; ((with_reducible refine (in_at Xac.out _).mono ?_); rintro e w' ⟨rfl, hb⟩; have hS := s2_mk (below_on (by (try go_split_ands); first | with_reducible assumption | exact Below.refl _ _ | go_grown) hb); clear hb)))
          all_goals (try (go_region_held3 (fun w' => Below W0.heap.size W0 w' ∧ (∀ b o, b < W0.heap.size → w'.cell? ⟨b, o, none⟩ = W0.cell? ⟨b, o, none⟩) ∧ W0.heap.size ≤ w'.heap.size) (((try go_split_ands); (refine s2_mk ?_); first | with_reducible assumption | (with_reducible exact below_on (by assumption) hb) | exact (Below.refl _ _).drew | ((with_reducible refine Below.drew ?_); with_reducible assumption))) (first
      | (go_at_call 27; ((with_reducible refine (ok_s_at Oa.out _).mono ?_); rintro e w' ⟨rfl, hb⟩))
      | (go_at_call 27; ((with_reducible refine (ok_s_at Ob.out _).mono ?_); rintro e w' ⟨rfl, hb⟩))
      | (go_at_call 32; ((with_reducible refine (join_s_at Hj.out _).mono ?_); rintro e w' ⟨rfl, hb⟩))
      | (go_at_call 30; ((with_reducible refine (join_at Hj.out _).mono ?_); rintro e w' ⟨rfl, hb⟩))
      | (go_at_call 25; ((with_reducible refine (in_at Ia.out _).mono ?_); rintro e w' ⟨rfl, hb⟩))
      | (go_at_call 25; ((with_reducible refine (in_at Ib.out _).mono ?_); rintro e w' ⟨rfl, hb⟩))
      | (go_at_call 30; ((with_reducible refine (join_at Hji.out _).mono ?_); rintro e w' ⟨rfl, hb⟩))
      | (go_at_call 27; ((with_reducible refine (ok_s_at Oc.out _).mono ?_); rintro e w' ⟨rfl, hb⟩))
      | (go_at_call 23; ((with_reducible refine (owOk_at  _).mono ?_); rintro e w' ⟨rfl, hb⟩))
      | (go_at_call 30; ((with_reducible refine (join_at Hm.out _).mono ?_); rintro e w' ⟨rfl, hb⟩))
      | (go_at_call 30; ((with_reducible refine (join_at Hn.out _).mono ?_); rintro e w' ⟨rfl, hb⟩))
      | (go_at_call 30; ((with_reducible refine (join_at Ha.out _).mono ?_); rintro e w' ⟨rfl, hb⟩))
      | (go_at_call 25; ((with_reducible refine (in_at Xac.out _).mono ?_); rintro e w' ⟨rfl, hb⟩)))))
          all_goals go_wp2_with (first
      | (go_at_call 27; ((with_reducible refine (ok_s_at Oa.out _).mono ?_); rintro e w' ⟨rfl, hb⟩; have hS := s2_mk (below_on (by (try go_split_ands); first | with_reducible assumption | exact Below.refl _ _ | go_grown) hb); clear hb))
      | (go_at_call 27; ((with_reducible refine (ok_s_at Ob.out _).mono ?_); rintro e w' ⟨rfl, hb⟩; have hS := s2_mk (below_on (by (try go_split_ands); first | with_reducible assumption | exact Below.refl _ _ | go_grown) hb); clear hb))
      | (go_at_call 32; ((with_reducible refine (join_s_at Hj.out _).mono ?_); rintro e w' ⟨rfl, hb⟩; have hS := s2_mk (below_on (by (try go_split_ands); first | with_reducible assumption | exact Below.refl _ _ | go_grown) hb); clear hb))
      | (go_at_call 30; ((with_reducible refine (join_at Hj.out _).mono ?_); rintro e w' ⟨rfl, hb⟩; have hS := s2_mk (below_on (by (try go_split_ands); first | with_reducible assumption | exact Below.refl _ _ | go_grown) hb); clear hb))
      | (go_at_call 25; ((with_reducible refine (in_at Ia.out _).mono ?_); rintro e w' ⟨rfl, hb⟩; have hS := s2_mk (below_on (by (try go_split_ands); first | with_reducible assumption | exact Below.refl _ _ | go_grown) hb); clear hb))
      | (go_at_call 25; ((with_reducible refine (in_at Ib.out _).mono ?_); rintro e w' ⟨rfl, hb⟩; have hS := s2_mk (below_on (by (try go_split_ands); first | with_reducible assumption | exact Below.refl _ _ | go_grown) hb); clear hb))
      | (go_at_call 30; ((with_reducible refine (join_at Hji.out _).mono ?_); rintro e w' ⟨rfl, hb⟩; have hS := s2_mk (below_on (by (try go_split_ands); first | with_reducible assumption | exact Below.refl _ _ | go_grown) hb); clear hb))
      | (go_at_call 27; ((with_reducible refine (ok_s_at Oc.out _).mono ?_); rintro e w' ⟨rfl, hb⟩; have hS := s2_mk (below_on (by (try go_split_ands); first | with_reducible assumption | exact Below.refl _ _ | go_grown) hb); clear hb))
      | (go_at_call 23; ((with_reducible refine (owOk_at  _).mono ?_); rintro e w' ⟨rfl, hb⟩; have hS := s2_mk (below_on (by (try go_split_ands); first | with_reducible assumption | exact Below.refl _ _ | go_grown) hb); clear hb))
      | (go_at_call 30; ((with_reducible refine (join_at Hm.out _).mono ?_); rintro e w' ⟨rfl, hb⟩; have hS := s2_mk (below_on (by (try go_split_ands); first | with_reducible assumption | exact Below.refl _ _ | go_grown) hb); clear hb))
      | (go_at_call 30; ((with_reducible refine (join_at Hn.out _).mono ?_); rintro e w' ⟨rfl, hb⟩; have hS := s2_mk (below_on (by (try go_split_ands); first | with_reducible assumption | exact Below.refl _ _ | go_grown) hb); clear hb))
      | (go_at_call 30; ((with_reducible refine (join_at Ha.out _).mono ?_); rintro e w' ⟨rfl, hb⟩; have hS := s2_mk (below_on (by (try go_split_ands); first | with_reducible assumption | exact Below.refl _ _ | go_grown) hb); clear hb))
      | (go_at_call 25; ((with_reducible refine (in_at Xac.out _).mono ?_); rintro e w' ⟨rfl, hb⟩; have hS := s2_mk (below_on (by (try go_split_ands); first | with_reducible assumption | exact Below.refl _ _ | go_grown) hb); clear hb)))
          all_goals (try (go_region_held3 (fun w' => Below W0.heap.size W0 w' ∧ (∀ b o, b < W0.heap.size → w'.cell? ⟨b, o, none⟩ = W0.cell? ⟨b, o, none⟩) ∧ W0.heap.size ≤ w'.heap.size) (((try go_split_ands); (refine s2_mk ?_); first | with_reducible assumption | (with_reducible exact below_on (by assumption) hb) | exact (Below.refl _ _).drew | ((with_reducible refine Below.drew ?_); with_reducible assumption))) (first
      | (go_at_call 27; ((with_reducible refine (ok_s_at Oa.out _).mono ?_); rintro e w' ⟨rfl, hb⟩))
      | (go_at_call 27; ((with_reducible refine (ok_s_at Ob.out _).mono ?_); rintro e w' ⟨rfl, hb⟩))
      | (go_at_call 32; ((with_reducible refine (join_s_at Hj.out _).mono ?_); rintro e w' ⟨rfl, hb⟩))
      | (go_at_call 30; ((with_reducible refine (join_at Hj.out _).mono ?_); rintro e w' ⟨rfl, hb⟩))
      | (go_at_call 25; ((with_reducible refine (in_at Ia.out _).mono ?_); rintro e w' ⟨rfl, hb⟩))
      | (go_at_call 25; ((with_reducible refine (in_at Ib.out _).mono ?_); rintro e w' ⟨rfl, hb⟩))
      | (go_at_call 30; ((with_reducible refine (join_at Hji.out _).mono ?_); rintro e w' ⟨rfl, hb⟩))
      | (go_at_call 27; ((with_reducible refine (ok_s_at Oc.out _).mono ?_); rintro e w' ⟨rfl, hb⟩))
      | (go_at_call 23; ((with_reducible refine (owOk_at  _).mono ?_); rintro e w' ⟨rfl, hb⟩))
      | (go_at_call 30; ((with_reducible refine (join_at Hm.out _).mono ?_); rintro e w' ⟨rfl, hb⟩))
      | (go_at_call 30; ((with_reducible refine (join_at Hn.out _).mono ?_); rintro e w' ⟨rfl, hb⟩))
      | (go_at_call 30; ((with_reducible refine (join_at Ha.out _).mono ?_); rintro e w' ⟨rfl, hb⟩))
      | (go_at_call 25; ((with_reducible refine (in_at Xac.out _).mono ?_); rintro e w' ⟨rfl, hb⟩)))))
          all_goals go_wp2_with (first
      | (go_at_call 27; ((with_reducible refine (ok_s_at Oa.out _).mono ?_); rintro e w' ⟨rfl, hb⟩; have hS := s2_mk (below_on (by (try go_split_ands); first | with_reducible assumption | exact Below.refl _ _ | go_grown) hb); clear hb))
      | (go_at_call 27; ((with_reducible refine (ok_s_at Ob.out _).mono ?_); rintro e w' ⟨rfl, hb⟩; have hS := s2_mk (below_on (by (try go_split_ands); first | with_reducible assumption | exact Below.refl _ _ | go_grown) hb); clear hb))
      | (go_at_call 32; ((with_reducible refine (join_s_at Hj.out _).mono ?_); rintro e w' ⟨rfl, hb⟩; have hS := s2_mk (below_on (by (try go_split_ands); first | with_reducible assumption | exact Below.refl _ _ | go_grown) hb); clear hb))
      | (go_at_call 30; ((with_reducible refine (join_at Hj.out _).mono ?_); rintro e w' ⟨rfl, hb⟩; have hS := s2_mk (below_on (by (try go_split_ands); first | with_reducible assumption | exact Below.refl _ _ | go_grown) hb); clear hb))
      | (go_at_call 25; ((with_reducible refine (in_at Ia.out _).mono ?_); rintro e w' ⟨rfl, hb⟩; have hS := s2_mk (below_on (by (try go_split_ands); first | with_reducible assumption | exact Below.refl _ _ | go_grown) hb); clear hb))
      | (go_at_call 25; ((with_reducible refine (in_at Ib.out _).mono ?_); rintro e w' ⟨rfl, hb⟩; have hS := s2_mk (below_on (by (try go_split_ands); first | with_reducible assumption | exact Below.refl _ _ | go_grown) hb); clear hb))
      | (go_at_call 30; ((with_reducible refine (join_at Hji.out _).mono ?_); rintro e w' ⟨rfl, hb⟩; have hS := s2_mk (below_on (by (try go_split_ands); first | with_reducible assumption | exact Below.refl _ _ | go_grown) hb); clear hb))
      | (go_at_call 27; ((with_reducible refine (ok_s_at Oc.out _).mono ?_); rintro e w' ⟨rfl, hb⟩; have hS := s2_mk (below_on (by (try go_split_ands); first | with_reducible assumption | exact Below.refl _ _ | go_grown) hb); clear hb))
      | (go_at_call 23; ((with_reducible refine (owOk_at  _).mono ?_); rintro e w' ⟨rfl, hb⟩; have hS := s2_mk (below_on (by (try go_split_ands); first | with_reducible assumption | exact Below.refl _ _ | go_grown) hb); clear hb))
      | (go_at_call 30; ((with_reducible refine (join_at Hm.out _).mono ?_); rintro e w' ⟨rfl, hb⟩; have hS := s2_mk (below_on (by (try go_split_ands); first | with_reducible assumption | exact Below.refl _ _ | go_grown) hb); clear hb))
      | (go_at_call 30; ((with_reducible refine (join_at Hn.out _).mono ?_); rintro e w' ⟨rfl, hb⟩; have hS := s2_mk (below_on (by (try go_split_ands); first | with_reducible assumption | exact Below.refl _ _ | go_grown) hb); clear hb))
      | (go_at_call 30; ((with_reducible refine (join_at Ha.out _).mono ?_); rintro e w' ⟨rfl, hb⟩; have hS := s2_mk (below_on (by (try go_split_ands); first | with_reducible assumption | exact Below.refl _ _ | go_grown) hb); clear hb))
      | (go_at_call 25; ((with_reducible refine (in_at Xac.out _).mono ?_); rintro e w' ⟨rfl, hb⟩; have hS := s2_mk (below_on (by (try go_split_ands); first | with_reducible assumption | exact Below.refl _ _ | go_grown) hb); clear hb)))
          all_goals (try (go_region_held3 (fun w' => Below W0.heap.size W0 w' ∧ (∀ b o, b < W0.heap.size → w'.cell? ⟨b, o, none⟩ = W0.cell? ⟨b, o, none⟩) ∧ W0.heap.size ≤ w'.heap.size) (((try go_split_ands); (refine s2_mk ?_); first | with_reducible assumption | (with_reducible exact below_on (by assumption) hb) | exact (Below.refl _ _).drew | ((with_reducible refine Below.drew ?_); with_reducible assumption))) (first
      | (go_at_call 27; ((with_reducible refine (ok_s_at Oa.out _).mono ?_); rintro e w' ⟨rfl, hb⟩))
      | (go_at_call 27; ((with_reducible refine (ok_s_at Ob.out _).mono ?_); rintro e w' ⟨rfl, hb⟩))
      | (go_at_call 32; ((with_reducible refine (join_s_at Hj.out _).mono ?_); rintro e w' ⟨rfl, hb⟩))
      | (go_at_call 30; ((with_reducible refine (join_at Hj.out _).mono ?_); rintro e w' ⟨rfl, hb⟩))
      | (go_at_call 25; ((with_reducible refine (in_at Ia.out _).mono ?_); rintro e w' ⟨rfl, hb⟩))
      | (go_at_call 25; ((with_reducible refine (in_at Ib.out _).mono ?_); rintro e w' ⟨rfl, hb⟩))
      | (go_at_call 30; ((with_reducible refine (join_at Hji.out _).mono ?_); rintro e w' ⟨rfl, hb⟩))
      | (go_at_call 27; ((with_reducible refine (ok_s_at Oc.out _).mono ?_); rintro e w' ⟨rfl, hb⟩))
      | (go_at_call 23; ((with_reducible refine (owOk_at  _).mono ?_); rintro e w' ⟨rfl, hb⟩))
      | (go_at_call 30; ((with_reducible refine (join_at Hm.out _).mono ?_); rintro e w' ⟨rfl, hb⟩))
      | (go_at_call 30; ((with_reducible refine (join_at Hn.out _).mono ?_); rintro e w' ⟨rfl, hb⟩))
      | (go_at_call 30; ((with_reducible refine (join_at Ha.out _).mono ?_); rintro e w' ⟨rfl, hb⟩))
      | (go_at_call 25; ((with_reducible refine (in_at Xac.out _).mono ?_); rintro e w' ⟨rfl, hb⟩)))))
          all_goals go_wp2_with (first
      | (go_at_call 27; ((with_reducible refine (ok_s_at Oa.out _).mono ?_); rintro e w' ⟨rfl, hb⟩; have hS := s2_mk (below_on (by (try go_split_ands); first | with_reducible assumption | exact Below.refl _ _ | go_grown) hb); clear hb))
      | (go_at_call 27; ((with_reducible refine (ok_s_at Ob.out _).mono ?_); rintro e w' ⟨rfl, hb⟩; have hS := s2_mk (below_on (by (try go_split_ands); first | with_reducible assumption | exact Below.refl _ _ | go_grown) hb); clear hb))
      | (go_at_call 32; ((with_reducible refine (join_s_at Hj.out _).mono ?_); rintro e w' ⟨rfl, hb⟩; have hS := s2_mk (below_on (by (try go_split_ands); first | with_reducible assumption | exact Below.refl _ _ | go_grown) hb); clear hb))
      | (go_at_call 30; ((with_reducible refine (join_at Hj.out _).mono ?_); rintro e w' ⟨rfl, hb⟩; have hS := s2_mk (below_on (by (try go_split_ands); first | with_reducible assumption | exact Below.refl _ _ | go_grown) hb); clear hb))
      | (go_at_call 25; ((with_reducible refine (in_at Ia.out _).mono ?_); rintro e w' ⟨rfl, hb⟩; have hS := s2_mk (below_on (by (try go_split_ands); first | with_reducible assumption | exact Below.refl _ _ | go_grown) hb); clear hb))
      | (go_at_call 25; ((with_reducible refine (in_at Ib.out _).mono ?_); rintro e w' ⟨rfl, hb⟩; have hS := s2_mk (below_on (by (try go_split_ands); first | with_reducible assumption | exact Below.refl _ _ | go_grown) hb); clear hb))
      | (go_at_call 30; ((with_reducible refine (join_at Hji.out _).mono ?_); rintro e w' ⟨rfl, hb⟩; have hS := s2_mk (below_on (by (try go_split_ands); first | with_reducible assumption | exact Below.refl _ _ | go_grown) hb); clear hb))
      | (go_at_call 27; ((with_reducible refine (ok_s_at Oc.out _).mono ?_); rintro e w' ⟨rfl, hb⟩; have hS := s2_mk (below_on (by (try go_split_ands); first | with_reducible assumption | exact Below.refl _ _ | go_grown) hb); clear hb))
      | (go_at_call 23; ((with_reducible refine (owOk_at  _).mono ?_); rintro e w' ⟨rfl, hb⟩; have hS := s2_mk (below_on (by (try go_split_ands); first | with_reducible assumption | exact Below.refl _ _ | go_grown) hb); clear hb))
      | (go_at_call 30; ((with_reducible refine (join_at Hm.out _).mono ?_); rintro e w' ⟨rfl, hb⟩; have hS := s2_mk (below_on (by (try go_split_ands); first | with_reducible assumption | exact Below.refl _ _ | go_grown) hb); clear hb))
      | (go_at_call 30; ((with_reducible refine (join_at Hn.out _).mono ?_); rintro e w' ⟨rfl, hb⟩; have hS := s2_mk (below_on (by (try go_split_ands); first | with_reducible assumption | exact Below.refl _ _ | go_grown) hb); clear hb))
      | (go_at_call 30; ((with_reducible refine (join_at Ha.out _).mono ?_); rintro e w' ⟨rfl, hb⟩; have hS := s2_mk (below_on (by (try go_split_ands); first | with_reducible assumption | exact Below.refl _ _ | go_grown) hb); clear hb))
      | (go_at_call 25; ((with_reducible refine (in_at Xac.out _).mono ?_); rintro e w' ⟨rfl, hb⟩; have hS := s2_mk (below_on (by (try go_split_ands); first | with_reducible assumption | exact Below.refl _ _ | go_grown) hb); clear hb)))
          all_goals (go_ret; exact ⟨rfl, below_on hB0 (by (try go_split_ands); first | with_reducible assumption | go_grown)⟩)
      · have Oc := Lib.hid (show okI (cl, ch) = false by simpa using hc)
        clear ha hb hj hIa hIb hji hoj hc
        all_goals (try (go_region_held3 (fun w' => Below W0.heap.size W0 w' ∧ (∀ b o, b < W0.heap.size → w'.cell? ⟨b, o, none⟩ = W0.cell? ⟨b, o, none⟩) ∧ W0.heap.size ≤ w'.heap.size) (((try go_split_ands); (refine s2_mk ?_); first | with_reducible assumption | (with_reducible exact below_on (by assumption) hb) | exact (Below.refl _ _).drew | ((with_reducible refine Below.drew ?_); with_reducible assumption))) (first
      | (go_at_call 27; ((with_reducible refine (ok_s_at Oa.out _).mono ?_); rintro e w' ⟨rfl, hb⟩))
      | (go_at_call 27; ((with_reducible refine (ok_s_at Ob.out _).mono ?_); rintro e w' ⟨rfl, hb⟩))
      | (go_at_call 32; ((with_reducible refine (join_s_at Hj.out _).mono ?_); rintro e w' ⟨rfl, hb⟩))
      | (go_at_call 30; ((with_reducible refine (join_at Hj.out _).mono ?_); rintro e w' ⟨rfl, hb⟩))
      | (go_at_call 25; ((with_reducible refine (in_at Ia.out _).mono ?_); rintro e w' ⟨rfl, hb⟩))
      | (go_at_call 25; ((with_reducible refine (in_at Ib.out _).mono ?_); rintro e w' ⟨rfl, hb⟩))
      | (go_at_call 30; ((with_reducible refine (join_at Hji.out _).mono ?_); rintro e w' ⟨rfl, hb⟩))
      | (go_at_call 27; ((with_reducible refine (ok_s_at Oc.out _).mono ?_); rintro e w' ⟨rfl, hb⟩))
      | (go_at_call 23; ((with_reducible refine (owOk_at  _).mono ?_); rintro e w' ⟨rfl, hb⟩)))))
        all_goals go_wp2_with (first
      | (go_at_call 27; ((with_reducible refine (ok_s_at Oa.out _).mono ?_); rintro e w' ⟨rfl, hb⟩; have hS := s2_mk (below_on (by (try go_split_ands); first | with_reducible assumption | exact Below.refl _ _ | go_grown) hb); clear hb))
      | (go_at_call 27; ((with_reducible refine (ok_s_at Ob.out _).mono ?_); rintro e w' ⟨rfl, hb⟩; have hS := s2_mk (below_on (by (try go_split_ands); first | with_reducible assumption | exact Below.refl _ _ | go_grown) hb); clear hb))
      | (go_at_call 32; ((with_reducible refine (join_s_at Hj.out _).mono ?_); rintro e w' ⟨rfl, hb⟩; have hS := s2_mk (below_on (by (try go_split_ands); first | with_reducible assumption | exact Below.refl _ _ | go_grown) hb); clear hb))
      | (go_at_call 30; ((with_reducible refine (join_at Hj.out _).mono ?_); rintro e w' ⟨rfl, hb⟩; have hS := s2_mk (below_on (by (try go_split_ands); first | with_reducible assumption | exact Below.refl _ _ | go_grown) hb); clear hb))
      | (go_at_call 25; ((with_reducible refine (in_at Ia.out _).mono ?_); rintro e w' ⟨rfl, hb⟩; have hS := s2_mk (below_on (by (try go_split_ands); first | with_reducible assumption | exact Below.refl _ _ | go_grown) hb); clear hb))
      | (go_at_call 25; ((with_reducible refine (in_at Ib.out _).mono ?_); rintro e w' ⟨rfl, hb⟩; have hS := s2_mk (below_on (by (try go_split_ands); first | with_reducible assumption | exact Below.refl _ _ | go_grown) hb); clear hb))
      | (go_at_call 30; ((with_reducible refine (join_at Hji.out _).mono ?_); rintro e w' ⟨rfl, hb⟩; have hS := s2_mk (below_on (by (try go_split_ands); first | with_reducible assumption | exact Below.refl _ _ | go_grown) hb); clear hb))
      | (go_at_call 27; ((with_reducible refine (ok_s_at Oc.out _).mono ?_); rintro e w' ⟨rfl, hb⟩; have hS := s2_mk (below_on (by (try go_split_ands); first | with_reducible assumption | exact Below.refl _ _ | go_grown) hb); clear hb))
      | (go_at_call 23; ((with_reducible refine (owOk_at  _).mono ?_); rintro e w' ⟨rfl, hb⟩; have hS := s2_mk (below_on (by (try go_split_ands); first | with_reducible assumption | exact Below.refl _ _ | go_grown) hb); clear hb)))
        all_goals (try (go_region_held3 (fun w' => Below W0.heap.size W0 w' ∧ (∀ b o, b < W0.heap.size → w'.cell? ⟨b, o, none⟩ = W0.cell? ⟨b, o, none⟩) ∧ W0.heap.size ≤ w'.heap.size) (((try go_split_ands); (refine s2_mk ?_); first | with_reducible assumption | (with_reducible exact below_on (by assumption) hb) | exact (Below.refl _ _).drew | ((with_reducible refine Below.drew ?_); with_reducible assumption))) (first
      | (go_at_call 27; ((with_reducible refine (ok_s_at Oa.out _).mono ?_); rintro e w' ⟨rfl, hb⟩))
      | (go_at_call 27; ((with_reducible refine (ok_s_at Ob.out _).mono ?_); rintro e w' ⟨rfl, hb⟩))
      | (go_at_call 32; ((with_reducible refine (join_s_at Hj.out _).mono ?_); rintro e w' ⟨rfl, hb⟩))
      | (go_at_call 30; ((with_reducible refine (join_at Hj.out _).mono ?_); rintro e w' ⟨rfl, hb⟩))
      | (go_at_call 25; ((with_reducible refine (in_at Ia.out _).mono ?_); rintro e w' ⟨rfl, hb⟩))
      | (go_at_call 25; ((with_reducible refine (in_at Ib.out _).mono ?_); rintro e w' ⟨rfl, hb⟩))
      | (go_at_call 30; ((with_reducible refine (join_at Hji.out _).mono ?_); rintro e w' ⟨rfl, hb⟩))
      | (go_at_call 27; ((with_reducible refine (ok_s_at Oc.out _).mono ?_); rintro e w' ⟨rfl, hb⟩))
      | (go_at_call 23; ((with_reducible refine (owOk_at  _).mono ?_); rintro e w' ⟨rfl, hb⟩)))))
        all_goals go_wp2_with (first
      | (go_at_call 27; ((with_reducible refine (ok_s_at Oa.out _).mono ?_); rintro e w' ⟨rfl, hb⟩; have hS := s2_mk (below_on (by (try go_split_ands); first | with_reducible assumption | exact Below.refl _ _ | go_grown) hb); clear hb))
      | (go_at_call 27; ((with_reducible refine (ok_s_at Ob.out _).mono ?_); rintro e w' ⟨rfl, hb⟩; have hS := s2_mk (below_on (by (try go_split_ands); first | with_reducible assumption | exact Below.refl _ _ | go_grown) hb); clear hb))
      | (go_at_call 32; ((with_reducible refine (join_s_at Hj.out _).mono ?_); rintro e w' ⟨rfl, hb⟩; have hS := s2_mk (below_on (by (try go_split_ands); first | with_reducible assumption | exact Below.refl _ _ | go_grown) hb); clear hb))
      | (go_at_call 30; ((with_reducible refine (join_at Hj.out _).mono ?_); rintro e w' ⟨rfl, hb⟩; have hS := s2_mk (below_on (by (try go_split_ands); first | with_reducible assumption | exact Below.refl _ _ | go_grown) hb); clear hb))
      | (go_at_call 25; ((with_reducible refine (in_at Ia.out _).mono ?_); rintro e w' ⟨rfl, hb⟩; have hS := s2_mk (below_on (by (try go_split_ands); first | with_reducible assumption | exact Below.refl _ _ | go_grown) hb); clear hb))
      | (go_at_call 25; ((with_reducible refine (in_at Ib.out _).mono ?_); rintro e w' ⟨rfl, hb⟩; have hS := s2_mk (below_on (by (try go_split_ands); first | with_reducible assumption | exact Below.refl _ _ | go_grown) hb); clear hb))
      | (go_at_call 30; ((with_reducible refine (join_at Hji.out _).mono ?_); rintro e w' ⟨rfl, hb⟩; have hS := s2_mk (below_on (by (try go_split_ands); first | with_reducible assumption | exact Below.refl _ _ | go_grown) hb); clear hb))
      | (go_at_call 27; ((with_reducible refine (ok_s_at Oc.out _).mono ?_); rintro e w' ⟨rfl, hb⟩; have hS := s2_mk (below_on (by (try go_split_ands); first | with_reducible assumption | exact Below.refl _ _ | go_grown) hb); clear hb))
      | (go_at_call 23; ((with_reducible refine (owOk_at  _).mono ?_); rintro e w' ⟨rfl, hb⟩; have hS := s2_mk (below_on (by (try go_split_ands); first | with_reducible assumption | exact Below.refl _ _ | go_grown) hb); clear hb)))
        all_goals (try (go_region_held3 (fun w' => Below W0.heap.size W0 w' ∧ (∀ b o, b < W0.heap.size → w'.cell? ⟨b, o, none⟩ = W0.cell? ⟨b, o, none⟩) ∧ W0.heap.size ≤ w'.heap.size) (((try go_split_ands); (refine s2_mk ?_); first | with_reducible assumption | (with_reducible exact below_on (by assumption) hb) | exact (Below.refl _ _).drew | ((with_reducible refine Below.drew ?_); with_reducible assumption))) (first
      | (go_at_call 27; ((with_reducible refine (ok_s_at Oa.out _).mono ?_); rintro e w' ⟨rfl, hb⟩))
      | (go_at_call 27; ((with_reducible refine (ok_s_at Ob.out _).mono ?_); rintro e w' ⟨rfl, hb⟩))
      | (go_at_call 32; ((with_reducible refine (join_s_at Hj.out _).mono ?_); rintro e w' ⟨rfl, hb⟩))
      | (go_at_call 30; ((with_reducible refine (join_at Hj.out _).mono ?_); rintro e w' ⟨rfl, hb⟩))
      | (go_at_call 25; ((with_reducible refine (in_at Ia.out _).mono ?_); rintro e w' ⟨rfl, hb⟩))
      | (go_at_call 25; ((with_reducible refine (in_at Ib.out _).mono ?_); rintro e w' ⟨rfl, hb⟩))
      | (go_at_call 30; ((with_reducible refine (join_at Hji.out _).mono ?_); rintro e w' ⟨rfl, hb⟩))
      | (go_at_call 27; ((with_reducible refine (ok_s_at Oc.out _).mono ?_); rintro e w' ⟨rfl, hb⟩))
      | (go_at_call 23; ((with_reducible refine (owOk_at  _).mono ?_); rintro e w' ⟨rfl, hb⟩)))))
        all_goals go_wp2_with (first
      | (go_at_call 27; ((with_reducible refine (ok_s_at Oa.out _).mono ?_); rintro e w' ⟨rfl, hb⟩; have hS := s2_mk (below_on (by (try go_split_ands); first | with_reducible assumption | exact Below.refl _ _ | go_grown) hb); clear hb))
      | (go_at_call 27; ((with_reducible refine (ok_s_at Ob.out _).mono ?_); rintro e w' ⟨rfl, hb⟩; have hS := s2_mk (below_on (by (try go_split_ands); first | with_reducible assumption | exact Below.refl _ _ | go_grown) hb); clear hb))
      | (go_at_call 32; ((with_reducible refine (join_s_at Hj.out _).mono ?_); rintro e w' ⟨rfl, hb⟩; have hS := s2_mk (below_on (by (try go_split_ands); first | with_reducible assumption | exact Below.refl _ _ | go_grown) hb); clear hb))
      | (go_at_call 30; ((with_reducible refine (join_at Hj.out _).mono ?_); rintro e w' ⟨rfl, hb⟩; have hS := s2_mk (below_on (by (try go_split_ands); first | with_reducible assumption | exact Below.refl _ _ | go_grown) hb); clear hb))
      | (go_at_call 25; ((with_reducible refine (in_at Ia.out _).mono ?_); rintro e w' ⟨rfl, hb⟩; have hS := s2_mk (below_on (by (try go_split_ands); first | with_reducible assumption | exact Below.refl _ _ | go_grown) hb); clear hb))
      | (go_at_call 25; ((with_reducible refine (in_at Ib.out _).mono ?_); rintro e w' ⟨rfl, hb⟩; have hS := s2_mk (below_on (by (try go_split_ands); first | with_reducible assumption | exact Below.refl _ _ | go_grown) hb); clear hb))
      | (go_at_call 30; ((with_reducible refine (join_at Hji.out _).mono ?_); rintro e w' ⟨rfl, hb⟩; have hS := s2_mk (below_on (by (try go_split_ands); first | with_reducible assumption | exact Below.refl _ _ | go_grown) hb); clear hb))
      | (go_at_call 27; ((with_reducible refine (ok_s_at Oc.out _).mono ?_); rintro e w' ⟨rfl, hb⟩; have hS := s2_mk (below_on (by (try go_split_ands); first | with_reducible assumption | exact Below.refl _ _ | go_grown) hb); clear hb))
      | (go_at_call 23; ((with_reducible refine (owOk_at  _).mono ?_); rintro e w' ⟨rfl, hb⟩; have hS := s2_mk (below_on (by (try go_split_ands); first | with_reducible assumption | exact Below.refl _ _ | go_grown) hb); clear hb)))
        all_goals (go_ret; exact ⟨rfl, below_on hB0 (by (try go_split_ands); first | with_reducible assumption | go_grown)⟩)
    · have hj0 : (jl, jh) = ((0, 0) : Int × Int) := Hj.out.symm.trans (joinI_no (by cases h1 : okI (al, ah) <;> cases h2 : okI (bl, bh) <;> simp_all))
      have e1 : jl = 0 := congrArg Prod.fst hj0
      have e2 : jh = 0 := congrArg Prod.snd hj0
      subst e1 e2
      clear hj0
      rcases Bool.eq_false_or_eq_true (okI (al, ah)) with ha | ha
      · have hb : okI (bl, bh) = false := by
          rcases Bool.eq_false_or_eq_true (okI (bl, bh)) with hb | hb
          · exact absurd ⟨ha, hb⟩ hab
          · exact hb
        have Oa := Lib.hid ha
        have Ob := Lib.hid hb
        clear ha hb hab
        all_goals (try (go_region_held3 (fun w' => Below W0.heap.size W0 w' ∧ (∀ b o, b < W0.heap.size → w'.cell? ⟨b, o, none⟩ = W0.cell? ⟨b, o, none⟩) ∧ W0.heap.size ≤ w'.heap.size) (((try go_split_ands); (refine s2_mk ?_); first | with_reducible assumption | (with_reducible exact below_on (by assumption) hb) | exact (Below.refl _ _).drew | ((with_reducible refine Below.drew ?_); with_reducible assumption))) (first
      | (go_at_call 27; ((with_reducible refine (ok_s_at Oa.out _).mono ?_); rintro e w' ⟨rfl, hb⟩))
      | (go_at_call 27; ((with_reducible refine (ok_s_at Ob.out _).mono ?_); rintro e w' ⟨rfl, hb⟩))
      | (go_at_call 32; ((with_reducible refine (join_s_at Hj.out _).mono ?_); rintro e w' ⟨rfl, hb⟩))
      | (go_at_call 30; ((with_reducible refine (join_at Hj.out _).mono ?_); rintro e w' ⟨rfl, hb⟩))
      | (go_at_call 23; ((with_reducible refine (owOk_at  _).mono ?_); rintro e w' ⟨rfl, hb⟩)))))
        all_goals go_wp2_with (first
      | (go_at_call 27; ((with_reducible refine (ok_s_at Oa.out _).mono ?_); rintro e w' ⟨rfl, hb⟩; have hS := s2_mk (below_on (by (try go_split_ands); first | with_reducible assumption | exact Below.refl _ _ | go_grown) hb); clear hb))
      | (go_at_call 27; ((with_reducible refine (ok_s_at Ob.out _).mono ?_); rintro e w' ⟨rfl, hb⟩; have hS := s2_mk (below_on (by (try go_split_ands); first | with_reducible assumption | exact Below.refl _ _ | go_grown) hb); clear hb))
      | (go_at_call 32; ((with_reducible refine (join_s_at Hj.out _).mono ?_); rintro e w' ⟨rfl, hb⟩; have hS := s2_mk (below_on (by (try go_split_ands); first | with_reducible assumption | exact Below.refl _ _ | go_grown) hb); clear hb))
      | (go_at_call 30; ((with_reducible refine (join_at Hj.out _).mono ?_); rintro e w' ⟨rfl, hb⟩; have hS := s2_mk (below_on (by (try go_split_ands); first | with_reducible assumption | exact Below.refl _ _ | go_grown) hb); clear hb))
      | (go_at_call 23; ((with_reducible refine (owOk_at  _).mono ?_); rintro e w' ⟨rfl, hb⟩; have hS := s2_mk (below_on (by (try go_split_ands); first | with_reducible assumption | exact Below.refl _ _ | go_grown) hb); clear hb)))
        all_goals (try (go_region_held3 (fun w' => Below W0.heap.size W0 w' ∧ (∀ b o, b < W0.heap.size → w'.cell? ⟨b, o, none⟩ = W0.cell? ⟨b, o, none⟩) ∧ W0.heap.size ≤ w'.heap.size) (((try go_split_ands); (refine s2_mk ?_); first | with_reducible assumption | (with_reducible exact below_on (by assumption) hb) | exact (Below.refl _ _).drew | ((with_reducible refine Below.drew ?_); with_reducible assumption))) (first
      | (go_at_call 27; ((with_reducible refine (ok_s_at Oa.out _).mono ?_); rintro e w' ⟨rfl, hb⟩))
      | (go_at_call 27; ((with_reducible refine (ok_s_at Ob.out _).mono ?_); rintro e w' ⟨rfl, hb⟩))
      | (go_at_call 32; ((with_reducible refine (join_s_at Hj.out _).mono ?_); rintro e w' ⟨rfl, hb⟩))
      | (go_at_call 30; ((with_reducible refine (join_at Hj.out _).mono ?_); rintro e w' ⟨rfl, hb⟩))
      | (go_at_call 23; ((with_reducible refine (owOk_at  _).mono ?_); rintro e w' ⟨rfl, hb⟩)))))
        all_goals go_wp2_with (first
      | (go_at_call 27; ((with_reducible refine (ok_s_at Oa.out _).mono ?_); rintro e w' ⟨rfl, hb⟩; have hS := s2_mk (below_on (by (try go_split_ands); first | with_reducible assumption | exact Below.refl _ _ | go_grown) hb); clear hb))
      | (go_at_call 27; ((with_reducible refine (ok_s_at Ob.out _).mono ?_); rintro e w' ⟨rfl, hb⟩; have hS := s2_mk (below_on (by (try go_split_ands); first | with_reducible assumption | exact Below.refl _ _ | go_grown) hb); clear hb))
      | (go_at_call 32; ((with_reducible refine (join_s_at Hj.out _).mono ?_); rintro e w' ⟨rfl, hb⟩; have hS := s2_mk (below_on (by (try go_split_ands); first | with_reducible assumption | exact Below.refl _ _ | go_grown) hb); clear hb))
      | (go_at_call 30; ((with_reducible refine (join_at Hj.out _).mono ?_); rintro e w' ⟨rfl, hb⟩; have hS := s2_mk (below_on (by (try go_split_ands); first | with_reducible assumption | exact Below.refl _ _ | go_grown) hb); clear hb))
      | (go_at_call 23; ((with_reducible refine (owOk_at  _).mono ?_); rintro e w' ⟨rfl, hb⟩; have hS := s2_mk (below_on (by (try go_split_ands); first | with_reducible assumption | exact Below.refl _ _ | go_grown) hb); clear hb)))
        all_goals (go_ret; exact ⟨rfl, below_on hB0 (by (try go_split_ands); first | with_reducible assumption | go_grown)⟩)
      · have Oa := Lib.hid ha
        clear ha hab
        all_goals (try (go_region_held3 (fun w' => Below W0.heap.size W0 w' ∧ (∀ b o, b < W0.heap.size → w'.cell? ⟨b, o, none⟩ = W0.cell? ⟨b, o, none⟩) ∧ W0.heap.size ≤ w'.heap.size) (((try go_split_ands); (refine s2_mk ?_); first | with_reducible assumption | (with_reducible exact below_on (by assumption) hb) | exact (Below.refl _ _).drew | ((with_reducible refine Below.drew ?_); with_reducible assumption))) (first
      | (go_at_call 27; ((with_reducible refine (ok_s_at Oa.out _).mono ?_); rintro e w' ⟨rfl, hb⟩))
      | (go_at_call 32; ((with_reducible refine (join_s_at Hj.out _).mono ?_); rintro e w' ⟨rfl, hb⟩))
      | (go_at_call 30; ((with_reducible refine (join_at Hj.out _).mono ?_); rintro e w' ⟨rfl, hb⟩))
      | (go_at_call 23; ((with_reducible refine (owOk_at  _).mono ?_); rintro e w' ⟨rfl, hb⟩)))))
        all_goals go_wp2_with (first
      | (go_at_call 27; ((with_reducible refine (ok_s_at Oa.out _).mono ?_); rintro e w' ⟨rfl, hb⟩; have hS := s2_mk (below_on (by (try go_split_ands); first | with_reducible assumption | exact Below.refl _ _ | go_grown) hb); clear hb))
      | (go_at_call 32; ((with_reducible refine (join_s_at Hj.out _).mono ?_); rintro e w' ⟨rfl, hb⟩; have hS := s2_mk (below_on (by (try go_split_ands); first | with_reducible assumption | exact Below.refl _ _ | go_grown) hb); clear hb))
      | (go_at_call 30; ((with_reducible refine (join_at Hj.out _).mono ?_); rintro e w' ⟨rfl, hb⟩; have hS := s2_mk (below_on (by (try go_split_ands); first | with_reducible assumption | exact Below.refl _ _ | go_grown) hb); clear hb))
      | (go_at_call 23; ((with_reducible refine (owOk_at  _).mono ?_); rintro e w' ⟨rfl, hb⟩; have hS := s2_mk (below_on (by (try go_split_ands); first | with_reducible assumption | exact Below.refl _ _ | go_grown) hb); clear hb)))
        all_goals (try (go_region_held3 (fun w' => Below W0.heap.size W0 w' ∧ (∀ b o, b < W0.heap.size → w'.cell? ⟨b, o, none⟩ = W0.cell? ⟨b, o, none⟩) ∧ W0.heap.size ≤ w'.heap.size) (((try go_split_ands); (refine s2_mk ?_); first | with_reducible assumption | (with_reducible exact below_on (by assumption) hb) | exact (Below.refl _ _).drew | ((with_reducible refine Below.drew ?_); with_reducible assumption))) (first
      | (go_at_call 27; ((with_reducible refine (ok_s_at Oa.out _).mono ?_); rintro e w' ⟨rfl, hb⟩))
      | (go_at_call 32; ((with_reducible refine (join_s_at Hj.out _).mono ?_); rintro e w' ⟨rfl, hb⟩))
      | (go_at_call 30; ((with_reducible refine (join_at Hj.out _).mono ?_); rintro e w' ⟨rfl, hb⟩))
      | (go_at_call 23; ((with_reducible refine (owOk_at  _).mono ?_); rintro e w' ⟨rfl, hb⟩)))))
        all_goals go_wp2_with (first
      | (go_at_call 27; ((with_reducible refine (ok_s_at Oa.out _).mono ?_); rintro e w' ⟨rfl, hb⟩; have hS := s2_mk (below_on (by (try go_split_ands); first | with_reducible assumption | exact Below.refl _ _ | go_grown) hb); clear hb))
      | (go_at_call 32; ((with_reducible refine (join_s_at Hj.out _).mono ?_); rintro e w' ⟨rfl, hb⟩; have hS := s2_mk (below_on (by (try go_split_ands); first | with_reducible assumption | exact Below.refl _ _ | go_grown) hb); clear hb))
      | (go_at_call 30; ((with_reducible refine (join_at Hj.out _).mono ?_); rintro e w' ⟨rfl, hb⟩; have hS := s2_mk (below_on (by (try go_split_ands); first | with_reducible assumption | exact Below.refl _ _ | go_grown) hb); clear hb))
      | (go_at_call 23; ((with_reducible refine (owOk_at  _).mono ?_); rintro e w' ⟨rfl, hb⟩; have hS := s2_mk (below_on (by (try go_split_ands); first | with_reducible assumption | exact Below.refl _ _ | go_grown) hb); clear hb)))
        all_goals (go_ret; exact ⟨rfl, below_on hB0 (by (try go_split_ands); first | with_reducible assumption | go_grown)⟩)
/-! ### The row, off the walk -/
set_option maxRecDepth 100000 in
theorem lifted (os : Os) (started : os.Started) (H : Type) (enc : TypeId × Value → H) :
    ReturnsInHanded {} Try.checked os 7 .any (Rows.fnItvJoinSpec.pre6 enc Try.prog Try.f7 Rows.fnItvJoinRow.domain false) (Rows.fnItvJoinSpec.post enc Try.prog Try.f7 false true false false) := by
  refine returnsInHanded_of_change (C := Try.checked) own started (by kernel_rfl) Try.func7
    (ChangeSpec.witness6 (enc := enc) (C := Try.checked) false ⟨#[], #[.slice none 0 0, .slice none 0 0], []⟩ 8 (by kernel_rfl) (by kernel_rfl) (by kernel_rfl) (by kernel_rfl)) ?_
  intro W base args ds gs before hval0 hW hcnd _
  have hval : ∀ (j : Nat) t v, Try.f7.params[j]? = some t → args[j]? = some v → Value.okWide Try.prog W .any base t v := hval0
  have hW' := hW
  obtain ⟨p, q, hA0, hV, rfl, hfz, hnd⟩ := hW
  have hA : DataW.TrodAll enc Try.prog W 0 (fun _ => true) true Try.f7.params.toList args.toList ds p := hA0
  rw [Try.params7] at hA hval
  obtain ⟨v0, vs0, d0, ds0, p0, q0, hargs, rfl, rfl, h0, r0⟩ := trodAll_cons hA
  obtain ⟨v1, vs1, d1, ds1, p1, q1, rfl, rfl, rfl, h1, r1⟩ := trodAll_cons r0
  obtain ⟨rfl, rfl, rfl⟩ := trodAll_nil r1
  obtain rfl : args = #[v0, v1] := by cases args; simp_all
  obtain ⟨rfl, rfl⟩ := trodVars_none hV
  have k0 := h0
  have lt0 : ∀ x ∈ p0, x.block < W.heap.size := by obtain ⟨m, hm⟩ := k0; exact DataW.trod_lt m _ _ _ hm
  obtain ⟨a0, len0, cap0, rfl⟩ := okWide_slice Try.underlying22 (hval 0 22 v0 rfl rfl)
  obtain ⟨z0, w0⟩ : ∃ zs, IsRow .u8 W a0 len0 cap0 zs := by
    obtain ⟨fuel, hf⟩ := h0
    rcases open_ints Try.underlying22 Try.underlying5 (by kernel_rfl) hf with ⟨hcs, _⟩ | ⟨x, l, c, zs, hcs, _, hl, hm, hz, _, hcell, hwz⟩
    · simp [Value.cells] at hcs
      obtain ⟨rfl, rfl, rfl⟩ := hcs
      exact ⟨[], .inl ⟨rfl, rfl, rfl, rfl⟩⟩
    · simp [Value.cells] at hcs
      obtain ⟨rfl, rfl, rfl⟩ := hcs
      exact ⟨zs, .inr ⟨_, rfl, hl, hm, by simpa using hz, hcell, hwz⟩⟩
  have k1 := h1
  have lt1 : ∀ x ∈ p1, x.block < W.heap.size := by obtain ⟨m, hm⟩ := k1; exact DataW.trod_lt m _ _ _ hm
  obtain ⟨a1, len1, cap1, rfl⟩ := okWide_slice Try.underlying22 (hval 1 22 v1 rfl rfl)
  obtain ⟨z1, w1⟩ : ∃ zs, IsRow .u8 W a1 len1 cap1 zs := by
    obtain ⟨fuel, hf⟩ := h1
    rcases open_ints Try.underlying22 Try.underlying5 (by kernel_rfl) hf with ⟨hcs, _⟩ | ⟨x, l, c, zs, hcs, _, hl, hm, hz, _, hcell, hwz⟩
    · simp [Value.cells] at hcs
      obtain ⟨rfl, rfl, rfl⟩ := hcs
      exact ⟨[], .inl ⟨rfl, rfl, rfl, rfl⟩⟩
    · simp [Value.cells] at hcs
      obtain ⟨rfl, rfl, rfl⟩ := hcs
      exact ⟨zs, .inr ⟨_, rfl, hl, hm, by simpa using hz, hcell, hwz⟩⟩
  clear hA0 hval0
  refine (walk a0 len0 cap0 z0 a1 len1 cap1 z1 W w0 w1).mono fun e W' ⟨he, bel⟩ => ?_
  subst he
  exact ⟨_, rfl, _, _, _, [], _, [], hW', trodAll_mk1 (shut_bool Try.underlying4 _), (trodAll_cons_mk (Below.trod laidOut (by kernel_rfl) (of_decide_eq_true (by kernel_rfl)) k0 bel lt0) (trodAll_cons_mk (Below.trod laidOut (by kernel_rfl) (of_decide_eq_true (by kernel_rfl)) k1 bel lt1) trodAll_mk0)), rfl, bel.frame _, fun h => by cases h⟩

theorem over : Rows.fnItvJoinRow.holds Try.pinned (OpenSpec.ofChange Rows.fnItvJoinSpec) :=
  OpenClaim.holds_of_wide 7 Try.f7 rfl rfl rfl rfl rfl rfl rfl ⟨rfl, rfl, rfl, rfl, rfl⟩ rfl rfl rfl rfl rfl (by kernel_rfl) Try.func7 (by kernel_rfl)
    (of_decide_eq_true (by kernel_rfl)) (by unfold Func.isWrapper; rw [if_neg (of_decide_eq_false (by kernel_rfl))]; exact ⟨rfl, rfl⟩)
    (fun os started H enc _ => lifted os started H enc)

/-- The given statement. -/
theorem proved : Rows.FnItvJoinSaid := over
#print axioms proved
end Go.Proofs.Ytbkfhlppcocamaa.fnItvJoin
