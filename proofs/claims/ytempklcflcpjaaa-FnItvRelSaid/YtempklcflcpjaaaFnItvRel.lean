/-
  FnItvRel: for every input the law returns true, and its arguments read as before. No conditions.
-/
import Derived.Test.YtempklcflcpjaaaAt2
import Derived.Test.YtempklcflcpjaaaLaws
import Derived.Test.YtempklcflcpjaaaDraw7
import Derived.Test.YtempklcflcpjaaaDraw6
import Derived.Test.YtempklcflcpjaaaOw
import Derived.Test.YtempklcflcpjaaaRel3
import Derived.LoopTactic
namespace Go.Proofs.Ytempklcflcpjaaa.fnItvRel
set_option linter.unusedSimpArgs false
set_option linter.unusedVariables false
open Go.ChangeShapes Go.WideShapes Go.ChangeAt Go.RowKit
open Go.ChangeMaps (open_string shut_string)

theorem cset {W : World} {p a : Addr} {u : Value} (hn : a.block ≠ p.block) : (W.setCell p u).cell? a = W.cell? a := World.cell?_of_block (w := W) (Below.heap_setCell W p u a.block hn)
theorem keep_under {W W' : World} {a : Addr} {v : Value} {o o' : Obj} (h : (W.alloc o).cell? a = some v) (hl : a.block < W.heap.size) (hs : W'.heap.size = W.heap.size) (k : W'.cell? a = W.cell? a) : (W'.alloc o').cell? a = some v := by
  rw [World.cell?_alloc_lt _ _ _ hl] at h
  rw [World.cell?_alloc_lt _ _ _ (by omega), k, h]
theorem below_under {w W W' : World} {o o' : Obj} (h : Below w.heap.size w (W.alloc o)) (hl : w.heap.size ≤ W.heap.size) (k : Below w.heap.size W W') : Below w.heap.size w (W'.alloc o') := by
  have k0 : Below w.heap.size w W := ⟨h.os, h.tape, h.output, hl, fun i hi => by rw [← Below.heap_alloc W o i (by omega)]; exact h.block i hi⟩
  exact (k0.trans k).alloc (by have := k.size; omega) o'

theorem keep_realloc2 {W : World} {a : Addr} {v : Value} {o o' o2 : Obj} (h : ((W.alloc o).alloc o2).cell? a = some v) (hl : a.block < W.heap.size) : ((W.alloc o').alloc o2).cell? a = some v := by
  rw [World.cell?_alloc_lt _ _ _ (by rw [World.size_alloc]; omega), World.cell?_alloc_lt _ _ _ hl] at h ⊢; exact h
theorem below_realloc2 {w W : World} {o o' o2 : Obj} (h : Below w.heap.size w ((W.alloc o).alloc o2)) (hl : w.heap.size ≤ W.heap.size) : Below w.heap.size w ((W.alloc o').alloc o2) :=
  ⟨h.os, h.tape, h.output, by simp; omega, fun k hk => by
    rw [Below.heap_alloc _ _ _ (by rw [World.size_alloc]; omega), Below.heap_alloc _ _ _ (by omega), ← Below.heap_alloc W o _ (by omega), ← Below.heap_alloc (W.alloc o) o2 _ (by rw [World.size_alloc]; omega)]; exact h.block k hk⟩
theorem owOk_at (w : World) : Calls Try.prog 10 #[] w fun e w' => e = .returned (.bool true) ∧ Below w.heap.size w w' := (owOk_l w).mono fun e w' h => ⟨h.1, by rw [h.2]; exact Below.refl _ _⟩
/-- A list of twelve integers lies in block g. -/
def ListAt (W : World) (g : Nat) (zs : List Int) : Prop := ∀ k, k < 12 → W.cell? ⟨g, k, none⟩ = some (.int .i64 (zs.getD k 0))
theorem list_of {B : Nat} {w : World} {v : Value} {zs : List Int} (h : NumsAt B w v zs) (hl : zs.length = 12) : ∃ g cap, v = .slice (some ⟨g, 0, none⟩) 12 cap ∧ B ≤ g ∧ g < w.heap.size ∧ ListAt w g zs := by
  obtain ⟨_, ho⟩ := h
  rw [hl] at ho
  rcases ho.2 with ⟨_, h0⟩ | ⟨g, cap, cur, rfl, h1, hg, _⟩
  · omega
  · refine ⟨g, cap, rfl, h1, (ho.lt g rfl).2, fun k hk => ?_⟩
    rw [ho.cellAt k (by omega), List.getElem?_map, List.getD_eq_getElem?_getD, List.getElem?_eq_getElem (by omega)]
    rfl
theorem ListAt.keep {W W' : World} {g : Nat} {zs : List Int} (h : ListAt W g zs) (hb : Below W.heap.size W W') (hg : g < W.heap.size) : ListAt W' g zs := fun k hk => (hb.cell (p := ⟨g, k, none⟩) hg).trans (h k hk)
theorem ListAt.alloc {W : World} {g : Nat} {zs : List Int} (h : ListAt W g zs) (o : Obj) (hg : g < W.heap.size) : ListAt (W.alloc o) g zs := fun k hk => (World.cell?_alloc_lt _ _ _ hg).trans (h k hk)
theorem pick_ok {al ah : Int} (h : okI (al, ah) = true) : -32768 ≤ al ∧ al ≤ ah ∧ ah ≤ 32767 := by
  have := (okI_iff _).1 h
  simp only at this
  omega
theorem rel_at {rel al ah bl bh xl xh yl yh : Int} {ok : Bool} (h : relI rel (al, ah) (bl, bh) = ((xl, xh), (yl, yh), ok)) (w : World) : Calls Try.prog 20 #[.int .i64 rel, .agg #[.int .i64 al, .int .i64 ah], .agg #[.int .i64 bl, .int .i64 bh]] w fun e w' => e = .returned (.tuple #[.agg #[.int .i64 xl, .int .i64 xh], .agg #[.int .i64 yl, .int .i64 yh], .bool ok]) ∧ Below w.heap.size w w' := by
  have k := itvRel_i_ rel al ah bl bh w
  rw [h] at k
  exact k
theorem holds_at {rel u v : Int} {x : Bool} (h : relHolds rel u v = x) (w : World) : Calls Try.prog 25 #[.int .i64 rel, .int .i64 u, .int .i64 v] w fun e w' => e = .returned (.bool x) ∧ Below w.heap.size w w' := by
  have k := relHolds_i rel u v w
  rw [h] at k
  exact k.mono fun e w' h => ⟨h.1, by rw [← h.2]; exact Below.refl _ _⟩
theorem rel_s_at {rel al ah bl bh xl xh yl yh : Int} {ok : Bool} (h : relI rel (al, ah) (bl, bh) = ((xl, xh), (yl, yh), ok)) (w : World) : Calls Try.prog 23 #[.int .i64 rel, .agg #[.int .i64 al, .int .i64 ah], .agg #[.int .i64 bl, .int .i64 bh]] w fun e w' => e = .returned (.tuple #[.agg #[.int .i64 xl, .int .i64 xh], .agg #[.int .i64 yl, .int .i64 yh], .bool ok]) ∧ Below w.heap.size w w' := by
  have k := itvRel_s rel al ah bl bh w
  rw [h] at k
  exact k

set_option maxRecDepth 100000 in
set_option maxHeartbeats 8000000 in
theorem walk (a0 : Option Addr) (len0 cap0 : Nat) (z0 : List Int) (a1 : Option Addr) (len1 cap1 : Nat) (z1 : List Int) (w : World) (w0 : IsRow .u8 w a0 len0 cap0 z0) (w1 : IsRow .u8 w a1 len1 cap1 z1) :
    Calls Try.prog 5 #[.slice a0 len0 cap0, .slice a1 len1 cap1] w fun e w' => e = .returned (.bool true) ∧ Below w.heap.size w w' := by
  go_enter Try.func5, Try.ntmps5
  go_wp2_with fail
  all_goals (try (go_ret; exact ⟨rfl, by go_grown⟩))
  refine (drawItvRel_s _ _ _ _ _ w0).mono ?_
  rintro e wA ⟨rel, al, ah, bl, bh, rfl, hop, _, _, _, _, hBa⟩
  have hsA := hBa.size
  go_wp2_with fail
  refine (drawInputs_s _ _ _ _ _ (((w1.below hBa).alloc _).alloc _)).mono ?_
  rintro e wB ⟨n, v, zs, rfl, hn, hzl, hN, hBb⟩
  have hsB := hBb.size
  have q0 := hBb.cell (p := ⟨wA.heap.size, 0, none⟩) (by simp only [World.size_alloc]; omega)
  have q1 := hBb.cell (p := ⟨wA.heap.size, 1, none⟩) (by simp only [World.size_alloc]; omega)
  have q2 := hBb.cell (p := ⟨wA.heap.size + 1, 0, none⟩) (by simp only [World.size_alloc]; omega)
  have q3 := hBb.cell (p := ⟨wA.heap.size + 1, 1, none⟩) (by simp only [World.size_alloc]; omega)
  simp [go_sem] at q0 q1 q2 q3
  have hBw : Below w.heap.size w wB := below_on ((hBa.alloc hsA _).alloc (by simp only [World.size_alloc]; omega) _) hBb
  obtain ⟨g, cap, rfl, _, lg, hL0⟩ := list_of hN hzl
  have hL := Lib.hid hL0
  clear hBb hsB hN hL0 hBa hsA
  have l0 := blk q0
  have l2 := blk q2
  obtain ⟨⟨⟨xl, xh⟩, ⟨yl, yh⟩, ok⟩, hx⟩ : ∃ r, r = relI rel (al, ah) (bl, bh) := ⟨_, rfl⟩
  have Hx := Lib.hid hx.symm
  clear hx
  go_upto_region 5 with fail
  go_cut [10, 11, 12] (fun s10 s11 s12 wx => ∃ W, W = wx ∧ ∃ x y : Nat, s10 = .pointer (some ⟨x, 0, none⟩) ∧ s11 = .pointer (some ⟨y, 0, none⟩) ∧ s12 = .bool ok ∧ wx.cell? ⟨x, 0, none⟩ = some (.int .i64 xl) ∧ wx.cell? ⟨x, 1, none⟩ = some (.int .i64 xh) ∧ wx.cell? ⟨y, 0, none⟩ = some (.int .i64 yl) ∧ wx.cell? ⟨y, 1, none⟩ = some (.int .i64 yh) ∧ wx.cell? ⟨wA.heap.size, 0, none⟩ = some (.int .i64 al) ∧ wx.cell? ⟨wA.heap.size, 1, none⟩ = some (.int .i64 ah) ∧ wx.cell? ⟨wA.heap.size + 1, 0, none⟩ = some (.int .i64 bl) ∧ wx.cell? ⟨wA.heap.size + 1, 1, none⟩ = some (.int .i64 bh) ∧ Hid (ListAt wx g zs) ∧ g < wx.heap.size ∧ Below w.heap.size w wx)
  case first =>
    go_wp2_with fail
    refine (rel_at Hx.out _).mono ?_
    rintro e wC ⟨rfl, hBc⟩
    have r0 := (hBc.cell (p := ⟨wA.heap.size, 0, none⟩) l0).trans q0
    have r1 := (hBc.cell (p := ⟨wA.heap.size, 1, none⟩) l0).trans q1
    have r2 := (hBc.cell (p := ⟨wA.heap.size + 1, 0, none⟩) l2).trans q2
    have r3 := (hBc.cell (p := ⟨wA.heap.size + 1, 1, none⟩) l2).trans q3
    have hLc := hL.out.keep hBc lg
    have hBx : Below w.heap.size w wC := below_on hBw hBc
    have lgc : g < wC.heap.size := Nat.lt_of_lt_of_le lg hBc.size
    clear hBc
    go_wp2_with fail
    go_meet
    exact ⟨_, rfl, _, _, rfl, rfl, rfl, by simp [go_sem], by simp [go_sem], by simp [go_sem], by simp [go_sem], keep_alloc _ (keep_alloc _ r0), keep_alloc _ (keep_alloc _ r1), keep_alloc _ (keep_alloc _ r2), keep_alloc _ (keep_alloc _ r3), Lib.hid ((hLc.alloc _ lgc).alloc _ (by simp only [World.size_alloc]; omega)), (by simp only [World.size_alloc]; omega), (hBx.alloc hBx.size _).alloc (by have := hBx.size; simp only [World.size_alloc]; omega) _⟩
  case rest =>
  clear q0 q1 q2 q3 hL lg l0 l2 hBw
  obtain ⟨W1, rfl, x, y, rfl, rfl, rfl, d0, d1, d2, d3, q0, q1, q2, q3, hL, lg, hBw⟩ := hcut
  have l0 := blk q0
  have l2 := blk q2
  have ld := blk d0
  have le := blk d2
  go_upto_region 6 with fail
  go_cut [13, 14, 15] (fun s13 s14 s15 wx => ∃ W, W = wx ∧ ∃ x1 y1 : Nat, s13 = .pointer (some ⟨x1, 0, none⟩) ∧ s14 = .pointer (some ⟨y1, 0, none⟩) ∧ s15 = .bool ok ∧ wx.cell? ⟨x1, 0, none⟩ = some (.int .i64 xl) ∧ wx.cell? ⟨x1, 1, none⟩ = some (.int .i64 xh) ∧ wx.cell? ⟨y1, 0, none⟩ = some (.int .i64 yl) ∧ wx.cell? ⟨y1, 1, none⟩ = some (.int .i64 yh) ∧ wx.cell? ⟨x, 0, none⟩ = some (.int .i64 xl) ∧ wx.cell? ⟨x, 1, none⟩ = some (.int .i64 xh) ∧ wx.cell? ⟨y, 0, none⟩ = some (.int .i64 yl) ∧ wx.cell? ⟨y, 1, none⟩ = some (.int .i64 yh) ∧ wx.cell? ⟨wA.heap.size, 0, none⟩ = some (.int .i64 al) ∧ wx.cell? ⟨wA.heap.size, 1, none⟩ = some (.int .i64 ah) ∧ wx.cell? ⟨wA.heap.size + 1, 0, none⟩ = some (.int .i64 bl) ∧ wx.cell? ⟨wA.heap.size + 1, 1, none⟩ = some (.int .i64 bh) ∧ Hid (ListAt wx g zs) ∧ g < wx.heap.size ∧ Below w.heap.size w wx)
  case first =>
    go_wp2_with fail
    refine (rel_s_at Hx.out _).mono ?_
    rintro e wC ⟨rfl, hBc⟩
    have r0 := (hBc.cell (p := ⟨wA.heap.size, 0, none⟩) l0).trans q0
    have r1 := (hBc.cell (p := ⟨wA.heap.size, 1, none⟩) l0).trans q1
    have r2 := (hBc.cell (p := ⟨wA.heap.size + 1, 0, none⟩) l2).trans q2
    have r3 := (hBc.cell (p := ⟨wA.heap.size + 1, 1, none⟩) l2).trans q3
    have s0 := (hBc.cell (p := ⟨x, 0, none⟩) ld).trans d0
    have s1 := (hBc.cell (p := ⟨x, 1, none⟩) ld).trans d1
    have s2 := (hBc.cell (p := ⟨y, 0, none⟩) le).trans d2
    have s3 := (hBc.cell (p := ⟨y, 1, none⟩) le).trans d3
    have hLc := hL.out.keep hBc lg
    have hBx : Below w.heap.size w wC := below_on hBw hBc
    have lgc : g < wC.heap.size := Nat.lt_of_lt_of_le lg hBc.size
    clear hBc
    go_wp2_with fail
    go_meet
    exact ⟨_, rfl, _, _, rfl, rfl, rfl, by simp [go_sem], by simp [go_sem], by simp [go_sem], by simp [go_sem], keep_alloc _ (keep_alloc _ s0), keep_alloc _ (keep_alloc _ s1), keep_alloc _ (keep_alloc _ s2), keep_alloc _ (keep_alloc _ s3), keep_alloc _ (keep_alloc _ r0), keep_alloc _ (keep_alloc _ r1), keep_alloc _ (keep_alloc _ r2), keep_alloc _ (keep_alloc _ r3), Lib.hid ((hLc.alloc _ lgc).alloc _ (by simp only [World.size_alloc]; omega)), (by simp only [World.size_alloc]; omega), (hBx.alloc hBx.size _).alloc (by have := hBx.size; simp only [World.size_alloc]; omega) _⟩
  case rest =>
  clear q0 q1 q2 q3 hL lg l0 l2 hBw d0 d1 d2 d3 ld le
  obtain ⟨W0, rfl, x1, y1, rfl, rfl, rfl, e0, e1, e2, e3, d0, d1, d2, d3, c2, c3, c4, c5, hL, lg, hB0⟩ := hcut
  have l0 := blk e0
  have l1 := blk e2
  have ld := blk d0
  have le := blk d2
  have l2 := blk c2
  have l4 := blk c4
  have hS := s2_mk (Below.refl W0.heap.size W0)
  by_cases hab : okI (al, ah) = true ∧ okI (bl, bh) = true
  · have Ka := Lib.hid (pick_ok hab.1)
    have Kb := Lib.hid (pick_ok hab.2)
    have Oa := Lib.hid hab.1
    have Ob := Lib.hid hab.2
    have Rk := Lib.hid (Hx.out ▸ relI_ok rel hab.1 hab.2 : RelOk (relHolds rel) (al, ah) (bl, bh) ((xl, xh), (yl, yh), ok))
    clear hab
    all_goals (try (go_region_held3 (fun w' => Below W0.heap.size W0 w' ∧ (∀ b o, b < W0.heap.size → w'.cell? ⟨b, o, none⟩ = W0.cell? ⟨b, o, none⟩) ∧ W0.heap.size ≤ w'.heap.size) (((try go_split_ands); (refine s2_mk ?_); first | with_reducible assumption | (with_reducible exact below_on (by assumption) hb) | exact (Below.refl _ _).drew | ((with_reducible refine Below.drew ?_); with_reducible assumption))) (first
      | (go_at_call 17; ((with_reducible refine (ok_s_at Oa.out _).mono ?_); rintro e w' ⟨rfl, hb⟩))
      | (go_at_call 17; ((with_reducible refine (ok_s_at Ob.out _).mono ?_); rintro e w' ⟨rfl, hb⟩)))))
    all_goals go_wp2_with (first
      | (go_at_call 17; ((with_reducible refine (ok_s_at Oa.out _).mono ?_); rintro e w' ⟨rfl, hb⟩; have hS := s2_mk (below_on (by (try go_split_ands); first | with_reducible assumption | exact Below.refl _ _ | go_grown) hb); clear hb))
      | (go_at_call 17; ((with_reducible refine (ok_s_at Ob.out _).mono ?_); rintro e w' ⟨rfl, hb⟩; have hS := s2_mk (below_on (by (try go_split_ands); first | with_reducible assumption | exact Below.refl _ _ | go_grown) hb); clear hb)))
    all_goals (try (go_region_held3 (fun w' => Below W0.heap.size W0 w' ∧ (∀ b o, b < W0.heap.size → w'.cell? ⟨b, o, none⟩ = W0.cell? ⟨b, o, none⟩) ∧ W0.heap.size ≤ w'.heap.size) (((try go_split_ands); (refine s2_mk ?_); first | with_reducible assumption | (with_reducible exact below_on (by assumption) hb) | exact (Below.refl _ _).drew | ((with_reducible refine Below.drew ?_); with_reducible assumption))) (first
      | (go_at_call 17; ((with_reducible refine (ok_s_at Oa.out _).mono ?_); rintro e w' ⟨rfl, hb⟩))
      | (go_at_call 17; ((with_reducible refine (ok_s_at Ob.out _).mono ?_); rintro e w' ⟨rfl, hb⟩)))))
    all_goals go_wp2_with (first
      | (go_at_call 17; ((with_reducible refine (ok_s_at Oa.out _).mono ?_); rintro e w' ⟨rfl, hb⟩; have hS := s2_mk (below_on (by (try go_split_ands); first | with_reducible assumption | exact Below.refl _ _ | go_grown) hb); clear hb))
      | (go_at_call 17; ((with_reducible refine (ok_s_at Ob.out _).mono ?_); rintro e w' ⟨rfl, hb⟩; have hS := s2_mk (below_on (by (try go_split_ands); first | with_reducible assumption | exact Below.refl _ _ | go_grown) hb); clear hb)))

    go_loopw [16] (fun i wr => ∃ k : Nat, k ≤ 12 ∧ i = .int .i64 k ∧ (fun w' => Below W0.heap.size W0 w' ∧ (∀ b o, b < W0.heap.size → w'.cell? ⟨b, o, none⟩ = W0.cell? ⟨b, o, none⟩) ∧ W0.heap.size ≤ w'.heap.size) wr) (fun i _ => 12 - (intOf i).toNat)
    case atStart => exact ⟨0, by omega, rfl, by assumption⟩
    case round =>
      obtain ⟨k, hk, rfl, hS⟩ := hrel
      by_cases hlt : k < 12
      · have hcell := hL.out k hlt
        generalize zs.getD k 0 = m0 at hcell
        go_wp2_with fail
        go_region_held3 (fun w' => Below W0.heap.size W0 w' ∧ (∀ b o, b < W0.heap.size → w'.cell? ⟨b, o, none⟩ = W0.cell? ⟨b, o, none⟩) ∧ W0.heap.size ≤ w'.heap.size) (((try go_split_ands); (refine s2_mk ?_); first | with_reducible assumption | (with_reducible exact below_on (by assumption) hb) | exact (Below.refl _ _).drew | ((with_reducible refine Below.drew ?_); with_reducible assumption))) (first | (go_at_call 24; ((with_reducible refine (owPick_l al ah _ Ka.out _).mono ?_); rintro e w' ⟨u, rfl, hu1, hu2, hb⟩)))
        go_wp2_with fail
        go_region_held3 (fun w' => Below W0.heap.size W0 w' ∧ (∀ b o, b < W0.heap.size → w'.cell? ⟨b, o, none⟩ = W0.cell? ⟨b, o, none⟩) ∧ W0.heap.size ≤ w'.heap.size) (((try go_split_ands); (refine s2_mk ?_); first | with_reducible assumption | (with_reducible exact below_on (by assumption) hb) | exact (Below.refl _ _).drew | ((with_reducible refine Below.drew ?_); with_reducible assumption))) (first | (go_at_call 24; ((with_reducible refine (owPick_l bl bh _ Kb.out _).mono ?_); rintro e w' ⟨v, rfl, hv1, hv2, hb⟩)))
        cases hr : relHolds rel u v with
        | true =>
          obtain ⟨kok, kx, ky⟩ := Rk.out.hass Oa.out Ob.out hu1 hu2 hv1 hv2 hr
          simp only at kok kx ky
          subst kok
          have Kx := Lib.hid kx
          have Ky := Lib.hid ky
          have Hr := Lib.hid (hr)
          clear kx ky hr
          all_goals (try (go_region_held3 (fun w' => Below W0.heap.size W0 w' ∧ (∀ b o, b < W0.heap.size → w'.cell? ⟨b, o, none⟩ = W0.cell? ⟨b, o, none⟩) ∧ W0.heap.size ≤ w'.heap.size) (((try go_split_ands); (refine s2_mk ?_); first | with_reducible assumption | (with_reducible exact below_on (by assumption) hb) | exact (Below.refl _ _).drew | ((with_reducible refine Below.drew ?_); with_reducible assumption))) (first
      | (go_at_call 25; ((with_reducible refine (holds_at Hr.out _).mono ?_); rintro e w' ⟨rfl, hb⟩))
      | (go_at_call 14; ((with_reducible refine (has_at Kx.out _).mono ?_); rintro e w' ⟨rfl, hb⟩))
      | (go_at_call 14; ((with_reducible refine (has_at Ky.out _).mono ?_); rintro e w' ⟨rfl, hb⟩)))))
          all_goals go_wp2_with (first
      | (go_at_call 25; ((with_reducible refine (holds_at Hr.out _).mono ?_); rintro e w' ⟨rfl, hb⟩; have hS := s2_mk (below_on (by (try go_split_ands); first | with_reducible assumption | exact Below.refl _ _ | go_grown) hb); clear hb))
      | (go_at_call 14; ((with_reducible refine (has_at Kx.out _).mono ?_); rintro e w' ⟨rfl, hb⟩; have hS := s2_mk (below_on (by (try go_split_ands); first | with_reducible assumption | exact Below.refl _ _ | go_grown) hb); clear hb))
      | (go_at_call 14; ((with_reducible refine (has_at Ky.out _).mono ?_); rintro e w' ⟨rfl, hb⟩; have hS := s2_mk (below_on (by (try go_split_ands); first | with_reducible assumption | exact Below.refl _ _ | go_grown) hb); clear hb)))
          all_goals (try (go_region_held3 (fun w' => Below W0.heap.size W0 w' ∧ (∀ b o, b < W0.heap.size → w'.cell? ⟨b, o, none⟩ = W0.cell? ⟨b, o, none⟩) ∧ W0.heap.size ≤ w'.heap.size) (((try go_split_ands); (refine s2_mk ?_); first | with_reducible assumption | (with_reducible exact below_on (by assumption) hb) | exact (Below.refl _ _).drew | ((with_reducible refine Below.drew ?_); with_reducible assumption))) (first
      | (go_at_call 25; ((with_reducible refine (holds_at Hr.out _).mono ?_); rintro e w' ⟨rfl, hb⟩))
      | (go_at_call 14; ((with_reducible refine (has_at Kx.out _).mono ?_); rintro e w' ⟨rfl, hb⟩))
      | (go_at_call 14; ((with_reducible refine (has_at Ky.out _).mono ?_); rintro e w' ⟨rfl, hb⟩)))))
          all_goals go_wp2_with (first
      | (go_at_call 25; ((with_reducible refine (holds_at Hr.out _).mono ?_); rintro e w' ⟨rfl, hb⟩; have hS := s2_mk (below_on (by (try go_split_ands); first | with_reducible assumption | exact Below.refl _ _ | go_grown) hb); clear hb))
      | (go_at_call 14; ((with_reducible refine (has_at Kx.out _).mono ?_); rintro e w' ⟨rfl, hb⟩; have hS := s2_mk (below_on (by (try go_split_ands); first | with_reducible assumption | exact Below.refl _ _ | go_grown) hb); clear hb))
      | (go_at_call 14; ((with_reducible refine (has_at Ky.out _).mono ?_); rintro e w' ⟨rfl, hb⟩; have hS := s2_mk (below_on (by (try go_split_ands); first | with_reducible assumption | exact Below.refl _ _ | go_grown) hb); clear hb)))
          all_goals (try (go_region_held3 (fun w' => Below W0.heap.size W0 w' ∧ (∀ b o, b < W0.heap.size → w'.cell? ⟨b, o, none⟩ = W0.cell? ⟨b, o, none⟩) ∧ W0.heap.size ≤ w'.heap.size) (((try go_split_ands); (refine s2_mk ?_); first | with_reducible assumption | (with_reducible exact below_on (by assumption) hb) | exact (Below.refl _ _).drew | ((with_reducible refine Below.drew ?_); with_reducible assumption))) (first
      | (go_at_call 25; ((with_reducible refine (holds_at Hr.out _).mono ?_); rintro e w' ⟨rfl, hb⟩))
      | (go_at_call 14; ((with_reducible refine (has_at Kx.out _).mono ?_); rintro e w' ⟨rfl, hb⟩))
      | (go_at_call 14; ((with_reducible refine (has_at Ky.out _).mono ?_); rintro e w' ⟨rfl, hb⟩)))))
          all_goals go_wp2_with (first
      | (go_at_call 25; ((with_reducible refine (holds_at Hr.out _).mono ?_); rintro e w' ⟨rfl, hb⟩; have hS := s2_mk (below_on (by (try go_split_ands); first | with_reducible assumption | exact Below.refl _ _ | go_grown) hb); clear hb))
      | (go_at_call 14; ((with_reducible refine (has_at Kx.out _).mono ?_); rintro e w' ⟨rfl, hb⟩; have hS := s2_mk (below_on (by (try go_split_ands); first | with_reducible assumption | exact Below.refl _ _ | go_grown) hb); clear hb))
      | (go_at_call 14; ((with_reducible refine (has_at Ky.out _).mono ?_); rintro e w' ⟨rfl, hb⟩; have hS := s2_mk (below_on (by (try go_split_ands); first | with_reducible assumption | exact Below.refl _ _ | go_grown) hb); clear hb)))

          go_roundw
          case rel => exact ⟨k + 1, by omega, by go_num, by assumption⟩
          case measure => simp [intOf] <;> omega
        | false =>
          have Hr := Lib.hid (hr)
          clear hr
          all_goals (try (go_region_held3 (fun w' => Below W0.heap.size W0 w' ∧ (∀ b o, b < W0.heap.size → w'.cell? ⟨b, o, none⟩ = W0.cell? ⟨b, o, none⟩) ∧ W0.heap.size ≤ w'.heap.size) (((try go_split_ands); (refine s2_mk ?_); first | with_reducible assumption | (with_reducible exact below_on (by assumption) hb) | exact (Below.refl _ _).drew | ((with_reducible refine Below.drew ?_); with_reducible assumption))) (first
      | (go_at_call 25; ((with_reducible refine (holds_at Hr.out _).mono ?_); rintro e w' ⟨rfl, hb⟩)))))
          all_goals go_wp2_with (first
      | (go_at_call 25; ((with_reducible refine (holds_at Hr.out _).mono ?_); rintro e w' ⟨rfl, hb⟩; have hS := s2_mk (below_on (by (try go_split_ands); first | with_reducible assumption | exact Below.refl _ _ | go_grown) hb); clear hb)))
          all_goals (try (go_region_held3 (fun w' => Below W0.heap.size W0 w' ∧ (∀ b o, b < W0.heap.size → w'.cell? ⟨b, o, none⟩ = W0.cell? ⟨b, o, none⟩) ∧ W0.heap.size ≤ w'.heap.size) (((try go_split_ands); (refine s2_mk ?_); first | with_reducible assumption | (with_reducible exact below_on (by assumption) hb) | exact (Below.refl _ _).drew | ((with_reducible refine Below.drew ?_); with_reducible assumption))) (first
      | (go_at_call 25; ((with_reducible refine (holds_at Hr.out _).mono ?_); rintro e w' ⟨rfl, hb⟩)))))
          all_goals go_wp2_with (first
      | (go_at_call 25; ((with_reducible refine (holds_at Hr.out _).mono ?_); rintro e w' ⟨rfl, hb⟩; have hS := s2_mk (below_on (by (try go_split_ands); first | with_reducible assumption | exact Below.refl _ _ | go_grown) hb); clear hb)))

          go_roundw
          case rel => exact ⟨k + 1, by omega, by go_num, by assumption⟩
          case measure => simp [intOf] <;> omega
      · cases ok with
        | false =>
          go_wp2_with (first
      | (go_at_call 10; ((with_reducible refine (owOk_at  _).mono ?_); rintro e w' ⟨rfl, hb⟩; have hS := s2_mk (below_on (by (try go_split_ands); first | with_reducible assumption | exact Below.refl _ _ | go_grown) hb); clear hb)))
          go_ret
          exact ⟨rfl, below_on hB0 (by (try go_split_ands); assumption)⟩
        | true =>
          obtain ⟨ia, ib, _, _⟩ := Rk.out.ins Oa.out Ob.out rfl
          have Ia := Lib.hid ia
          have Ib := Lib.hid ib
          have E1 := Lib.hid (Rk.out.e1 rfl)
          have E2 := Lib.hid (Rk.out.e2 rfl)
          have E3 := Lib.hid (Rk.out.e3 rfl)
          have E4 := Lib.hid (Rk.out.e4 rfl)
          simp only at ia ib
          clear ia ib
          all_goals (try (go_region_held3 (fun w' => Below W0.heap.size W0 w' ∧ (∀ b o, b < W0.heap.size → w'.cell? ⟨b, o, none⟩ = W0.cell? ⟨b, o, none⟩) ∧ W0.heap.size ≤ w'.heap.size) (((try go_split_ands); (refine s2_mk ?_); first | with_reducible assumption | (with_reducible exact below_on (by assumption) hb) | exact (Below.refl _ _).drew | ((with_reducible refine Below.drew ?_); with_reducible assumption))) (first
      | (go_at_call 19; ((with_reducible refine (in_at Ia.out _).mono ?_); rintro e w' ⟨rfl, hb⟩))
      | (go_at_call 19; ((with_reducible refine (in_at Ib.out _).mono ?_); rintro e w' ⟨rfl, hb⟩))
      | (go_at_call 26; ((with_reducible refine (owStands_at E1.out _).mono ?_); rintro e w' ⟨rfl, hb⟩))
      | (go_at_call 26; ((with_reducible refine (owStands_at E2.out _).mono ?_); rintro e w' ⟨rfl, hb⟩))
      | (go_at_call 27; ((with_reducible refine (owStood_at E3.out _).mono ?_); rintro e w' ⟨rfl, hb⟩))
      | (go_at_call 27; ((with_reducible refine (owStood_at E4.out _).mono ?_); rintro e w' ⟨rfl, hb⟩)))))
          all_goals go_wp2_with (first
      | (go_at_call 19; ((with_reducible refine (in_at Ia.out _).mono ?_); rintro e w' ⟨rfl, hb⟩; have hS := s2_mk (below_on (by (try go_split_ands); first | with_reducible assumption | exact Below.refl _ _ | go_grown) hb); clear hb))
      | (go_at_call 19; ((with_reducible refine (in_at Ib.out _).mono ?_); rintro e w' ⟨rfl, hb⟩; have hS := s2_mk (below_on (by (try go_split_ands); first | with_reducible assumption | exact Below.refl _ _ | go_grown) hb); clear hb))
      | (go_at_call 26; ((with_reducible refine (owStands_at E1.out _).mono ?_); rintro e w' ⟨rfl, hb⟩; have hS := s2_mk (below_on (by (try go_split_ands); first | with_reducible assumption | exact Below.refl _ _ | go_grown) hb); clear hb))
      | (go_at_call 26; ((with_reducible refine (owStands_at E2.out _).mono ?_); rintro e w' ⟨rfl, hb⟩; have hS := s2_mk (below_on (by (try go_split_ands); first | with_reducible assumption | exact Below.refl _ _ | go_grown) hb); clear hb))
      | (go_at_call 27; ((with_reducible refine (owStood_at E3.out _).mono ?_); rintro e w' ⟨rfl, hb⟩; have hS := s2_mk (below_on (by (try go_split_ands); first | with_reducible assumption | exact Below.refl _ _ | go_grown) hb); clear hb))
      | (go_at_call 27; ((with_reducible refine (owStood_at E4.out _).mono ?_); rintro e w' ⟨rfl, hb⟩; have hS := s2_mk (below_on (by (try go_split_ands); first | with_reducible assumption | exact Below.refl _ _ | go_grown) hb); clear hb)))
          all_goals (try (go_region_held3 (fun w' => Below W0.heap.size W0 w' ∧ (∀ b o, b < W0.heap.size → w'.cell? ⟨b, o, none⟩ = W0.cell? ⟨b, o, none⟩) ∧ W0.heap.size ≤ w'.heap.size) (((try go_split_ands); (refine s2_mk ?_); first | with_reducible assumption | (with_reducible exact below_on (by assumption) hb) | exact (Below.refl _ _).drew | ((with_reducible refine Below.drew ?_); with_reducible assumption))) (first
      | (go_at_call 19; ((with_reducible refine (in_at Ia.out _).mono ?_); rintro e w' ⟨rfl, hb⟩))
      | (go_at_call 19; ((with_reducible refine (in_at Ib.out _).mono ?_); rintro e w' ⟨rfl, hb⟩))
      | (go_at_call 26; ((with_reducible refine (owStands_at E1.out _).mono ?_); rintro e w' ⟨rfl, hb⟩))
      | (go_at_call 26; ((with_reducible refine (owStands_at E2.out _).mono ?_); rintro e w' ⟨rfl, hb⟩))
      | (go_at_call 27; ((with_reducible refine (owStood_at E3.out _).mono ?_); rintro e w' ⟨rfl, hb⟩))
      | (go_at_call 27; ((with_reducible refine (owStood_at E4.out _).mono ?_); rintro e w' ⟨rfl, hb⟩)))))
          all_goals go_wp2_with (first
      | (go_at_call 19; ((with_reducible refine (in_at Ia.out _).mono ?_); rintro e w' ⟨rfl, hb⟩; have hS := s2_mk (below_on (by (try go_split_ands); first | with_reducible assumption | exact Below.refl _ _ | go_grown) hb); clear hb))
      | (go_at_call 19; ((with_reducible refine (in_at Ib.out _).mono ?_); rintro e w' ⟨rfl, hb⟩; have hS := s2_mk (below_on (by (try go_split_ands); first | with_reducible assumption | exact Below.refl _ _ | go_grown) hb); clear hb))
      | (go_at_call 26; ((with_reducible refine (owStands_at E1.out _).mono ?_); rintro e w' ⟨rfl, hb⟩; have hS := s2_mk (below_on (by (try go_split_ands); first | with_reducible assumption | exact Below.refl _ _ | go_grown) hb); clear hb))
      | (go_at_call 26; ((with_reducible refine (owStands_at E2.out _).mono ?_); rintro e w' ⟨rfl, hb⟩; have hS := s2_mk (below_on (by (try go_split_ands); first | with_reducible assumption | exact Below.refl _ _ | go_grown) hb); clear hb))
      | (go_at_call 27; ((with_reducible refine (owStood_at E3.out _).mono ?_); rintro e w' ⟨rfl, hb⟩; have hS := s2_mk (below_on (by (try go_split_ands); first | with_reducible assumption | exact Below.refl _ _ | go_grown) hb); clear hb))
      | (go_at_call 27; ((with_reducible refine (owStood_at E4.out _).mono ?_); rintro e w' ⟨rfl, hb⟩; have hS := s2_mk (below_on (by (try go_split_ands); first | with_reducible assumption | exact Below.refl _ _ | go_grown) hb); clear hb)))
          all_goals (try (go_region_held3 (fun w' => Below W0.heap.size W0 w' ∧ (∀ b o, b < W0.heap.size → w'.cell? ⟨b, o, none⟩ = W0.cell? ⟨b, o, none⟩) ∧ W0.heap.size ≤ w'.heap.size) (((try go_split_ands); (refine s2_mk ?_); first | with_reducible assumption | (with_reducible exact below_on (by assumption) hb) | exact (Below.refl _ _).drew | ((with_reducible refine Below.drew ?_); with_reducible assumption))) (first
      | (go_at_call 19; ((with_reducible refine (in_at Ia.out _).mono ?_); rintro e w' ⟨rfl, hb⟩))
      | (go_at_call 19; ((with_reducible refine (in_at Ib.out _).mono ?_); rintro e w' ⟨rfl, hb⟩))
      | (go_at_call 26; ((with_reducible refine (owStands_at E1.out _).mono ?_); rintro e w' ⟨rfl, hb⟩))
      | (go_at_call 26; ((with_reducible refine (owStands_at E2.out _).mono ?_); rintro e w' ⟨rfl, hb⟩))
      | (go_at_call 27; ((with_reducible refine (owStood_at E3.out _).mono ?_); rintro e w' ⟨rfl, hb⟩))
      | (go_at_call 27; ((with_reducible refine (owStood_at E4.out _).mono ?_); rintro e w' ⟨rfl, hb⟩)))))
          all_goals go_wp2_with (first
      | (go_at_call 19; ((with_reducible refine (in_at Ia.out _).mono ?_); rintro e w' ⟨rfl, hb⟩; have hS := s2_mk (below_on (by (try go_split_ands); first | with_reducible assumption | exact Below.refl _ _ | go_grown) hb); clear hb))
      | (go_at_call 19; ((with_reducible refine (in_at Ib.out _).mono ?_); rintro e w' ⟨rfl, hb⟩; have hS := s2_mk (below_on (by (try go_split_ands); first | with_reducible assumption | exact Below.refl _ _ | go_grown) hb); clear hb))
      | (go_at_call 26; ((with_reducible refine (owStands_at E1.out _).mono ?_); rintro e w' ⟨rfl, hb⟩; have hS := s2_mk (below_on (by (try go_split_ands); first | with_reducible assumption | exact Below.refl _ _ | go_grown) hb); clear hb))
      | (go_at_call 26; ((with_reducible refine (owStands_at E2.out _).mono ?_); rintro e w' ⟨rfl, hb⟩; have hS := s2_mk (below_on (by (try go_split_ands); first | with_reducible assumption | exact Below.refl _ _ | go_grown) hb); clear hb))
      | (go_at_call 27; ((with_reducible refine (owStood_at E3.out _).mono ?_); rintro e w' ⟨rfl, hb⟩; have hS := s2_mk (below_on (by (try go_split_ands); first | with_reducible assumption | exact Below.refl _ _ | go_grown) hb); clear hb))
      | (go_at_call 27; ((with_reducible refine (owStood_at E4.out _).mono ?_); rintro e w' ⟨rfl, hb⟩; have hS := s2_mk (below_on (by (try go_split_ands); first | with_reducible assumption | exact Below.refl _ _ | go_grown) hb); clear hb)))
          all_goals (try (go_region_held3 (fun w' => Below W0.heap.size W0 w' ∧ (∀ b o, b < W0.heap.size → w'.cell? ⟨b, o, none⟩ = W0.cell? ⟨b, o, none⟩) ∧ W0.heap.size ≤ w'.heap.size) (((try go_split_ands); (refine s2_mk ?_); first | with_reducible assumption | (with_reducible exact below_on (by assumption) hb) | exact (Below.refl _ _).drew | ((with_reducible refine Below.drew ?_); with_reducible assumption))) (first
      | (go_at_call 19; ((with_reducible refine (in_at Ia.out _).mono ?_); rintro e w' ⟨rfl, hb⟩))
      | (go_at_call 19; ((with_reducible refine (in_at Ib.out _).mono ?_); rintro e w' ⟨rfl, hb⟩))
      | (go_at_call 26; ((with_reducible refine (owStands_at E1.out _).mono ?_); rintro e w' ⟨rfl, hb⟩))
      | (go_at_call 26; ((with_reducible refine (owStands_at E2.out _).mono ?_); rintro e w' ⟨rfl, hb⟩))
      | (go_at_call 27; ((with_reducible refine (owStood_at E3.out _).mono ?_); rintro e w' ⟨rfl, hb⟩))
      | (go_at_call 27; ((with_reducible refine (owStood_at E4.out _).mono ?_); rintro e w' ⟨rfl, hb⟩)))))
          all_goals go_wp2_with (first
      | (go_at_call 19; ((with_reducible refine (in_at Ia.out _).mono ?_); rintro e w' ⟨rfl, hb⟩; have hS := s2_mk (below_on (by (try go_split_ands); first | with_reducible assumption | exact Below.refl _ _ | go_grown) hb); clear hb))
      | (go_at_call 19; ((with_reducible refine (in_at Ib.out _).mono ?_); rintro e w' ⟨rfl, hb⟩; have hS := s2_mk (below_on (by (try go_split_ands); first | with_reducible assumption | exact Below.refl _ _ | go_grown) hb); clear hb))
      | (go_at_call 26; ((with_reducible refine (owStands_at E1.out _).mono ?_); rintro e w' ⟨rfl, hb⟩; have hS := s2_mk (below_on (by (try go_split_ands); first | with_reducible assumption | exact Below.refl _ _ | go_grown) hb); clear hb))
      | (go_at_call 26; ((with_reducible refine (owStands_at E2.out _).mono ?_); rintro e w' ⟨rfl, hb⟩; have hS := s2_mk (below_on (by (try go_split_ands); first | with_reducible assumption | exact Below.refl _ _ | go_grown) hb); clear hb))
      | (go_at_call 27; ((with_reducible refine (owStood_at E3.out _).mono ?_); rintro e w' ⟨rfl, hb⟩; have hS := s2_mk (below_on (by (try go_split_ands); first | with_reducible assumption | exact Below.refl _ _ | go_grown) hb); clear hb))
      | (go_at_call 27; ((with_reducible refine (owStood_at E4.out _).mono ?_); rintro e w' ⟨rfl, hb⟩; have hS := s2_mk (below_on (by (try go_split_ands); first | with_reducible assumption | exact Below.refl _ _ | go_grown) hb); clear hb)))
          all_goals (try (go_region_held3 (fun w' => Below W0.heap.size W0 w' ∧ (∀ b o, b < W0.heap.size → w'.cell? ⟨b, o, none⟩ = W0.cell? ⟨b, o, none⟩) ∧ W0.heap.size ≤ w'.heap.size) (((try go_split_ands); (refine s2_mk ?_); first | with_reducible assumption | (with_reducible exact below_on (by assumption) hb) | exact (Below.refl _ _).drew | ((with_reducible refine Below.drew ?_); with_reducible assumption))) (first
      | (go_at_call 19; ((with_reducible refine (in_at Ia.out _).mono ?_); rintro e w' ⟨rfl, hb⟩))
      | (go_at_call 19; ((with_reducible refine (in_at Ib.out _).mono ?_); rintro e w' ⟨rfl, hb⟩))
      | (go_at_call 26; ((with_reducible refine (owStands_at E1.out _).mono ?_); rintro e w' ⟨rfl, hb⟩))
      | (go_at_call 26; ((with_reducible refine (owStands_at E2.out _).mono ?_); rintro e w' ⟨rfl, hb⟩))
      | (go_at_call 27; ((with_reducible refine (owStood_at E3.out _).mono ?_); rintro e w' ⟨rfl, hb⟩))
      | (go_at_call 27; ((with_reducible refine (owStood_at E4.out _).mono ?_); rintro e w' ⟨rfl, hb⟩)))))
          all_goals go_wp2_with (first
      | (go_at_call 19; ((with_reducible refine (in_at Ia.out _).mono ?_); rintro e w' ⟨rfl, hb⟩; have hS := s2_mk (below_on (by (try go_split_ands); first | with_reducible assumption | exact Below.refl _ _ | go_grown) hb); clear hb))
      | (go_at_call 19; ((with_reducible refine (in_at Ib.out _).mono ?_); rintro e w' ⟨rfl, hb⟩; have hS := s2_mk (below_on (by (try go_split_ands); first | with_reducible assumption | exact Below.refl _ _ | go_grown) hb); clear hb))
      | (go_at_call 26; ((with_reducible refine (owStands_at E1.out _).mono ?_); rintro e w' ⟨rfl, hb⟩; have hS := s2_mk (below_on (by (try go_split_ands); first | with_reducible assumption | exact Below.refl _ _ | go_grown) hb); clear hb))
      | (go_at_call 26; ((with_reducible refine (owStands_at E2.out _).mono ?_); rintro e w' ⟨rfl, hb⟩; have hS := s2_mk (below_on (by (try go_split_ands); first | with_reducible assumption | exact Below.refl _ _ | go_grown) hb); clear hb))
      | (go_at_call 27; ((with_reducible refine (owStood_at E3.out _).mono ?_); rintro e w' ⟨rfl, hb⟩; have hS := s2_mk (below_on (by (try go_split_ands); first | with_reducible assumption | exact Below.refl _ _ | go_grown) hb); clear hb))
      | (go_at_call 27; ((with_reducible refine (owStood_at E4.out _).mono ?_); rintro e w' ⟨rfl, hb⟩; have hS := s2_mk (below_on (by (try go_split_ands); first | with_reducible assumption | exact Below.refl _ _ | go_grown) hb); clear hb)))
          all_goals (try (go_region_held3 (fun w' => Below W0.heap.size W0 w' ∧ (∀ b o, b < W0.heap.size → w'.cell? ⟨b, o, none⟩ = W0.cell? ⟨b, o, none⟩) ∧ W0.heap.size ≤ w'.heap.size) (((try go_split_ands); (refine s2_mk ?_); first | with_reducible assumption | (with_reducible exact below_on (by assumption) hb) | exact (Below.refl _ _).drew | ((with_reducible refine Below.drew ?_); with_reducible assumption))) (first
      | (go_at_call 19; ((with_reducible refine (in_at Ia.out _).mono ?_); rintro e w' ⟨rfl, hb⟩))
      | (go_at_call 19; ((with_reducible refine (in_at Ib.out _).mono ?_); rintro e w' ⟨rfl, hb⟩))
      | (go_at_call 26; ((with_reducible refine (owStands_at E1.out _).mono ?_); rintro e w' ⟨rfl, hb⟩))
      | (go_at_call 26; ((with_reducible refine (owStands_at E2.out _).mono ?_); rintro e w' ⟨rfl, hb⟩))
      | (go_at_call 27; ((with_reducible refine (owStood_at E3.out _).mono ?_); rintro e w' ⟨rfl, hb⟩))
      | (go_at_call 27; ((with_reducible refine (owStood_at E4.out _).mono ?_); rintro e w' ⟨rfl, hb⟩)))))
          all_goals go_wp2_with (first
      | (go_at_call 19; ((with_reducible refine (in_at Ia.out _).mono ?_); rintro e w' ⟨rfl, hb⟩; have hS := s2_mk (below_on (by (try go_split_ands); first | with_reducible assumption | exact Below.refl _ _ | go_grown) hb); clear hb))
      | (go_at_call 19; ((with_reducible refine (in_at Ib.out _).mono ?_); rintro e w' ⟨rfl, hb⟩; have hS := s2_mk (below_on (by (try go_split_ands); first | with_reducible assumption | exact Below.refl _ _ | go_grown) hb); clear hb))
      | (go_at_call 26; ((with_reducible refine (owStands_at E1.out _).mono ?_); rintro e w' ⟨rfl, hb⟩; have hS := s2_mk (below_on (by (try go_split_ands); first | with_reducible assumption | exact Below.refl _ _ | go_grown) hb); clear hb))
      | (go_at_call 26; ((with_reducible refine (owStands_at E2.out _).mono ?_); rintro e w' ⟨rfl, hb⟩; have hS := s2_mk (below_on (by (try go_split_ands); first | with_reducible assumption | exact Below.refl _ _ | go_grown) hb); clear hb))
      | (go_at_call 27; ((with_reducible refine (owStood_at E3.out _).mono ?_); rintro e w' ⟨rfl, hb⟩; have hS := s2_mk (below_on (by (try go_split_ands); first | with_reducible assumption | exact Below.refl _ _ | go_grown) hb); clear hb))
      | (go_at_call 27; ((with_reducible refine (owStood_at E4.out _).mono ?_); rintro e w' ⟨rfl, hb⟩; have hS := s2_mk (below_on (by (try go_split_ands); first | with_reducible assumption | exact Below.refl _ _ | go_grown) hb); clear hb)))
          all_goals (try (go_region_held3 (fun w' => Below W0.heap.size W0 w' ∧ (∀ b o, b < W0.heap.size → w'.cell? ⟨b, o, none⟩ = W0.cell? ⟨b, o, none⟩) ∧ W0.heap.size ≤ w'.heap.size) (((try go_split_ands); (refine s2_mk ?_); first | with_reducible assumption | (with_reducible exact below_on (by assumption) hb) | exact (Below.refl _ _).drew | ((with_reducible refine Below.drew ?_); with_reducible assumption))) (first
      | (go_at_call 19; ((with_reducible refine (in_at Ia.out _).mono ?_); rintro e w' ⟨rfl, hb⟩))
      | (go_at_call 19; ((with_reducible refine (in_at Ib.out _).mono ?_); rintro e w' ⟨rfl, hb⟩))
      | (go_at_call 26; ((with_reducible refine (owStands_at E1.out _).mono ?_); rintro e w' ⟨rfl, hb⟩))
      | (go_at_call 26; ((with_reducible refine (owStands_at E2.out _).mono ?_); rintro e w' ⟨rfl, hb⟩))
      | (go_at_call 27; ((with_reducible refine (owStood_at E3.out _).mono ?_); rintro e w' ⟨rfl, hb⟩))
      | (go_at_call 27; ((with_reducible refine (owStood_at E4.out _).mono ?_); rintro e w' ⟨rfl, hb⟩)))))
          all_goals go_wp2_with (first
      | (go_at_call 19; ((with_reducible refine (in_at Ia.out _).mono ?_); rintro e w' ⟨rfl, hb⟩; have hS := s2_mk (below_on (by (try go_split_ands); first | with_reducible assumption | exact Below.refl _ _ | go_grown) hb); clear hb))
      | (go_at_call 19; ((with_reducible refine (in_at Ib.out _).mono ?_); rintro e w' ⟨rfl, hb⟩; have hS := s2_mk (below_on (by (try go_split_ands); first | with_reducible assumption | exact Below.refl _ _ | go_grown) hb); clear hb))
      | (go_at_call 26; ((with_reducible refine (owStands_at E1.out _).mono ?_); rintro e w' ⟨rfl, hb⟩; have hS := s2_mk (below_on (by (try go_split_ands); first | with_reducible assumption | exact Below.refl _ _ | go_grown) hb); clear hb))
      | (go_at_call 26; ((with_reducible refine (owStands_at E2.out _).mono ?_); rintro e w' ⟨rfl, hb⟩; have hS := s2_mk (below_on (by (try go_split_ands); first | with_reducible assumption | exact Below.refl _ _ | go_grown) hb); clear hb))
      | (go_at_call 27; ((with_reducible refine (owStood_at E3.out _).mono ?_); rintro e w' ⟨rfl, hb⟩; have hS := s2_mk (below_on (by (try go_split_ands); first | with_reducible assumption | exact Below.refl _ _ | go_grown) hb); clear hb))
      | (go_at_call 27; ((with_reducible refine (owStood_at E4.out _).mono ?_); rintro e w' ⟨rfl, hb⟩; have hS := s2_mk (below_on (by (try go_split_ands); first | with_reducible assumption | exact Below.refl _ _ | go_grown) hb); clear hb)))
          all_goals (go_ret; exact ⟨rfl, below_on hB0 (by (try go_split_ands); first | with_reducible assumption | go_grown)⟩)
  · have hno := relI_bad (rel := rel) hab
    rw [Hx.out] at hno
    simp only [Prod.mk.injEq] at hno
    obtain ⟨⟨rfl, rfl⟩, ⟨rfl, rfl⟩, rfl⟩ := hno
    rcases Bool.eq_false_or_eq_true (okI (al, ah)) with ha | ha
    · have hb : okI (bl, bh) = false := by
        rcases Bool.eq_false_or_eq_true (okI (bl, bh)) with hb | hb
        · exact absurd ⟨ha, hb⟩ hab
        · exact hb
      have Oa := Lib.hid ha
      have Ob := Lib.hid hb
      clear ha hb hab
      all_goals (try (go_region_held3 (fun w' => Below W0.heap.size W0 w' ∧ (∀ b o, b < W0.heap.size → w'.cell? ⟨b, o, none⟩ = W0.cell? ⟨b, o, none⟩) ∧ W0.heap.size ≤ w'.heap.size) (((try go_split_ands); (refine s2_mk ?_); first | with_reducible assumption | (with_reducible exact below_on (by assumption) hb) | exact (Below.refl _ _).drew | ((with_reducible refine Below.drew ?_); with_reducible assumption))) (first
      | (go_at_call 17; ((with_reducible refine (ok_s_at Oa.out _).mono ?_); rintro e w' ⟨rfl, hb⟩))
      | (go_at_call 17; ((with_reducible refine (ok_s_at Ob.out _).mono ?_); rintro e w' ⟨rfl, hb⟩))
      | (go_at_call 10; ((with_reducible refine (owOk_at  _).mono ?_); rintro e w' ⟨rfl, hb⟩)))))
      all_goals go_wp2_with (first
      | (go_at_call 17; ((with_reducible refine (ok_s_at Oa.out _).mono ?_); rintro e w' ⟨rfl, hb⟩; have hS := s2_mk (below_on (by (try go_split_ands); first | with_reducible assumption | exact Below.refl _ _ | go_grown) hb); clear hb))
      | (go_at_call 17; ((with_reducible refine (ok_s_at Ob.out _).mono ?_); rintro e w' ⟨rfl, hb⟩; have hS := s2_mk (below_on (by (try go_split_ands); first | with_reducible assumption | exact Below.refl _ _ | go_grown) hb); clear hb))
      | (go_at_call 10; ((with_reducible refine (owOk_at  _).mono ?_); rintro e w' ⟨rfl, hb⟩; have hS := s2_mk (below_on (by (try go_split_ands); first | with_reducible assumption | exact Below.refl _ _ | go_grown) hb); clear hb)))
      all_goals (try (go_region_held3 (fun w' => Below W0.heap.size W0 w' ∧ (∀ b o, b < W0.heap.size → w'.cell? ⟨b, o, none⟩ = W0.cell? ⟨b, o, none⟩) ∧ W0.heap.size ≤ w'.heap.size) (((try go_split_ands); (refine s2_mk ?_); first | with_reducible assumption | (with_reducible exact below_on (by assumption) hb) | exact (Below.refl _ _).drew | ((with_reducible refine Below.drew ?_); with_reducible assumption))) (first
      | (go_at_call 17; ((with_reducible refine (ok_s_at Oa.out _).mono ?_); rintro e w' ⟨rfl, hb⟩))
      | (go_at_call 17; ((with_reducible refine (ok_s_at Ob.out _).mono ?_); rintro e w' ⟨rfl, hb⟩))
      | (go_at_call 10; ((with_reducible refine (owOk_at  _).mono ?_); rintro e w' ⟨rfl, hb⟩)))))
      all_goals go_wp2_with (first
      | (go_at_call 17; ((with_reducible refine (ok_s_at Oa.out _).mono ?_); rintro e w' ⟨rfl, hb⟩; have hS := s2_mk (below_on (by (try go_split_ands); first | with_reducible assumption | exact Below.refl _ _ | go_grown) hb); clear hb))
      | (go_at_call 17; ((with_reducible refine (ok_s_at Ob.out _).mono ?_); rintro e w' ⟨rfl, hb⟩; have hS := s2_mk (below_on (by (try go_split_ands); first | with_reducible assumption | exact Below.refl _ _ | go_grown) hb); clear hb))
      | (go_at_call 10; ((with_reducible refine (owOk_at  _).mono ?_); rintro e w' ⟨rfl, hb⟩; have hS := s2_mk (below_on (by (try go_split_ands); first | with_reducible assumption | exact Below.refl _ _ | go_grown) hb); clear hb)))
      all_goals (try (go_region_held3 (fun w' => Below W0.heap.size W0 w' ∧ (∀ b o, b < W0.heap.size → w'.cell? ⟨b, o, none⟩ = W0.cell? ⟨b, o, none⟩) ∧ W0.heap.size ≤ w'.heap.size) (((try go_split_ands); (refine s2_mk ?_); first | with_reducible assumption | (with_reducible exact below_on (by assumption) hb) | exact (Below.refl _ _).drew | ((with_reducible refine Below.drew ?_); with_reducible assumption))) (first
      | (go_at_call 17; ((with_reducible refine (ok_s_at Oa.out _).mono ?_); rintro e w' ⟨rfl, hb⟩))
      | (go_at_call 17; ((with_reducible refine (ok_s_at Ob.out _).mono ?_); rintro e w' ⟨rfl, hb⟩))
      | (go_at_call 10; ((with_reducible refine (owOk_at  _).mono ?_); rintro e w' ⟨rfl, hb⟩)))))
      all_goals go_wp2_with (first
      | (go_at_call 17; ((with_reducible refine (ok_s_at Oa.out _).mono ?_); rintro e w' ⟨rfl, hb⟩; have hS := s2_mk (below_on (by (try go_split_ands); first | with_reducible assumption | exact Below.refl _ _ | go_grown) hb); clear hb))
      | (go_at_call 17; ((with_reducible refine (ok_s_at Ob.out _).mono ?_); rintro e w' ⟨rfl, hb⟩; have hS := s2_mk (below_on (by (try go_split_ands); first | with_reducible assumption | exact Below.refl _ _ | go_grown) hb); clear hb))
      | (go_at_call 10; ((with_reducible refine (owOk_at  _).mono ?_); rintro e w' ⟨rfl, hb⟩; have hS := s2_mk (below_on (by (try go_split_ands); first | with_reducible assumption | exact Below.refl _ _ | go_grown) hb); clear hb)))
      all_goals (go_ret; exact ⟨rfl, below_on hB0 (by (try go_split_ands); first | with_reducible assumption | go_grown)⟩)
    · have Oa := Lib.hid ha
      clear ha hab
      all_goals (try (go_region_held3 (fun w' => Below W0.heap.size W0 w' ∧ (∀ b o, b < W0.heap.size → w'.cell? ⟨b, o, none⟩ = W0.cell? ⟨b, o, none⟩) ∧ W0.heap.size ≤ w'.heap.size) (((try go_split_ands); (refine s2_mk ?_); first | with_reducible assumption | (with_reducible exact below_on (by assumption) hb) | exact (Below.refl _ _).drew | ((with_reducible refine Below.drew ?_); with_reducible assumption))) (first
      | (go_at_call 17; ((with_reducible refine (ok_s_at Oa.out _).mono ?_); rintro e w' ⟨rfl, hb⟩))
      | (go_at_call 10; ((with_reducible refine (owOk_at  _).mono ?_); rintro e w' ⟨rfl, hb⟩)))))
      all_goals go_wp2_with (first
      | (go_at_call 17; ((with_reducible refine (ok_s_at Oa.out _).mono ?_); rintro e w' ⟨rfl, hb⟩; have hS := s2_mk (below_on (by (try go_split_ands); first | with_reducible assumption | exact Below.refl _ _ | go_grown) hb); clear hb))
      | (go_at_call 10; ((with_reducible refine (owOk_at  _).mono ?_); rintro e w' ⟨rfl, hb⟩; have hS := s2_mk (below_on (by (try go_split_ands); first | with_reducible assumption | exact Below.refl _ _ | go_grown) hb); clear hb)))
      all_goals (try (go_region_held3 (fun w' => Below W0.heap.size W0 w' ∧ (∀ b o, b < W0.heap.size → w'.cell? ⟨b, o, none⟩ = W0.cell? ⟨b, o, none⟩) ∧ W0.heap.size ≤ w'.heap.size) (((try go_split_ands); (refine s2_mk ?_); first | with_reducible assumption | (with_reducible exact below_on (by assumption) hb) | exact (Below.refl _ _).drew | ((with_reducible refine Below.drew ?_); with_reducible assumption))) (first
      | (go_at_call 17; ((with_reducible refine (ok_s_at Oa.out _).mono ?_); rintro e w' ⟨rfl, hb⟩))
      | (go_at_call 10; ((with_reducible refine (owOk_at  _).mono ?_); rintro e w' ⟨rfl, hb⟩)))))
      all_goals go_wp2_with (first
      | (go_at_call 17; ((with_reducible refine (ok_s_at Oa.out _).mono ?_); rintro e w' ⟨rfl, hb⟩; have hS := s2_mk (below_on (by (try go_split_ands); first | with_reducible assumption | exact Below.refl _ _ | go_grown) hb); clear hb))
      | (go_at_call 10; ((with_reducible refine (owOk_at  _).mono ?_); rintro e w' ⟨rfl, hb⟩; have hS := s2_mk (below_on (by (try go_split_ands); first | with_reducible assumption | exact Below.refl _ _ | go_grown) hb); clear hb)))
      all_goals (try (go_region_held3 (fun w' => Below W0.heap.size W0 w' ∧ (∀ b o, b < W0.heap.size → w'.cell? ⟨b, o, none⟩ = W0.cell? ⟨b, o, none⟩) ∧ W0.heap.size ≤ w'.heap.size) (((try go_split_ands); (refine s2_mk ?_); first | with_reducible assumption | (with_reducible exact below_on (by assumption) hb) | exact (Below.refl _ _).drew | ((with_reducible refine Below.drew ?_); with_reducible assumption))) (first
      | (go_at_call 17; ((with_reducible refine (ok_s_at Oa.out _).mono ?_); rintro e w' ⟨rfl, hb⟩))
      | (go_at_call 10; ((with_reducible refine (owOk_at  _).mono ?_); rintro e w' ⟨rfl, hb⟩)))))
      all_goals go_wp2_with (first
      | (go_at_call 17; ((with_reducible refine (ok_s_at Oa.out _).mono ?_); rintro e w' ⟨rfl, hb⟩; have hS := s2_mk (below_on (by (try go_split_ands); first | with_reducible assumption | exact Below.refl _ _ | go_grown) hb); clear hb))
      | (go_at_call 10; ((with_reducible refine (owOk_at  _).mono ?_); rintro e w' ⟨rfl, hb⟩; have hS := s2_mk (below_on (by (try go_split_ands); first | with_reducible assumption | exact Below.refl _ _ | go_grown) hb); clear hb)))
      all_goals (go_ret; exact ⟨rfl, below_on hB0 (by (try go_split_ands); first | with_reducible assumption | go_grown)⟩)

/-! ### The row, off the walk -/
set_option maxRecDepth 100000 in
theorem lifted (os : Os) (started : os.Started) (H : Type) (enc : TypeId × Value → H) :
    ReturnsInHanded {} Try.checked os 5 .any (Rows.fnItvRelSpec.pre6 enc Try.prog Try.f5 Rows.fnItvRelRow.domain false) (Rows.fnItvRelSpec.post enc Try.prog Try.f5 false true false false) := by
  refine returnsInHanded_of_change (C := Try.checked) own started (by kernel_rfl) Try.func5
    (ChangeSpec.witness6 (enc := enc) (C := Try.checked) false ⟨#[], #[.slice none 0 0, .slice none 0 0], []⟩ 8 (by kernel_rfl) (by kernel_rfl) (by kernel_rfl) (by kernel_rfl)) ?_
  intro W base args ds gs before hval0 hW hcnd _
  have hval : ∀ (j : Nat) t v, Try.f5.params[j]? = some t → args[j]? = some v → Value.okWide Try.prog W .any base t v := hval0
  have hW' := hW
  obtain ⟨p, q, hA0, hV, rfl, hfz, hnd⟩ := hW
  have hA : DataW.TrodAll enc Try.prog W 0 (fun _ => true) true Try.f5.params.toList args.toList ds p := hA0
  rw [Try.params5] at hA hval
  obtain ⟨v0, vs0, d0, ds0, p0, q0, hargs, rfl, rfl, h0, r0⟩ := trodAll_cons hA
  obtain ⟨v1, vs1, d1, ds1, p1, q1, rfl, rfl, rfl, h1, r1⟩ := trodAll_cons r0
  obtain ⟨rfl, rfl, rfl⟩ := trodAll_nil r1
  obtain rfl : args = #[v0, v1] := by cases args; simp_all
  obtain ⟨rfl, rfl⟩ := trodVars_none hV
  have k0 := h0
  have lt0 : ∀ x ∈ p0, x.block < W.heap.size := by obtain ⟨m, hm⟩ := k0; exact DataW.trod_lt m _ _ _ hm
  obtain ⟨a0, len0, cap0, rfl⟩ := okWide_slice Try.underlying22 (hval 0 22 v0 rfl rfl)
  obtain ⟨z0, w0⟩ : ∃ zs, IsRow .u8 W a0 len0 cap0 zs := by
    obtain ⟨fuel, hf⟩ := h0
    rcases open_ints Try.underlying22 Try.underlying5 (by kernel_rfl) hf with ⟨hcs, _⟩ | ⟨x, l, c, zs, hcs, _, hl, hm, hz, _, hcell, hwz⟩
    · simp [Value.cells] at hcs
      obtain ⟨rfl, rfl, rfl⟩ := hcs
      exact ⟨[], .inl ⟨rfl, rfl, rfl, rfl⟩⟩
    · simp [Value.cells] at hcs
      obtain ⟨rfl, rfl, rfl⟩ := hcs
      exact ⟨zs, .inr ⟨_, rfl, hl, hm, by simpa using hz, hcell, hwz⟩⟩
  have k1 := h1
  have lt1 : ∀ x ∈ p1, x.block < W.heap.size := by obtain ⟨m, hm⟩ := k1; exact DataW.trod_lt m _ _ _ hm
  obtain ⟨a1, len1, cap1, rfl⟩ := okWide_slice Try.underlying22 (hval 1 22 v1 rfl rfl)
  obtain ⟨z1, w1⟩ : ∃ zs, IsRow .u8 W a1 len1 cap1 zs := by
    obtain ⟨fuel, hf⟩ := h1
    rcases open_ints Try.underlying22 Try.underlying5 (by kernel_rfl) hf with ⟨hcs, _⟩ | ⟨x, l, c, zs, hcs, _, hl, hm, hz, _, hcell, hwz⟩
    · simp [Value.cells] at hcs
      obtain ⟨rfl, rfl, rfl⟩ := hcs
      exact ⟨[], .inl ⟨rfl, rfl, rfl, rfl⟩⟩
    · simp [Value.cells] at hcs
      obtain ⟨rfl, rfl, rfl⟩ := hcs
      exact ⟨zs, .inr ⟨_, rfl, hl, hm, by simpa using hz, hcell, hwz⟩⟩
  clear hA0 hval0
  refine (walk a0 len0 cap0 z0 a1 len1 cap1 z1 W w0 w1).mono fun e W' ⟨he, bel⟩ => ?_
  subst he
  exact ⟨_, rfl, _, _, _, [], _, [], hW', trodAll_mk1 (shut_bool Try.underlying4 _), (trodAll_cons_mk (Below.trod laidOut (by kernel_rfl) (of_decide_eq_true (by kernel_rfl)) k0 bel lt0) (trodAll_cons_mk (Below.trod laidOut (by kernel_rfl) (of_decide_eq_true (by kernel_rfl)) k1 bel lt1) trodAll_mk0)), rfl, bel.frame _, fun h => by cases h⟩

theorem over : Rows.fnItvRelRow.holds Try.pinned (OpenSpec.ofChange Rows.fnItvRelSpec) :=
  OpenClaim.holds_of_wide 5 Try.f5 rfl rfl rfl rfl rfl rfl rfl ⟨rfl, rfl, rfl, rfl, rfl⟩ rfl rfl rfl rfl rfl (by kernel_rfl) Try.func5 (by kernel_rfl)
    (of_decide_eq_true (by kernel_rfl)) (by unfold Func.isWrapper; rw [if_neg (of_decide_eq_false (by kernel_rfl))]; exact ⟨rfl, rfl⟩)
    (fun os started H enc _ => lifted os started H enc)

/-- The given statement. -/
theorem proved : Rows.FnItvRelSaid := over
#print axioms proved
end Go.Proofs.Ytempklcflcpjaaa.fnItvRel
