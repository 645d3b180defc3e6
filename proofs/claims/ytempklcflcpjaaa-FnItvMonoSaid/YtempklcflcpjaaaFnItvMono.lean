/-
  FnItvMono: for every input the law returns true, and its arguments read as before. No conditions.
-/
import Derived.Test.YtempklcflcpjaaaAt2
import Derived.Test.YtempklcflcpjaaaLaws
import Derived.Test.YtempklcflcpjaaaDraw7
import Derived.Test.YtempklcflcpjaaaDraw6
import Derived.Test.YtempklcflcpjaaaOw
import Derived.Test.YtempklcflcpjaaaRel3
import Derived.LoopTactic
import Derived.Test.YtempklcflcpjaaaItvdo5
import Derived.Test.YtempklcflcpjaaaItvdo2
import Derived.Test.YtempklcflcpjaaaQuietB
namespace Go.Proofs.Ytempklcflcpjaaa.fnItvMono
set_option linter.unusedSimpArgs false
set_option linter.unusedVariables false
open Go.ChangeShapes Go.WideShapes Go.ChangeAt Go.RowKit
open Go.ChangeMaps (open_string shut_string)
open Go.Sort

theorem cset {W : World} {p a : Addr} {u : Value} (hn : a.block ≠ p.block) : (W.setCell p u).cell? a = W.cell? a := World.cell?_of_block (w := W) (Below.heap_setCell W p u a.block hn)
theorem keep_under {W W' : World} {a : Addr} {v : Value} {o o' : Obj} (h : (W.alloc o).cell? a = some v) (hl : a.block < W.heap.size) (hs : W'.heap.size = W.heap.size) (k : W'.cell? a = W.cell? a) : (W'.alloc o').cell? a = some v := by
  rw [World.cell?_alloc_lt _ _ _ hl] at h
  rw [World.cell?_alloc_lt _ _ _ (by omega), k, h]
theorem below_under {w W W' : World} {o o' : Obj} (h : Below w.heap.size w (W.alloc o)) (hl : w.heap.size ≤ W.heap.size) (k : Below w.heap.size W W') : Below w.heap.size w (W'.alloc o') := by
  have k0 : Below w.heap.size w W := ⟨h.os, h.tape, h.output, hl, fun i hi => by rw [← Below.heap_alloc W o i (by omega)]; exact h.block i hi⟩
  exact (k0.trans k).alloc (by have := k.size; omega) o'

theorem keep_realloc2 {W : World} {a : Addr} {v : Value} {o o' o2 : Obj} (h : ((W.alloc o).alloc o2).cell? a = some v) (hl : a.block < W.heap.size) : ((W.alloc o').alloc o2).cell? a = some v := by
  rw [World.cell?_alloc_lt _ _ _ (by rw [World.size_alloc]; omega), World.cell?_alloc_lt _ _ _ hl] at h ⊢; exact h
theorem below_realloc2 {w W : World} {o o' o2 : Obj} (h : Below w.heap.size w ((W.alloc o).alloc o2)) (hl : w.heap.size ≤ W.heap.size) : Below w.heap.size w ((W.alloc o').alloc o2) :=
  ⟨h.os, h.tape, h.output, by simp; omega, fun k hk => by
    rw [Below.heap_alloc _ _ _ (by rw [World.size_alloc]; omega), Below.heap_alloc _ _ _ (by omega), ← Below.heap_alloc W o _ (by omega), ← Below.heap_alloc (W.alloc o) o2 _ (by rw [World.size_alloc]; omega)]; exact h.block k hk⟩
theorem owOk_at (w : World) : Calls Try.prog 10 #[] w fun e w' => e = .returned (.bool true) ∧ Below w.heap.size w w' := (owOk_l w).mono fun e w' h => ⟨h.1, by rw [h.2]; exact Below.refl _ _⟩
/-- A list of twelve integers lies in block g. -/
def ListAt (W : World) (g : Nat) (zs : List Int) : Prop := ∀ k, k < 12 → W.cell? ⟨g, k, none⟩ = some (.int .i64 (zs.getD k 0))
theorem list_of {B : Nat} {w : World} {v : Value} {zs : List Int} (h : NumsAt B w v zs) (hl : zs.length = 12) : ∃ g cap, v = .slice (some ⟨g, 0, none⟩) 12 cap ∧ B ≤ g ∧ g < w.heap.size ∧ ListAt w g zs := by
  obtain ⟨_, ho⟩ := h
  rw [hl] at ho
  rcases ho.2 with ⟨_, h0⟩ | ⟨g, cap, cur, rfl, h1, hg, _⟩
  · omega
  · refine ⟨g, cap, rfl, h1, (ho.lt g rfl).2, fun k hk => ?_⟩
    rw [ho.cellAt k (by omega), List.getElem?_map, List.getD_eq_getElem?_getD, List.getElem?_eq_getElem (by omega)]
    rfl
theorem ListAt.keep {W W' : World} {g : Nat} {zs : List Int} (h : ListAt W g zs) (hb : Below W.heap.size W W') (hg : g < W.heap.size) : ListAt W' g zs := fun k hk => (hb.cell (p := ⟨g, k, none⟩) hg).trans (h k hk)
theorem ListAt.alloc {W : World} {g : Nat} {zs : List Int} (h : ListAt W g zs) (o : Obj) (hg : g < W.heap.size) : ListAt (W.alloc o) g zs := fun k hk => (World.cell?_alloc_lt _ _ _ hg).trans (h k hk)
theorem pick_ok {al ah : Int} (h : okI (al, ah) = true) : -32768 ≤ al ∧ al ≤ ah ∧ ah ≤ 32767 := by
  have := (okI_iff _).1 h
  simp only at this
  omega
theorem do_at {op al ah bl bh xl xh : Int} {ok : Bool} (h : doI op (al, ah) (bl, bh) = ((xl, xh), ok)) (w : World) : Calls Try.prog 12 #[.int .i64 op, .agg #[.int .i64 al, .int .i64 ah], .agg #[.int .i64 bl, .int .i64 bh]] w fun e w' => e = .returned (.tuple #[.agg #[.int .i64 xl, .int .i64 xh], .bool ok]) ∧ Below w.heap.size w w' := by
  have k := itvDo_i op al ah bl bh w
  rw [h] at k
  exact k
theorem do_s_at {op al ah bl bh xl xh : Int} {ok : Bool} (h : doI op (al, ah) (bl, bh) = ((xl, xh), ok)) (w : World) : Calls Try.prog 28 #[.int .i64 op, .agg #[.int .i64 al, .int .i64 ah], .agg #[.int .i64 bl, .int .i64 bh]] w fun e w' => e = .returned (.tuple #[.agg #[.int .i64 xl, .int .i64 xh], .bool ok]) ∧ Below w.heap.size w w' := by
  have k := itvDo_s op al ah bl bh w
  rw [h] at k
  exact k
theorem rel_at {rel al ah bl bh xl xh yl yh : Int} {ok : Bool} (h : relI rel (al, ah) (bl, bh) = ((xl, xh), (yl, yh), ok)) (w : World) : Calls Try.prog 20 #[.int .i64 rel, .agg #[.int .i64 al, .int .i64 ah], .agg #[.int .i64 bl, .int .i64 bh]] w fun e w' => e = .returned (.tuple #[.agg #[.int .i64 xl, .int .i64 xh], .agg #[.int .i64 yl, .int .i64 yh], .bool ok]) ∧ Below w.heap.size w w' := by
  have k := itvRel_i_ rel al ah bl bh w
  rw [h] at k
  exact k
theorem not_at {rel al ah bl bh xl xh yl yh : Int} {ok : Bool} (h : notI rel (al, ah) (bl, bh) = ((xl, xh), (yl, yh), ok)) (w : World) : Calls Try.prog 21 #[.int .i64 rel, .agg #[.int .i64 al, .int .i64 ah], .agg #[.int .i64 bl, .int .i64 bh]] w fun e w' => e = .returned (.tuple #[.agg #[.int .i64 xl, .int .i64 xh], .agg #[.int .i64 yl, .int .i64 yh], .bool ok]) ∧ Below w.heap.size w w' := by
  have k := itvNot_i_ rel al ah bl bh w
  rw [h] at k
  exact k
theorem ok_of {l h : Int} (a : -32768 ≤ l) (b : l ≤ h) (c : h ≤ 32767) : okI (l, h) = true := (okI_iff _).2 ⟨a, b, c⟩

set_option maxRecDepth 100000 in
set_option maxHeartbeats 16000000 in
theorem walk (a0 : Option Addr) (len0 cap0 : Nat) (z0 : List Int) (a1 : Option Addr) (len1 cap1 : Nat) (z1 : List Int) (w : World) (w0 : IsRow .u8 w a0 len0 cap0 z0) (w1 : IsRow .u8 w a1 len1 cap1 z1) :
    Calls Try.prog 4 #[.slice a0 len0 cap0, .slice a1 len1 cap1] w fun e w' => e = .returned (.bool true) ∧ Below w.heap.size w w' := by
  go_enter Try.func4, Try.ntmps4
  go_wp2_with fail
  all_goals (try (go_ret; exact ⟨rfl, by go_grown⟩))
  refine (drawItvDo_s _ _ _ _ _ w0).mono ?_
  rintro e wA ⟨op, al, ah, bl, bh, rfl, hop, _, _, _, _, hBa⟩
  have hsA := hBa.size
  go_wp2_with fail
  refine (drawInputs_s _ _ _ _ _ (((w1.below hBa).alloc _).alloc _)).mono ?_
  rintro e wB ⟨n, v, zs, rfl, hn, hzl, hN, hBb⟩
  have hsB := hBb.size
  have q0 := hBb.cell (p := ⟨wA.heap.size, 0, none⟩) (by simp only [World.size_alloc]; omega)
  have q1 := hBb.cell (p := ⟨wA.heap.size, 1, none⟩) (by simp only [World.size_alloc]; omega)
  have q2 := hBb.cell (p := ⟨wA.heap.size + 1, 0, none⟩) (by simp only [World.size_alloc]; omega)
  have q3 := hBb.cell (p := ⟨wA.heap.size + 1, 1, none⟩) (by simp only [World.size_alloc]; omega)
  simp [go_sem] at q0 q1 q2 q3
  have hBw : Below w.heap.size w wB := below_on ((hBa.alloc hsA _).alloc (by simp only [World.size_alloc]; omega) _) hBb
  obtain ⟨g, cap, rfl, _, lg, hL0⟩ := list_of hN hzl
  have hL := Lib.hid hL0
  clear hBb hsB hN hL0 hBa hsA
  have l0 := blk q0
  have l2 := blk q2
  by_cases hab : okI (al, ah) = true ∧ okI (bl, bh) = true
  · have Oa := Lib.hid hab.1
    have Ob := Lib.hid hab.2
    clear hab
    have k0 := cell_regrown q0
    have k1 := cell_regrown q1
    have k2 := cell_regrown q2
    have k3 := cell_regrown q3
    go_wp2_with (first
      | (go_at_call 17; ((with_reducible refine (ok_s_at Oa.out _).mono ?_); rintro e w' ⟨rfl, hb⟩; obtain ⟨⟨dq, osq⟩, hq''⟩ := regrown_on (W0 := wB) (by first | exact below_regrown _ _ _ | exact Below.refl _ _ | go_grown) hb; subst hq''; clear hb))
      | (go_at_call 17; ((with_reducible refine (ok_s_at Ob.out _).mono ?_); rintro e w' ⟨rfl, hb⟩; obtain ⟨⟨dq, osq⟩, hq''⟩ := regrown_on (W0 := wB) (by first | exact below_regrown _ _ _ | exact Below.refl _ _ | go_grown) hb; subst hq''; clear hb))
      | (go_at_call 10; ((with_reducible refine (owOk_at  _).mono ?_); rintro e w' ⟨rfl, hb⟩; obtain ⟨⟨dq, osq⟩, hq''⟩ := regrown_on (W0 := wB) (by first | exact below_regrown _ _ _ | exact Below.refl _ _ | go_grown) hb; subst hq''; clear hb)))
    refine (owLess_l al ah n (pick_ok Oa.out) _).mono ?_
    rintro e wC ⟨ul, uh, rfl, hu1, hu2, hu3, hbC⟩
    have hBC : Below wB.heap.size wB wC := below_on (by first | exact below_regrown _ _ _ | exact Below.refl _ _ | go_grown) hbC
    have r0 := keep_alloc (.cells #[.int .i64 ul, .int .i64 uh] 30) ((hBC.cell (p := ⟨wA.heap.size, 0, none⟩) l0).trans q0)
    have r1 := keep_alloc (.cells #[.int .i64 ul, .int .i64 uh] 30) ((hBC.cell (p := ⟨wA.heap.size, 1, none⟩) l0).trans q1)
    have r2 := keep_alloc (.cells #[.int .i64 ul, .int .i64 uh] 30) ((hBC.cell (p := ⟨wA.heap.size + 1, 0, none⟩) l2).trans q2)
    have r3 := keep_alloc (.cells #[.int .i64 ul, .int .i64 uh] 30) ((hBC.cell (p := ⟨wA.heap.size + 1, 1, none⟩) l2).trans q3)
    have r4 : (wC.alloc (.cells #[.int .i64 ul, .int .i64 uh] 30)).cell? ⟨wC.heap.size, 0, none⟩ = some (.int .i64 ul) := by simp [go_sem]
    have r5 : (wC.alloc (.cells #[.int .i64 ul, .int .i64 uh] 30)).cell? ⟨wC.heap.size, 1, none⟩ = some (.int .i64 uh) := by simp [go_sem]
    have lc := keep_alloc (.cells #[.int .i64 ul, .int .i64 uh] 30) ((hBC.cell (p := ⟨g, 0, none⟩) lg).trans (hL.out 0 (by omega)))
    have hB0 : Below w.heap.size w (wC.alloc (.cells #[.int .i64 ul, .int .i64 uh] 30)) := (below_on hBw hBC).alloc (below_on hBw hBC).size _
    clear hbC hBC k0 k1 k2 k3 q0 q1 q2 q3 hBw l0 l2 hL lg
    generalize zs.getD 0 0 = m0 at lc
    go_wp2_with fail
    generalize wC.alloc (.cells #[.int .i64 ul, .int .i64 uh] 30) = W0 at *
    generalize wC.heap.size = gu at *
    have hS := s2_mk (Below.refl W0.heap.size W0)
    have l0 := blk r0
    have l2 := blk r2
    have l4 := blk r4
    have l6 := blk lc
    go_upto_region 8 with fail
    go_cut [11] (fun s11 wx => ∃ W, W = wx ∧ ∃ (gv : Nat) (vl vh : Int), s11 = .pointer (some ⟨gv, 0, none⟩) ∧ bl ≤ vl ∧ vl ≤ vh ∧ vh ≤ bh ∧ wx.cell? ⟨gv, 0, none⟩ = some (.int .i64 vl) ∧ wx.cell? ⟨gv, 1, none⟩ = some (.int .i64 vh) ∧ Below W0.heap.size W0 wx)
    case first =>
      go_region_held3 (fun w' => Below W0.heap.size W0 w' ∧ (∀ b o, b < W0.heap.size → w'.cell? ⟨b, o, none⟩ = W0.cell? ⟨b, o, none⟩) ∧ W0.heap.size ≤ w'.heap.size) (((try go_split_ands); (refine s2_mk ?_); first | with_reducible assumption | (with_reducible exact below_on (by assumption) hb) | ((with_reducible refine below_alloc _ ?_); with_reducible assumption) | ((with_reducible refine below_realloc (by assumption) ?_); first | omega | (simp only [World.size_alloc]; omega) | (simp only [World.size_setCell]; omega)) | ((with_reducible refine below_realloc2 (by assumption) ?_); omega) | ((with_reducible refine below_under (by assumption) (by omega) ?_); first | exact (Below.refl _ _).setCell (by simp only []; omega) _ | exact ((Below.refl _ _).setCell (by simp only []; omega) _).setCell (by simp only []; omega) _) | ((repeat (with_reducible refine below_set _ (by (simp only []; omega)) ?_)); with_reducible assumption) | exact (Below.refl _ _).drew | go_grown)) (first | (go_at_call 18; ((with_reducible refine (owLess_l bl bh _ (pick_ok Ob.out) _).mono ?_); rintro e w' ⟨vl, vh, rfl, hv1, hv2, hv3, hb⟩; have hc := bcell hb; have hs0 := hb.size; (try simp only [World.size_alloc] at hs0); (try have hzW : W0.heap.size ≤ w'.heap.size := le_of_S2 (by assumption) hb.size))))
      all_goals go_wp2_with fail
      all_goals go_meet
      all_goals (refine ⟨_, rfl, _, _, _, rfl, hv1, hv2, hv3, ?_, ?_, ?_⟩ <;> first | (simp [go_sem, *]; done) | go_grown | (go_split_ands; go_grown) | skip)
    case rest =>
    obtain ⟨W5, rfl, gv, vl, vh, rfl, hv1, hv2, hv3, cv0, cv1, hB5⟩ := hcut
    have ca0 := (hB5.cell (p := ⟨wA.heap.size, 0, none⟩) l0).trans r0
    have ca1 := (hB5.cell (p := ⟨wA.heap.size, 1, none⟩) l0).trans r1
    have cb0 := (hB5.cell (p := ⟨wA.heap.size + 1, 0, none⟩) l2).trans r2
    have cb1 := (hB5.cell (p := ⟨wA.heap.size + 1, 1, none⟩) l2).trans r3
    have cu0 := (hB5.cell (p := ⟨gu, 0, none⟩) l4).trans r4
    have cu1 := (hB5.cell (p := ⟨gu, 1, none⟩) l4).trans r5
    have hBw := below_on hB0 hB5
    clear hS r0 r1 r2 r3 r4 r5 lc l0 l2 l4 l6 hB5 hB0
    have ka := pick_ok Oa.out
    have kb := pick_ok Ob.out
    have Ou := Lib.hid (ok_of (l := ul) (h := uh) (by omega) hu2 (by omega))
    have Ov := Lib.hid (ok_of (l := vl) (h := vh) (by omega) hv2 (by omega))
    obtain ⟨⟨⟨xl, xh⟩, okX⟩, hx⟩ : ∃ r, r = doI op (ul, uh) (vl, vh) := ⟨_, rfl⟩
    obtain ⟨⟨⟨yl, yh⟩, okY⟩, hy⟩ : ∃ r, r = doI op (al, ah) (bl, bh) := ⟨_, rfl⟩
    have F0 := Lib.hid (fun h => do_mono (op := op) Ou.out Ov.out Oa.out Ob.out hu1 hu3 hv1 hv3 h)
    rw [← hx, ← hy] at F0
    have Hx := Lib.hid hx.symm
    have Hy := Lib.hid hy.symm
    clear hx hy ka kb
    have HU1 := Lib.hid hu1
    have HU3 := Lib.hid hu3
    have HV1 := Lib.hid hv1
    have HV3 := Lib.hid hv3
    clear hu1 hu2 hu3 hv1 hv2 hv3
    have lA := blk ca0
    have lB := blk cb0
    have lU := blk cu0
    have lV := blk cv0
    go_wp2_with fail
    refine (do_at Hx.out _).mono ?_
    rintro e w1 ⟨rfl, hb1⟩
    have da0 := (hb1.cell (p := ⟨wA.heap.size, 0, none⟩) (blk (ca0))).trans (ca0)
    have da1 := (hb1.cell (p := ⟨wA.heap.size, 1, none⟩) (blk (ca1))).trans (ca1)
    have db0 := (hb1.cell (p := ⟨wA.heap.size + 1, 0, none⟩) (blk (cb0))).trans (cb0)
    have db1 := (hb1.cell (p := ⟨wA.heap.size + 1, 1, none⟩) (blk (cb1))).trans (cb1)
    have du0 := (hb1.cell (p := ⟨gu, 0, none⟩) (blk (cu0))).trans (cu0)
    have du1 := (hb1.cell (p := ⟨gu, 1, none⟩) (blk (cu1))).trans (cu1)
    have dv0 := (hb1.cell (p := ⟨gv, 0, none⟩) (blk (cv0))).trans (cv0)
    have dv1 := (hb1.cell (p := ⟨gv, 1, none⟩) (blk (cv1))).trans (cv1)
    have hB1 := hb1
    clear hb1
    have lA1 := blk da0
    have lB1 := blk db0
    have lU1 := blk du0
    have lV1 := blk dv0
    go_wp2_with fail
    refine (do_at Hy.out _).mono ?_
    rintro e w2 ⟨rfl, hb2⟩
    have dx0 := (hb2.cell (p := ⟨w1.heap.size, 0, none⟩) (by simp)).trans (by simp [go_sem] : (w1.alloc (.cells #[.int .i64 xl, .int .i64 xh] 30)).cell? ⟨w1.heap.size, 0, none⟩ = some (.int .i64 xl))
    have dx1 := (hb2.cell (p := ⟨w1.heap.size, 1, none⟩) (by simp)).trans (by simp [go_sem] : (w1.alloc (.cells #[.int .i64 xl, .int .i64 xh] 30)).cell? ⟨w1.heap.size, 1, none⟩ = some (.int .i64 xh))
    have hB2 : Below W5.heap.size W5 w2 := below_on (hB1.alloc hB1.size (.cells #[.int .i64 xl, .int .i64 xh] 30)) hb2
    have lx := blk dx0
    clear hb2 da0 da1 db0 db1 du0 du1 dv0 dv1 lA1 lB1 lU1 lV1
    cases okX with
    | true =>
      obtain ⟨y1, y2⟩ := F0.out rfl
      (try simp only at y1 y2)
      subst y1
      have Ixy := Lib.hid y2
      clear y2
      go_wp2_with fail
      refine (in_at Ixy.out _).mono ?_
      rintro e w3 ⟨rfl, hb3⟩
      have hB3 : Below W5.heap.size W5 w3 := below_on (hB2.alloc hB2.size (.cells #[.int .i64 yl, .int .i64 yh] 30)) hb3
      clear hb3 hB2 dx0 dx1 lx
      go_wp2_with fail
      go_loopw [16] (fun i wr => ∃ k : Nat, k ≤ 4 ∧ i = .int .i64 ((k : Int) + 1) ∧ Below W5.heap.size W5 wr) (fun i _ => 5 - (intOf i).toNat)
      case atStart => exact ⟨0, by omega, rfl, hB3⟩
      case round =>
        obtain ⟨k, hk, rfl, hS⟩ := hrel
        clear hB3
        by_cases hlt : k < 4
        · skip
          have hlt2 : (k : Int) + 1 ≤ 4 := by omega
          obtain ⟨⟨⟨pl, ph⟩, ⟨ql, qh⟩, okP⟩, hp⟩ : ∃ r, r = relI ((k : Int) + 1) (ul, uh) (vl, vh) := ⟨_, rfl⟩
          obtain ⟨⟨⟨rl, rh⟩, ⟨sl, sh⟩, okR⟩, hr⟩ : ∃ r, r = relI ((k : Int) + 1) (al, ah) (bl, bh) := ⟨_, rfl⟩
          obtain ⟨⟨⟨pl', ph'⟩, ⟨ql', qh'⟩, okP'⟩, hp'⟩ : ∃ r, r = notI ((k : Int) + 1) (ul, uh) (vl, vh) := ⟨_, rfl⟩
          obtain ⟨⟨⟨rl', rh'⟩, ⟨sl', sh'⟩, okR'⟩, hr'⟩ : ∃ r, r = notI ((k : Int) + 1) (al, ah) (bl, bh) := ⟨_, rfl⟩
          have F1 := Lib.hid (fun h => (relI_ok ((k : Int) + 1) Ou.out Ov.out).less (relI_ok ((k : Int) + 1) Oa.out Ob.out) Ou.out Ov.out Oa.out Ob.out HU1.out HU3.out HV1.out HV3.out h)
          have F2 := Lib.hid (fun h => (notI_ok (rel := (k : Int) + 1) ⟨by omega, by omega⟩ Ou.out Ov.out).less (notI_ok (rel := (k : Int) + 1) ⟨by omega, by omega⟩ Oa.out Ob.out) Ou.out Ov.out Oa.out Ob.out HU1.out HU3.out HV1.out HV3.out h)
          rw [← hp, ← hr] at F1
          rw [← hp', ← hr'] at F2
          have HP := Lib.hid hp.symm
          have HR := Lib.hid hr.symm
          have HP' := Lib.hid hp'.symm
          have HR' := Lib.hid hr'.symm
          clear hp hr hp' hr'
          have ea0 := (hS.cell (p := ⟨wA.heap.size, 0, none⟩) (blk (ca0))).trans (ca0)
          have ea1 := (hS.cell (p := ⟨wA.heap.size, 1, none⟩) (blk (ca1))).trans (ca1)
          have eb0 := (hS.cell (p := ⟨wA.heap.size + 1, 0, none⟩) (blk (cb0))).trans (cb0)
          have eb1 := (hS.cell (p := ⟨wA.heap.size + 1, 1, none⟩) (blk (cb1))).trans (cb1)
          have eu0 := (hS.cell (p := ⟨gu, 0, none⟩) (blk (cu0))).trans (cu0)
          have eu1 := (hS.cell (p := ⟨gu, 1, none⟩) (blk (cu1))).trans (cu1)
          have ev0 := (hS.cell (p := ⟨gv, 0, none⟩) (blk (cv0))).trans (cv0)
          have ev1 := (hS.cell (p := ⟨gv, 1, none⟩) (blk (cv1))).trans (cv1)
          have lA1 := blk ea0
          have lB1 := blk eb0
          have lU1 := blk eu0
          have lV1 := blk ev0
          go_wp2_with fail
          refine (rel_at HP.out _).mono ?_
          rintro e v1 ⟨rfl, hb1⟩
          have hB1 : Below W5.heap.size W5 v1 := below_on hS hb1
          have fa0 := (hb1.cell (p := ⟨wA.heap.size, 0, none⟩) (blk (ea0))).trans (ea0)
          have fa1 := (hb1.cell (p := ⟨wA.heap.size, 1, none⟩) (blk (ea1))).trans (ea1)
          have fb0 := (hb1.cell (p := ⟨wA.heap.size + 1, 0, none⟩) (blk (eb0))).trans (eb0)
          have fb1 := (hb1.cell (p := ⟨wA.heap.size + 1, 1, none⟩) (blk (eb1))).trans (eb1)
          have fu0 := (hb1.cell (p := ⟨gu, 0, none⟩) (blk (eu0))).trans (eu0)
          have fu1 := (hb1.cell (p := ⟨gu, 1, none⟩) (blk (eu1))).trans (eu1)
          have fv0 := (hb1.cell (p := ⟨gv, 0, none⟩) (blk (ev0))).trans (ev0)
          have fv1 := (hb1.cell (p := ⟨gv, 1, none⟩) (blk (ev1))).trans (ev1)
          clear hb1 hS ea0 ea1 eb0 eb1 eu0 eu1 ev0 ev1 lA1 lB1 lU1 lV1
          have lA1 := blk fa0
          have lB1 := blk fb0
          have lU1 := blk fu0
          have lV1 := blk fv0
          go_wp2_with fail
          refine (rel_at HR.out _).mono ?_
          rintro e v2 ⟨rfl, hb2⟩
          have ga0 := (hb2.cell (p := ⟨wA.heap.size, 0, none⟩) (blk (keep_alloc (.cells #[.int .i64 ql, .int .i64 qh] 30) (keep_alloc (.cells #[.int .i64 pl, .int .i64 ph] 30) (fa0))))).trans (keep_alloc (.cells #[.int .i64 ql, .int .i64 qh] 30) (keep_alloc (.cells #[.int .i64 pl, .int .i64 ph] 30) (fa0)))
          have ga1 := (hb2.cell (p := ⟨wA.heap.size, 1, none⟩) (blk (keep_alloc (.cells #[.int .i64 ql, .int .i64 qh] 30) (keep_alloc (.cells #[.int .i64 pl, .int .i64 ph] 30) (fa1))))).trans (keep_alloc (.cells #[.int .i64 ql, .int .i64 qh] 30) (keep_alloc (.cells #[.int .i64 pl, .int .i64 ph] 30) (fa1)))
          have gb0 := (hb2.cell (p := ⟨wA.heap.size + 1, 0, none⟩) (blk (keep_alloc (.cells #[.int .i64 ql, .int .i64 qh] 30) (keep_alloc (.cells #[.int .i64 pl, .int .i64 ph] 30) (fb0))))).trans (keep_alloc (.cells #[.int .i64 ql, .int .i64 qh] 30) (keep_alloc (.cells #[.int .i64 pl, .int .i64 ph] 30) (fb0)))
          have gb1 := (hb2.cell (p := ⟨wA.heap.size + 1, 1, none⟩) (blk (keep_alloc (.cells #[.int .i64 ql, .int .i64 qh] 30) (keep_alloc (.cells #[.int .i64 pl, .int .i64 ph] 30) (fb1))))).trans (keep_alloc (.cells #[.int .i64 ql, .int .i64 qh] 30) (keep_alloc (.cells #[.int .i64 pl, .int .i64 ph] 30) (fb1)))
          have gu0 := (hb2.cell (p := ⟨gu, 0, none⟩) (blk (keep_alloc (.cells #[.int .i64 ql, .int .i64 qh] 30) (keep_alloc (.cells #[.int .i64 pl, .int .i64 ph] 30) (fu0))))).trans (keep_alloc (.cells #[.int .i64 ql, .int .i64 qh] 30) (keep_alloc (.cells #[.int .i64 pl, .int .i64 ph] 30) (fu0)))
          have gu1 := (hb2.cell (p := ⟨gu, 1, none⟩) (blk (keep_alloc (.cells #[.int .i64 ql, .int .i64 qh] 30) (keep_alloc (.cells #[.int .i64 pl, .int .i64 ph] 30) (fu1))))).trans (keep_alloc (.cells #[.int .i64 ql, .int .i64 qh] 30) (keep_alloc (.cells #[.int .i64 pl, .int .i64 ph] 30) (fu1)))
          have gv0 := (hb2.cell (p := ⟨gv, 0, none⟩) (blk (keep_alloc (.cells #[.int .i64 ql, .int .i64 qh] 30) (keep_alloc (.cells #[.int .i64 pl, .int .i64 ph] 30) (fv0))))).trans (keep_alloc (.cells #[.int .i64 ql, .int .i64 qh] 30) (keep_alloc (.cells #[.int .i64 pl, .int .i64 ph] 30) (fv0)))
          have gv1 := (hb2.cell (p := ⟨gv, 1, none⟩) (blk (keep_alloc (.cells #[.int .i64 ql, .int .i64 qh] 30) (keep_alloc (.cells #[.int .i64 pl, .int .i64 ph] 30) (fv1))))).trans (keep_alloc (.cells #[.int .i64 ql, .int .i64 qh] 30) (keep_alloc (.cells #[.int .i64 pl, .int .i64 ph] 30) (fv1)))
          have gp0 : v2.cell? ⟨v1.heap.size, 0, none⟩ = some (.int .i64 pl) := (hb2.cell (p := ⟨v1.heap.size, 0, none⟩) (by simp only [World.size_alloc]; omega)).trans (by simp [go_sem])
          have hp0 : v2.frozen? ⟨v1.heap.size, 0, none⟩ = false := (hb2.frozen (p := ⟨v1.heap.size, 0, none⟩) (by simp only [World.size_alloc]; omega)).trans (by simp [go_sem])
          have gp1 : v2.cell? ⟨v1.heap.size, 1, none⟩ = some (.int .i64 ph) := (hb2.cell (p := ⟨v1.heap.size, 1, none⟩) (by simp only [World.size_alloc]; omega)).trans (by simp [go_sem])
          have hp1 : v2.frozen? ⟨v1.heap.size, 1, none⟩ = false := (hb2.frozen (p := ⟨v1.heap.size, 1, none⟩) (by simp only [World.size_alloc]; omega)).trans (by simp [go_sem])
          have gq0 : v2.cell? ⟨v1.heap.size + 1, 0, none⟩ = some (.int .i64 ql) := (hb2.cell (p := ⟨v1.heap.size + 1, 0, none⟩) (by simp only [World.size_alloc]; omega)).trans (by simp [go_sem])
          have hq0 : v2.frozen? ⟨v1.heap.size + 1, 0, none⟩ = false := (hb2.frozen (p := ⟨v1.heap.size + 1, 0, none⟩) (by simp only [World.size_alloc]; omega)).trans (by simp [go_sem])
          have gq1 : v2.cell? ⟨v1.heap.size + 1, 1, none⟩ = some (.int .i64 qh) := (hb2.cell (p := ⟨v1.heap.size + 1, 1, none⟩) (by simp only [World.size_alloc]; omega)).trans (by simp [go_sem])
          have hq1 : v2.frozen? ⟨v1.heap.size + 1, 1, none⟩ = false := (hb2.frozen (p := ⟨v1.heap.size + 1, 1, none⟩) (by simp only [World.size_alloc]; omega)).trans (by simp [go_sem])
          have hB2 : Below W5.heap.size W5 v2 := below_on ((hB1.alloc hB1.size (.cells #[.int .i64 pl, .int .i64 ph] 30)).alloc (by have := hB1.size; simp only [World.size_alloc]; omega) (.cells #[.int .i64 ql, .int .i64 qh] 30)) hb2
          clear hb2 fa0 fa1 fb0 fb1 fu0 fu1 fv0 fv1
          have ia0 := keep_alloc (.cells #[.int .i64 sl, .int .i64 sh] 30) (keep_alloc (.cells #[.int .i64 rl, .int .i64 rh] 30) ga0)
          have ia1 := keep_alloc (.cells #[.int .i64 sl, .int .i64 sh] 30) (keep_alloc (.cells #[.int .i64 rl, .int .i64 rh] 30) ga1)
          have ib0 := keep_alloc (.cells #[.int .i64 sl, .int .i64 sh] 30) (keep_alloc (.cells #[.int .i64 rl, .int .i64 rh] 30) gb0)
          have ib1 := keep_alloc (.cells #[.int .i64 sl, .int .i64 sh] 30) (keep_alloc (.cells #[.int .i64 rl, .int .i64 rh] 30) gb1)
          have iu0 := keep_alloc (.cells #[.int .i64 sl, .int .i64 sh] 30) (keep_alloc (.cells #[.int .i64 rl, .int .i64 rh] 30) gu0)
          have iu1 := keep_alloc (.cells #[.int .i64 sl, .int .i64 sh] 30) (keep_alloc (.cells #[.int .i64 rl, .int .i64 rh] 30) gu1)
          have iv0 := keep_alloc (.cells #[.int .i64 sl, .int .i64 sh] 30) (keep_alloc (.cells #[.int .i64 rl, .int .i64 rh] 30) gv0)
          have iv1 := keep_alloc (.cells #[.int .i64 sl, .int .i64 sh] 30) (keep_alloc (.cells #[.int .i64 rl, .int .i64 rh] 30) gv1)
          have ip0 := keep_alloc (.cells #[.int .i64 sl, .int .i64 sh] 30) (keep_alloc (.cells #[.int .i64 rl, .int .i64 rh] 30) gp0)
          have ip1 := keep_alloc (.cells #[.int .i64 sl, .int .i64 sh] 30) (keep_alloc (.cells #[.int .i64 rl, .int .i64 rh] 30) gp1)
          have iq0 := keep_alloc (.cells #[.int .i64 sl, .int .i64 sh] 30) (keep_alloc (.cells #[.int .i64 rl, .int .i64 rh] 30) gq0)
          have iq1 := keep_alloc (.cells #[.int .i64 sl, .int .i64 sh] 30) (keep_alloc (.cells #[.int .i64 rl, .int .i64 rh] 30) gq1)
          have ir0 : ((v2.alloc (.cells #[.int .i64 rl, .int .i64 rh] 30)).alloc (.cells #[.int .i64 sl, .int .i64 sh] 30)).cell? ⟨v2.heap.size, 0, none⟩ = some (.int .i64 rl) := by simp [go_sem]
          have mr0 : ((v2.alloc (.cells #[.int .i64 rl, .int .i64 rh] 30)).alloc (.cells #[.int .i64 sl, .int .i64 sh] 30)).frozen? ⟨v2.heap.size, 0, none⟩ = false := by simp [go_sem]
          have ir1 : ((v2.alloc (.cells #[.int .i64 rl, .int .i64 rh] 30)).alloc (.cells #[.int .i64 sl, .int .i64 sh] 30)).cell? ⟨v2.heap.size, 1, none⟩ = some (.int .i64 rh) := by simp [go_sem]
          have mr1 : ((v2.alloc (.cells #[.int .i64 rl, .int .i64 rh] 30)).alloc (.cells #[.int .i64 sl, .int .i64 sh] 30)).frozen? ⟨v2.heap.size, 1, none⟩ = false := by simp [go_sem]
          have is0 : ((v2.alloc (.cells #[.int .i64 rl, .int .i64 rh] 30)).alloc (.cells #[.int .i64 sl, .int .i64 sh] 30)).cell? ⟨v2.heap.size + 1, 0, none⟩ = some (.int .i64 sl) := by simp [go_sem]
          have ms0 : ((v2.alloc (.cells #[.int .i64 rl, .int .i64 rh] 30)).alloc (.cells #[.int .i64 sl, .int .i64 sh] 30)).frozen? ⟨v2.heap.size + 1, 0, none⟩ = false := by simp [go_sem]
          have is1 : ((v2.alloc (.cells #[.int .i64 rl, .int .i64 rh] 30)).alloc (.cells #[.int .i64 sl, .int .i64 sh] 30)).cell? ⟨v2.heap.size + 1, 1, none⟩ = some (.int .i64 sh) := by simp [go_sem]
          have ms1 : ((v2.alloc (.cells #[.int .i64 rl, .int .i64 rh] 30)).alloc (.cells #[.int .i64 sl, .int .i64 sh] 30)).frozen? ⟨v2.heap.size + 1, 1, none⟩ = false := by simp [go_sem]
          have mp0 := keepf_alloc (.cells #[.int .i64 sl, .int .i64 sh] 30) (keepf_alloc (.cells #[.int .i64 rl, .int .i64 rh] 30) hp0 (blk gp0)) (blk (keep_alloc (.cells #[.int .i64 rl, .int .i64 rh] 30) gp0))
          have mp1 := keepf_alloc (.cells #[.int .i64 sl, .int .i64 sh] 30) (keepf_alloc (.cells #[.int .i64 rl, .int .i64 rh] 30) hp1 (blk gp0)) (blk (keep_alloc (.cells #[.int .i64 rl, .int .i64 rh] 30) gp0))
          have mq0 := keepf_alloc (.cells #[.int .i64 sl, .int .i64 sh] 30) (keepf_alloc (.cells #[.int .i64 rl, .int .i64 rh] 30) hq0 (blk gq0)) (blk (keep_alloc (.cells #[.int .i64 rl, .int .i64 rh] 30) gq0))
          have mq1 := keepf_alloc (.cells #[.int .i64 sl, .int .i64 sh] 30) (keepf_alloc (.cells #[.int .i64 rl, .int .i64 rh] 30) hq1 (blk gq0)) (blk (keep_alloc (.cells #[.int .i64 rl, .int .i64 rh] 30) gq0))
          have hBV : Below W5.heap.size W5 ((v2.alloc (.cells #[.int .i64 rl, .int .i64 rh] 30)).alloc (.cells #[.int .i64 sl, .int .i64 sh] 30)) := (hB2.alloc hB2.size (.cells #[.int .i64 rl, .int .i64 rh] 30)).alloc (by have := hB2.size; simp only [World.size_alloc]; omega) (.cells #[.int .i64 sl, .int .i64 sh] 30)
          have n1 := blk gp0
          have n2 := blk gq0
          have n3 := blk ga0
          have n4 := blk gb0
          have n5 := hB1.size
          have n6 := hB2.size
          clear hB2 hB1 ga0 ga1 gb0 gb1 gu0 gu1 gv0 gv1 gp0 gp1 gq0 gq1 hp0 hp1 hq0 hq1
          cases okP with
          | true =>
            obtain ⟨y1, y2, y3⟩ := F1.out rfl
            (try simp only at y1 y2 y3)
            subst y1
            have I1 := Lib.hid y2
            have I2 := Lib.hid y3
            clear y2 y3
            go_wp2_with fail
            generalize (v2.alloc (.cells #[.int .i64 rl, .int .i64 rh] 30)).alloc (.cells #[.int .i64 sl, .int .i64 sh] 30) = V at *
            have ka0 := cell_regrown ia0
            have ka1 := cell_regrown ia1
            have kb0 := cell_regrown ib0
            have kb1 := cell_regrown ib1
            have ku0 := cell_regrown iu0
            have ku1 := cell_regrown iu1
            have kv0 := cell_regrown iv0
            have kv1 := cell_regrown iv1
            have kp0 := cell_regrown ip0
            have kp1 := cell_regrown ip1
            have kq0 := cell_regrown iq0
            have kq1 := cell_regrown iq1
            have kr0 := cell_regrown ir0
            have kr1 := cell_regrown ir1
            have ks0 := cell_regrown is0
            have ks1 := cell_regrown is1
            have op0 := frozen_regrown mp0 (blk ip0)
            have op1 := frozen_regrown mp1 (blk ip1)
            have oq0 := frozen_regrown mq0 (blk iq0)
            have oq1 := frozen_regrown mq1 (blk iq1)
            have or0 := frozen_regrown mr0 (blk ir0)
            have or1 := frozen_regrown mr1 (blk ir1)
            have os0 := frozen_regrown ms0 (blk is0)
            have os1 := frozen_regrown ms1 (blk is1)
            go_wp2_with (first
      | (go_at_call 19; ((with_reducible refine (in_at I1.out _).mono ?_); rintro e w' ⟨rfl, hb⟩; obtain ⟨⟨dq, osq⟩, hq''⟩ := regrown_on (W0 := V) (by first | exact below_regrown _ _ _ | exact Below.refl _ _ | go_grown) hb; subst hq''; clear hb))
      | (go_at_call 19; ((with_reducible refine (in_at I2.out _).mono ?_); rintro e w' ⟨rfl, hb⟩; obtain ⟨⟨dq, osq⟩, hq''⟩ := regrown_on (W0 := V) (by first | exact below_regrown _ _ _ | exact Below.refl _ _ | go_grown) hb; subst hq''; clear hb)))
            refine (not_at HP'.out _).mono ?_
            rintro e v3 ⟨rfl, hb3⟩
            have hV3 : Below V.heap.size V v3 := below_on (by first | exact below_regrown _ _ _ | exact Below.refl _ _ | go_grown) hb3
            have ta0 := (hV3.cell (p := ⟨wA.heap.size, 0, none⟩) (blk (ia0))).trans (ia0)
            have ta1 := (hV3.cell (p := ⟨wA.heap.size, 1, none⟩) (blk (ia1))).trans (ia1)
            have tb0 := (hV3.cell (p := ⟨wA.heap.size + 1, 0, none⟩) (blk (ib0))).trans (ib0)
            have tb1 := (hV3.cell (p := ⟨wA.heap.size + 1, 1, none⟩) (blk (ib1))).trans (ib1)
            have tu0 := (hV3.cell (p := ⟨gu, 0, none⟩) (blk (iu0))).trans (iu0)
            have tu1 := (hV3.cell (p := ⟨gu, 1, none⟩) (blk (iu1))).trans (iu1)
            have tv0 := (hV3.cell (p := ⟨gv, 0, none⟩) (blk (iv0))).trans (iv0)
            have tv1 := (hV3.cell (p := ⟨gv, 1, none⟩) (blk (iv1))).trans (iv1)
            have tp0 := (hV3.cell (p := ⟨v1.heap.size, 0, none⟩) (blk (ip0))).trans (ip0)
            have tp1 := (hV3.cell (p := ⟨v1.heap.size, 1, none⟩) (blk (ip1))).trans (ip1)
            have tq0 := (hV3.cell (p := ⟨v1.heap.size + 1, 0, none⟩) (blk (iq0))).trans (iq0)
            have tq1 := (hV3.cell (p := ⟨v1.heap.size + 1, 1, none⟩) (blk (iq1))).trans (iq1)
            have tr0 := (hV3.cell (p := ⟨v2.heap.size, 0, none⟩) (blk (ir0))).trans (ir0)
            have tr1 := (hV3.cell (p := ⟨v2.heap.size, 1, none⟩) (blk (ir1))).trans (ir1)
            have ts0 := (hV3.cell (p := ⟨v2.heap.size + 1, 0, none⟩) (blk (is0))).trans (is0)
            have ts1 := (hV3.cell (p := ⟨v2.heap.size + 1, 1, none⟩) (blk (is1))).trans (is1)
            have xp0 := (hV3.frozen (p := ⟨v1.heap.size, 0, none⟩) (blk ip0)).trans mp0
            have xp1 := (hV3.frozen (p := ⟨v1.heap.size, 1, none⟩) (blk ip0)).trans mp1
            have xq0 := (hV3.frozen (p := ⟨v1.heap.size + 1, 0, none⟩) (blk iq0)).trans mq0
            have xq1 := (hV3.frozen (p := ⟨v1.heap.size + 1, 1, none⟩) (blk iq0)).trans mq1
            have xr0 := (hV3.frozen (p := ⟨v2.heap.size, 0, none⟩) (blk ir0)).trans mr0
            have xr1 := (hV3.frozen (p := ⟨v2.heap.size, 1, none⟩) (blk ir0)).trans mr1
            have xs0 := (hV3.frozen (p := ⟨v2.heap.size + 1, 0, none⟩) (blk is0)).trans ms0
            have xs1 := (hV3.frozen (p := ⟨v2.heap.size + 1, 1, none⟩) (blk is0)).trans ms1
            have hB3 : Below W5.heap.size W5 v3 := below_on hBV hV3
            clear hb3 hV3 hBV
            clear ia0 ka0 ia1 ka1 ib0 kb0 ib1 kb1 iu0 ku0 iu1 ku1 iv0 kv0 iv1 kv1 ip0 kp0 ip1 kp1 iq0 kq0 iq1 kq1 ir0 kr0 ir1 kr1 is0 ks0 is1 ks1 mp0 op0 mp1 op1 mq0 oq0 mq1 oq1 mr0 or0 mr1 or1 ms0 os0 ms1 os1
            have z0 : ¬ (wA.heap.size = v1.heap.size) := by omega
            have z1 : ¬ (v1.heap.size = wA.heap.size) := by omega
            have z2 : ¬ (wA.heap.size = v1.heap.size + 1) := by omega
            have z3 : ¬ (v1.heap.size + 1 = wA.heap.size) := by omega
            have z4 : ¬ (wA.heap.size + 1 = v1.heap.size) := by omega
            have z5 : ¬ (v1.heap.size = wA.heap.size + 1) := by omega
            have z6 : ¬ (wA.heap.size + 1 = v1.heap.size + 1) := by omega
            have z7 : ¬ (v1.heap.size + 1 = wA.heap.size + 1) := by omega
            have z8 : ¬ (v1.heap.size = v1.heap.size + 1) := by omega
            have z9 : ¬ (v1.heap.size + 1 = v1.heap.size) := by omega
            have z10 : ¬ (v1.heap.size = v2.heap.size) := by omega
            have z11 : ¬ (v2.heap.size = v1.heap.size) := by omega
            have z12 : ¬ (v1.heap.size = v2.heap.size + 1) := by omega
            have z13 : ¬ (v2.heap.size + 1 = v1.heap.size) := by omega
            have z14 : ¬ (v1.heap.size + 1 = v2.heap.size) := by omega
            have z15 : ¬ (v2.heap.size = v1.heap.size + 1) := by omega
            have z16 : ¬ (v1.heap.size + 1 = v2.heap.size + 1) := by omega
            have z17 : ¬ (v2.heap.size + 1 = v1.heap.size + 1) := by omega
            have z18 : ¬ (v2.heap.size = v2.heap.size + 1) := by omega
            have z19 : ¬ (v2.heap.size + 1 = v2.heap.size) := by omega
            go_wp2_with fail
            refine (not_at HR'.out _).mono ?_
            rintro e v4 ⟨rfl, hb4⟩
            have s4 := hb4.size
            simp only [World.size_setCell] at s4
            have j1 := blk tp0
            have j2 := blk tq0
            have j3 := blk tr0
            have j4 := blk ts0
            have yp0 : v4.cell? ⟨v1.heap.size, 0, none⟩ = some (.int .i64 pl') := (hb4.cell (p := ⟨v1.heap.size, 0, none⟩) (by simp only [World.size_setCell]; omega)).trans (by simp [go_sem, *])
            have yp1 : v4.cell? ⟨v1.heap.size, 1, none⟩ = some (.int .i64 ph') := (hb4.cell (p := ⟨v1.heap.size, 1, none⟩) (by simp only [World.size_setCell]; omega)).trans (by simp [go_sem, *])
            have yq0 : v4.cell? ⟨v1.heap.size + 1, 0, none⟩ = some (.int .i64 ql') := (hb4.cell (p := ⟨v1.heap.size + 1, 0, none⟩) (by simp only [World.size_setCell]; omega)).trans (by simp [go_sem, *])
            have yq1 : v4.cell? ⟨v1.heap.size + 1, 1, none⟩ = some (.int .i64 qh') := (hb4.cell (p := ⟨v1.heap.size + 1, 1, none⟩) (by simp only [World.size_setCell]; omega)).trans (by simp [go_sem, *])
            have yr0 : v4.cell? ⟨v2.heap.size, 0, none⟩ = some (.int .i64 rl) := (hb4.cell (p := ⟨v2.heap.size, 0, none⟩) (by simp only [World.size_setCell]; omega)).trans (by simp [go_sem, *])
            have yr1 : v4.cell? ⟨v2.heap.size, 1, none⟩ = some (.int .i64 rh) := (hb4.cell (p := ⟨v2.heap.size, 1, none⟩) (by simp only [World.size_setCell]; omega)).trans (by simp [go_sem, *])
            have ys0 : v4.cell? ⟨v2.heap.size + 1, 0, none⟩ = some (.int .i64 sl) := (hb4.cell (p := ⟨v2.heap.size + 1, 0, none⟩) (by simp only [World.size_setCell]; omega)).trans (by simp [go_sem, *])
            have ys1 : v4.cell? ⟨v2.heap.size + 1, 1, none⟩ = some (.int .i64 sh) := (hb4.cell (p := ⟨v2.heap.size + 1, 1, none⟩) (by simp only [World.size_setCell]; omega)).trans (by simp [go_sem, *])
            have xxr0 : v4.frozen? ⟨v2.heap.size, 0, none⟩ = false := (hb4.frozen (p := ⟨v2.heap.size, 0, none⟩) (by simp only [World.size_setCell]; omega)).trans (by simp [go_sem, *])
            have xxr1 : v4.frozen? ⟨v2.heap.size, 1, none⟩ = false := (hb4.frozen (p := ⟨v2.heap.size, 1, none⟩) (by simp only [World.size_setCell]; omega)).trans (by simp [go_sem, *])
            have xxs0 : v4.frozen? ⟨v2.heap.size + 1, 0, none⟩ = false := (hb4.frozen (p := ⟨v2.heap.size + 1, 0, none⟩) (by simp only [World.size_setCell]; omega)).trans (by simp [go_sem, *])
            have xxs1 : v4.frozen? ⟨v2.heap.size + 1, 1, none⟩ = false := (hb4.frozen (p := ⟨v2.heap.size + 1, 1, none⟩) (by simp only [World.size_setCell]; omega)).trans (by simp [go_sem, *])
            have hB4 : Below W5.heap.size W5 v4 := below_on ((((hB3.setCell (by simp only []; omega) _).setCell (by simp only []; omega) _).setCell (by simp only []; omega) _).setCell (by simp only []; omega) _) hb4
            have j5 := blk yp0
            have j6 := blk yq0
            have j7 := blk yr0
            have j8 := blk ys0
            clear hb4 hB3 s4 ta0 ta1 tb0 tb1 tu0 tu1 tv0 tv1 tp0 tp1 tq0 tq1 tr0 tr1 ts0 ts1
            cases okP' with
            | true =>
              obtain ⟨y1, y2, y3⟩ := F2.out rfl
              (try simp only at y1 y2 y3)
              subst y1
              have I3 := Lib.hid y2
              have I4 := Lib.hid y3
              clear y2 y3
              go_wp2_with fail
              refine (in_at I3.out _).mono ?_
              rintro e v5 ⟨rfl, hb5⟩
              have hB5 : Below W5.heap.size W5 v5 := below_on ((((hB4.setCell (by simp only []; omega) _).setCell (by simp only []; omega) _).setCell (by simp only []; omega) _).setCell (by simp only []; omega) _) hb5
              have uq0 : v5.cell? ⟨v1.heap.size + 1, 0, none⟩ = some (.int .i64 ql') := (hb5.cell (p := ⟨v1.heap.size + 1, 0, none⟩) (by simp only [World.size_setCell]; omega)).trans (by simp [go_sem, *])
              have uq1 : v5.cell? ⟨v1.heap.size + 1, 1, none⟩ = some (.int .i64 qh') := (hb5.cell (p := ⟨v1.heap.size + 1, 1, none⟩) (by simp only [World.size_setCell]; omega)).trans (by simp [go_sem, *])
              have us0 : v5.cell? ⟨v2.heap.size + 1, 0, none⟩ = some (.int .i64 sl') := (hb5.cell (p := ⟨v2.heap.size + 1, 0, none⟩) (by simp only [World.size_setCell]; omega)).trans (by simp [go_sem, *])
              have us1 : v5.cell? ⟨v2.heap.size + 1, 1, none⟩ = some (.int .i64 sh') := (hb5.cell (p := ⟨v2.heap.size + 1, 1, none⟩) (by simp only [World.size_setCell]; omega)).trans (by simp [go_sem, *])
              clear hb5 hB4
              go_wp2_with fail
              refine (in_at I4.out _).mono ?_
              rintro e v6 ⟨rfl, hb6⟩
              have hB6 : Below W5.heap.size W5 v6 := below_on hB5 hb6
              clear hb6
              go_wp2_with fail
              go_roundw
              case rel => exact ⟨k + 1, by omega, by go_num, hB6⟩
              case measure => simp [intOf] <;> omega
            | false =>
              go_wp2_with fail
              go_roundw
              case rel => exact ⟨k + 1, by omega, by go_num, (((hB4.setCell (by simp only []; omega) _).setCell (by simp only []; omega) _).setCell (by simp only []; omega) _).setCell (by simp only []; omega) _⟩
              case measure => simp [intOf] <;> omega
          | false =>
            go_wp2_with fail
            generalize (v2.alloc (.cells #[.int .i64 rl, .int .i64 rh] 30)).alloc (.cells #[.int .i64 sl, .int .i64 sh] 30) = V at *
            have ka0 := cell_regrown ia0
            have ka1 := cell_regrown ia1
            have kb0 := cell_regrown ib0
            have kb1 := cell_regrown ib1
            have ku0 := cell_regrown iu0
            have ku1 := cell_regrown iu1
            have kv0 := cell_regrown iv0
            have kv1 := cell_regrown iv1
            have kp0 := cell_regrown ip0
            have kp1 := cell_regrown ip1
            have kq0 := cell_regrown iq0
            have kq1 := cell_regrown iq1
            have kr0 := cell_regrown ir0
            have kr1 := cell_regrown ir1
            have ks0 := cell_regrown is0
            have ks1 := cell_regrown is1
            have op0 := frozen_regrown mp0 (blk ip0)
            have op1 := frozen_regrown mp1 (blk ip1)
            have oq0 := frozen_regrown mq0 (blk iq0)
            have oq1 := frozen_regrown mq1 (blk iq1)
            have or0 := frozen_regrown mr0 (blk ir0)
            have or1 := frozen_regrown mr1 (blk ir1)
            have os0 := frozen_regrown ms0 (blk is0)
            have os1 := frozen_regrown ms1 (blk is1)
            have dummy : True := trivial
            refine (not_at HP'.out _).mono ?_
            rintro e v3 ⟨rfl, hb3⟩
            have hV3 : Below V.heap.size V v3 := below_on (by first | exact below_regrown _ _ _ | exact Below.refl _ _ | go_grown) hb3
            have ta0 := (hV3.cell (p := ⟨wA.heap.size, 0, none⟩) (blk (ia0))).trans (ia0)
            have ta1 := (hV3.cell (p := ⟨wA.heap.size, 1, none⟩) (blk (ia1))).trans (ia1)
            have tb0 := (hV3.cell (p := ⟨wA.heap.size + 1, 0, none⟩) (blk (ib0))).trans (ib0)
            have tb1 := (hV3.cell (p := ⟨wA.heap.size + 1, 1, none⟩) (blk (ib1))).trans (ib1)
            have tu0 := (hV3.cell (p := ⟨gu, 0, none⟩) (blk (iu0))).trans (iu0)
            have tu1 := (hV3.cell (p := ⟨gu, 1, none⟩) (blk (iu1))).trans (iu1)
            have tv0 := (hV3.cell (p := ⟨gv, 0, none⟩) (blk (iv0))).trans (iv0)
            have tv1 := (hV3.cell (p := ⟨gv, 1, none⟩) (blk (iv1))).trans (iv1)
            have tp0 := (hV3.cell (p := ⟨v1.heap.size, 0, none⟩) (blk (ip0))).trans (ip0)
            have tp1 := (hV3.cell (p := ⟨v1.heap.size, 1, none⟩) (blk (ip1))).trans (ip1)
            have tq0 := (hV3.cell (p := ⟨v1.heap.size + 1, 0, none⟩) (blk (iq0))).trans (iq0)
            have tq1 := (hV3.cell (p := ⟨v1.heap.size + 1, 1, none⟩) (blk (iq1))).trans (iq1)
            have tr0 := (hV3.cell (p := ⟨v2.heap.size, 0, none⟩) (blk (ir0))).trans (ir0)
            have tr1 := (hV3.cell (p := ⟨v2.heap.size, 1, none⟩) (blk (ir1))).trans (ir1)
            have ts0 := (hV3.cell (p := ⟨v2.heap.size + 1, 0, none⟩) (blk (is0))).trans (is0)
            have ts1 := (hV3.cell (p := ⟨v2.heap.size + 1, 1, none⟩) (blk (is1))).trans (is1)
            have xp0 := (hV3.frozen (p := ⟨v1.heap.size, 0, none⟩) (blk ip0)).trans mp0
            have xp1 := (hV3.frozen (p := ⟨v1.heap.size, 1, none⟩) (blk ip0)).trans mp1
            have xq0 := (hV3.frozen (p := ⟨v1.heap.size + 1, 0, none⟩) (blk iq0)).trans mq0
            have xq1 := (hV3.frozen (p := ⟨v1.heap.size + 1, 1, none⟩) (blk iq0)).trans mq1
            have xr0 := (hV3.frozen (p := ⟨v2.heap.size, 0, none⟩) (blk ir0)).trans mr0
            have xr1 := (hV3.frozen (p := ⟨v2.heap.size, 1, none⟩) (blk ir0)).trans mr1
            have xs0 := (hV3.frozen (p := ⟨v2.heap.size + 1, 0, none⟩) (blk is0)).trans ms0
            have xs1 := (hV3.frozen (p := ⟨v2.heap.size + 1, 1, none⟩) (blk is0)).trans ms1
            have hB3 : Below W5.heap.size W5 v3 := below_on hBV hV3
            clear hb3 hV3 hBV
            clear ia0 ka0 ia1 ka1 ib0 kb0 ib1 kb1 iu0 ku0 iu1 ku1 iv0 kv0 iv1 kv1 ip0 kp0 ip1 kp1 iq0 kq0 iq1 kq1 ir0 kr0 ir1 kr1 is0 ks0 is1 ks1 mp0 op0 mp1 op1 mq0 oq0 mq1 oq1 mr0 or0 mr1 or1 ms0 os0 ms1 os1
            have z0 : ¬ (wA.heap.size = v1.heap.size) := by omega
            have z1 : ¬ (v1.heap.size = wA.heap.size) := by omega
            have z2 : ¬ (wA.heap.size = v1.heap.size + 1) := by omega
            have z3 : ¬ (v1.heap.size + 1 = wA.heap.size) := by omega
            have z4 : ¬ (wA.heap.size + 1 = v1.heap.size) := by omega
            have z5 : ¬ (v1.heap.size = wA.heap.size + 1) := by omega
            have z6 : ¬ (wA.heap.size + 1 = v1.heap.size + 1) := by omega
            have z7 : ¬ (v1.heap.size + 1 = wA.heap.size + 1) := by omega
            have z8 : ¬ (v1.heap.size = v1.heap.size + 1) := by omega
            have z9 : ¬ (v1.heap.size + 1 = v1.heap.size) := by omega
            have z10 : ¬ (v1.heap.size = v2.heap.size) := by omega
            have z11 : ¬ (v2.heap.size = v1.heap.size) := by omega
            have z12 : ¬ (v1.heap.size = v2.heap.size + 1) := by omega
            have z13 : ¬ (v2.heap.size + 1 = v1.heap.size) := by omega
            have z14 : ¬ (v1.heap.size + 1 = v2.heap.size) := by omega
            have z15 : ¬ (v2.heap.size = v1.heap.size + 1) := by omega
            have z16 : ¬ (v1.heap.size + 1 = v2.heap.size + 1) := by omega
            have z17 : ¬ (v2.heap.size + 1 = v1.heap.size + 1) := by omega
            have z18 : ¬ (v2.heap.size = v2.heap.size + 1) := by omega
            have z19 : ¬ (v2.heap.size + 1 = v2.heap.size) := by omega
            go_wp2_with fail
            refine (not_at HR'.out _).mono ?_
            rintro e v4 ⟨rfl, hb4⟩
            have s4 := hb4.size
            simp only [World.size_setCell] at s4
            have j1 := blk tp0
            have j2 := blk tq0
            have j3 := blk tr0
            have j4 := blk ts0
            have yp0 : v4.cell? ⟨v1.heap.size, 0, none⟩ = some (.int .i64 pl') := (hb4.cell (p := ⟨v1.heap.size, 0, none⟩) (by simp only [World.size_setCell]; omega)).trans (by simp [go_sem, *])
            have yp1 : v4.cell? ⟨v1.heap.size, 1, none⟩ = some (.int .i64 ph') := (hb4.cell (p := ⟨v1.heap.size, 1, none⟩) (by simp only [World.size_setCell]; omega)).trans (by simp [go_sem, *])
            have yq0 : v4.cell? ⟨v1.heap.size + 1, 0, none⟩ = some (.int .i64 ql') := (hb4.cell (p := ⟨v1.heap.size + 1, 0, none⟩) (by simp only [World.size_setCell]; omega)).trans (by simp [go_sem, *])
            have yq1 : v4.cell? ⟨v1.heap.size + 1, 1, none⟩ = some (.int .i64 qh') := (hb4.cell (p := ⟨v1.heap.size + 1, 1, none⟩) (by simp only [World.size_setCell]; omega)).trans (by simp [go_sem, *])
            have yr0 : v4.cell? ⟨v2.heap.size, 0, none⟩ = some (.int .i64 rl) := (hb4.cell (p := ⟨v2.heap.size, 0, none⟩) (by simp only [World.size_setCell]; omega)).trans (by simp [go_sem, *])
            have yr1 : v4.cell? ⟨v2.heap.size, 1, none⟩ = some (.int .i64 rh) := (hb4.cell (p := ⟨v2.heap.size, 1, none⟩) (by simp only [World.size_setCell]; omega)).trans (by simp [go_sem, *])
            have ys0 : v4.cell? ⟨v2.heap.size + 1, 0, none⟩ = some (.int .i64 sl) := (hb4.cell (p := ⟨v2.heap.size + 1, 0, none⟩) (by simp only [World.size_setCell]; omega)).trans (by simp [go_sem, *])
            have ys1 : v4.cell? ⟨v2.heap.size + 1, 1, none⟩ = some (.int .i64 sh) := (hb4.cell (p := ⟨v2.heap.size + 1, 1, none⟩) (by simp only [World.size_setCell]; omega)).trans (by simp [go_sem, *])
            have xxr0 : v4.frozen? ⟨v2.heap.size, 0, none⟩ = false := (hb4.frozen (p := ⟨v2.heap.size, 0, none⟩) (by simp only [World.size_setCell]; omega)).trans (by simp [go_sem, *])
            have xxr1 : v4.frozen? ⟨v2.heap.size, 1, none⟩ = false := (hb4.frozen (p := ⟨v2.heap.size, 1, none⟩) (by simp only [World.size_setCell]; omega)).trans (by simp [go_sem, *])
            have xxs0 : v4.frozen? ⟨v2.heap.size + 1, 0, none⟩ = false := (hb4.frozen (p := ⟨v2.heap.size + 1, 0, none⟩) (by simp only [World.size_setCell]; omega)).trans (by simp [go_sem, *])
            have xxs1 : v4.frozen? ⟨v2.heap.size + 1, 1, none⟩ = false := (hb4.frozen (p := ⟨v2.heap.size + 1, 1, none⟩) (by simp only [World.size_setCell]; omega)).trans (by simp [go_sem, *])
            have hB4 : Below W5.heap.size W5 v4 := below_on ((((hB3.setCell (by simp only []; omega) _).setCell (by simp only []; omega) _).setCell (by simp only []; omega) _).setCell (by simp only []; omega) _) hb4
            have j5 := blk yp0
            have j6 := blk yq0
            have j7 := blk yr0
            have j8 := blk ys0
            clear hb4 hB3 s4 ta0 ta1 tb0 tb1 tu0 tu1 tv0 tv1 tp0 tp1 tq0 tq1 tr0 tr1 ts0 ts1
            cases okP' with
            | true =>
              obtain ⟨y1, y2, y3⟩ := F2.out rfl
              (try simp only at y1 y2 y3)
              subst y1
              have I3 := Lib.hid y2
              have I4 := Lib.hid y3
              clear y2 y3
              go_wp2_with fail
              refine (in_at I3.out _).mono ?_
              rintro e v5 ⟨rfl, hb5⟩
              have hB5 : Below W5.heap.size W5 v5 := below_on ((((hB4.setCell (by simp only []; omega) _).setCell (by simp only []; omega) _).setCell (by simp only []; omega) _).setCell (by simp only []; omega) _) hb5
              have uq0 : v5.cell? ⟨v1.heap.size + 1, 0, none⟩ = some (.int .i64 ql') := (hb5.cell (p := ⟨v1.heap.size + 1, 0, none⟩) (by simp only [World.size_setCell]; omega)).trans (by simp [go_sem, *])
              have uq1 : v5.cell? ⟨v1.heap.size + 1, 1, none⟩ = some (.int .i64 qh') := (hb5.cell (p := ⟨v1.heap.size + 1, 1, none⟩) (by simp only [World.size_setCell]; omega)).trans (by simp [go_sem, *])
              have us0 : v5.cell? ⟨v2.heap.size + 1, 0, none⟩ = some (.int .i64 sl') := (hb5.cell (p := ⟨v2.heap.size + 1, 0, none⟩) (by simp only [World.size_setCell]; omega)).trans (by simp [go_sem, *])
              have us1 : v5.cell? ⟨v2.heap.size + 1, 1, none⟩ = some (.int .i64 sh') := (hb5.cell (p := ⟨v2.heap.size + 1, 1, none⟩) (by simp only [World.size_setCell]; omega)).trans (by simp [go_sem, *])
              clear hb5 hB4
              go_wp2_with fail
              refine (in_at I4.out _).mono ?_
              rintro e v6 ⟨rfl, hb6⟩
              have hB6 : Below W5.heap.size W5 v6 := below_on hB5 hb6
              clear hb6
              go_wp2_with fail
              go_roundw
              case rel => exact ⟨k + 1, by omega, by go_num, hB6⟩
              case measure => simp [intOf] <;> omega
            | false =>
              go_wp2_with fail
              go_roundw
              case rel => exact ⟨k + 1, by omega, by go_num, (((hB4.setCell (by simp only []; omega) _).setCell (by simp only []; omega) _).setCell (by simp only []; omega) _).setCell (by simp only []; omega) _⟩
              case measure => simp [intOf] <;> omega
        · go_wp2_with (first
      | (go_at_call 10; ((with_reducible refine (owOk_at  _).mono ?_); rintro e w' ⟨rfl, hb⟩)))
          go_ret
          exact ⟨rfl, below_on hBw (below_on hS hb)⟩
    | false =>
      have hB3 : Below W5.heap.size W5 (w2.alloc (.cells #[.int .i64 yl, .int .i64 yh] 30)) := hB2.alloc hB2.size (.cells #[.int .i64 yl, .int .i64 yh] 30)
      clear hB2 dx0 dx1 lx
      go_wp2_with fail
      go_loopw [16] (fun i wr => ∃ k : Nat, k ≤ 4 ∧ i = .int .i64 ((k : Int) + 1) ∧ Below W5.heap.size W5 wr) (fun i _ => 5 - (intOf i).toNat)
      case atStart => exact ⟨0, by omega, rfl, hB3⟩
      case round =>
        obtain ⟨k, hk, rfl, hS⟩ := hrel
        clear hB3
        by_cases hlt : k < 4
        · skip
          have hlt2 : (k : Int) + 1 ≤ 4 := by omega
          obtain ⟨⟨⟨pl, ph⟩, ⟨ql, qh⟩, okP⟩, hp⟩ : ∃ r, r = relI ((k : Int) + 1) (ul, uh) (vl, vh) := ⟨_, rfl⟩
          obtain ⟨⟨⟨rl, rh⟩, ⟨sl, sh⟩, okR⟩, hr⟩ : ∃ r, r = relI ((k : Int) + 1) (al, ah) (bl, bh) := ⟨_, rfl⟩
          obtain ⟨⟨⟨pl', ph'⟩, ⟨ql', qh'⟩, okP'⟩, hp'⟩ : ∃ r, r = notI ((k : Int) + 1) (ul, uh) (vl, vh) := ⟨_, rfl⟩
          obtain ⟨⟨⟨rl', rh'⟩, ⟨sl', sh'⟩, okR'⟩, hr'⟩ : ∃ r, r = notI ((k : Int) + 1) (al, ah) (bl, bh) := ⟨_, rfl⟩
          have F1 := Lib.hid (fun h => (relI_ok ((k : Int) + 1) Ou.out Ov.out).less (relI_ok ((k : Int) + 1) Oa.out Ob.out) Ou.out Ov.out Oa.out Ob.out HU1.out HU3.out HV1.out HV3.out h)
          have F2 := Lib.hid (fun h => (notI_ok (rel := (k : Int) + 1) ⟨by omega, by omega⟩ Ou.out Ov.out).less (notI_ok (rel := (k : Int) + 1) ⟨by omega, by omega⟩ Oa.out Ob.out) Ou.out Ov.out Oa.out Ob.out HU1.out HU3.out HV1.out HV3.out h)
          rw [← hp, ← hr] at F1
          rw [← hp', ← hr'] at F2
          have HP := Lib.hid hp.symm
          have HR := Lib.hid hr.symm
          have HP' := Lib.hid hp'.symm
          have HR' := Lib.hid hr'.symm
          clear hp hr hp' hr'
          have ea0 := (hS.cell (p := ⟨wA.heap.size, 0, none⟩) (blk (ca0))).trans (ca0)
          have ea1 := (hS.cell (p := ⟨wA.heap.size, 1, none⟩) (blk (ca1))).trans (ca1)
          have eb0 := (hS.cell (p := ⟨wA.heap.size + 1, 0, none⟩) (blk (cb0))).trans (cb0)
          have eb1 := (hS.cell (p := ⟨wA.heap.size + 1, 1, none⟩) (blk (cb1))).trans (cb1)
          have eu0 := (hS.cell (p := ⟨gu, 0, none⟩) (blk (cu0))).trans (cu0)
          have eu1 := (hS.cell (p := ⟨gu, 1, none⟩) (blk (cu1))).trans (cu1)
          have ev0 := (hS.cell (p := ⟨gv, 0, none⟩) (blk (cv0))).trans (cv0)
          have ev1 := (hS.cell (p := ⟨gv, 1, none⟩) (blk (cv1))).trans (cv1)
          have lA1 := blk ea0
          have lB1 := blk eb0
          have lU1 := blk eu0
          have lV1 := blk ev0
          go_wp2_with fail
          refine (rel_at HP.out _).mono ?_
          rintro e v1 ⟨rfl, hb1⟩
          have hB1 : Below W5.heap.size W5 v1 := below_on hS hb1
          have fa0 := (hb1.cell (p := ⟨wA.heap.size, 0, none⟩) (blk (ea0))).trans (ea0)
          have fa1 := (hb1.cell (p := ⟨wA.heap.size, 1, none⟩) (blk (ea1))).trans (ea1)
          have fb0 := (hb1.cell (p := ⟨wA.heap.size + 1, 0, none⟩) (blk (eb0))).trans (eb0)
          have fb1 := (hb1.cell (p := ⟨wA.heap.size + 1, 1, none⟩) (blk (eb1))).trans (eb1)
          have fu0 := (hb1.cell (p := ⟨gu, 0, none⟩) (blk (eu0))).trans (eu0)
          have fu1 := (hb1.cell (p := ⟨gu, 1, none⟩) (blk (eu1))).trans (eu1)
          have fv0 := (hb1.cell (p := ⟨gv, 0, none⟩) (blk (ev0))).trans (ev0)
          have fv1 := (hb1.cell (p := ⟨gv, 1, none⟩) (blk (ev1))).trans (ev1)
          clear hb1 hS ea0 ea1 eb0 eb1 eu0 eu1 ev0 ev1 lA1 lB1 lU1 lV1
          have lA1 := blk fa0
          have lB1 := blk fb0
          have lU1 := blk fu0
          have lV1 := blk fv0
          go_wp2_with fail
          refine (rel_at HR.out _).mono ?_
          rintro e v2 ⟨rfl, hb2⟩
          have ga0 := (hb2.cell (p := ⟨wA.heap.size, 0, none⟩) (blk (keep_alloc (.cells #[.int .i64 ql, .int .i64 qh] 30) (keep_alloc (.cells #[.int .i64 pl, .int .i64 ph] 30) (fa0))))).trans (keep_alloc (.cells #[.int .i64 ql, .int .i64 qh] 30) (keep_alloc (.cells #[.int .i64 pl, .int .i64 ph] 30) (fa0)))
          have ga1 := (hb2.cell (p := ⟨wA.heap.size, 1, none⟩) (blk (keep_alloc (.cells #[.int .i64 ql, .int .i64 qh] 30) (keep_alloc (.cells #[.int .i64 pl, .int .i64 ph] 30) (fa1))))).trans (keep_alloc (.cells #[.int .i64 ql, .int .i64 qh] 30) (keep_alloc (.cells #[.int .i64 pl, .int .i64 ph] 30) (fa1)))
          have gb0 := (hb2.cell (p := ⟨wA.heap.size + 1, 0, none⟩) (blk (keep_alloc (.cells #[.int .i64 ql, .int .i64 qh] 30) (keep_alloc (.cells #[.int .i64 pl, .int .i64 ph] 30) (fb0))))).trans (keep_alloc (.cells #[.int .i64 ql, .int .i64 qh] 30) (keep_alloc (.cells #[.int .i64 pl, .int .i64 ph] 30) (fb0)))
          have gb1 := (hb2.cell (p := ⟨wA.heap.size + 1, 1, none⟩) (blk (keep_alloc (.cells #[.int .i64 ql, .int .i64 qh] 30) (keep_alloc (.cells #[.int .i64 pl, .int .i64 ph] 30) (fb1))))).trans (keep_alloc (.cells #[.int .i64 ql, .int .i64 qh] 30) (keep_alloc (.cells #[.int .i64 pl, .int .i64 ph] 30) (fb1)))
          have gu0 := (hb2.cell (p := ⟨gu, 0, none⟩) (blk (keep_alloc (.cells #[.int .i64 ql, .int .i64 qh] 30) (keep_alloc (.cells #[.int .i64 pl, .int .i64 ph] 30) (fu0))))).trans (keep_alloc (.cells #[.int .i64 ql, .int .i64 qh] 30) (keep_alloc (.cells #[.int .i64 pl, .int .i64 ph] 30) (fu0)))
          have gu1 := (hb2.cell (p := ⟨gu, 1, none⟩) (blk (keep_alloc (.cells #[.int .i64 ql, .int .i64 qh] 30) (keep_alloc (.cells #[.int .i64 pl, .int .i64 ph] 30) (fu1))))).trans (keep_alloc (.cells #[.int .i64 ql, .int .i64 qh] 30) (keep_alloc (.cells #[.int .i64 pl, .int .i64 ph] 30) (fu1)))
          have gv0 := (hb2.cell (p := ⟨gv, 0, none⟩) (blk (keep_alloc (.cells #[.int .i64 ql, .int .i64 qh] 30) (keep_alloc (.cells #[.int .i64 pl, .int .i64 ph] 30) (fv0))))).trans (keep_alloc (.cells #[.int .i64 ql, .int .i64 qh] 30) (keep_alloc (.cells #[.int .i64 pl, .int .i64 ph] 30) (fv0)))
          have gv1 := (hb2.cell (p := ⟨gv, 1, none⟩) (blk (keep_alloc (.cells #[.int .i64 ql, .int .i64 qh] 30) (keep_alloc (.cells #[.int .i64 pl, .int .i64 ph] 30) (fv1))))).trans (keep_alloc (.cells #[.int .i64 ql, .int .i64 qh] 30) (keep_alloc (.cells #[.int .i64 pl, .int .i64 ph] 30) (fv1)))
          have gp0 : v2.cell? ⟨v1.heap.size, 0, none⟩ = some (.int .i64 pl) := (hb2.cell (p := ⟨v1.heap.size, 0, none⟩) (by simp only [World.size_alloc]; omega)).trans (by simp [go_sem])
          have hp0 : v2.frozen? ⟨v1.heap.size, 0, none⟩ = false := (hb2.frozen (p := ⟨v1.heap.size, 0, none⟩) (by simp only [World.size_alloc]; omega)).trans (by simp [go_sem])
          have gp1 : v2.cell? ⟨v1.heap.size, 1, none⟩ = some (.int .i64 ph) := (hb2.cell (p := ⟨v1.heap.size, 1, none⟩) (by simp only [World.size_alloc]; omega)).trans (by simp [go_sem])
          have hp1 : v2.frozen? ⟨v1.heap.size, 1, none⟩ = false := (hb2.frozen (p := ⟨v1.heap.size, 1, none⟩) (by simp only [World.size_alloc]; omega)).trans (by simp [go_sem])
          have gq0 : v2.cell? ⟨v1.heap.size + 1, 0, none⟩ = some (.int .i64 ql) := (hb2.cell (p := ⟨v1.heap.size + 1, 0, none⟩) (by simp only [World.size_alloc]; omega)).trans (by simp [go_sem])
          have hq0 : v2.frozen? ⟨v1.heap.size + 1, 0, none⟩ = false := (hb2.frozen (p := ⟨v1.heap.size + 1, 0, none⟩) (by simp only [World.size_alloc]; omega)).trans (by simp [go_sem])
          have gq1 : v2.cell? ⟨v1.heap.size + 1, 1, none⟩ = some (.int .i64 qh) := (hb2.cell (p := ⟨v1.heap.size + 1, 1, none⟩) (by simp only [World.size_alloc]; omega)).trans (by simp [go_sem])
          have hq1 : v2.frozen? ⟨v1.heap.size + 1, 1, none⟩ = false := (hb2.frozen (p := ⟨v1.heap.size + 1, 1, none⟩) (by simp only [World.size_alloc]; omega)).trans (by simp [go_sem])
          have hB2 : Below W5.heap.size W5 v2 := below_on ((hB1.alloc hB1.size (.cells #[.int .i64 pl, .int .i64 ph] 30)).alloc (by have := hB1.size; simp only [World.size_alloc]; omega) (.cells #[.int .i64 ql, .int .i64 qh] 30)) hb2
          clear hb2 fa0 fa1 fb0 fb1 fu0 fu1 fv0 fv1
          have ia0 := keep_alloc (.cells #[.int .i64 sl, .int .i64 sh] 30) (keep_alloc (.cells #[.int .i64 rl, .int .i64 rh] 30) ga0)
          have ia1 := keep_alloc (.cells #[.int .i64 sl, .int .i64 sh] 30) (keep_alloc (.cells #[.int .i64 rl, .int .i64 rh] 30) ga1)
          have ib0 := keep_alloc (.cells #[.int .i64 sl, .int .i64 sh] 30) (keep_alloc (.cells #[.int .i64 rl, .int .i64 rh] 30) gb0)
          have ib1 := keep_alloc (.cells #[.int .i64 sl, .int .i64 sh] 30) (keep_alloc (.cells #[.int .i64 rl, .int .i64 rh] 30) gb1)
          have iu0 := keep_alloc (.cells #[.int .i64 sl, .int .i64 sh] 30) (keep_alloc (.cells #[.int .i64 rl, .int .i64 rh] 30) gu0)
          have iu1 := keep_alloc (.cells #[.int .i64 sl, .int .i64 sh] 30) (keep_alloc (.cells #[.int .i64 rl, .int .i64 rh] 30) gu1)
          have iv0 := keep_alloc (.cells #[.int .i64 sl, .int .i64 sh] 30) (keep_alloc (.cells #[.int .i64 rl, .int .i64 rh] 30) gv0)
          have iv1 := keep_alloc (.cells #[.int .i64 sl, .int .i64 sh] 30) (keep_alloc (.cells #[.int .i64 rl, .int .i64 rh] 30) gv1)
          have ip0 := keep_alloc (.cells #[.int .i64 sl, .int .i64 sh] 30) (keep_alloc (.cells #[.int .i64 rl, .int .i64 rh] 30) gp0)
          have ip1 := keep_alloc (.cells #[.int .i64 sl, .int .i64 sh] 30) (keep_alloc (.cells #[.int .i64 rl, .int .i64 rh] 30) gp1)
          have iq0 := keep_alloc (.cells #[.int .i64 sl, .int .i64 sh] 30) (keep_alloc (.cells #[.int .i64 rl, .int .i64 rh] 30) gq0)
          have iq1 := keep_alloc (.cells #[.int .i64 sl, .int .i64 sh] 30) (keep_alloc (.cells #[.int .i64 rl, .int .i64 rh] 30) gq1)
          have ir0 : ((v2.alloc (.cells #[.int .i64 rl, .int .i64 rh] 30)).alloc (.cells #[.int .i64 sl, .int .i64 sh] 30)).cell? ⟨v2.heap.size, 0, none⟩ = some (.int .i64 rl) := by simp [go_sem]
          have mr0 : ((v2.alloc (.cells #[.int .i64 rl, .int .i64 rh] 30)).alloc (.cells #[.int .i64 sl, .int .i64 sh] 30)).frozen? ⟨v2.heap.size, 0, none⟩ = false := by simp [go_sem]
          have ir1 : ((v2.alloc (.cells #[.int .i64 rl, .int .i64 rh] 30)).alloc (.cells #[.int .i64 sl, .int .i64 sh] 30)).cell? ⟨v2.heap.size, 1, none⟩ = some (.int .i64 rh) := by simp [go_sem]
          have mr1 : ((v2.alloc (.cells #[.int .i64 rl, .int .i64 rh] 30)).alloc (.cells #[.int .i64 sl, .int .i64 sh] 30)).frozen? ⟨v2.heap.size, 1, none⟩ = false := by simp [go_sem]
          have is0 : ((v2.alloc (.cells #[.int .i64 rl, .int .i64 rh] 30)).alloc (.cells #[.int .i64 sl, .int .i64 sh] 30)).cell? ⟨v2.heap.size + 1, 0, none⟩ = some (.int .i64 sl) := by simp [go_sem]
          have ms0 : ((v2.alloc (.cells #[.int .i64 rl, .int .i64 rh] 30)).alloc (.cells #[.int .i64 sl, .int .i64 sh] 30)).frozen? ⟨v2.heap.size + 1, 0, none⟩ = false := by simp [go_sem]
          have is1 : ((v2.alloc (.cells #[.int .i64 rl, .int .i64 rh] 30)).alloc (.cells #[.int .i64 sl, .int .i64 sh] 30)).cell? ⟨v2.heap.size + 1, 1, none⟩ = some (.int .i64 sh) := by simp [go_sem]
          have ms1 : ((v2.alloc (.cells #[.int .i64 rl, .int .i64 rh] 30)).alloc (.cells #[.int .i64 sl, .int .i64 sh] 30)).frozen? ⟨v2.heap.size + 1, 1, none⟩ = false := by simp [go_sem]
          have mp0 := keepf_alloc (.cells #[.int .i64 sl, .int .i64 sh] 30) (keepf_alloc (.cells #[.int .i64 rl, .int .i64 rh] 30) hp0 (blk gp0)) (blk (keep_alloc (.cells #[.int .i64 rl, .int .i64 rh] 30) gp0))
          have mp1 := keepf_alloc (.cells #[.int .i64 sl, .int .i64 sh] 30) (keepf_alloc (.cells #[.int .i64 rl, .int .i64 rh] 30) hp1 (blk gp0)) (blk (keep_alloc (.cells #[.int .i64 rl, .int .i64 rh] 30) gp0))
          have mq0 := keepf_alloc (.cells #[.int .i64 sl, .int .i64 sh] 30) (keepf_alloc (.cells #[.int .i64 rl, .int .i64 rh] 30) hq0 (blk gq0)) (blk (keep_alloc (.cells #[.int .i64 rl, .int .i64 rh] 30) gq0))
          have mq1 := keepf_alloc (.cells #[.int .i64 sl, .int .i64 sh] 30) (keepf_alloc (.cells #[.int .i64 rl, .int .i64 rh] 30) hq1 (blk gq0)) (blk (keep_alloc (.cells #[.int .i64 rl, .int .i64 rh] 30) gq0))
          have hBV : Below W5.heap.size W5 ((v2.alloc (.cells #[.int .i64 rl, .int .i64 rh] 30)).alloc (.cells #[.int .i64 sl, .int .i64 sh] 30)) := (hB2.alloc hB2.size (.cells #[.int .i64 rl, .int .i64 rh] 30)).alloc (by have := hB2.size; simp only [World.size_alloc]; omega) (.cells #[.int .i64 sl, .int .i64 sh] 30)
          have n1 := blk gp0
          have n2 := blk gq0
          have n3 := blk ga0
          have n4 := blk gb0
          have n5 := hB1.size
          have n6 := hB2.size
          clear hB2 hB1 ga0 ga1 gb0 gb1 gu0 gu1 gv0 gv1 gp0 gp1 gq0 gq1 hp0 hp1 hq0 hq1
          cases okP with
          | true =>
            obtain ⟨y1, y2, y3⟩ := F1.out rfl
            (try simp only at y1 y2 y3)
            subst y1
            have I1 := Lib.hid y2
            have I2 := Lib.hid y3
            clear y2 y3
            go_wp2_with fail
            generalize (v2.alloc (.cells #[.int .i64 rl, .int .i64 rh] 30)).alloc (.cells #[.int .i64 sl, .int .i64 sh] 30) = V at *
            have ka0 := cell_regrown ia0
            have ka1 := cell_regrown ia1
            have kb0 := cell_regrown ib0
            have kb1 := cell_regrown ib1
            have ku0 := cell_regrown iu0
            have ku1 := cell_regrown iu1
            have kv0 := cell_regrown iv0
            have kv1 := cell_regrown iv1
            have kp0 := cell_regrown ip0
            have kp1 := cell_regrown ip1
            have kq0 := cell_regrown iq0
            have kq1 := cell_regrown iq1
            have kr0 := cell_regrown ir0
            have kr1 := cell_regrown ir1
            have ks0 := cell_regrown is0
            have ks1 := cell_regrown is1
            have op0 := frozen_regrown mp0 (blk ip0)
            have op1 := frozen_regrown mp1 (blk ip1)
            have oq0 := frozen_regrown mq0 (blk iq0)
            have oq1 := frozen_regrown mq1 (blk iq1)
            have or0 := frozen_regrown mr0 (blk ir0)
            have or1 := frozen_regrown mr1 (blk ir1)
            have os0 := frozen_regrown ms0 (blk is0)
            have os1 := frozen_regrown ms1 (blk is1)
            go_wp2_with (first
      | (go_at_call 19; ((with_reducible refine (in_at I1.out _).mono ?_); rintro e w' ⟨rfl, hb⟩; obtain ⟨⟨dq, osq⟩, hq''⟩ := regrown_on (W0 := V) (by first | exact below_regrown _ _ _ | exact Below.refl _ _ | go_grown) hb; subst hq''; clear hb))
      | (go_at_call 19; ((with_reducible refine (in_at I2.out _).mono ?_); rintro e w' ⟨rfl, hb⟩; obtain ⟨⟨dq, osq⟩, hq''⟩ := regrown_on (W0 := V) (by first | exact below_regrown _ _ _ | exact Below.refl _ _ | go_grown) hb; subst hq''; clear hb)))
            refine (not_at HP'.out _).mono ?_
            rintro e v3 ⟨rfl, hb3⟩
            have hV3 : Below V.heap.size V v3 := below_on (by first | exact below_regrown _ _ _ | exact Below.refl _ _ | go_grown) hb3
            have ta0 := (hV3.cell (p := ⟨wA.heap.size, 0, none⟩) (blk (ia0))).trans (ia0)
            have ta1 := (hV3.cell (p := ⟨wA.heap.size, 1, none⟩) (blk (ia1))).trans (ia1)
            have tb0 := (hV3.cell (p := ⟨wA.heap.size + 1, 0, none⟩) (blk (ib0))).trans (ib0)
            have tb1 := (hV3.cell (p := ⟨wA.heap.size + 1, 1, none⟩) (blk (ib1))).trans (ib1)
            have tu0 := (hV3.cell (p := ⟨gu, 0, none⟩) (blk (iu0))).trans (iu0)
            have tu1 := (hV3.cell (p := ⟨gu, 1, none⟩) (blk (iu1))).trans (iu1)
            have tv0 := (hV3.cell (p := ⟨gv, 0, none⟩) (blk (iv0))).trans (iv0)
            have tv1 := (hV3.cell (p := ⟨gv, 1, none⟩) (blk (iv1))).trans (iv1)
            have tp0 := (hV3.cell (p := ⟨v1.heap.size, 0, none⟩) (blk (ip0))).trans (ip0)
            have tp1 := (hV3.cell (p := ⟨v1.heap.size, 1, none⟩) (blk (ip1))).trans (ip1)
            have tq0 := (hV3.cell (p := ⟨v1.heap.size + 1, 0, none⟩) (blk (iq0))).trans (iq0)
            have tq1 := (hV3.cell (p := ⟨v1.heap.size + 1, 1, none⟩) (blk (iq1))).trans (iq1)
            have tr0 := (hV3.cell (p := ⟨v2.heap.size, 0, none⟩) (blk (ir0))).trans (ir0)
            have tr1 := (hV3.cell (p := ⟨v2.heap.size, 1, none⟩) (blk (ir1))).trans (ir1)
            have ts0 := (hV3.cell (p := ⟨v2.heap.size + 1, 0, none⟩) (blk (is0))).trans (is0)
            have ts1 := (hV3.cell (p := ⟨v2.heap.size + 1, 1, none⟩) (blk (is1))).trans (is1)
            have xp0 := (hV3.frozen (p := ⟨v1.heap.size, 0, none⟩) (blk ip0)).trans mp0
            have xp1 := (hV3.frozen (p := ⟨v1.heap.size, 1, none⟩) (blk ip0)).trans mp1
            have xq0 := (hV3.frozen (p := ⟨v1.heap.size + 1, 0, none⟩) (blk iq0)).trans mq0
            have xq1 := (hV3.frozen (p := ⟨v1.heap.size + 1, 1, none⟩) (blk iq0)).trans mq1
            have xr0 := (hV3.frozen (p := ⟨v2.heap.size, 0, none⟩) (blk ir0)).trans mr0
            have xr1 := (hV3.frozen (p := ⟨v2.heap.size, 1, none⟩) (blk ir0)).trans mr1
            have xs0 := (hV3.frozen (p := ⟨v2.heap.size + 1, 0, none⟩) (blk is0)).trans ms0
            have xs1 := (hV3.frozen (p := ⟨v2.heap.size + 1, 1, none⟩) (blk is0)).trans ms1
            have hB3 : Below W5.heap.size W5 v3 := below_on hBV hV3
            clear hb3 hV3 hBV
            clear ia0 ka0 ia1 ka1 ib0 kb0 ib1 kb1 iu0 ku0 iu1 ku1 iv0 kv0 iv1 kv1 ip0 kp0 ip1 kp1 iq0 kq0 iq1 kq1 ir0 kr0 ir1 kr1 is0 ks0 is1 ks1 mp0 op0 mp1 op1 mq0 oq0 mq1 oq1 mr0 or0 mr1 or1 ms0 os0 ms1 os1
            have z0 : ¬ (wA.heap.size = v1.heap.size) := by omega
            have z1 : ¬ (v1.heap.size = wA.heap.size) := by omega
            have z2 : ¬ (wA.heap.size = v1.heap.size + 1) := by omega
            have z3 : ¬ (v1.heap.size + 1 = wA.heap.size) := by omega
            have z4 : ¬ (wA.heap.size + 1 = v1.heap.size) := by omega
            have z5 : ¬ (v1.heap.size = wA.heap.size + 1) := by omega
            have z6 : ¬ (wA.heap.size + 1 = v1.heap.size + 1) := by omega
            have z7 : ¬ (v1.heap.size + 1 = wA.heap.size + 1) := by omega
            have z8 : ¬ (v1.heap.size = v1.heap.size + 1) := by omega
            have z9 : ¬ (v1.heap.size + 1 = v1.heap.size) := by omega
            have z10 : ¬ (v1.heap.size = v2.heap.size) := by omega
            have z11 : ¬ (v2.heap.size = v1.heap.size) := by omega
            have z12 : ¬ (v1.heap.size = v2.heap.size + 1) := by omega
            have z13 : ¬ (v2.heap.size + 1 = v1.heap.size) := by omega
            have z14 : ¬ (v1.heap.size + 1 = v2.heap.size) := by omega
            have z15 : ¬ (v2.heap.size = v1.heap.size + 1) := by omega
            have z16 : ¬ (v1.heap.size + 1 = v2.heap.size + 1) := by omega
            have z17 : ¬ (v2.heap.size + 1 = v1.heap.size + 1) := by omega
            have z18 : ¬ (v2.heap.size = v2.heap.size + 1) := by omega
            have z19 : ¬ (v2.heap.size + 1 = v2.heap.size) := by omega
            go_wp2_with fail
            refine (not_at HR'.out _).mono ?_
            rintro e v4 ⟨rfl, hb4⟩
            have s4 := hb4.size
            simp only [World.size_setCell] at s4
            have j1 := blk tp0
            have j2 := blk tq0
            have j3 := blk tr0
            have j4 := blk ts0
            have yp0 : v4.cell? ⟨v1.heap.size, 0, none⟩ = some (.int .i64 pl') := (hb4.cell (p := ⟨v1.heap.size, 0, none⟩) (by simp only [World.size_setCell]; omega)).trans (by simp [go_sem, *])
            have yp1 : v4.cell? ⟨v1.heap.size, 1, none⟩ = some (.int .i64 ph') := (hb4.cell (p := ⟨v1.heap.size, 1, none⟩) (by simp only [World.size_setCell]; omega)).trans (by simp [go_sem, *])
            have yq0 : v4.cell? ⟨v1.heap.size + 1, 0, none⟩ = some (.int .i64 ql') := (hb4.cell (p := ⟨v1.heap.size + 1, 0, none⟩) (by simp only [World.size_setCell]; omega)).trans (by simp [go_sem, *])
            have yq1 : v4.cell? ⟨v1.heap.size + 1, 1, none⟩ = some (.int .i64 qh') := (hb4.cell (p := ⟨v1.heap.size + 1, 1, none⟩) (by simp only [World.size_setCell]; omega)).trans (by simp [go_sem, *])
            have yr0 : v4.cell? ⟨v2.heap.size, 0, none⟩ = some (.int .i64 rl) := (hb4.cell (p := ⟨v2.heap.size, 0, none⟩) (by simp only [World.size_setCell]; omega)).trans (by simp [go_sem, *])
            have yr1 : v4.cell? ⟨v2.heap.size, 1, none⟩ = some (.int .i64 rh) := (hb4.cell (p := ⟨v2.heap.size, 1, none⟩) (by simp only [World.size_setCell]; omega)).trans (by simp [go_sem, *])
            have ys0 : v4.cell? ⟨v2.heap.size + 1, 0, none⟩ = some (.int .i64 sl) := (hb4.cell (p := ⟨v2.heap.size + 1, 0, none⟩) (by simp only [World.size_setCell]; omega)).trans (by simp [go_sem, *])
            have ys1 : v4.cell? ⟨v2.heap.size + 1, 1, none⟩ = some (.int .i64 sh) := (hb4.cell (p := ⟨v2.heap.size + 1, 1, none⟩) (by simp only [World.size_setCell]; omega)).trans (by simp [go_sem, *])
            have xxr0 : v4.frozen? ⟨v2.heap.size, 0, none⟩ = false := (hb4.frozen (p := ⟨v2.heap.size, 0, none⟩) (by simp only [World.size_setCell]; omega)).trans (by simp [go_sem, *])
            have xxr1 : v4.frozen? ⟨v2.heap.size, 1, none⟩ = false := (hb4.frozen (p := ⟨v2.heap.size, 1, none⟩) (by simp only [World.size_setCell]; omega)).trans (by simp [go_sem, *])
            have xxs0 : v4.frozen? ⟨v2.heap.size + 1, 0, none⟩ = false := (hb4.frozen (p := ⟨v2.heap.size + 1, 0, none⟩) (by simp only [World.size_setCell]; omega)).trans (by simp [go_sem, *])
            have xxs1 : v4.frozen? ⟨v2.heap.size + 1, 1, none⟩ = false := (hb4.frozen (p := ⟨v2.heap.size + 1, 1, none⟩) (by simp only [World.size_setCell]; omega)).trans (by simp [go_sem, *])
            have hB4 : Below W5.heap.size W5 v4 := below_on ((((hB3.setCell (by simp only []; omega) _).setCell (by simp only []; omega) _).setCell (by simp only []; omega) _).setCell (by simp only []; omega) _) hb4
            have j5 := blk yp0
            have j6 := blk yq0
            have j7 := blk yr0
            have j8 := blk ys0
            clear hb4 hB3 s4 ta0 ta1 tb0 tb1 tu0 tu1 tv0 tv1 tp0 tp1 tq0 tq1 tr0 tr1 ts0 ts1
            cases okP' with
            | true =>
              obtain ⟨y1, y2, y3⟩ := F2.out rfl
              (try simp only at y1 y2 y3)
              subst y1
              have I3 := Lib.hid y2
              have I4 := Lib.hid y3
              clear y2 y3
              go_wp2_with fail
              refine (in_at I3.out _).mono ?_
              rintro e v5 ⟨rfl, hb5⟩
              have hB5 : Below W5.heap.size W5 v5 := below_on ((((hB4.setCell (by simp only []; omega) _).setCell (by simp only []; omega) _).setCell (by simp only []; omega) _).setCell (by simp only []; omega) _) hb5
              have uq0 : v5.cell? ⟨v1.heap.size + 1, 0, none⟩ = some (.int .i64 ql') := (hb5.cell (p := ⟨v1.heap.size + 1, 0, none⟩) (by simp only [World.size_setCell]; omega)).trans (by simp [go_sem, *])
              have uq1 : v5.cell? ⟨v1.heap.size + 1, 1, none⟩ = some (.int .i64 qh') := (hb5.cell (p := ⟨v1.heap.size + 1, 1, none⟩) (by simp only [World.size_setCell]; omega)).trans (by simp [go_sem, *])
              have us0 : v5.cell? ⟨v2.heap.size + 1, 0, none⟩ = some (.int .i64 sl') := (hb5.cell (p := ⟨v2.heap.size + 1, 0, none⟩) (by simp only [World.size_setCell]; omega)).trans (by simp [go_sem, *])
              have us1 : v5.cell? ⟨v2.heap.size + 1, 1, none⟩ = some (.int .i64 sh') := (hb5.cell (p := ⟨v2.heap.size + 1, 1, none⟩) (by simp only [World.size_setCell]; omega)).trans (by simp [go_sem, *])
              clear hb5 hB4
              go_wp2_with fail
              refine (in_at I4.out _).mono ?_
              rintro e v6 ⟨rfl, hb6⟩
              have hB6 : Below W5.heap.size W5 v6 := below_on hB5 hb6
              clear hb6
              go_wp2_with fail
              go_roundw
              case rel => exact ⟨k + 1, by omega, by go_num, hB6⟩
              case measure => simp [intOf] <;> omega
            | false =>
              go_wp2_with fail
              go_roundw
              case rel => exact ⟨k + 1, by omega, by go_num, (((hB4.setCell (by simp only []; omega) _).setCell (by simp only []; omega) _).setCell (by simp only []; omega) _).setCell (by simp only []; omega) _⟩
              case measure => simp [intOf] <;> omega
          | false =>
            go_wp2_with fail
            generalize (v2.alloc (.cells #[.int .i64 rl, .int .i64 rh] 30)).alloc (.cells #[.int .i64 sl, .int .i64 sh] 30) = V at *
            have ka0 := cell_regrown ia0
            have ka1 := cell_regrown ia1
            have kb0 := cell_regrown ib0
            have kb1 := cell_regrown ib1
            have ku0 := cell_regrown iu0
            have ku1 := cell_regrown iu1
            have kv0 := cell_regrown iv0
            have kv1 := cell_regrown iv1
            have kp0 := cell_regrown ip0
            have kp1 := cell_regrown ip1
            have kq0 := cell_regrown iq0
            have kq1 := cell_regrown iq1
            have kr0 := cell_regrown ir0
            have kr1 := cell_regrown ir1
            have ks0 := cell_regrown is0
            have ks1 := cell_regrown is1
            have op0 := frozen_regrown mp0 (blk ip0)
            have op1 := frozen_regrown mp1 (blk ip1)
            have oq0 := frozen_regrown mq0 (blk iq0)
            have oq1 := frozen_regrown mq1 (blk iq1)
            have or0 := frozen_regrown mr0 (blk ir0)
            have or1 := frozen_regrown mr1 (blk ir1)
            have os0 := frozen_regrown ms0 (blk is0)
            have os1 := frozen_regrown ms1 (blk is1)
            have dummy : True := trivial
            refine (not_at HP'.out _).mono ?_
            rintro e v3 ⟨rfl, hb3⟩
            have hV3 : Below V.heap.size V v3 := below_on (by first | exact below_regrown _ _ _ | exact Below.refl _ _ | go_grown) hb3
            have ta0 := (hV3.cell (p := ⟨wA.heap.size, 0, none⟩) (blk (ia0))).trans (ia0)
            have ta1 := (hV3.cell (p := ⟨wA.heap.size, 1, none⟩) (blk (ia1))).trans (ia1)
            have tb0 := (hV3.cell (p := ⟨wA.heap.size + 1, 0, none⟩) (blk (ib0))).trans (ib0)
            have tb1 := (hV3.cell (p := ⟨wA.heap.size + 1, 1, none⟩) (blk (ib1))).trans (ib1)
            have tu0 := (hV3.cell (p := ⟨gu, 0, none⟩) (blk (iu0))).trans (iu0)
            have tu1 := (hV3.cell (p := ⟨gu, 1, none⟩) (blk (iu1))).trans (iu1)
            have tv0 := (hV3.cell (p := ⟨gv, 0, none⟩) (blk (iv0))).trans (iv0)
            have tv1 := (hV3.cell (p := ⟨gv, 1, none⟩) (blk (iv1))).trans (iv1)
            have tp0 := (hV3.cell (p := ⟨v1.heap.size, 0, none⟩) (blk (ip0))).trans (ip0)
            have tp1 := (hV3.cell (p := ⟨v1.heap.size, 1, none⟩) (blk (ip1))).trans (ip1)
            have tq0 := (hV3.cell (p := ⟨v1.heap.size + 1, 0, none⟩) (blk (iq0))).trans (iq0)
            have tq1 := (hV3.cell (p := ⟨v1.heap.size + 1, 1, none⟩) (blk (iq1))).trans (iq1)
            have tr0 := (hV3.cell (p := ⟨v2.heap.size, 0, none⟩) (blk (ir0))).trans (ir0)
            have tr1 := (hV3.cell (p := ⟨v2.heap.size, 1, none⟩) (blk (ir1))).trans (ir1)
            have ts0 := (hV3.cell (p := ⟨v2.heap.size + 1, 0, none⟩) (blk (is0))).trans (is0)
            have ts1 := (hV3.cell (p := ⟨v2.heap.size + 1, 1, none⟩) (blk (is1))).trans (is1)
            have xp0 := (hV3.frozen (p := ⟨v1.heap.size, 0, none⟩) (blk ip0)).trans mp0
            have xp1 := (hV3.frozen (p := ⟨v1.heap.size, 1, none⟩) (blk ip0)).trans mp1
            have xq0 := (hV3.frozen (p := ⟨v1.heap.size + 1, 0, none⟩) (blk iq0)).trans mq0
            have xq1 := (hV3.frozen (p := ⟨v1.heap.size + 1, 1, none⟩) (blk iq0)).trans mq1
            have xr0 := (hV3.frozen (p := ⟨v2.heap.size, 0, none⟩) (blk ir0)).trans mr0
            have xr1 := (hV3.frozen (p := ⟨v2.heap.size, 1, none⟩) (blk ir0)).trans mr1
            have xs0 := (hV3.frozen (p := ⟨v2.heap.size + 1, 0, none⟩) (blk is0)).trans ms0
            have xs1 := (hV3.frozen (p := ⟨v2.heap.size + 1, 1, none⟩) (blk is0)).trans ms1
            have hB3 : Below W5.heap.size W5 v3 := below_on hBV hV3
            clear hb3 hV3 hBV
            clear ia0 ka0 ia1 ka1 ib0 kb0 ib1 kb1 iu0 ku0 iu1 ku1 iv0 kv0 iv1 kv1 ip0 kp0 ip1 kp1 iq0 kq0 iq1 kq1 ir0 kr0 ir1 kr1 is0 ks0 is1 ks1 mp0 op0 mp1 op1 mq0 oq0 mq1 oq1 mr0 or0 mr1 or1 ms0 os0 ms1 os1
            have z0 : ¬ (wA.heap.size = v1.heap.size) := by omega
            have z1 : ¬ (v1.heap.size = wA.heap.size) := by omega
            have z2 : ¬ (wA.heap.size = v1.heap.size + 1) := by omega
            have z3 : ¬ (v1.heap.size + 1 = wA.heap.size) := by omega
            have z4 : ¬ (wA.heap.size + 1 = v1.heap.size) := by omega
            have z5 : ¬ (v1.heap.size = wA.heap.size + 1) := by omega
            have z6 : ¬ (wA.heap.size + 1 = v1.heap.size + 1) := by omega
            have z7 : ¬ (v1.heap.size + 1 = wA.heap.size + 1) := by omega
            have z8 : ¬ (v1.heap.size = v1.heap.size + 1) := by omega
            have z9 : ¬ (v1.heap.size + 1 = v1.heap.size) := by omega
            have z10 : ¬ (v1.heap.size = v2.heap.size) := by omega
            have z11 : ¬ (v2.heap.size = v1.heap.size) := by omega
            have z12 : ¬ (v1.heap.size = v2.heap.size + 1) := by omega
            have z13 : ¬ (v2.heap.size + 1 = v1.heap.size) := by omega
            have z14 : ¬ (v1.heap.size + 1 = v2.heap.size) := by omega
            have z15 : ¬ (v2.heap.size = v1.heap.size + 1) := by omega
            have z16 : ¬ (v1.heap.size + 1 = v2.heap.size + 1) := by omega
            have z17 : ¬ (v2.heap.size + 1 = v1.heap.size + 1) := by omega
            have z18 : ¬ (v2.heap.size = v2.heap.size + 1) := by omega
            have z19 : ¬ (v2.heap.size + 1 = v2.heap.size) := by omega
            go_wp2_with fail
            refine (not_at HR'.out _).mono ?_
            rintro e v4 ⟨rfl, hb4⟩
            have s4 := hb4.size
            simp only [World.size_setCell] at s4
            have j1 := blk tp0
            have j2 := blk tq0
            have j3 := blk tr0
            have j4 := blk ts0
            have yp0 : v4.cell? ⟨v1.heap.size, 0, none⟩ = some (.int .i64 pl') := (hb4.cell (p := ⟨v1.heap.size, 0, none⟩) (by simp only [World.size_setCell]; omega)).trans (by simp [go_sem, *])
            have yp1 : v4.cell? ⟨v1.heap.size, 1, none⟩ = some (.int .i64 ph') := (hb4.cell (p := ⟨v1.heap.size, 1, none⟩) (by simp only [World.size_setCell]; omega)).trans (by simp [go_sem, *])
            have yq0 : v4.cell? ⟨v1.heap.size + 1, 0, none⟩ = some (.int .i64 ql') := (hb4.cell (p := ⟨v1.heap.size + 1, 0, none⟩) (by simp only [World.size_setCell]; omega)).trans (by simp [go_sem, *])
            have yq1 : v4.cell? ⟨v1.heap.size + 1, 1, none⟩ = some (.int .i64 qh') := (hb4.cell (p := ⟨v1.heap.size + 1, 1, none⟩) (by simp only [World.size_setCell]; omega)).trans (by simp [go_sem, *])
            have yr0 : v4.cell? ⟨v2.heap.size, 0, none⟩ = some (.int .i64 rl) := (hb4.cell (p := ⟨v2.heap.size, 0, none⟩) (by simp only [World.size_setCell]; omega)).trans (by simp [go_sem, *])
            have yr1 : v4.cell? ⟨v2.heap.size, 1, none⟩ = some (.int .i64 rh) := (hb4.cell (p := ⟨v2.heap.size, 1, none⟩) (by simp only [World.size_setCell]; omega)).trans (by simp [go_sem, *])
            have ys0 : v4.cell? ⟨v2.heap.size + 1, 0, none⟩ = some (.int .i64 sl) := (hb4.cell (p := ⟨v2.heap.size + 1, 0, none⟩) (by simp only [World.size_setCell]; omega)).trans (by simp [go_sem, *])
            have ys1 : v4.cell? ⟨v2.heap.size + 1, 1, none⟩ = some (.int .i64 sh) := (hb4.cell (p := ⟨v2.heap.size + 1, 1, none⟩) (by simp only [World.size_setCell]; omega)).trans (by simp [go_sem, *])
            have xxr0 : v4.frozen? ⟨v2.heap.size, 0, none⟩ = false := (hb4.frozen (p := ⟨v2.heap.size, 0, none⟩) (by simp only [World.size_setCell]; omega)).trans (by simp [go_sem, *])
            have xxr1 : v4.frozen? ⟨v2.heap.size, 1, none⟩ = false := (hb4.frozen (p := ⟨v2.heap.size, 1, none⟩) (by simp only [World.size_setCell]; omega)).trans (by simp [go_sem, *])
            have xxs0 : v4.frozen? ⟨v2.heap.size + 1, 0, none⟩ = false := (hb4.frozen (p := ⟨v2.heap.size + 1, 0, none⟩) (by simp only [World.size_setCell]; omega)).trans (by simp [go_sem, *])
            have xxs1 : v4.frozen? ⟨v2.heap.size + 1, 1, none⟩ = false := (hb4.frozen (p := ⟨v2.heap.size + 1, 1, none⟩) (by simp only [World.size_setCell]; omega)).trans (by simp [go_sem, *])
            have hB4 : Below W5.heap.size W5 v4 := below_on ((((hB3.setCell (by simp only []; omega) _).setCell (by simp only []; omega) _).setCell (by simp only []; omega) _).setCell (by simp only []; omega) _) hb4
            have j5 := blk yp0
            have j6 := blk yq0
            have j7 := blk yr0
            have j8 := blk ys0
            clear hb4 hB3 s4 ta0 ta1 tb0 tb1 tu0 tu1 tv0 tv1 tp0 tp1 tq0 tq1 tr0 tr1 ts0 ts1
            cases okP' with
            | true =>
              obtain ⟨y1, y2, y3⟩ := F2.out rfl
              (try simp only at y1 y2 y3)
              subst y1
              have I3 := Lib.hid y2
              have I4 := Lib.hid y3
              clear y2 y3
              go_wp2_with fail
              refine (in_at I3.out _).mono ?_
              rintro e v5 ⟨rfl, hb5⟩
              have hB5 : Below W5.heap.size W5 v5 := below_on ((((hB4.setCell (by simp only []; omega) _).setCell (by simp only []; omega) _).setCell (by simp only []; omega) _).setCell (by simp only []; omega) _) hb5
              have uq0 : v5.cell? ⟨v1.heap.size + 1, 0, none⟩ = some (.int .i64 ql') := (hb5.cell (p := ⟨v1.heap.size + 1, 0, none⟩) (by simp only [World.size_setCell]; omega)).trans (by simp [go_sem, *])
              have uq1 : v5.cell? ⟨v1.heap.size + 1, 1, none⟩ = some (.int .i64 qh') := (hb5.cell (p := ⟨v1.heap.size + 1, 1, none⟩) (by simp only [World.size_setCell]; omega)).trans (by simp [go_sem, *])
              have us0 : v5.cell? ⟨v2.heap.size + 1, 0, none⟩ = some (.int .i64 sl') := (hb5.cell (p := ⟨v2.heap.size + 1, 0, none⟩) (by simp only [World.size_setCell]; omega)).trans (by simp [go_sem, *])
              have us1 : v5.cell? ⟨v2.heap.size + 1, 1, none⟩ = some (.int .i64 sh') := (hb5.cell (p := ⟨v2.heap.size + 1, 1, none⟩) (by simp only [World.size_setCell]; omega)).trans (by simp [go_sem, *])
              clear hb5 hB4
              go_wp2_with fail
              refine (in_at I4.out _).mono ?_
              rintro e v6 ⟨rfl, hb6⟩
              have hB6 : Below W5.heap.size W5 v6 := below_on hB5 hb6
              clear hb6
              go_wp2_with fail
              go_roundw
              case rel => exact ⟨k + 1, by omega, by go_num, hB6⟩
              case measure => simp [intOf] <;> omega
            | false =>
              go_wp2_with fail
              go_roundw
              case rel => exact ⟨k + 1, by omega, by go_num, (((hB4.setCell (by simp only []; omega) _).setCell (by simp only []; omega) _).setCell (by simp only []; omega) _).setCell (by simp only []; omega) _⟩
              case measure => simp [intOf] <;> omega
        · go_wp2_with (first
      | (go_at_call 10; ((with_reducible refine (owOk_at  _).mono ?_); rintro e w' ⟨rfl, hb⟩)))
          go_ret
          exact ⟨rfl, below_on hBw (below_on hS hb)⟩
  · rcases Bool.eq_false_or_eq_true (okI (al, ah)) with ha | ha
    · have hb : okI (bl, bh) = false := by
        rcases Bool.eq_false_or_eq_true (okI (bl, bh)) with hb | hb
        · exact absurd ⟨ha, hb⟩ hab
        · exact hb
      have Oa := Lib.hid ha
      have Ob := Lib.hid hb
      clear ha hb hab
      have k0 := cell_regrown q0
      have k1 := cell_regrown q1
      have k2 := cell_regrown q2
      have k3 := cell_regrown q3
      go_wp2_with (first
      | (go_at_call 17; ((with_reducible refine (ok_s_at Oa.out _).mono ?_); rintro e w' ⟨rfl, hb⟩; obtain ⟨⟨dq, osq⟩, hq''⟩ := regrown_on (W0 := wB) (by first | exact below_regrown _ _ _ | exact Below.refl _ _ | go_grown) hb; subst hq''; clear hb))
      | (go_at_call 17; ((with_reducible refine (ok_s_at Ob.out _).mono ?_); rintro e w' ⟨rfl, hb⟩; obtain ⟨⟨dq, osq⟩, hq''⟩ := regrown_on (W0 := wB) (by first | exact below_regrown _ _ _ | exact Below.refl _ _ | go_grown) hb; subst hq''; clear hb))
      | (go_at_call 10; ((with_reducible refine (owOk_at  _).mono ?_); rintro e w' ⟨rfl, hb⟩; obtain ⟨⟨dq, osq⟩, hq''⟩ := regrown_on (W0 := wB) (by first | exact below_regrown _ _ _ | exact Below.refl _ _ | go_grown) hb; subst hq''; clear hb)))
      go_ret
      exact ⟨rfl, below_on hBw (by first | exact below_regrown _ _ _ | exact Below.refl _ _ | go_grown)⟩
    · have Oa := Lib.hid ha
      clear ha hab
      have k0 := cell_regrown q0
      have k1 := cell_regrown q1
      go_wp2_with (first
      | (go_at_call 17; ((with_reducible refine (ok_s_at Oa.out _).mono ?_); rintro e w' ⟨rfl, hb⟩; obtain ⟨⟨dq, osq⟩, hq''⟩ := regrown_on (W0 := wB) (by first | exact below_regrown _ _ _ | exact Below.refl _ _ | go_grown) hb; subst hq''; clear hb))
      | (go_at_call 17; ((with_reducible refine (ok_s_at Ob.out _).mono ?_); rintro e w' ⟨rfl, hb⟩; obtain ⟨⟨dq, osq⟩, hq''⟩ := regrown_on (W0 := wB) (by first | exact below_regrown _ _ _ | exact Below.refl _ _ | go_grown) hb; subst hq''; clear hb))
      | (go_at_call 10; ((with_reducible refine (owOk_at  _).mono ?_); rintro e w' ⟨rfl, hb⟩; obtain ⟨⟨dq, osq⟩, hq''⟩ := regrown_on (W0 := wB) (by first | exact below_regrown _ _ _ | exact Below.refl _ _ | go_grown) hb; subst hq''; clear hb)))
      go_ret
      exact ⟨rfl, below_on hBw (by first | exact below_regrown _ _ _ | exact Below.refl _ _ | go_grown)⟩

/-! ### The row, off the walk -/
set_option maxRecDepth 100000 in
theorem lifted (os : Os) (started : os.Started) (H : Type) (enc : TypeId × Value → H) :
    ReturnsInHanded {} Try.checked os 4 .any (Rows.fnItvMonoSpec.pre6 enc Try.prog Try.f4 Rows.fnItvMonoRow.domain false) (Rows.fnItvMonoSpec.post enc Try.prog Try.f4 false true false false) := by
  refine returnsInHanded_of_change (C := Try.checked) own started (by kernel_rfl) Try.func4
    (ChangeSpec.witness6 (enc := enc) (C := Try.checked) false ⟨#[], #[.slice none 0 0, .slice none 0 0], []⟩ 8 (by kernel_rfl) (by kernel_rfl) (by kernel_rfl) (by kernel_rfl)) ?_
  intro W base args ds gs before hval0 hW hcnd _
  have hval : ∀ (j : Nat) t v, Try.f4.params[j]? = some t → args[j]? = some v → Value.okWide Try.prog W .any base t v := hval0
  have hW' := hW
  obtain ⟨p, q, hA0, hV, rfl, hfz, hnd⟩ := hW
  have hA : DataW.TrodAll enc Try.prog W 0 (fun _ => true) true Try.f4.params.toList args.toList ds p := hA0
  rw [Try.params4] at hA hval
  obtain ⟨v0, vs0, d0, ds0, p0, q0, hargs, rfl, rfl, h0, r0⟩ := trodAll_cons hA
  obtain ⟨v1, vs1, d1, ds1, p1, q1, rfl, rfl, rfl, h1, r1⟩ := trodAll_cons r0
  obtain ⟨rfl, rfl, rfl⟩ := trodAll_nil r1
  obtain rfl : args = #[v0, v1] := by cases args; simp_all
  obtain ⟨rfl, rfl⟩ := trodVars_none hV
  have k0 := h0
  have lt0 : ∀ x ∈ p0, x.block < W.heap.size := by obtain ⟨m, hm⟩ := k0; exact DataW.trod_lt m _ _ _ hm
  obtain ⟨a0, len0, cap0, rfl⟩ := okWide_slice Try.underlying22 (hval 0 22 v0 rfl rfl)
  obtain ⟨z0, w0⟩ : ∃ zs, IsRow .u8 W a0 len0 cap0 zs := by
    obtain ⟨fuel, hf⟩ := h0
    rcases open_ints Try.underlying22 Try.underlying5 (by kernel_rfl) hf with ⟨hcs, _⟩ | ⟨x, l, c, zs, hcs, _, hl, hm, hz, _, hcell, hwz⟩
    · simp [Value.cells] at hcs
      obtain ⟨rfl, rfl, rfl⟩ := hcs
      exact ⟨[], .inl ⟨rfl, rfl, rfl, rfl⟩⟩
    · simp [Value.cells] at hcs
      obtain ⟨rfl, rfl, rfl⟩ := hcs
      exact ⟨zs, .inr ⟨_, rfl, hl, hm, by simpa using hz, hcell, hwz⟩⟩
  have k1 := h1
  have lt1 : ∀ x ∈ p1, x.block < W.heap.size := by obtain ⟨m, hm⟩ := k1; exact DataW.trod_lt m _ _ _ hm
  obtain ⟨a1, len1, cap1, rfl⟩ := okWide_slice Try.underlying22 (hval 1 22 v1 rfl rfl)
  obtain ⟨z1, w1⟩ : ∃ zs, IsRow .u8 W a1 len1 cap1 zs := by
    obtain ⟨fuel, hf⟩ := h1
    rcases open_ints Try.underlying22 Try.underlying5 (by kernel_rfl) hf with ⟨hcs, _⟩ | ⟨x, l, c, zs, hcs, _, hl, hm, hz, _, hcell, hwz⟩
    · simp [Value.cells] at hcs
      obtain ⟨rfl, rfl, rfl⟩ := hcs
      exact ⟨[], .inl ⟨rfl, rfl, rfl, rfl⟩⟩
    · simp [Value.cells] at hcs
      obtain ⟨rfl, rfl, rfl⟩ := hcs
      exact ⟨zs, .inr ⟨_, rfl, hl, hm, by simpa using hz, hcell, hwz⟩⟩
  clear hA0 hval0
  refine (walk a0 len0 cap0 z0 a1 len1 cap1 z1 W w0 w1).mono fun e W' ⟨he, bel⟩ => ?_
  subst he
  exact ⟨_, rfl, _, _, _, [], _, [], hW', trodAll_mk1 (shut_bool Try.underlying4 _), (trodAll_cons_mk (Below.trod laidOut (by kernel_rfl) (of_decide_eq_true (by kernel_rfl)) k0 bel lt0) (trodAll_cons_mk (Below.trod laidOut (by kernel_rfl) (of_decide_eq_true (by kernel_rfl)) k1 bel lt1) trodAll_mk0)), rfl, bel.frame _, fun h => by cases h⟩

theorem over : Rows.fnItvMonoRow.holds Try.pinned (OpenSpec.ofChange Rows.fnItvMonoSpec) :=
  OpenClaim.holds_of_wide 4 Try.f4 rfl rfl rfl rfl rfl rfl rfl ⟨rfl, rfl, rfl, rfl, rfl⟩ rfl rfl rfl rfl rfl (by kernel_rfl) Try.func4 (by kernel_rfl)
    (of_decide_eq_true (by kernel_rfl)) (by unfold Func.isWrapper; rw [if_neg (of_decide_eq_false (by kernel_rfl))]; exact ⟨rfl, rfl⟩)
    (fun os started H enc _ => lifted os started H enc)

/-- The given statement. -/
theorem proved : Rows.FnItvMonoSaid := over
#print axioms proved
end Go.Proofs.Ytempklcflcpjaaa.fnItvMono
