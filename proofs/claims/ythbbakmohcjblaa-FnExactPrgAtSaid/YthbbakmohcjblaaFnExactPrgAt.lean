/-
  FnExactPrgAt: for every input the law returns true, and its arguments read as before. No conditions.
-/
import Derived.Test.YthbbakmohcjblaaPrgO
import Derived.Test.YthbbakmohcjblaaPrgAt6
namespace Go.Proofs.Ythbbakmohcjblaa.fnExactPrgAt
set_option linter.unusedSimpArgs false
set_option linter.unusedVariables false
open Go.ChangeShapes Go.WideShapes Go.ChangeAt Go.RowKit
open Go.ChangeMaps (open_string shut_string)

set_option maxRecDepth 100000 in
set_option maxHeartbeats 16000000 in
theorem walk (a : Option Addr) (len cap : Nat) (P : Nat → Prc) (F : Nat → Nat → Nat → Int) (i k : Int) (w : World) (hm : len ≤ maxLen) (hp : RdP w a len P) (hc : ∀ i, i < len → (P i).n ≤ maxLen ∧ RdC w (P i).b (P i).n (F i)) (w1 : (Lit.int .i64 i).wf = true) (w2 : (Lit.int .i64 k).wf = true) :
    Calls Try.prog 7 #[.agg #[.slice a len cap], .int .i64 i, .int .i64 k] w fun e w' => e = .returned (.bool true) ∧ Below w.heap.size w w' := by
  clear w1 w2
  by_cases hs : (len : Int) + sumP P len ≤ 1048576
  · obtain ⟨n1, hn1, hn2⟩ : ∃ n1 : Int, n1 = 1048576 - len - sumP P len ∧ 0 ≤ n1 := ⟨_, rfl, by omega⟩
    have hn3 : ¬ n1 < 0 := by omega
    have hl : len ≤ 1048576 := by omega
    have HN := Lib.hid (show ∀ i, i < len → (P i).n ≤ 1048576 from fun i hi => by
      have h1 := sumP_mono P (k := i + 1) (l := len) (by omega)
      have h2 : sumP P (i + 1) = sumP P i + (P i).n := rfl
      omega)
    have H1 := Lib.hid hn1
    have HP := Lib.hid hp
    have HC := Lib.hid (show ∀ i, i < len → RdC w (P i).b (P i).n (F i) from fun i hi => (hc i hi).2)
    obtain ⟨V, hV⟩ : ∃ V, V = atV P F len i k := ⟨_, rfl⟩
    obtain ⟨ok, hB⟩ : ∃ ok, ok = atB P len i k := ⟨_, rfl⟩
    have HV := Lib.hid hV.symm
    have HB := Lib.hid hB.symm
    clear hn1 hp hc hs hV hB
    go_enter Try.func7, Try.ntmps7
    go_upto_region 7 with (first
        | (go_at_call 20; refine (szPrg_ok _ _ _ P _ n1 H1.out hn2 (by omega) _ (HP.out.below ((Below.refl w.heap.size w).alloc (Nat.le_refl _) _))).mono ?_; rintro e w1 ⟨rfl, hb⟩; have c0 : w1.cell? ⟨w.heap.size, 0, none⟩ = some (Value.slice a len cap) := (hb.cell (p := ⟨w.heap.size, 0, none⟩) (by simp only [World.size_alloc]; omega)).trans (by simp [go_sem]); have hS := below_on ((Below.refl w.heap.size w).alloc (Nat.le_refl _) _) hb; clear hb)
        | (go_at_call 22; have _hk := h8; refine (toPrg_l a len cap P F _ (HP.out.below (hS.alloc hS.size _)) (fun i hi => (HC.out i hi).below (hS.alloc hS.size _)) hl HN.out).mono ?_; rintro e w4 ⟨g, G, rfl, hg, hr, hb⟩; replace c0 : w4.cell? ⟨w.heap.size, 0, none⟩ = some (Value.slice a len cap) := (hb.cell (p := ⟨w.heap.size, 0, none⟩) (by first | exact blk c0 | (have hlt := blk c0; simp only [World.size_alloc, World.size_setCell, World.size_drew]; omega))).trans (by first | exact c0 | exact keep_alloc _ c0 | (simp [go_sem, *]; done)); have h8' := (Blk.new _ _ _).below hb; have hS2 : Below w.heap.size w w4 := below_on (hS.alloc hS.size _) hb; clear hS h8 hb hg zc; have zc := blk c0; have stg2 := True.intro)
        | (go_at_call 22; refine (toPrg_l a len cap P F _ (HP.out.below hS) (fun i hi => (HC.out i hi).below hS) hl HN.out).mono ?_; rintro e w2 ⟨g, G, rfl, hg, hr, hb⟩; replace c0 : w2.cell? ⟨w.heap.size, 0, none⟩ = some (Value.slice a len cap) := (hb.cell (p := ⟨w.heap.size, 0, none⟩) (by first | exact blk c0 | (have hlt := blk c0; simp only [World.size_alloc, World.size_setCell, World.size_drew]; omega))).trans (by first | exact c0 | exact keep_alloc _ c0 | (simp [go_sem, *]; done)); have hS2 := below_on hS hb; clear hS; have hS := hS2; clear hS2 hb hg)
        | (go_at_call 25; refine (prgAt_s HV.out HB.out _ hr).mono ?_; rintro e w3 ⟨rfl, hb⟩; replace c0 : w3.cell? ⟨w.heap.size, 0, none⟩ = some (Value.slice a len cap) := (hb.cell (p := ⟨w.heap.size, 0, none⟩) (by first | exact blk c0 | (have hlt := blk c0; simp only [World.size_alloc, World.size_setCell, World.size_drew]; omega))).trans (by first | exact c0 | exact keep_alloc _ c0 | (simp [go_sem, *]; done)); have hS2 := below_on hS hb; clear hS hr; have hS := hS2; have h8 := True.intro; have zc := blk c0; clear hS2 hb))
    go_cut [8, 9, 10, 11, 12] (fun p8 b9 p10 p11 b12 wx => ∃ W, W = wx ∧ ∃ g8 g10 g11 g G : Nat, p8 = .pointer (some ⟨g8, 0, none⟩) ∧ b9 = .bool ok ∧ p10 = .pointer (some ⟨g10, 0, none⟩) ∧ p11 = .pointer (some ⟨g11, 0, none⟩) ∧ b12 = .bool ok ∧ Blk wx g8 42 #[.int .i64 (V 0), .int .i64 (V 1), .int .i64 (V 2), .int .i64 (V 3), .int .i64 (V 4), .int .i64 (V 5), .int .i64 (V 6), .int .i64 (V 7)] ∧ Blk wx g10 53 #[.slice (some ⟨g, 0, none⟩) len len] ∧ Blk wx g11 42 #[.int .i64 (V 0), .int .i64 (V 1), .int .i64 (V 2), .int .i64 (V 3), .int .i64 (V 4), .int .i64 (V 5), .int .i64 (V 6), .int .i64 (V 7)] ∧ RdQ G wx (some ⟨g, 0, none⟩) len P F ∧ wx.cell? ⟨w.heap.size, 0, none⟩ = some (.slice a len cap) ∧ Below w.heap.size w wx)
    case first =>
      go_wp2_with (go_at_call 26; refine (prgAt_i HV.out HB.out _ (hr.below ((Below.refl _ _).alloc (Nat.le_refl _) _))).mono ?_; rintro e w5 ⟨rfl, hb⟩; replace c0 : w5.cell? ⟨w.heap.size, 0, none⟩ = some (Value.slice a len cap) := (hb.cell (p := ⟨w.heap.size, 0, none⟩) (by first | exact blk c0 | (have hlt := blk c0; simp only [World.size_alloc, World.size_setCell, World.size_drew]; omega))).trans (by first | exact c0 | exact keep_alloc _ c0 | (simp [go_sem, *]; done)); have k8 := (h8'.alloc _).below hb; have k10 := (Blk.new _ _ _).below hb; have hr5 := (hr.below ((Below.refl _ _).alloc (Nat.le_refl _) _)).below hb; have hS5 : Below w.heap.size w w5 := below_on (hS2.alloc hS2.size _) hb; clear hb hS2 hr h8' zc; have zc := blk c0)
      go_meet
      exact ⟨_, rfl, _, _, _, _, _, rfl, rfl, rfl, rfl, rfl, k8.alloc _, k10.alloc _, Blk.new _ _ _, hr5.below ((Below.refl _ _).alloc (Nat.le_refl _) _), keep_alloc _ c0, hS5.alloc hS5.size _⟩
    case rest =>
    obtain ⟨W, rfl, g8, g10, g11, g, G, rfl, rfl, rfl, rfl, rfl, k8, k10, k11, hr, c0, hS⟩ := hcut
    have q10 := k10.cell 0
    have q8_0 := k8.cell 0
    have q8_1 := k8.cell 1
    have q8_2 := k8.cell 2
    have q8_3 := k8.cell 3
    have q8_4 := k8.cell 4
    have q8_5 := k8.cell 5
    have q8_6 := k8.cell 6
    have q8_7 := k8.cell 7
    have q11_0 := k11.cell 0
    have q11_1 := k11.cell 1
    have q11_2 := k11.cell 2
    have q11_3 := k11.cell 3
    have q11_4 := k11.cell 4
    have q11_5 := k11.cell 5
    have q11_6 := k11.cell 6
    have q11_7 := k11.cell 7
    simp only [List.getElem?_toArray, List.getElem?_cons_zero, List.getElem?_cons_succ] at q10 q8_0 q8_1 q8_2 q8_3 q8_4 q8_5 q8_6 q8_7 q11_0 q11_1 q11_2 q11_3 q11_4 q11_5 q11_6 q11_7
    clear k8 k10 k11
    go_wp2_with (go_at_call 27; refine (eqIns_same _ _ _ _ _ _ _ _ _).mono ?_; rintro e w6 ⟨rfl, hb⟩; replace c0 := (hb.cell (p := ⟨w.heap.size, 0, none⟩) (blk c0)).trans c0; replace q10 := (hb.cell (p := ⟨g10, 0, none⟩) (blk q10)).trans q10; replace hr := hr.below hb; have hS6 := below_on hS hb; clear hb hS q8_0 q8_1 q8_2 q8_3 q8_4 q8_5 q8_6 q8_7 q11_0 q11_1 q11_2 q11_3 q11_4 q11_5 q11_6 q11_7)
    go_region_with (first
      | (go_at_call 22; refine (toPrg_l a len cap P F _ (HP.out.below (by first | exact hS6 | exact hS6.drew)) (fun i hi => (HC.out i hi).below (by first | exact hS6 | exact hS6.drew)) hl HN.out).mono ?_; rintro e w7 ⟨g7, G7, rfl, hg7, hr7, hb⟩; replace c0 : w7.cell? ⟨w.heap.size, 0, none⟩ = some (Value.slice a len cap) := (hb.cell (p := ⟨w.heap.size, 0, none⟩) (by first | exact blk c0 | (have hlt := blk c0; simp only [World.size_alloc, World.size_setCell, World.size_drew]; omega))).trans (by first | exact c0 | exact keep_alloc _ c0 | (simp [go_sem, *]; done)); replace q10 : w7.cell? ⟨g10, 0, none⟩ = some (Value.slice (some ⟨g, 0, none⟩) len len) := (hb.cell (p := ⟨g10, 0, none⟩) (by first | exact blk q10 | (have hlt := blk q10; simp only [World.size_alloc, World.size_setCell, World.size_drew]; omega))).trans (by first | exact q10 | exact keep_alloc _ q10 | (simp [go_sem, *]; done)); have hr8 := (show RdQ _ _ _ _ _ _ from by exact hr).below hb; have hS7 := below_on (by first | exact hS6 | exact hS6.drew) hb; clear hb)
      | (go_at_call 24; refine (eqPrg_l _ _ len _ _ P F _ _ _ hr8 hr7 hl HN.out).mono ?_; rintro e w8 ⟨rfl, hb⟩; have hS8 := below_on hS7 hb; clear hb))
    all_goals go_wp2_with fail
    all_goals (go_ret; exact ⟨rfl, hS8⟩)

  · have HS := Lib.hid (show (1048576 : Int) < len + sumP P len by omega)
    have HM := Lib.hid (show ∀ i, i < len → (P i).n ≤ maxLen from fun i hi => (hc i hi).1)
    have HP := Lib.hid hp
    clear hs hc hp
    go_enter Try.func7, Try.ntmps7
    go_wp2_with (go_at_call 20; refine (szPrg_no _ _ _ P _ (by omega) (by omega) HS.out hm HM.out _ (HP.out.below ((Below.refl w.heap.size w).alloc (Nat.le_refl _) _))).mono ?_; rintro e w1 ⟨rfl, hb⟩; have hS := below_on ((Below.refl w.heap.size w).alloc (Nat.le_refl _) _) hb; clear hb)
    all_goals (go_ret; exact ⟨rfl, hS⟩)
/-! ### The row, off the walk -/
set_option maxRecDepth 100000 in
theorem lifted (os : Os) (started : os.Started) (H : Type) (enc : TypeId × Value → H) :
    ReturnsInHanded {} Try.checked os 7 .any (Rows.fnExactPrgAtSpec.pre6 enc Try.prog Try.f7 Rows.fnExactPrgAtRow.domain false) (Rows.fnExactPrgAtSpec.post enc Try.prog Try.f7 false true false false) := by
  refine returnsInHanded_of_change (C := Try.checked) own started (by kernel_rfl) Try.func7
    (ChangeSpec.witness6 (enc := enc) (C := Try.checked) false ⟨#[], #[.agg #[.slice none 0 0], .int .i64 0, .int .i64 0], []⟩ 8 (by kernel_rfl) (by kernel_rfl) (by kernel_rfl) (by kernel_rfl)) ?_
  intro W base args ds gs before hval0 hW hcnd _
  have hval : ∀ (j : Nat) t v, Try.f7.params[j]? = some t → args[j]? = some v → Value.okWide Try.prog W .any base t v := hval0
  have hW' := hW
  obtain ⟨p, q, hA0, hV, rfl, hfz, hnd⟩ := hW
  have hA : DataW.TrodAll enc Try.prog W 0 (fun _ => true) true Try.f7.params.toList args.toList ds p := hA0
  rw [Try.params7] at hA hval
  obtain ⟨v0, vs0, d0, ds0, p0, q0, hargs, rfl, rfl, h0, r0⟩ := trodAll_cons hA
  obtain ⟨v1, vs1, d1, ds1, p1, q1, rfl, rfl, rfl, h1, r1⟩ := trodAll_cons r0
  obtain ⟨v2, vs2, d2, ds2, p2, q2, rfl, rfl, rfl, h2, r2⟩ := trodAll_cons r1
  obtain ⟨rfl, rfl, rfl⟩ := trodAll_nil r2
  obtain rfl : args = #[v0, v1, v2] := by cases args; simp_all
  obtain ⟨rfl, rfl⟩ := trodVars_none hV
  have k0 := h0
  have lt0 : ∀ x ∈ p0, x.block < W.heap.size := by obtain ⟨m, hm⟩ := k0; exact DataW.trod_lt m _ _ _ hm
  obtain ⟨a0, len0, cap0, P0, F0, rfl, wm0, wp0, wc0⟩ := open_prg (hval 0 48 v0 rfl rfl) h0
  have k1 := h1
  have lt1 : ∀ x ∈ p1, x.block < W.heap.size := by obtain ⟨m, hm⟩ := k1; exact DataW.trod_lt m _ _ _ hm
  obtain ⟨a1, rfl, rfl, rfl, w1⟩ := open_int Try.underlying3 (hval 1 3 v1 rfl rfl) h1
  have k2 := h2
  have lt2 : ∀ x ∈ p2, x.block < W.heap.size := by obtain ⟨m, hm⟩ := k2; exact DataW.trod_lt m _ _ _ hm
  obtain ⟨a2, rfl, rfl, rfl, w2⟩ := open_int Try.underlying3 (hval 2 3 v2 rfl rfl) h2
  clear hA0 hval0
  refine (walk a0 len0 cap0 P0 F0 a1 a2 W wm0 wp0 wc0 w1 w2).mono fun e W' ⟨he, bel⟩ => ?_
  subst he
  exact ⟨_, rfl, _, _, _, [], _, [], hW', trodAll_mk1 (shut_bool Try.underlying4 _), (trodAll_cons_mk (Below.trod laidOut (by kernel_rfl) (of_decide_eq_true (by kernel_rfl)) k0 bel lt0) (trodAll_cons_mk (Below.trod laidOut (by kernel_rfl) (of_decide_eq_true (by kernel_rfl)) k1 bel lt1) (trodAll_cons_mk (Below.trod laidOut (by kernel_rfl) (of_decide_eq_true (by kernel_rfl)) k2 bel lt2) trodAll_mk0))), rfl, bel.frame _, fun h => by cases h⟩

theorem over : Rows.fnExactPrgAtRow.holds Try.pinned (OpenSpec.ofChange Rows.fnExactPrgAtSpec) :=
  OpenClaim.holds_of_wide 7 Try.f7 rfl rfl rfl rfl rfl rfl rfl ⟨rfl, rfl, rfl, rfl, rfl⟩ rfl rfl rfl rfl rfl (by kernel_rfl) Try.func7 (by kernel_rfl)
    (of_decide_eq_true (by kernel_rfl)) (by unfold Func.isWrapper; rw [if_neg (of_decide_eq_false (by kernel_rfl))]; exact ⟨rfl, rfl⟩)
    (fun os started H enc _ => lifted os started H enc)

/-- The given statement. -/
theorem proved : Rows.FnExactPrgAtSaid := over
#print axioms proved
end Go.Proofs.Ythbbakmohcjblaa.fnExactPrgAt
