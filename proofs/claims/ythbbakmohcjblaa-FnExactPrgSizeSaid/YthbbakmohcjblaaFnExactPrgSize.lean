/-
  FnExactPrgSize: for every input the law returns true, and its arguments read as before. No conditions.
-/
import Derived.Test.YthbbakmohcjblaaPrgO
namespace Go.Proofs.Ythbbakmohcjblaa.fnExactPrgSize
set_option linter.unusedSimpArgs false
set_option linter.unusedVariables false
open Go.ChangeShapes Go.WideShapes Go.ChangeAt Go.RowKit
open Go.ChangeMaps (open_string shut_string)

theorem sum_same (P Q : Nat → Prc) (k : Nat) (h : ∀ i, i < k → (Q i).n = (P i).n) : sumP Q k = sumP P k := by
  induction k with
  | zero => rfl
  | succ k ih => show sumP Q k + (Q k).n = sumP P k + (P k).n; rw [ih (fun i hi => h i (by omega)), h k (by omega)]
set_option maxRecDepth 100000 in
set_option maxHeartbeats 8000000 in
theorem walk (a : Option Addr) (len cap : Nat) (P : Nat → Prc) (F : Nat → Nat → Nat → Int) (w : World) (hm : len ≤ maxLen) (hp : RdP w a len P) (hc : ∀ i, i < len → (P i).n ≤ maxLen ∧ RdC w (P i).b (P i).n (F i)) :
    Calls Try.prog 6 #[.agg #[.slice a len cap]] w fun e w' => e = .returned (.bool true) ∧ Below w.heap.size w w' := by
  by_cases hs : (len : Int) + sumP P len ≤ 1048576
  · obtain ⟨n1, hn1, hn2⟩ : ∃ n1 : Int, n1 = 1048576 - len - sumP P len ∧ 0 ≤ n1 := ⟨_, rfl, by omega⟩
    have hn3 : ¬ n1 < 0 := by omega
    have hl : len ≤ 1048576 := by omega
    have hsl : sumP P len ≤ 1048576 := by omega
    have HN := Lib.hid (show ∀ i, i < len → (P i).n ≤ 1048576 from fun i hi => by
      have h1 := sumP_mono P (k := i + 1) (l := len) (by omega)
      have h2 : sumP P (i + 1) = sumP P i + (P i).n := rfl
      omega)
    have H1 := Lib.hid hn1
    have HP := Lib.hid hp
    have HC := Lib.hid (show ∀ i, i < len → RdC w (P i).b (P i).n (F i) from fun i hi => (hc i hi).2)
    obtain ⟨x, hx⟩ : ∃ x : Nat, sumP P len = x := ⟨_, rfl⟩
    have HX := Lib.hid hx
    clear hx hn1 hp hc hs
    go_enter Try.func6, Try.ntmps6
    go_wp2_with (first
      | (go_at_call 20; refine (szPrg_ok _ _ _ P _ n1 H1.out hn2 (by omega) _ (HP.out.below ((Below.refl w.heap.size w).alloc (Nat.le_refl _) _))).mono ?_; rintro e w1 ⟨rfl, hb⟩; have c0 : w1.cell? ⟨w.heap.size, 0, none⟩ = some (Value.slice a len cap) := (hb.cell (p := ⟨w.heap.size, 0, none⟩) (by simp only [World.size_alloc]; omega)).trans (by simp [go_sem]); have hS := below_on ((Below.refl w.heap.size w).alloc (Nat.le_refl _) _) hb; clear hb)
      | (go_at_call 22; refine (toPrg_l a len cap P F _ (HP.out.below hS) (fun i hi => (HC.out i hi).below hS) hl HN.out).mono ?_; rintro e w2 ⟨g, G, rfl, hg, hr, hb⟩; replace c0 : w2.cell? ⟨w.heap.size, 0, none⟩ = some (Value.slice a len cap) := (hb.cell (p := ⟨w.heap.size, 0, none⟩) (by first | exact blk c0 | (have hlt := blk c0; simp only [World.size_alloc, World.size_setCell, World.size_drew]; omega))).trans (by first | exact c0 | exact keep_alloc _ c0 | (simp [go_sem, *]; done)); have hS2 := below_on hS hb; clear hS; have hS := hS2; clear hS2 hb)
      | (go_at_call 21; obtain ⟨P2, hp2, hc2⟩ := hr; refine (prgSize_s _ len _ P2 _ hp2 hl (by rw [sum_same P P2 len (fun i hi => (hc2 i hi).2.2.1)]; exact hsl)).mono ?_; rw [sum_same P P2 len (fun i hi => (hc2 i hi).2.2.1), HX.out]; rintro e w3 ⟨rfl, hb⟩; replace c0 : w3.cell? ⟨w.heap.size, 0, none⟩ = some (Value.slice a len cap) := (hb.cell (p := ⟨w.heap.size, 0, none⟩) (by first | exact blk c0 | (have hlt := blk c0; simp only [World.size_alloc, World.size_setCell, World.size_drew]; omega))).trans (by first | exact c0 | exact keep_alloc _ c0 | (simp [go_sem, *]; done)); have hS2 := below_on hS hb; clear hS hg; have hS := hS2; clear hS2 hb hp2 hc2)
      | (go_at_call 23; have hr0 := hr; obtain ⟨P2, hp2, hc2⟩ := hr0; refine (prgSize_i _ len _ P2 _ (hp2.below ((Below.refl _ _).alloc (Nat.le_refl _) _)) hl (by rw [sum_same P P2 len (fun i hi => (hc2 i hi).2.2.1)]; exact hsl)).mono ?_; rw [sum_same P P2 len (fun i hi => (hc2 i hi).2.2.1), HX.out]; rintro e w4 ⟨rfl, hb⟩; replace c0 : w4.cell? ⟨w.heap.size, 0, none⟩ = some (Value.slice a len cap) := (hb.cell (p := ⟨w.heap.size, 0, none⟩) (by first | exact blk c0 | (have hlt := blk c0; simp only [World.size_alloc, World.size_setCell, World.size_drew]; omega))).trans (by first | exact c0 | exact keep_alloc _ c0 | (simp [go_sem, *]; done)); have hS2 : Below w.heap.size w w4 := below_on (hS.alloc hS.size _) hb; have hr4 := (hr.below ((Below.refl _ _).alloc (Nat.le_refl _) _)).below hb; have d0 : w4.cell? ⟨w2.heap.size, 0, none⟩ = some (Value.slice (some ⟨g, 0, none⟩) len len) := (hb.cell (p := ⟨w2.heap.size, 0, none⟩) (by simp only [World.size_alloc]; omega)).trans (by simp [go_sem]); clear hb hS hr hg hp2 hc2))
    go_region_with (first
      | (go_at_call 22; refine (toPrg_l a len cap P F _ (HP.out.below (by first | exact hS2 | exact hS2.drew)) (fun i hi => (HC.out i hi).below (by first | exact hS2 | exact hS2.drew)) hl HN.out).mono ?_; rintro e w5 ⟨g5, G5, rfl, hg5, hr5, hb⟩; replace c0 : w5.cell? ⟨w.heap.size, 0, none⟩ = some (Value.slice a len cap) := (hb.cell (p := ⟨w.heap.size, 0, none⟩) (by first | exact blk c0 | (have hlt := blk c0; simp only [World.size_alloc, World.size_setCell, World.size_drew]; omega))).trans (by first | exact c0 | exact keep_alloc _ c0 | (simp [go_sem, *]; done)); replace d0 : w5.cell? ⟨w2.heap.size, 0, none⟩ = some (Value.slice (some ⟨g, 0, none⟩) len len) := (hb.cell (p := ⟨w2.heap.size, 0, none⟩) (by first | exact blk d0 | (have hlt := blk d0; simp only [World.size_alloc, World.size_setCell, World.size_drew]; omega))).trans (by first | exact d0 | exact keep_alloc _ d0 | (simp [go_sem, *]; done)); have hr6 := (show RdQ _ _ _ _ _ _ from by exact hr4).below hb; have hS5 := below_on (by first | exact hS2 | exact hS2.drew) hb; clear hb)
      | (go_at_call 24; refine (eqPrg_l _ _ len _ _ P F _ _ _ hr6 hr5 hl HN.out).mono ?_; rintro e w6 ⟨rfl, hb⟩; have hS6 := below_on hS5 hb; clear hb))
    all_goals go_wp2_with fail
    all_goals (go_ret; exact ⟨rfl, hS6⟩)
  · have HS := Lib.hid (show (1048576 : Int) < len + sumP P len by omega)
    have HM := Lib.hid (show ∀ i, i < len → (P i).n ≤ maxLen from fun i hi => (hc i hi).1)
    have HP := Lib.hid hp
    clear hs hc hp
    go_enter Try.func6, Try.ntmps6
    go_wp2_with (go_at_call 20; refine (szPrg_no _ _ _ P _ (by omega) (by omega) HS.out hm HM.out _ (HP.out.below ((Below.refl w.heap.size w).alloc (Nat.le_refl _) _))).mono ?_; rintro e w1 ⟨rfl, hb⟩; have hS := below_on ((Below.refl w.heap.size w).alloc (Nat.le_refl _) _) hb; clear hb)
    all_goals (go_ret; exact ⟨rfl, hS⟩)
/-! ### The row, off the walk -/
set_option maxRecDepth 100000 in
theorem lifted (os : Os) (started : os.Started) (H : Type) (enc : TypeId × Value → H) :
    ReturnsInHanded {} Try.checked os 6 .any (Rows.fnExactPrgSizeSpec.pre6 enc Try.prog Try.f6 Rows.fnExactPrgSizeRow.domain false) (Rows.fnExactPrgSizeSpec.post enc Try.prog Try.f6 false true false false) := by
  refine returnsInHanded_of_change (C := Try.checked) own started (by kernel_rfl) Try.func6
    (ChangeSpec.witness6 (enc := enc) (C := Try.checked) false ⟨#[], #[.agg #[.slice none 0 0]], []⟩ 8 (by kernel_rfl) (by kernel_rfl) (by kernel_rfl) (by kernel_rfl)) ?_
  intro W base args ds gs before hval0 hW hcnd _
  have hval : ∀ (j : Nat) t v, Try.f6.params[j]? = some t → args[j]? = some v → Value.okWide Try.prog W .any base t v := hval0
  have hW' := hW
  obtain ⟨p, q, hA0, hV, rfl, hfz, hnd⟩ := hW
  have hA : DataW.TrodAll enc Try.prog W 0 (fun _ => true) true Try.f6.params.toList args.toList ds p := hA0
  rw [Try.params6] at hA hval
  obtain ⟨v0, vs0, d0, ds0, p0, q0, hargs, rfl, rfl, h0, r0⟩ := trodAll_cons hA
  obtain ⟨rfl, rfl, rfl⟩ := trodAll_nil r0
  obtain rfl : args = #[v0] := by cases args; simp_all
  obtain ⟨rfl, rfl⟩ := trodVars_none hV
  have k0 := h0
  have lt0 : ∀ x ∈ p0, x.block < W.heap.size := by obtain ⟨m, hm⟩ := k0; exact DataW.trod_lt m _ _ _ hm
  obtain ⟨a0, len0, cap0, P0, F0, rfl, wm0, wp0, wc0⟩ := open_prg (hval 0 48 v0 rfl rfl) h0
  clear hA0 hval0
  refine (walk a0 len0 cap0 P0 F0 W wm0 wp0 wc0).mono fun e W' ⟨he, bel⟩ => ?_
  subst he
  exact ⟨_, rfl, _, _, _, [], _, [], hW', trodAll_mk1 (shut_bool Try.underlying4 _), (trodAll_cons_mk (Below.trod laidOut (by kernel_rfl) (of_decide_eq_true (by kernel_rfl)) k0 bel lt0) trodAll_mk0), rfl, bel.frame _, fun h => by cases h⟩

theorem over : Rows.fnExactPrgSizeRow.holds Try.pinned (OpenSpec.ofChange Rows.fnExactPrgSizeSpec) :=
  OpenClaim.holds_of_wide 6 Try.f6 rfl rfl rfl rfl rfl rfl rfl ⟨rfl, rfl, rfl, rfl, rfl⟩ rfl rfl rfl rfl rfl (by kernel_rfl) Try.func6 (by kernel_rfl)
    (of_decide_eq_true (by kernel_rfl)) (by unfold Func.isWrapper; rw [if_neg (of_decide_eq_false (by kernel_rfl))]; exact ⟨rfl, rfl⟩)
    (fun os started H enc _ => lifted os started H enc)

/-- The given statement. -/
theorem proved : Rows.FnExactPrgSizeSaid := over
#print axioms proved
end Go.Proofs.Ythbbakmohcjblaa.fnExactPrgSize
