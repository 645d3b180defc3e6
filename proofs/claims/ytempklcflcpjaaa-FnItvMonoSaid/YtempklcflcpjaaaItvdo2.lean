/-
  What the program's ItvDo computes. No conditions.
-/
import Derived.Test.YtempklcflcpjaaaItvdo
import Derived.Deep.CutBlock
namespace Go.Proofs.Ytempklcflcpjaaa
set_option linter.unusedSimpArgs false
set_option linter.unusedVariables false
open Go.ChangeShapes Go.WideShapes Go.ChangeAt Go.RowKit
theorem pair_mem (ps : List (Int × Int)) (k : Nat) (h : k < ps.length) : ps.getD k (0, 0) ∈ ps := by
  rw [List.getD_eq_getElem?_getD, List.getElem?_eq_getElem h, Option.getD_some]; exact List.getElem_mem h
theorem int_mem (ps : List Int) (k : Nat) (h : k < ps.length) : ps.getD k 0 ∈ ps := by
  rw [List.getD_eq_getElem?_getD, List.getElem?_eq_getElem h, Option.getD_some]; exact List.getElem_mem h
theorem resL_bd {op : Int} {a b : Int × Int} (ha : okI a = true) (hb : okI b = true) (hop : op = 1 ∨ op = 2 ∨ op = 3 ∨ op = 4) : ∀ n ∈ resL op a b, -1099511627776 ≤ n ∧ n ≤ 1099511627776 := by
  have ka := (okI_iff _).1 ha
  have kb := (okI_iff _).1 hb
  intro n hn
  by_cases h2 : op = 2
  · rw [resL, if_pos h2] at hn
    simp at hn
    omega
  · rw [resL, if_neg h2, rsL, List.mem_map] at hn
    obtain ⟨p, hp, rfl⟩ := hn
    have k := corn_ok ha hb p hp
    exact raw_bdN k.1 k.2.1
theorem resL_len {op : Int} {a b : Int × Int} (hb : okI b = true) : (resL op a b).length ≤ 8 := by
  unfold resL
  split
  · simp
  · rw [rsL_len, cornL_len]; have := (secs_ok (op := op) hb).2; omega

set_option maxRecDepth 100000 in
set_option maxHeartbeats 8000000 in
theorem itvDo_i2 (op al ah bl bh : Int) (ha : okI (al, ah) = true) (hb : okI (bl, bh) = true) (hop : op = 1 ∨ op = 2 ∨ op = 3 ∨ op = 4) (w : World) : Calls Try.prog 12 #[.int .i64 op, .agg #[.int .i64 al, .int .i64 ah], .agg #[.int .i64 bl, .int .i64 bh]] w fun e w' => e = .returned (.tuple #[.agg #[.int .i64 (doI op (al, ah) (bl, bh)).1.1, .int .i64 (doI op (al, ah) (bl, bh)).1.2], .bool (doI op (al, ah) (bl, bh)).2]) ∧ Below w.heap.size w w' := by
  obtain ⟨i0, hi, hz0, hz1, hz2⟩ := info_parts info_int
  have ko := (okB_iff _ _).2 ⟨ha, hb⟩
  have kA := (arithB_iff op).2 (by omega)
  have ka := (okI_iff _).1 ha
  have kb := (okI_iff _).1 hb
  simp only at ka kb
  have Hop := Lib.hid hop
  have Hres := Lib.hid (resL_ends ha hb hop)
  have Hnil := Lib.hid (resL_nil (a := (al, ah)) hb hop)
  have Hbd := Lib.hid (resL_bd ha hb hop)
  have Hlen := resL_len (op := op) (a := (al, ah)) hb
  clear hop
  go_enter Try.func12, Try.ntmps12
  go_upto_block 0 with (first | (go_at_call 38; refine (bothOk_i _ _ _ _ _).mono ?_; rintro e w' ⟨rfl, hb⟩; have hs0 := hb.size; have hB : Below w.heap.size w w' := below_on (by ((try go_split_ands); go_grown)) hb; have hz := hB.size; have hc := bcell hb; (try simp only [World.size_alloc, World.size_setCell, World.size_drew] at hs0); (first | have m0 := up_7 m0 (show _ ≤ w'.heap.size by omega) | have m0 := up_6 m0 (show _ ≤ w'.heap.size by omega) | have m0 := up_5 m0 (show _ ≤ w'.heap.size by omega) | have m0 := up_4 m0 (show _ ≤ w'.heap.size by omega) | have m0 := up_3 m0 (show _ ≤ w'.heap.size by omega) | have m0 := up_2 m0 (show _ ≤ w'.heap.size by omega) | have m0 := up_1 m0 (show _ ≤ w'.heap.size by omega) | skip); (first | have m1 := up_7 m1 (show _ ≤ w'.heap.size by omega) | have m1 := up_6 m1 (show _ ≤ w'.heap.size by omega) | have m1 := up_5 m1 (show _ ≤ w'.heap.size by omega) | have m1 := up_4 m1 (show _ ≤ w'.heap.size by omega) | have m1 := up_3 m1 (show _ ≤ w'.heap.size by omega) | have m1 := up_2 m1 (show _ ≤ w'.heap.size by omega) | have m1 := up_1 m1 (show _ ≤ w'.heap.size by omega) | skip); (first | have m2 := up_7 m2 (show _ ≤ w'.heap.size by omega) | have m2 := up_6 m2 (show _ ≤ w'.heap.size by omega) | have m2 := up_5 m2 (show _ ≤ w'.heap.size by omega) | have m2 := up_4 m2 (show _ ≤ w'.heap.size by omega) | have m2 := up_3 m2 (show _ ≤ w'.heap.size by omega) | have m2 := up_2 m2 (show _ ≤ w'.heap.size by omega) | have m2 := up_1 m2 (show _ ≤ w'.heap.size by omega) | skip); (first | have m3 := up_7 m3 (show _ ≤ w'.heap.size by omega) | have m3 := up_6 m3 (show _ ≤ w'.heap.size by omega) | have m3 := up_5 m3 (show _ ≤ w'.heap.size by omega) | have m3 := up_4 m3 (show _ ≤ w'.heap.size by omega) | have m3 := up_3 m3 (show _ ≤ w'.heap.size by omega) | have m3 := up_2 m3 (show _ ≤ w'.heap.size by omega) | have m3 := up_1 m3 (show _ ≤ w'.heap.size by omega) | skip); (first | have m4 := up_7 m4 (show _ ≤ w'.heap.size by omega) | have m4 := up_6 m4 (show _ ≤ w'.heap.size by omega) | have m4 := up_5 m4 (show _ ≤ w'.heap.size by omega) | have m4 := up_4 m4 (show _ ≤ w'.heap.size by omega) | have m4 := up_3 m4 (show _ ≤ w'.heap.size by omega) | have m4 := up_2 m4 (show _ ≤ w'.heap.size by omega) | have m4 := up_1 m4 (show _ ≤ w'.heap.size by omega) | skip); (first | have m5 := up_7 m5 (show _ ≤ w'.heap.size by omega) | have m5 := up_6 m5 (show _ ≤ w'.heap.size by omega) | have m5 := up_5 m5 (show _ ≤ w'.heap.size by omega) | have m5 := up_4 m5 (show _ ≤ w'.heap.size by omega) | have m5 := up_3 m5 (show _ ≤ w'.heap.size by omega) | have m5 := up_2 m5 (show _ ≤ w'.heap.size by omega) | have m5 := up_1 m5 (show _ ≤ w'.heap.size by omega) | skip); (first | (have mm := lt_7 hs0; (try have m5 := m4); (try have m4 := m3); (try have m3 := m2); (try have m2 := m1); (try have m1 := m0); have m0 := mm) | (have mm := lt_6 hs0; (try have m5 := m4); (try have m4 := m3); (try have m3 := m2); (try have m2 := m1); (try have m1 := m0); have m0 := mm) | (have mm := lt_5 hs0; (try have m5 := m4); (try have m4 := m3); (try have m3 := m2); (try have m2 := m1); (try have m1 := m0); have m0 := mm) | (have mm := lt_4 hs0; (try have m5 := m4); (try have m4 := m3); (try have m3 := m2); (try have m2 := m1); (try have m1 := m0); have m0 := mm) | (have mm := lt_3 hs0; (try have m5 := m4); (try have m4 := m3); (try have m3 := m2); (try have m2 := m1); (try have m1 := m0); have m0 := mm) | (have mm := lt_2 hs0; (try have m5 := m4); (try have m4 := m3); (try have m3 := m2); (try have m2 := m1); (try have m1 := m0); have m0 := mm) | (have mm := lt_1 hs0; (try have m5 := m4); (try have m4 := m3); (try have m3 := m2); (try have m2 := m1); (try have m1 := m0); have m0 := mm) | skip); clear hs0; clear hb) | (go_at_call 35; refine (isArith_i _ _).mono ?_; rintro e w' ⟨rfl, rfl⟩))
  go_cut [8] (fun s8 wx => ∃ W, W = wx ∧ ResAt wx s8 (resL op (al, ah) (bl, bh)) ∧ wx.cell? ⟨w.heap.size + 1 + 1, 0, none⟩ = some (.int .i64 0) ∧ wx.cell? ⟨w.heap.size + 1 + 1, 1, none⟩ = some (.int .i64 0) ∧ wx.frozen? ⟨w.heap.size + 1 + 1, 0, none⟩ = false ∧ wx.frozen? ⟨w.heap.size + 1 + 1, 1, none⟩ = false ∧ Below w.heap.size w wx)
  case first =>
    by_cases h2 : op = 2
    · subst h2
      have HR := Lib.hid (show resL 2 (al, ah) (bl, bh) = [al - bh, ah - bl] from if_pos rfl)
      go_wp2_with fail
      go_meet
      refine ⟨_, rfl, ?_, by simp [go_sem, *], by simp [go_sem, *], by simp [go_sem, *], by simp [go_sem, *], by go_grown⟩
      rw [HR.out]
      exact ⟨_, _, rfl, by simp only [List.length_cons, List.length_nil]; omega, fun _ => ⟨_, rfl, by simp, fun j hj => by
        have h2 : j = 0 ∨ j = 1 := by simp only [List.length_cons, List.length_nil] at hj; omega
        rcases h2 with rfl | rfl <;> simp [go_sem]⟩⟩
    · have HR := Lib.hid (show resL op (al, ah) (bl, bh) = rsL op (cornL (al, ah) (secsL op (bl, bh))) from if_neg h2)
      have g2 : (op == 2) = false := by simpa using h2
      have HC := Lib.hid (corn_ok (op := op) ha hb)
      have hL4 := (secs_ok (op := op) hb).2
      have Hop2 := Lib.hid (show op = 1 ∨ op = 3 ∨ op = 4 by have := Hop.out; omega)
      clear h2
      go_wp2_with fail
      refine (corners_i op al ah bl bh kb _).mono ?_
      rintro e w1 ⟨v, rfl, hown, hbc⟩
      have hBw : Below w.heap.size w w1 := below_on (by ((try go_split_ands); go_grown)) hbc
      have hsz := hbc.size
      have b0 := (hbc.cell (p := ⟨w.heap.size + 1 + 1, 0, none⟩) (by simp; omega))
      have b1 := (hbc.cell (p := ⟨w.heap.size + 1 + 1, 1, none⟩) (by simp; omega))
      have b2 := (hbc.frozen (p := ⟨w.heap.size + 1 + 1, 0, none⟩) (by simp; omega))
      have b3 := (hbc.frozen (p := ⟨w.heap.size + 1 + 1, 1, none⟩) (by simp; omega))
      simp [go_sem, *] at b0 b1 b2 b3
      have hl := cornL_len (al, ah) (secsL op (bl, bh))
      rw [← hl] at hown
      have hl8 : (cornL (al, ah) (secsL op (bl, bh))).length ≤ 8 := by omega
      clear hbc hl hL4
      generalize cornL (al, ah) (secsL op (bl, bh)) = ps at *
      rcases hown.2 with ⟨rfl, h0⟩ | ⟨g, cap, cur, rfl, hb1, hgg, hnc, hcm, hcs, htake⟩
      · have hps : ps = [] := List.eq_nil_of_length_eq_zero h0
        subst hps
        clear hown h0
        go_wp2_with fail
        refine wp_loop_rounds 1 ?_
        rw [rounds_succ]
        go_wp2_with fail
        go_meet
        exact ⟨_, rfl, by rw [HR.out]; exact ⟨none, 0, rfl, by simp [rsL], fun h => by simp [rsL] at h⟩, b0, b1, b2, b3, hBw⟩
      · have hgl : g < w1.heap.size := by
          rcases Nat.lt_or_ge g w1.heap.size with h' | h'
          · exact h'
          · rw [Array.getElem?_eq_none h'] at hgg; cases hgg
        have HO := Lib.hid hown
        have hszw : w.heap.size + 1 + 1 < w1.heap.size := blk b0
        clear hown hb1 hgg hnc hcm hcs htake
        go_wp2_with fail
        go_loopw [8, 31] (fun v i wr => ∃ k : Nat, k ≤ ps.length ∧ i = .int .i64 k ∧ wr.ownsRow w1.heap.size 3 1 v k ((rsL op (ps.take k)).map (Value.int .i64)) ∧ Below w1.heap.size w1 wr) (fun _ i _ => ps.length - (intOf i).toNat)
        case atStart => exact ⟨0, by omega, rfl, World.ownsRow_nil _ _ _ _, Below.refl _ _⟩
        case round =>
          obtain ⟨k, hk, rfl, hrow, hbe⟩ := hrel
          have hz := hbe.size
          by_cases hlt : k < ps.length
          · have hpv := pairV_at ps k hlt
            have e0 := (hbe.cell (p := ⟨g, k * 2, none⟩) hgl).trans ((HO.out.cellAt (k * 2) (by omega)).trans hpv.1)
            have e1 := (hbe.cell (p := ⟨g, k * 2 + 1, none⟩) hgl).trans ((HO.out.cellAt (k * 2 + 1) (by omega)).trans hpv.2)
            have hsn := Lib.hid (rsL_snoc op ps k hlt)
            have hm := HC.out _ (pair_mem ps k hlt)
            generalize ps.getD k (0, 0) = q at e0 e1 hsn hm hpv
            obtain ⟨q1, q2⟩ := q
            simp only at e0 e1 hsn hm
            have hop := Lib.hid (show op = 1 ∨ op = 2 ∨ op = 3 ∨ op = 4 ∧ ¬ q2 = 0 by have h1 := Hop2.out; have h2 := hm.2.2; omega)
            have hm1 := hm.1
            have hm2 := hm.2.1
            clear hpv hm
            go_wp2_with fail
            refine (unwrapped_i op q1 q2 _ hm1 hm2 hop.out).mono ?_
            rintro e w2 ⟨rfl, hb2⟩
            have hrow2 := below_own (hrow.alloc _) hb2
            have hbe2 : Below w1.heap.size w1 w2 := (hbe.alloc hz _).trans (hb2.mono (by simp; omega))
            have hz2' := hbe2.size
            clear hb2 hrow hbe
            go_wp2_with (at_builtin; refine wpList_append_own _ rfl _ _ 38 rfl w1.heap.size 3 i0 (.int .i64 0) 1 8 Try.underlying38 hi hz0 hz1 hz2 rfl (by decide) _ _ _ rfl (hrow2.alloc _) ⟨w2.heap.size, 0, none⟩ 1 1 [.int .i64 (rawN op q1 q2)] rfl rfl ?c1 ?c2 ?c3 ?c4 ?c5 ?_)
            case c1 =>
              intro j u hj
              match j, hj with
              | 0, hj => simp at hj; subst hj; simp [Addr.add]
            case c2 => intro u hu; simp at hu; subst hu; rfl
            case c3 => unfold maxLen; omega
            case c4 => omega
            case c5 => (try simp); omega
            intro v' w3 hown' hgrow _
            have hbel : Below w1.heap.size w1 w3 := (hbe2.alloc hz2' _).grown hgrow (by simp; omega) (fun g hg => (hrow2.lt g hg).1)
            have hown2 : w3.ownsRow w1.heap.size 3 1 v' (k + 1) ((rsL op (ps.take (k + 1))).map (Value.int .i64)) := by rw [hsn.out, List.map_append]; exact hown'
            clear hown' hgrow hrow2 hbe2 e0 e1
            go_wp2_with fail
            go_roundw
            case rel => first | exact ⟨k + 1, by omega, by go_num, hown2, hbel⟩ | ((repeat apply Exists.intro); exact ⟨⟨k + 1, by omega, by go_num, hown2, hbel⟩, rfl⟩)
            case measure => simp [intOf] <;> omega
          · go_wp2_with fail
            go_meet
            obtain rfl : k = ps.length := by omega
            rw [List.take_length] at hrow
            exact ⟨_, rfl, by rw [HR.out]; exact ResAt.of_own (by rw [rsL_len]) hrow (by rw [rsL_len]; exact hl8), (hbe.cell (p := ⟨_, _, none⟩) hszw).trans b0, (hbe.cell (p := ⟨_, _, none⟩) hszw).trans b1, (hbe.frozen (p := ⟨_, _, none⟩) hszw).trans b2, (hbe.frozen (p := ⟨_, _, none⟩) hszw).trans b3, hBw.trans (hbe.mono (by omega))⟩
  case rest =>
    obtain ⟨wx, rfl, ⟨A, cap, rfl, hn, hg⟩, c0, c1, f0, f1, hB⟩ := hcut
    have hsz := blk c0
    rcases Nat.eq_zero_or_pos (resL op (al, ah) (bl, bh)).length with h0 | hpos
    · have hnl : resL op (al, ah) (bl, bh) = [] := List.eq_nil_of_length_eq_zero h0
      have hd := Lib.hid (doI_no (op := op) (a := (al, ah)) (b := (bl, bh)) (by have h := Hnil.out.1 hnl; intro k; have k2 := k.2.2; have e1 : bl = 0 := h.2.1; have e2 : bh = 0 := h.2.2; have e3 := h.1; subst e1; subst e2; subst e3; simp at k2))
      rw [h0]
      clear hg hn hnl Hlen
      go_wp2_with fail
      refine bodyPost_ret (by simp [results, Try.results12, go_sem, *]; try rfl) rfl ?_
      exact ⟨by rw [hd.out], by go_grown⟩
    · obtain ⟨g, rfl, hgl, hcs⟩ := hg hpos
      have hd := Lib.hid (doI_raw (op := op) ha hb (by
        have h1 := Hop.out
        have h4 : ¬ (op = 4 ∧ bl = 0 ∧ bh = 0) := fun h4 => by have h5 := Hnil.out.2 h4; rw [h5] at hpos; simp at hpos
        simp only; omega))
      have hends := Lib.hid (Hres.out (by intro h; rw [h] at hpos; simp at hpos))
      have HCS := Lib.hid hcs
      have e0 := hcs 0 hpos
      clear hg hcs
      generalize resL op (al, ah) (bl, bh) = rs at *
      have m0 := Lib.hid (show minL rs 0 = rs.getD 0 0 from rfl)
      have m1 := Lib.hid (show maxL rs 0 = rs.getD 0 0 from rfl)
      have hln : ((rs.length : Int) == 0) = false := by
        rw [beq_eq_false_iff_ne]; omega
      have hp1 : (0 : Int) < (rs.length : Int) := by omega
      go_wp2_with fail
      go_quiet (fail)
      go_wp2_with fail
      go_loop [11, 12, 70] (fun lo hi i => ∃ k : Nat, k ≤ rs.length ∧ i = .int .i64 k ∧ lo = .int .i64 (minL rs k) ∧ hi = .int .i64 (maxL rs k)) (fun _ _ i => rs.length - (intOf i).toNat)
      case atStart => exact ⟨0, by omega, rfl, by simp [minL, hpos], by simp [maxL, hpos]⟩
      case round =>
        obtain ⟨k, hk, rfl, rfl, rfl⟩ := hrel
        by_cases hlt : k < rs.length
        · have hcell := HCS.out k hlt
          have S1 := Lib.hid (minL_succ rs k hlt)
          have S2 := Lib.hid (maxL_succ rs k hlt)
          generalize rs.getD k 0 = n at hcell S1 S2
          generalize minL rs k = lo at S1 ⊢
          generalize maxL rs k = hi at S2 ⊢
          clear e0 m0 m1
          go_wp2_with fail
          all_goals
            go_round
            case rel => first | exact ⟨k + 1, by omega, by go_num, by rw [S1.out]; exact congrArg _ (by omega), by rw [S2.out]; exact congrArg _ (by omega)⟩ | ((repeat apply Exists.intro); exact ⟨⟨k + 1, by omega, by go_num, by rw [S1.out]; exact congrArg _ (by omega), by rw [S2.out]; exact congrArg _ (by omega)⟩, rfl⟩)
            case measure => simp [intOf] <;> omega
        · obtain rfl : k = rs.length := by omega
          clear e0 m0 m1
          go_wp2_with fail
          refine (itvFold_i _ _ _).mono ?_
          rintro e w3 ⟨rfl, hb3⟩
          have hB3 : Below w.heap.size w w3 := below_on (hB.trans (Joins.below_draws _ _ _)) hb3
          have d0 := (hb3.cell (p := ⟨w.heap.size + 1 + 1, 0, none⟩) hsz).trans c0
          have d1 := (hb3.cell (p := ⟨w.heap.size + 1 + 1, 1, none⟩) hsz).trans c1
          have d2 := (hb3.frozen (p := ⟨w.heap.size + 1 + 1, 0, none⟩) hsz).trans f0
          have d3 := (hb3.frozen (p := ⟨w.heap.size + 1 + 1, 1, none⟩) hsz).trans f1
          clear hb3 hB c0 c1 f0 f1
          go_wp2_with fail
          refine bodyPost_ret (by simp [results, Try.results12, go_sem, *]; try rfl) rfl ?_
          exact ⟨by rw [hd.out, hends.out.1, hends.out.2], by go_grown⟩
set_option maxHeartbeats 2000000 in
theorem itvDo_no1 (op al ah bl bh : Int) (h : okB (al, ah) (bl, bh) = false ∨ okB (al, ah) (bl, bh) = true ∧ arithB op = false) (w : World) : Calls Try.prog 12 #[.int .i64 op, .agg #[.int .i64 al, .int .i64 ah], .agg #[.int .i64 bl, .int .i64 bh]] w fun e w' => e = .returned (.tuple #[.agg #[.int .i64 0, .int .i64 0], .bool false]) ∧ Below w.heap.size w w' := by
  rcases h with ho | ⟨ho, hA⟩
  all_goals
    go_enter Try.func12, Try.ntmps12
    go_wp2_with (first | (go_at_call 38; refine (bothOk_i _ _ _ _ _).mono ?_; rintro e w' ⟨rfl, hb⟩; have hs0 := hb.size; have hB : Below w.heap.size w w' := below_on (by ((try go_split_ands); go_grown)) hb; have hz := hB.size; have hc := bcell hb; (try simp only [World.size_alloc, World.size_setCell, World.size_drew] at hs0); (first | have m0 := up_7 m0 (show _ ≤ w'.heap.size by omega) | have m0 := up_6 m0 (show _ ≤ w'.heap.size by omega) | have m0 := up_5 m0 (show _ ≤ w'.heap.size by omega) | have m0 := up_4 m0 (show _ ≤ w'.heap.size by omega) | have m0 := up_3 m0 (show _ ≤ w'.heap.size by omega) | have m0 := up_2 m0 (show _ ≤ w'.heap.size by omega) | have m0 := up_1 m0 (show _ ≤ w'.heap.size by omega) | skip); (first | have m1 := up_7 m1 (show _ ≤ w'.heap.size by omega) | have m1 := up_6 m1 (show _ ≤ w'.heap.size by omega) | have m1 := up_5 m1 (show _ ≤ w'.heap.size by omega) | have m1 := up_4 m1 (show _ ≤ w'.heap.size by omega) | have m1 := up_3 m1 (show _ ≤ w'.heap.size by omega) | have m1 := up_2 m1 (show _ ≤ w'.heap.size by omega) | have m1 := up_1 m1 (show _ ≤ w'.heap.size by omega) | skip); (first | have m2 := up_7 m2 (show _ ≤ w'.heap.size by omega) | have m2 := up_6 m2 (show _ ≤ w'.heap.size by omega) | have m2 := up_5 m2 (show _ ≤ w'.heap.size by omega) | have m2 := up_4 m2 (show _ ≤ w'.heap.size by omega) | have m2 := up_3 m2 (show _ ≤ w'.heap.size by omega) | have m2 := up_2 m2 (show _ ≤ w'.heap.size by omega) | have m2 := up_1 m2 (show _ ≤ w'.heap.size by omega) | skip); (first | have m3 := up_7 m3 (show _ ≤ w'.heap.size by omega) | have m3 := up_6 m3 (show _ ≤ w'.heap.size by omega) | have m3 := up_5 m3 (show _ ≤ w'.heap.size by omega) | have m3 := up_4 m3 (show _ ≤ w'.heap.size by omega) | have m3 := up_3 m3 (show _ ≤ w'.heap.size by omega) | have m3 := up_2 m3 (show _ ≤ w'.heap.size by omega) | have m3 := up_1 m3 (show _ ≤ w'.heap.size by omega) | skip); (first | have m4 := up_7 m4 (show _ ≤ w'.heap.size by omega) | have m4 := up_6 m4 (show _ ≤ w'.heap.size by omega) | have m4 := up_5 m4 (show _ ≤ w'.heap.size by omega) | have m4 := up_4 m4 (show _ ≤ w'.heap.size by omega) | have m4 := up_3 m4 (show _ ≤ w'.heap.size by omega) | have m4 := up_2 m4 (show _ ≤ w'.heap.size by omega) | have m4 := up_1 m4 (show _ ≤ w'.heap.size by omega) | skip); (first | have m5 := up_7 m5 (show _ ≤ w'.heap.size by omega) | have m5 := up_6 m5 (show _ ≤ w'.heap.size by omega) | have m5 := up_5 m5 (show _ ≤ w'.heap.size by omega) | have m5 := up_4 m5 (show _ ≤ w'.heap.size by omega) | have m5 := up_3 m5 (show _ ≤ w'.heap.size by omega) | have m5 := up_2 m5 (show _ ≤ w'.heap.size by omega) | have m5 := up_1 m5 (show _ ≤ w'.heap.size by omega) | skip); (first | (have mm := lt_7 hs0; (try have m5 := m4); (try have m4 := m3); (try have m3 := m2); (try have m2 := m1); (try have m1 := m0); have m0 := mm) | (have mm := lt_6 hs0; (try have m5 := m4); (try have m4 := m3); (try have m3 := m2); (try have m2 := m1); (try have m1 := m0); have m0 := mm) | (have mm := lt_5 hs0; (try have m5 := m4); (try have m4 := m3); (try have m3 := m2); (try have m2 := m1); (try have m1 := m0); have m0 := mm) | (have mm := lt_4 hs0; (try have m5 := m4); (try have m4 := m3); (try have m3 := m2); (try have m2 := m1); (try have m1 := m0); have m0 := mm) | (have mm := lt_3 hs0; (try have m5 := m4); (try have m4 := m3); (try have m3 := m2); (try have m2 := m1); (try have m1 := m0); have m0 := mm) | (have mm := lt_2 hs0; (try have m5 := m4); (try have m4 := m3); (try have m3 := m2); (try have m2 := m1); (try have m1 := m0); have m0 := mm) | (have mm := lt_1 hs0; (try have m5 := m4); (try have m4 := m3); (try have m3 := m2); (try have m2 := m1); (try have m1 := m0); have m0 := mm) | skip); clear hs0; clear hb) | (go_at_call 35; refine (isArith_i _ _).mono ?_; rintro e w' ⟨rfl, rfl⟩))
    refine bodyPost_ret (by simp [results, Try.results12, go_sem, *]; try rfl) rfl ?_
    exact ⟨rfl, by go_grown⟩
theorem itvDo_i (op al ah bl bh : Int) (w : World) : Calls Try.prog 12 #[.int .i64 op, .agg #[.int .i64 al, .int .i64 ah], .agg #[.int .i64 bl, .int .i64 bh]] w fun e w' => e = .returned (.tuple #[.agg #[.int .i64 (doI op (al, ah) (bl, bh)).1.1, .int .i64 (doI op (al, ah) (bl, bh)).1.2], .bool (doI op (al, ah) (bl, bh)).2]) ∧ Below w.heap.size w w' := by
  by_cases ho : okB (al, ah) (bl, bh) = true
  · have h2 := (okB_iff _ _).1 ho
    by_cases hA : arithB op = true
    · have := (arithB_iff op).1 hA
      exact itvDo_i2 op al ah bl bh h2.1 h2.2 (by omega) w
    · rw [doI_no (fun h => hA ((arithB_iff op).2 (by have := h.2.2; omega)))]
      exact itvDo_no1 op al ah bl bh (.inr ⟨ho, by simpa using hA⟩) w
  · rw [doI_no (fun h => ho ((okB_iff _ _).2 ⟨h.1, h.2.1⟩))]
    exact itvDo_no1 op al ah bl bh (.inl (by simpa using ho)) w
end Go.Proofs.Ytempklcflcpjaaa
