/-
  FnItvText: for every input the law returns true, and its arguments read as before. No conditions.
-/
import Derived.Test.YtheegkfidpknbaaDoorCard2
import Derived.Test.YtheegkfidpknbaaDoorDrawT2
import Derived.Test.YtheegkfidpknbaaDoorLaws
import Derived.Test.YtheegkfidpknbaaDoorQuietB
namespace Go.Proofs.YtheegkfidpknbaaDoor.fnItvText
set_option linter.unusedSimpArgs false
set_option linter.unusedVariables false
open Go.ChangeShapes Go.WideShapes Go.ChangeAt Go.RowKit
open Go.Shelf
open Go.Lib (itoa)
open Go.ChangeMaps (open_string shut_string)
open Go.Sort
theorem row_below {k : IntKind} {w w' : World} {a : Option Addr} {len cap : Nat} {z : List Int} (h : IsRow k w a len cap z) (hb : Below w.heap.size w w') : IsRow k w' a len cap z :=
  h.mono fun p v _ hv => (hb.cell (World.block_lt_of_cell? w _ hv)).trans hv
theorem iread_at {s : ByteArray} {m n : Int} {ok : Bool} (h : readI s.data.toList = ((m, n), ok)) (hs : s.size ≤ 1000) (w : World) (hT : Tab w) (hE : Errs w) (hM : Mx w) : Calls Tryd.prog 18 #[.string s] w fun e w' => e = .returned (.tuple #[.agg #[.int .i64 m, .int .i64 n], .bool ok]) ∧ Below w.heap.size w w' := by
  have k := itvRead_i s (by omega) w (Lib.hid hT) (Lib.hid hE) (Lib.hid hM)
  rw [h] at k
  exact k
theorem sread_at {s : ByteArray} {m n : Int} {ok : Bool} (h : readI s.data.toList = ((m, n), ok)) (hs : s.size ≤ 1000) (w : World) : Calls Tryd.prog 17 #[.string s] w fun e w' => e = .returned (.tuple #[.agg #[.int .i64 m, .int .i64 n], .bool ok]) ∧ Below w.heap.size w w' := by
  have k := itvRead_s s (by omega) w
  rw [h] at k
  exact k
theorem itext_at {lo hi : Int} {x : ByteArray} (h : (⟨(textI (lo, hi)).toArray⟩ : ByteArray) = x) (w : World) (hT : Tab w) : Calls Tryd.prog 22 #[.agg #[.int .i64 lo, .int .i64 hi]] w fun e w' => e = .returned (.string x) ∧ Below w.heap.size w w' := by
  have k := itvText_i lo hi w (Lib.hid hT)
  rw [h] at k
  exact k
theorem stext_at {lo hi : Int} {x : ByteArray} (h : (⟨(textI (lo, hi)).toArray⟩ : ByteArray) = x) (w : World) : Calls Tryd.prog 23 #[.agg #[.int .i64 lo, .int .i64 hi]] w fun e w' => e = .returned (.string x) ∧ Below w.heap.size w w' := by
  have k := itvText_s lo hi w
  rw [h] at k
  exact k
theorem iok_s_at {lo hi : Int} {x : Bool} (h : okI (lo, hi) = x) (w : World) : Calls Tryd.prog 24 #[.agg #[.int .i64 lo, .int .i64 hi]] w fun e w' => e = .returned (.bool x) ∧ Below w.heap.size w w' := by
  have k := itvOk_s lo hi w
  rw [h] at k
  exact k
theorem owOk_at (w : World) : Calls Tryd.prog 16 #[] w fun e w' => e = .returned (.bool true) ∧ Below w.heap.size w w' := (owOk_l w).mono fun e w' h => ⟨h.1, by rw [h.2]; exact Below.refl _ _⟩

set_option maxRecDepth 100000 in
set_option maxHeartbeats 8000000 in
theorem walk (a0 : Option Addr) (len0 cap0 : Nat) (z0 : List Int) (a1 : Option Addr) (len1 cap1 : Nat) (z1 : List Int) (w : World) (w0 : IsRow .u8 w a0 len0 cap0 z0) (w1 : IsRow .u8 w a1 len1 cap1 z1) (hT : Tab w) (hE : Errs w) (hM : Mx w) :
    Calls Tryd.prog 5 #[.slice a0 len0 cap0, .slice a1 len1 cap1] w fun e w' => e = .returned (.bool true) ∧ Below w.heap.size w w' := by
  go_enter Tryd.func5, Tryd.ntmps5
  have HT := Lib.hid hT
  have HE := Lib.hid hE
  have HM1 := Lib.hid hM
  clear hT hE hM
  go_wp2_with fail
  all_goals (try (go_ret; exact ⟨rfl, by go_grown⟩))
  refine (drawItvText_s _ _ _ _ _ w0).mono ?_
  rintro e wA ⟨al, ah, rfl, hBa⟩
  go_wp2_with fail
  refine (drawItvRead_s _ _ _ _ _ (row_alloc (row_below w1 hBa) _)).mono ?_
  rintro e wB ⟨s, rfl, hs, hBb⟩
  have q0 := hBb.cell (p := ⟨wA.heap.size, 0, none⟩) (by simp only [World.size_alloc]; omega)
  have q1 := hBb.cell (p := ⟨wA.heap.size, 1, none⟩) (by simp only [World.size_alloc]; omega)
  simp [go_sem] at q0 q1
  have hB : Below w.heap.size w wB := below_on (hBa.alloc hBa.size _) hBb
  clear hBa hBb
  obtain ⟨⟨⟨xl, xh⟩, ok⟩, hm⟩ : ∃ r, r = readI s.data.toList := ⟨_, rfl⟩
  have HS := Lib.hid hm.symm
  go_wp2_with fail
  refine (iread_at HS.out (by omega) _ (HT.out.below hB) (HE.out.below hB) (HM1.out.below hB)).mono ?_
  rintro e wC ⟨rfl, hBc⟩
  have r0 := (hBc.cell (p := ⟨wA.heap.size, 0, none⟩) (blk q0)).trans q0
  have r1 := (hBc.cell (p := ⟨wA.heap.size, 1, none⟩) (blk q0)).trans q1
  have hB2 := below_on hB hBc
  clear hB hBc q0 q1
  go_wp2_with fail
  refine (sread_at HS.out (by omega) _).mono ?_
  rintro e wD ⟨rfl, hBd⟩
  have d0 := keep_alloc (.cells #[.int .i64 xl, .int .i64 xh] 32) ((hBd.cell (p := ⟨wA.heap.size, 0, none⟩) (blk (keep_alloc (.cells #[.int .i64 xl, .int .i64 xh] 32) r0))).trans (keep_alloc (.cells #[.int .i64 xl, .int .i64 xh] 32) r0))
  have d1 := keep_alloc (.cells #[.int .i64 xl, .int .i64 xh] 32) ((hBd.cell (p := ⟨wA.heap.size, 1, none⟩) (blk (keep_alloc (.cells #[.int .i64 xl, .int .i64 xh] 32) r0))).trans (keep_alloc (.cells #[.int .i64 xl, .int .i64 xh] 32) r1))
  have d2 : (wD.alloc (.cells #[.int .i64 xl, .int .i64 xh] 32)).cell? ⟨wC.heap.size, 0, none⟩ = some (.int .i64 xl) := keep_alloc (.cells #[.int .i64 xl, .int .i64 xh] 32) ((hBd.cell (p := ⟨wC.heap.size, 0, none⟩) (by simp)).trans (by simp [go_sem]))
  have d3 : (wD.alloc (.cells #[.int .i64 xl, .int .i64 xh] 32)).cell? ⟨wC.heap.size, 1, none⟩ = some (.int .i64 xh) := keep_alloc (.cells #[.int .i64 xl, .int .i64 xh] 32) ((hBd.cell (p := ⟨wC.heap.size, 1, none⟩) (by simp)).trans (by simp [go_sem]))
  have d4 : (wD.alloc (.cells #[.int .i64 xl, .int .i64 xh] 32)).cell? ⟨wD.heap.size, 0, none⟩ = some (.int .i64 xl) := by simp [go_sem]
  have d5 : (wD.alloc (.cells #[.int .i64 xl, .int .i64 xh] 32)).cell? ⟨wD.heap.size, 1, none⟩ = some (.int .i64 xh) := by simp [go_sem]
  have hB3 := below_on (hB2.alloc hB2.size (.cells #[.int .i64 xl, .int .i64 xh] 32)) hBd
  have hBw : Below w.heap.size w (wD.alloc (.cells #[.int .i64 xl, .int .i64 xh] 32)) := hB3.alloc hB3.size (.cells #[.int .i64 xl, .int .i64 xh] 32)
  clear hBd hB2 hB3 r0 r1
  go_wp2_with fail
  generalize wD.alloc (.cells #[.int .i64 xl, .int .i64 xh] 32) = W0 at *
  have HT0 := Lib.hid (HT.out.below hBw)
  have HE0 := Lib.hid (HE.out.below hBw)
  have HM0 := Lib.hid (HM1.out.below hBw)
  have k0 := cell_regrown d0
  have k1 := cell_regrown d1
  have k2 := cell_regrown d2
  have k3 := cell_regrown d3
  have k4 := cell_regrown d4
  have k5 := cell_regrown d5
  have l0 := lt_regrown (blk d0)
  have l2 := lt_regrown (blk d2)
  have l4 := lt_regrown (blk d4)
  have b0 := blk d0
  have b2 := blk d2
  have b4 := blk d4
  rcases Bool.eq_false_or_eq_true (okI (al, ah)) with hn | hn
  · obtain ⟨x, hx⟩ : ∃ x : ByteArray, x = ⟨(textI (al, ah)).toArray⟩ := ⟨_, rfl⟩
    have hxl : x.data.toList = textI (al, ah) := by rw [hx]
    have hxs : x.size ≤ 1000 := by have h1 := textI_len (al, ah); rw [← hxl] at h1; have h2 : x.data.toList.length = x.size := (by simp); omega
    have HX := Lib.hid hx.symm
    have HR := Lib.hid (show readI x.data.toList = ((al, ah), true) by rw [hxl]; exact readI_text hn)
    have HN := Lib.hid hn
    clear hx hxl hn
    cases ok with
    | false =>
      clear hm
      go_wp2_with fail
      all_goals ((refine region_below (W0 := W0) mixed_ok (by kernel_rfl) (by first | exact below_regrown _ _ _ | exact Below.refl _ _ | go_grown) ?_); (repeat (go_big_quiet_step ((first | (go_at_call 22; with_reducible exact Calls.regrown_of (itext_at HX.out _ (HT0.out.below (by first | exact below_regrown _ _ _ | exact Below.refl _ _ | go_grown)))) | (go_at_call 23; with_reducible exact Calls.regrown_of (stext_at HX.out _)))))); (refine wpQuiet_nil ?_); (intro _ hq'); (obtain ⟨⟨dq, osq⟩, hq''⟩ := hq'); (subst hq''))
      all_goals go_wp2_with (first
      | (go_at_call 24; ((with_reducible refine (iok_s_at HN.out _).mono ?_); rintro e w' ⟨rfl, hb⟩; obtain ⟨⟨dq, osq⟩, hq''⟩ := regrown_on (W0 := W0) (by first | exact below_regrown _ _ _ | exact Below.refl _ _ | go_grown) hb; subst hq''; clear hb))
      | (go_at_call 22; ((with_reducible refine (itext_at HX.out _ (HT0.out.below (by first | exact below_regrown _ _ _ | exact Below.refl _ _ | go_grown))).mono ?_); rintro e w' ⟨rfl, hb⟩; obtain ⟨⟨dq, osq⟩, hq''⟩ := regrown_on (W0 := W0) (by first | exact below_regrown _ _ _ | exact Below.refl _ _ | go_grown) hb; subst hq''; clear hb))
      | (go_at_call 18; ((with_reducible refine (iread_at HR.out (by omega) _ (HT0.out.below (by first | exact below_regrown _ _ _ | exact Below.refl _ _ | go_grown)) (HE0.out.below (by first | exact below_regrown _ _ _ | exact Below.refl _ _ | go_grown)) (HM0.out.below (by first | exact below_regrown _ _ _ | exact Below.refl _ _ | go_grown))).mono ?_); rintro e wR ⟨rfl, hb⟩; have hBr : Below W0.heap.size W0 wR := below_on (by first | exact below_regrown _ _ _ | exact Below.refl _ _ | go_grown) hb; have c0r := (hBr.cell (p := ⟨wA.heap.size, 0, none⟩) b0).trans d0; have c1r := (hBr.cell (p := ⟨wA.heap.size, 1, none⟩) b0).trans d1; have zr := blk c0r; clear hb)))
      all_goals (go_ret; exact ⟨rfl, below_on hBw (by ((try go_split_ands); first | exact hBr.alloc hBr.size _ | exact below_regrown _ _ _ | exact Below.refl _ _ | go_grown))⟩)
    | true =>
      have h2 := readI_ok (l := s.data.toList) (by rw [← hm])
      rw [← hm] at h2
      have HM := Lib.hid (show (⟨(textI (xl, xh)).toArray⟩ : ByteArray) = s by rw [h2.2, mk_list])
      clear hm h2
      go_wp2_with fail
      all_goals ((refine region_below (W0 := W0) mixed_ok (by kernel_rfl) (by first | exact below_regrown _ _ _ | exact Below.refl _ _ | go_grown) ?_); (repeat (go_big_quiet_step ((first | (go_at_call 22; with_reducible exact Calls.regrown_of (itext_at HX.out _ (HT0.out.below (by first | exact below_regrown _ _ _ | exact Below.refl _ _ | go_grown)))) | (go_at_call 23; with_reducible exact Calls.regrown_of (stext_at HX.out _)))))); (refine wpQuiet_nil ?_); (intro _ hq'); (obtain ⟨⟨dq, osq⟩, hq''⟩ := hq'); (subst hq''))
      all_goals go_wp2_with (first
      | (go_at_call 22; ((with_reducible refine (itext_at HM.out _ (HT0.out.below (by first | exact below_regrown _ _ _ | exact Below.refl _ _ | go_grown))).mono ?_); rintro e w' ⟨rfl, hb⟩; obtain ⟨⟨dq, osq⟩, hq''⟩ := regrown_on (W0 := W0) (by first | exact below_regrown _ _ _ | exact Below.refl _ _ | go_grown) hb; subst hq''; clear hb))
      | (go_at_call 24; ((with_reducible refine (iok_s_at HN.out _).mono ?_); rintro e w' ⟨rfl, hb⟩; obtain ⟨⟨dq, osq⟩, hq''⟩ := regrown_on (W0 := W0) (by first | exact below_regrown _ _ _ | exact Below.refl _ _ | go_grown) hb; subst hq''; clear hb))
      | (go_at_call 22; ((with_reducible refine (itext_at HX.out _ (HT0.out.below (by first | exact below_regrown _ _ _ | exact Below.refl _ _ | go_grown))).mono ?_); rintro e w' ⟨rfl, hb⟩; obtain ⟨⟨dq, osq⟩, hq''⟩ := regrown_on (W0 := W0) (by first | exact below_regrown _ _ _ | exact Below.refl _ _ | go_grown) hb; subst hq''; clear hb))
      | (go_at_call 18; ((with_reducible refine (iread_at HR.out (by omega) _ (HT0.out.below (by first | exact below_regrown _ _ _ | exact Below.refl _ _ | go_grown)) (HE0.out.below (by first | exact below_regrown _ _ _ | exact Below.refl _ _ | go_grown)) (HM0.out.below (by first | exact below_regrown _ _ _ | exact Below.refl _ _ | go_grown))).mono ?_); rintro e wR ⟨rfl, hb⟩; have hBr : Below W0.heap.size W0 wR := below_on (by first | exact below_regrown _ _ _ | exact Below.refl _ _ | go_grown) hb; have c0r := (hBr.cell (p := ⟨wA.heap.size, 0, none⟩) b0).trans d0; have c1r := (hBr.cell (p := ⟨wA.heap.size, 1, none⟩) b0).trans d1; have zr := blk c0r; clear hb)))
      all_goals (go_ret; exact ⟨rfl, below_on hBw (by ((try go_split_ands); first | exact hBr.alloc hBr.size _ | exact below_regrown _ _ _ | exact Below.refl _ _ | go_grown))⟩)
  · have HX := Lib.hid (show (⟨(textI (al, ah)).toArray⟩ : ByteArray) = ⟨#[]⟩ by rw [textI_bad hn])
    have HN := Lib.hid hn
    clear hn
    cases ok with
    | false =>
      clear hm
      go_wp2_with fail
      all_goals ((refine region_below (W0 := W0) mixed_ok (by kernel_rfl) (by first | exact below_regrown _ _ _ | exact Below.refl _ _ | go_grown) ?_); (repeat (go_big_quiet_step ((first | (go_at_call 22; with_reducible exact Calls.regrown_of (itext_at HX.out _ (HT0.out.below (by first | exact below_regrown _ _ _ | exact Below.refl _ _ | go_grown)))) | (go_at_call 23; with_reducible exact Calls.regrown_of (stext_at HX.out _)))))); (refine wpQuiet_nil ?_); (intro _ hq'); (obtain ⟨⟨dq, osq⟩, hq''⟩ := hq'); (subst hq''))
      all_goals go_wp2_with (first
      | (go_at_call 24; ((with_reducible refine (iok_s_at HN.out _).mono ?_); rintro e w' ⟨rfl, hb⟩; obtain ⟨⟨dq, osq⟩, hq''⟩ := regrown_on (W0 := W0) (by first | exact below_regrown _ _ _ | exact Below.refl _ _ | go_grown) hb; subst hq''; clear hb))
      | (go_at_call 22; ((with_reducible refine (itext_at HX.out _ (HT0.out.below (by first | exact below_regrown _ _ _ | exact Below.refl _ _ | go_grown))).mono ?_); rintro e w' ⟨rfl, hb⟩; obtain ⟨⟨dq, osq⟩, hq''⟩ := regrown_on (W0 := W0) (by first | exact below_regrown _ _ _ | exact Below.refl _ _ | go_grown) hb; subst hq''; clear hb))
      | (go_at_call 16; ((with_reducible refine (owOk_at _).mono ?_); rintro e w' ⟨rfl, hb⟩; obtain ⟨⟨dq, osq⟩, hq''⟩ := regrown_on (W0 := W0) (by first | exact below_regrown _ _ _ | exact Below.refl _ _ | go_grown) hb; subst hq''; clear hb)))
      all_goals (go_ret; exact ⟨rfl, below_on hBw (by ((try go_split_ands); first | exact hBr.alloc hBr.size _ | exact below_regrown _ _ _ | exact Below.refl _ _ | go_grown))⟩)
    | true =>
      have h2 := readI_ok (l := s.data.toList) (by rw [← hm])
      rw [← hm] at h2
      have HM := Lib.hid (show (⟨(textI (xl, xh)).toArray⟩ : ByteArray) = s by rw [h2.2, mk_list])
      clear hm h2
      go_wp2_with fail
      all_goals ((refine region_below (W0 := W0) mixed_ok (by kernel_rfl) (by first | exact below_regrown _ _ _ | exact Below.refl _ _ | go_grown) ?_); (repeat (go_big_quiet_step ((first | (go_at_call 22; with_reducible exact Calls.regrown_of (itext_at HX.out _ (HT0.out.below (by first | exact below_regrown _ _ _ | exact Below.refl _ _ | go_grown)))) | (go_at_call 23; with_reducible exact Calls.regrown_of (stext_at HX.out _)))))); (refine wpQuiet_nil ?_); (intro _ hq'); (obtain ⟨⟨dq, osq⟩, hq''⟩ := hq'); (subst hq''))
      all_goals go_wp2_with (first
      | (go_at_call 22; ((with_reducible refine (itext_at HM.out _ (HT0.out.below (by first | exact below_regrown _ _ _ | exact Below.refl _ _ | go_grown))).mono ?_); rintro e w' ⟨rfl, hb⟩; obtain ⟨⟨dq, osq⟩, hq''⟩ := regrown_on (W0 := W0) (by first | exact below_regrown _ _ _ | exact Below.refl _ _ | go_grown) hb; subst hq''; clear hb))
      | (go_at_call 24; ((with_reducible refine (iok_s_at HN.out _).mono ?_); rintro e w' ⟨rfl, hb⟩; obtain ⟨⟨dq, osq⟩, hq''⟩ := regrown_on (W0 := W0) (by first | exact below_regrown _ _ _ | exact Below.refl _ _ | go_grown) hb; subst hq''; clear hb))
      | (go_at_call 22; ((with_reducible refine (itext_at HX.out _ (HT0.out.below (by first | exact below_regrown _ _ _ | exact Below.refl _ _ | go_grown))).mono ?_); rintro e w' ⟨rfl, hb⟩; obtain ⟨⟨dq, osq⟩, hq''⟩ := regrown_on (W0 := W0) (by first | exact below_regrown _ _ _ | exact Below.refl _ _ | go_grown) hb; subst hq''; clear hb))
      | (go_at_call 16; ((with_reducible refine (owOk_at _).mono ?_); rintro e w' ⟨rfl, hb⟩; obtain ⟨⟨dq, osq⟩, hq''⟩ := regrown_on (W0 := W0) (by first | exact below_regrown _ _ _ | exact Below.refl _ _ | go_grown) hb; subst hq''; clear hb)))
      all_goals (go_ret; exact ⟨rfl, below_on hBw (by ((try go_split_ands); first | exact hBr.alloc hBr.size _ | exact below_regrown _ _ _ | exact Below.refl _ _ | go_grown))⟩)
/-! ### The row, off the walk -/
set_option maxRecDepth 100000 in
theorem lifted (os : Os) (started : os.Started) (H : Type) (enc : TypeId × Value → H) :
    ReturnsInHanded {} Tryd.checked os 5 .any (fun w args => (Rows.fnItvTextSpec.pre enc Tryd.prog Tryd.f5 Rows.fnItvTextRow.domain false w args ∧ laidMetH Tryd.prog laid5 w) ∧ sizedMet enc Tryd.prog Tryd.f5 (OpenSpec.ofChange Rows.fnItvTextSpec) false w args)
      (Rows.fnItvTextSpec.post enc Tryd.prog Tryd.f5 false true false false) := by
  refine returns_and_shaped (C := Tryd.checked) (X := fun w _ => laidMetH Tryd.prog laid5 w) (fun _ _ _ hh h => h.of_heap hh) own started (by kernel_rfl) Tryd.func5
    (ChangeSpec.witness_shaped (enc := enc) (C := Tryd.checked) (os := os) (X := fun w _ => laidMetH Tryd.prog laid5 w) false (World.doorLaid Tryd.prog 62 os) #[.slice none 0 0, .slice none 0 0] 8 rfl (doorShape os _) (by kernel_rfl) (by kernel_rfl) (by kernel_rfl) (door5 os _)) ?_
  intro W base args ds gs before hval0 hW hcnd _ hL hsh _
  have hval : ∀ (j : Nat) t v, Tryd.f5.params[j]? = some t → args[j]? = some v → Value.okWide Tryd.prog W .any base t v := hval0
  have hW' := hW
  obtain ⟨p, q, hA0, hV, rfl, hfz, hnd⟩ := hW
  have hA : DataW.TrodAll enc Tryd.prog W 0 (fun _ => true) true Tryd.f5.params.toList args.toList ds p := hA0
  rw [Tryd.params5] at hA hval
  obtain ⟨v0, vs0, d0, ds0, p0, q0, hargs, rfl, rfl, h0, r0⟩ := trodAll_cons hA
  obtain ⟨v1, vs1, d1, ds1, p1, q1, rfl, rfl, rfl, h1, r1⟩ := trodAll_cons r0
  obtain ⟨rfl, rfl, rfl⟩ := trodAll_nil r1
  obtain rfl : args = #[v0, v1] := by cases args; simp_all
  obtain ⟨rfl, rfl⟩ := trodVars_none hV
  have k0 := h0
  have lt0 : ∀ x ∈ p0, x.block < W.heap.size := by obtain ⟨m, hm⟩ := k0; exact DataW.trod_lt m _ _ _ hm
  obtain ⟨a0, len0, cap0, rfl⟩ := okWide_slice Tryd.underlying22 (hval 0 22 v0 rfl rfl)
  obtain ⟨z0, w0⟩ : ∃ zs, IsRow .u8 W a0 len0 cap0 zs := by
    obtain ⟨fuel, hf⟩ := h0
    rcases open_ints Tryd.underlying22 Tryd.underlying5 (by kernel_rfl) hf with ⟨hcs, _⟩ | ⟨x, l, c, zs, hcs, _, hl, hm, hz, _, hcell, hwz⟩
    · simp [Value.cells] at hcs
      obtain ⟨rfl, rfl, rfl⟩ := hcs
      exact ⟨[], .inl ⟨rfl, rfl, rfl, rfl⟩⟩
    · simp [Value.cells] at hcs
      obtain ⟨rfl, rfl, rfl⟩ := hcs
      exact ⟨zs, .inr ⟨_, rfl, hl, hm, by simpa using hz, hcell, hwz⟩⟩
  have k1 := h1
  have lt1 : ∀ x ∈ p1, x.block < W.heap.size := by obtain ⟨m, hm⟩ := k1; exact DataW.trod_lt m _ _ _ hm
  obtain ⟨a1, len1, cap1, rfl⟩ := okWide_slice Tryd.underlying22 (hval 1 22 v1 rfl rfl)
  obtain ⟨z1, w1⟩ : ∃ zs, IsRow .u8 W a1 len1 cap1 zs := by
    obtain ⟨fuel, hf⟩ := h1
    rcases open_ints Tryd.underlying22 Tryd.underlying5 (by kernel_rfl) hf with ⟨hcs, _⟩ | ⟨x, l, c, zs, hcs, _, hl, hm, hz, _, hcell, hwz⟩
    · simp [Value.cells] at hcs
      obtain ⟨rfl, rfl, rfl⟩ := hcs
      exact ⟨[], .inl ⟨rfl, rfl, rfl, rfl⟩⟩
    · simp [Value.cells] at hcs
      obtain ⟨rfl, rfl, rfl⟩ := hcs
      exact ⟨zs, .inr ⟨_, rfl, hl, hm, by simpa using hz, hcell, hwz⟩⟩
  clear hA0 hval0
  refine (walk a0 len0 cap0 z0 a1 len1 cap1 z1 W w0 w1 (tab_of5 hL) (errs_of5 hL) (max_of hsh)).mono fun e W' ⟨he, bel⟩ => ?_
  subst he
  exact ⟨_, rfl, _, _, _, [], _, [], hW', trodAll_mk1 (shut_bool Tryd.underlying4 _), (trodAll_cons_mk (Below.trod laidOut (by kernel_rfl) (of_decide_eq_true (by kernel_rfl)) k0 bel lt0) (trodAll_cons_mk (Below.trod laidOut (by kernel_rfl) (of_decide_eq_true (by kernel_rfl)) k1 bel lt1) trodAll_mk0)), rfl, bel.frame _, fun h => by cases h⟩

theorem over : Rows.fnItvTextRow.holds Tryd.pinned (OpenSpec.ofChange Rows.fnItvTextSpec) :=
  OpenClaim.holds_of_wide 5 Tryd.f5 rfl rfl rfl rfl rfl rfl rfl ⟨rfl, rfl, rfl, rfl, rfl⟩ rfl rfl rfl rfl rfl (by kernel_rfl) Tryd.func5 (by kernel_rfl)
    (of_decide_eq_true (by kernel_rfl)) (by unfold Func.isWrapper; rw [if_neg (of_decide_eq_false (by kernel_rfl))]; exact ⟨rfl, rfl⟩)
    (fun os started H enc _ => lifted os started H enc)

/-- The given statement: the card. -/
theorem proved : Rows.FnItvTextCardSaid :=
  Claim7.holds_tied_plain_at .later [] [.data, .data, .data, .sentinel, .sentinel] true (true, "c6d6710b8addb08af1c15af4efa53f3943c27fa3bcc9d7a145ff502e859e6fd7") true
    over (fun _ h => by cases h) (by kernel_rfl) (fun _ h => by cases h) fnItvText_row_tie rfl ⟨rfl, rfl⟩ (by kernel_rfl) rfl
    (fun f fn hf hfn => by
      obtain rfl : f = 5 := Option.some.inj ((show Tryd.prog.funcNamed "loop.example/outwork/laws.FnItvText" = some 5 by kernel_rfl).symm.trans hf) |>.symm
      obtain rfl : fn = Tryd.f5 := (Option.some.inj (Tryd.func5.symm.trans hfn)).symm
      exact ⟨by kernel_rfl, fun j t ht => by
        rw [Tryd.params5] at ht
        have hm : t ∈ ([22, 22] : List TypeId) := by simpa using Array.mem_of_getElem? ht
        have hall : (([22, 22] : List TypeId).all fun u => !Tryd.prog.wantsStandIn u) = true := by kernel_rfl
        exact (show Tryd.prog.wantsStandIn t = false by simpa using List.all_eq_true.1 hall t hm)⟩)
    (by kernel_rfl)
#print axioms proved
end Go.Proofs.YtheegkfidpknbaaDoor.fnItvText
