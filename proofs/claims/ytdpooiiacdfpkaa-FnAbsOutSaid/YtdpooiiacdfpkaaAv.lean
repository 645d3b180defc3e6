/-
  Plain laws about the join of states and about growing. No conditions but those that each theorem says.
-/
import Derived.Test.YtdpooiiacdfpkaaAu
import Derived.Test.YtdpooiiacdfpkaaPlainLaws2
namespace Go.Proofs.Ytdpooiiacdfpkaa
set_option linter.unusedSimpArgs false
set_option linter.unusedVariables false

def St.inn (s t : St) : Bool := absIn s.on s.z (s.lo, s.hi) t.on t.z (t.lo, t.hi)
theorem ok_parts {lo hi : Int} {z : List (Int × Int)} (h : St.ok ⟨true, lo, hi, z⟩ = true) : z.length = 4 ∧ okI (lo, hi) = true ∧ ∀ i, i < 4 → okI (z.getD i (0, 0)) = true := by
  simp only [St.ok] at h
  have h4 := four_of_ok h
  refine ⟨h4, ?_, fun i hi => ?_⟩
  · rcases Bool.eq_false_or_eq_true (okI (lo, hi)) with k | k
    · exact k
    · rw [absOk_cell k] at h; cases h
  · rcases Bool.eq_false_or_eq_true (okI (z.getD i (0, 0))) with k | k
    · exact k
    · rw [absOk_var (by omega) k] at h; cases h
theorem ok_mk {lo hi : Int} {z : List (Int × Int)} (h4 : z.length = 4) (hc : okI (lo, hi) = true) (hv : ∀ i, i < 4 → okI (z.getD i (0, 0)) = true) : St.ok ⟨true, lo, hi, z⟩ = true := absOk_yes h4 hc hv
theorem inn_mk {lo hi lo' hi' : Int} {z z' : List (Int × Int)} (h4 : z.length = 4) (h4' : z'.length = 4) (hc : inI (lo, hi) (lo', hi') = true) (hv : ∀ i, i < 4 → inI (z.getD i (0, 0)) (z'.getD i (0, 0)) = true) : St.inn ⟨true, lo, hi, z⟩ ⟨true, lo', hi', z'⟩ = true := by
  obtain ⟨c0, c1, _⟩ := (inI_iff _ _).1 hc
  have o0 : absOk true z (lo, hi) = true := absOk_yes h4 c0 fun j hj => ((inI_iff _ _).1 (hv j hj)).1
  have o1 : absOk true z' (lo', hi') = true := absOk_yes h4' c1 fun j hj => ((inI_iff _ _).1 (hv j hj)).2.1
  simp only [St.inn, absIn, o0, o1, hc, Bool.true_and, Bool.not_true, Bool.false_or, List.all_eq_true, List.mem_range]
  exact fun i hi => hv i hi
theorem inn_parts {lo hi lo' hi' : Int} {z z' : List (Int × Int)} (h : St.inn ⟨true, lo, hi, z⟩ ⟨true, lo', hi', z'⟩ = true) : inI (lo, hi) (lo', hi') = true ∧ ∀ i, i < 4 → inI (z.getD i (0, 0)) (z'.getD i (0, 0)) = true := by
  simp only [St.inn, absIn, Bool.and_eq_true, Bool.not_true, Bool.false_or, List.all_eq_true, List.mem_range, true_and] at h
  exact ⟨h.2.1, fun i hi => h.2.2 i hi⟩
theorem inn_nil {s : St} (h : s.ok = true) : St.inn St.nil_ s = true := by
  have h0 : absOk false [] ((0 : Int), (0 : Int)) = true := by decide
  simp only [St.ok] at h
  simp only [St.inn, St.nil_, absIn, h0, h, Bool.true_and, Bool.not_false, Bool.true_or]
theorem inn_ok {s t : St} (h : St.inn s t = true) : s.ok = true ∧ t.ok = true := by
  simp only [St.inn, absIn, Bool.and_eq_true] at h
  exact h.1
theorem inn_off {s : St} {lo hi : Int} {z : List (Int × Int)} (h : St.inn ⟨true, lo, hi, z⟩ s = true) : s.on = true := by
  simp only [St.inn, absIn, Bool.and_eq_true, Bool.not_true, Bool.false_or] at h
  exact h.2.1.1
theorem inn_self {s : St} (h : s.ok = true) : St.inn s s = true := by
  obtain ⟨on, lo, hi, z⟩ := s
  cases on
  · have e := ok_off h rfl
    rw [e]
    exact inn_nil (by decide)
  · obtain ⟨h4, hc, hv⟩ := ok_parts h
    exact inn_mk h4 h4 (in_self hc) fun i hi => in_self (hv i hi)
theorem nil_ok : St.nil_.ok = true := by decide
theorem stJoin_nil_l {b : St} (h : b.ok = true) : stJoin St.nil_ b = b := by unfold stJoin; rw [nil_ok, h]; rfl
theorem stWide_nil_l {b : St} (h : b.ok = true) : stWide St.nil_ b = b := by unfold stWide; rw [nil_ok, h]; rfl
theorem stJoin_nil_r {a : St} (h : a.ok = true) : stJoin a St.nil_ = a := by
  obtain ⟨on, lo, hi, z⟩ := a
  unfold stJoin
  rw [nil_ok, h]
  cases on
  · exact (ok_off h rfl).symm
  · rfl
theorem stWide_nil_r {a : St} (h : a.ok = true) : stWide a St.nil_ = a := by
  obtain ⟨on, lo, hi, z⟩ := a
  unfold stWide
  rw [nil_ok, h]
  cases on
  · exact (ok_off h rfl).symm
  · rfl
theorem stJoin_no {a b : St} (h : (a.ok && b.ok) = false) : stJoin a b = St.nil_ := by unfold stJoin; rw [h]; rfl
theorem stWide_no {a b : St} (h : (a.ok && b.ok) = false) : stWide a b = St.nil_ := by unfold stWide; rw [h]; rfl
theorem stJoin_on {lo hi lo' hi' : Int} {z z' : List (Int × Int)} (ha : St.ok ⟨true, lo, hi, z⟩ = true) (hb : St.ok ⟨true, lo', hi', z'⟩ = true) : stJoin ⟨true, lo, hi, z⟩ ⟨true, lo', hi', z'⟩ = ⟨true, (joinI (lo, hi) (lo', hi')).1, (joinI (lo, hi) (lo', hi')).2, eachJoin z z'⟩ := by unfold stJoin; rw [ha, hb]; rfl
theorem stWide_on {lo hi lo' hi' : Int} {z z' : List (Int × Int)} (ha : St.ok ⟨true, lo, hi, z⟩ = true) (hb : St.ok ⟨true, lo', hi', z'⟩ = true) : stWide ⟨true, lo, hi, z⟩ ⟨true, lo', hi', z'⟩ = ⟨true, (wideI (lo, hi) (lo', hi')).1, (wideI (lo, hi) (lo', hi')).2, eachWide z z'⟩ := by unfold stWide; rw [ha, hb]; rfl
theorem on_or {s : St} (h : s.ok = true) : s = St.nil_ ∨ ∃ lo hi z, s = ⟨true, lo, hi, z⟩ := by
  obtain ⟨on, lo, hi, z⟩ := s
  cases on
  · exact .inl (ok_off h rfl)
  · exact .inr ⟨lo, hi, z, rfl⟩
theorem st_join_ok (a b : St) : (stJoin a b).ok = true := by
  rcases Bool.eq_false_or_eq_true (a.ok && b.ok) with h | h
  · obtain ⟨ha, hb⟩ := Bool.and_eq_true_iff.1 h
    rcases on_or ha with rfl | ⟨lo, hi, z, rfl⟩
    · rw [stJoin_nil_l hb]; exact hb
    · rcases on_or hb with rfl | ⟨lo', hi', z', rfl⟩
      · rw [stJoin_nil_r ha]; exact ha
      · rw [stJoin_on ha hb]
        obtain ⟨_, c0, v0⟩ := ok_parts ha
        obtain ⟨_, c1, v1⟩ := ok_parts hb
        exact ok_mk (eachJoin_len _ _) (join_ok c0 c1) fun i hi => by rw [eachJoin_get _ _ hi]; exact join_ok (v0 i hi) (v1 i hi)
  · rw [stJoin_no h]; exact nil_ok
theorem st_wide_ok (a b : St) : (stWide a b).ok = true := by
  rcases Bool.eq_false_or_eq_true (a.ok && b.ok) with h | h
  · obtain ⟨ha, hb⟩ := Bool.and_eq_true_iff.1 h
    rcases on_or ha with rfl | ⟨lo, hi, z, rfl⟩
    · rw [stWide_nil_l hb]; exact hb
    · rcases on_or hb with rfl | ⟨lo', hi', z', rfl⟩
      · rw [stWide_nil_r ha]; exact ha
      · rw [stWide_on ha hb]
        obtain ⟨_, c0, v0⟩ := ok_parts ha
        obtain ⟨_, c1, v1⟩ := ok_parts hb
        exact ok_mk (eachWide_len _ _) (wide_ok c0 c1) fun i hi => by rw [eachWide_get _ _ hi]; exact wide_ok (v0 i hi) (v1 i hi)
  · rw [stWide_no h]; exact nil_ok
theorem st_join_comm {a b : St} (ha : a.ok = true) (hb : b.ok = true) : stJoin b a = stJoin a b := by
  rcases on_or ha with rfl | ⟨lo, hi, z, rfl⟩
  · rw [stJoin_nil_l hb, stJoin_nil_r hb]
  · rcases on_or hb with rfl | ⟨lo', hi', z', rfl⟩
    · rw [stJoin_nil_l ha, stJoin_nil_r ha]
    · rw [stJoin_on ha hb, stJoin_on hb ha, join_comm (lo', hi')]
      congr 1
      unfold eachJoin
      exact List.map_congr_left fun i _ => join_comm _ _
theorem st_join_l {a b : St} (ha : a.ok = true) (hb : b.ok = true) : St.inn a (stJoin a b) = true := by
  rcases on_or ha with rfl | ⟨lo, hi, z, rfl⟩
  · exact inn_nil (st_join_ok _ _)
  · rcases on_or hb with rfl | ⟨lo', hi', z', rfl⟩
    · rw [stJoin_nil_r ha]; exact inn_self ha
    · rw [stJoin_on ha hb]
      obtain ⟨l0, c0, v0⟩ := ok_parts ha
      obtain ⟨_, c1, v1⟩ := ok_parts hb
      exact inn_mk l0 (eachJoin_len _ _) (join_l c0 c1) fun i hi => by rw [eachJoin_get _ _ hi]; exact join_l (v0 i hi) (v1 i hi)
theorem st_join_r {a b : St} (ha : a.ok = true) (hb : b.ok = true) : St.inn b (stJoin a b) = true := by
  rw [← st_join_comm ha hb]
  exact st_join_l hb ha
theorem st_join_lub {a b c : St} (h : St.inn a c = true) (k : St.inn b c = true) : St.inn (stJoin a b) c = true := by
  obtain ⟨ha, hc⟩ := inn_ok h
  obtain ⟨hb, _⟩ := inn_ok k
  rcases on_or ha with rfl | ⟨lo, hi, z, rfl⟩
  · rw [stJoin_nil_l hb]; exact k
  · rcases on_or hb with rfl | ⟨lo', hi', z', rfl⟩
    · rw [stJoin_nil_r ha]; exact h
    · rw [stJoin_on ha hb]
      obtain ⟨on, lc, uc, zc⟩ := c
      have hon := inn_off h
      simp only at hon
      subst hon
      obtain ⟨h1, h2⟩ := inn_parts h
      obtain ⟨k1, k2⟩ := inn_parts k
      exact inn_mk (eachJoin_len _ _) (ok_parts hc).1 (join_lub h1 k1) fun i hi => by rw [eachJoin_get _ _ hi]; exact join_lub (h2 i hi) (k2 i hi)
theorem st_wide_l {a b : St} (ha : a.ok = true) (hb : b.ok = true) : St.inn a (stWide a b) = true := by
  rcases on_or ha with rfl | ⟨lo, hi, z, rfl⟩
  · exact inn_nil (st_wide_ok _ _)
  · rcases on_or hb with rfl | ⟨lo', hi', z', rfl⟩
    · rw [stWide_nil_r ha]; exact inn_self ha
    · rw [stWide_on ha hb]
      obtain ⟨l0, c0, v0⟩ := ok_parts ha
      obtain ⟨_, c1, v1⟩ := ok_parts hb
      exact inn_mk l0 (eachWide_len _ _) (wide_l c0 c1) fun i hi => by rw [eachWide_get _ _ hi]; exact wide_l (v0 i hi) (v1 i hi)
theorem st_wide_r {a b : St} (ha : a.ok = true) (hb : b.ok = true) : St.inn b (stWide a b) = true := by
  rcases on_or ha with rfl | ⟨lo, hi, z, rfl⟩
  · rw [stWide_nil_l hb]; exact inn_self hb
  · rcases on_or hb with rfl | ⟨lo', hi', z', rfl⟩
    · exact inn_nil (st_wide_ok _ _)
    · rw [stWide_on ha hb]
      obtain ⟨_, c0, v0⟩ := ok_parts ha
      obtain ⟨l1, c1, v1⟩ := ok_parts hb
      exact inn_mk l1 (eachWide_len _ _) (wide_r c0 c1) fun i hi => by rw [eachWide_get _ _ hi]; exact wide_r (v0 i hi) (v1 i hi)
theorem st_wide_join {a b : St} (ha : a.ok = true) (hb : b.ok = true) : St.inn (stJoin a b) (stWide a b) = true := st_join_lub (st_wide_l ha hb) (st_wide_r ha hb)
theorem list4 {z : List (Int × Int)} (h : z.length = 4) : (List.range 4).map (fun i => z.getD i (0, 0)) = z := by
  match z, h with
  | [a, b, c, d], _ => rfl
theorem st_wide_in {x b : St} (h : St.inn b x = true) : stWide x b = x := by
  obtain ⟨hb, hx⟩ := inn_ok h
  rcases on_or hb with rfl | ⟨lo', hi', z', rfl⟩
  · exact stWide_nil_r hx
  · obtain ⟨on, lc, uc, zc⟩ := x
    have hon := inn_off h
    simp only at hon
    subst hon
    obtain ⟨h1, h2⟩ := inn_parts h
    have h4 := (ok_parts hx).1
    rw [stWide_on hx hb, wide_in h1]
    congr 1
    conv => rhs; rw [← list4 h4]
    unfold eachWide
    exact List.map_congr_left fun i hi => wide_in (h2 i (List.mem_range.1 hi))
end Go.Proofs.Ytdpooiiacdfpkaa
