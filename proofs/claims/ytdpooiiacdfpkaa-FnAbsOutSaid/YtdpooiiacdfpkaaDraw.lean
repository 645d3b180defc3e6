/-
  The reference's draws: what a reader of bytes is, what one more pick does to it, and that every draw comes to an end with numbers that fit. No conditions but bounds on how far the reader has come.
-/
import Derived.Test.YtdpooiiacdfpkaaItv
namespace Go.Proofs.Ytdpooiiacdfpkaa
set_option linter.unusedSimpArgs false
set_option linter.unusedVariables false
open Go.ChangeShapes Go.WideShapes Go.ChangeAt Go.RowKit

/-- A Go integer of 64 bits. -/
def I64 (n : Int) : Prop := -9223372036854775808 ≤ n ∧ n ≤ 9223372036854775807

/-- In block rb lies a reader: its bytes, and the place p of the next pick. -/
structure Rd (w : World) (rb : Nat) (p : Int) : Prop where
  lo : 0 ≤ p
  hi : p ≤ 1000000000
  at' : ∃ (a : Option Addr) (len cap : Nat) (z : List Int), w.heap[rb]? = some (.cells #[.slice a len cap, .int .i64 p] 76 (0, 0)) ∧ IsRow .u8 w a len cap z ∧ ∀ x, a = some x → 0 < cap → x.block < rb

theorem add_block (x : Addr) (i : Nat) : (x.add i).block = x.block := by unfold Addr.add; split <;> rfl
theorem IsRow.mono {k : IntKind} {w w' : World} {a : Option Addr} {len cap : Nat} {z : List Int} (h : IsRow k w a len cap z)
    (hc : ∀ (p : Addr) v, (∀ x, a = some x → p.block = x.block) → w.cell? p = some v → w'.cell? p = some v) : IsRow k w' a len cap z := by
  rcases h with h | ⟨x, rfl, h1, h2, h3, h4, h5⟩
  · exact .inl h
  · exact .inr ⟨x, rfl, h1, h2, h3, fun i hi => hc _ _ (fun y hy => by cases hy; exact add_block _ _) (h4 i hi), h5⟩
theorem IsRow.le {k : IntKind} {w : World} {a : Option Addr} {len cap : Nat} {z : List Int} (h : IsRow k w a len cap z) : len ≤ cap := by
  rcases h with ⟨_, h1, h2, _⟩ | ⟨x, _, h1, _⟩ <;> omega
theorem IsRow.cut {k : IntKind} {w : World} {a : Option Addr} {len cap n : Nat} {z : List Int} (h : IsRow k w a len cap z) (hn : n < len) : IsRow k w a n cap z := by
  rcases h with ⟨_, h1, _⟩ | ⟨x, rfl, h1, h2, h3, h4, h5⟩
  · omega
  · exact .inr ⟨x, rfl, by omega, h2, h3, h4, h5⟩
/-- A new reader over bytes that came in. -/
theorem Rd.mk' {w : World} {a : Option Addr} {len cap : Nat} {z : List Int} (h : IsRow .u8 w a len cap z) : Rd (w.alloc (.cells #[.slice a len cap, .int .i64 0] 76)) w.heap.size 0 := by
  refine ⟨by omega, by omega, a, len, cap, z, heap_alloc_new w _, h.mono fun p v _ hv => (World.cell?_alloc_lt _ _ _ (World.block_lt_of_cell? w _ hv)).trans hv, fun x hx hc => ?_⟩
  rcases h with ⟨h1, h2, h3, h4⟩ | ⟨y, h0, h1, h2, h3, h4, h5⟩
  · rw [h1] at hx; cases hx
  · rw [h0] at hx
    cases hx
    have := World.block_lt_of_cell? w _ (h4 0 (by omega))
    simpa [Addr.add] using this

theorem Rd.lt {w : World} {rb : Nat} {p : Int} (h : Rd w rb p) : rb < w.heap.size := by
  obtain ⟨a, len, cap, z, hb, _⟩ := h.at'
  rcases Nat.lt_or_ge rb w.heap.size with h' | h'
  · exact h'
  · rw [Array.getElem?_eq_none h'] at hb; cases hb
/-- What keeps all blocks up to the reader's own keeps the reader. -/
theorem Rd.keep {w w' : World} {rb : Nat} {p : Int} (h : Rd w rb p) (hb : ∀ k, k ≤ rb → w'.heap[k]? = w.heap[k]?) : Rd w' rb p := by
  obtain ⟨a, len, cap, z, h1, h2, h3⟩ := h.at'
  refine ⟨h.lo, h.hi, a, len, cap, z, (hb rb (Nat.le_refl _)).trans h1, ?_, h3⟩
  rcases h2 with h2 | ⟨x, rfl, k1, k2, k3, k4, k5⟩
  · exact .inl h2
  · refine .inr ⟨x, rfl, k1, k2, k3, fun i hi => ?_, k5⟩
    have hx := h3 x rfl (by omega)
    exact (World.cell?_of_block (w := w) (hb _ (by rw [add_block]; omega))).trans (k4 i hi)
/-- A row of bytes that is not empty: its address and its cells, as the walk spells them. -/
theorem IsRow.open {w : World} {a : Option Addr} {len cap : Nat} {z : List Int} (h : IsRow .u8 w a len cap z) (hl : 0 < len) :
    ∃ b off, a = some ⟨b, off, none⟩ ∧ (∀ i, i < len → w.cell? ⟨b, off + i, none⟩ = some (.int .u8 (z[i]?.getD 0))) ∧ (∀ i : Nat, 0 ≤ z[i]?.getD 0 ∧ z[i]?.getD 0 ≤ 255) ∧ len ≤ 9223372036854775807 := by
  rcases h with ⟨_, h1, _⟩ | ⟨x, rfl, h1, h2, h3, h4, h5⟩
  · omega
  · obtain ⟨b, off, sp⟩ := x
    have h0 := h4 0 (by omega)
    have hs : sp = none := by simpa [Addr.add] using World.cell?_spot h0
    subst hs
    unfold maxLen at h2
    refine ⟨b, off, rfl, fun i hi => ?_, fun i => ?_, by omega⟩
    · have h := h4 i (by omega)
      rw [show (⟨b, off, none⟩ : Addr).add i = ⟨b, off + i, none⟩ by unfold Addr.add; split <;> simp_all] at h
      simpa using h
    · rcases Nat.lt_or_ge i z.length with hi | hi
      · rw [List.getElem?_eq_getElem hi]
        have := h5 _ (List.getElem_mem hi)
        simp only [Lit.wf, Bool.and_eq_true, decide_eq_true_eq] at this
        exact this
      · rw [List.getElem?_eq_none hi]; simp
/-- No byte lies in the reader's own block. -/
theorem rd_apart {w : World} {rb b o : Nat} {v : Int} {x y : Value} {t : TypeId} (hb : w.heap[rb]? = some (.cells #[x, y] t (0, 0))) (hx : ∀ n, x ≠ .int .u8 n) (hy : ∀ n, y ≠ .int .u8 n)
    (hc : w.cell? ⟨b, o, none⟩ = some (.int .u8 v)) : b ≠ rb := by
  rintro rfl
  rw [Joins.cell_of_block hb] at hc
  match o, hc with
  | 0, hc => simp at hc; exact hx _ hc
  | 1, hc => simp at hc; exact hy _ hc
  | n + 2, hc => simp at hc
theorem Rd.alloc {w : World} {rb : Nat} {p : Int} (h : Rd w rb p) (o : Obj) : Rd (w.alloc o) rb p := h.keep fun k hk => Below.heap_alloc _ _ _ (by have := h.lt; omega)
theorem Rd.drewN {w : World} {rb : Nat} {p : Int} (h : Rd w rb p) (n : Nat) : Rd (w.drewN n) rb p := h.keep fun _ _ => rfl
theorem Rd.drew {w : World} {rb : Nat} {p : Int} (h : Rd w rb p) : Rd w.drew rb p := h.keep fun _ _ => rfl
theorem Rd.below {w w' : World} {rb : Nat} {p : Int} (h : Rd w rb p) (hb : Below w.heap.size w w') : Rd w' rb p := h.keep fun k hk => hb.block k (by have := h.lt; omega)
theorem Rd.setCell {w : World} {rb : Nat} {p : Int} (h : Rd w rb p) {q : Addr} (hq : rb < q.block) (v : Value) : Rd (w.setCell q v) rb p :=
  h.keep fun k hk => Below.heap_setCell _ _ _ _ (by omega)

theorem xor_bd (a b : Nat) (ha : a < 4611686018427387904) (hb : b < 4611686018427387904) : 0 ≤ bits .xor .i64 (a : Int) (b : Int) ∧ bits .xor .i64 (a : Int) (b : Int) ≤ 9223372036854775807 := by
  have hx : a ^^^ b < 2 ^ 62 := Nat.xor_lt_two_pow (by omega) (by omega)
  have h1 : (BitVec.ofInt 64 (a : Int)).toNat = a := by
    rw [BitVec.ofInt_natCast, BitVec.toNat_ofNat]; exact Nat.mod_eq_of_lt (by omega)
  have h2 : (BitVec.ofInt 64 (b : Int)).toNat = b := by
    rw [BitVec.ofInt_natCast, BitVec.toNat_ofNat]; exact Nat.mod_eq_of_lt (by omega)
  have e : bits .xor .i64 (a : Int) (b : Int) = IntKind.i64.wrap ((a ^^^ b : Nat) : Int) := by
    show IntKind.i64.wrap ((BitVec.ofInt 64 (a : Int) ^^^ BitVec.ofInt 64 (b : Int)).toNat : Int) = _
    rw [BitVec.toNat_xor, h1, h2]
  rw [e, IntKind.wrap_i64]
  omega

/-- What a pick of n gives. -/
def Pick (n x : Int) : Prop := 0 ≤ x ∧ (1 ≤ n → x < n) ∧ (n < 1 → x = 0)
theorem pick_tmod {n y : Int} (hn : 1 ≤ n) (hy : 0 ≤ y) : Pick n (y.tmod n) := by
  rw [tmod_pos _ hy]
  exact ⟨Int.emod_nonneg _ (by omega), fun _ => Int.emod_lt_of_pos _ (by omega), fun h => by omega⟩
theorem mix_pick {n x y : Int} {q len : Nat} (hn : 1 ≤ n) (hq : (q : Int) ≤ 999999999) (hx : 0 ≤ x ∧ x ≤ 255) (hy : 0 ≤ y ∧ y ≤ 255) (_hl : 0 < len) :
    Pick n ((bits .xor .i64 (wrap64 (x * 131 + y * 1117 + (q : Int) * 29 + wrap64 (wrap64 ((q : Int) / (len : Int)) * 53))) (wrap64 ((wrap64 (x * 131 + y * 1117 + (q : Int) * 29 + wrap64 (wrap64 ((q : Int) / (len : Int)) * 53))).tdiv 64))).tmod n) := by
  have hd0 : 0 ≤ (q : Int) / (len : Int) := Int.ediv_nonneg (by omega) (by omega)
  have hd1 : (q : Int) / (len : Int) ≤ (q : Int) := Int.ediv_le_self _ (by omega)
  generalize (q : Int) / (len : Int) = d at *
  rw [IntWalk.wrap64_in d ⟨by omega, by omega⟩, IntWalk.wrap64_in (d * 53) ⟨by omega, by omega⟩, IntWalk.wrap64_in (x * 131 + y * 1117 + (q : Int) * 29 + d * 53) ⟨by omega, by omega⟩]
  have hX : 0 ≤ x * 131 + y * 1117 + (q : Int) * 29 + d * 53 ∧ x * 131 + y * 1117 + (q : Int) * 29 + d * 53 < 4611686018427387904 := by omega
  generalize x * 131 + y * 1117 + (q : Int) * 29 + d * 53 = X at *
  obtain ⟨m, rfl⟩ := Int.eq_ofNat_of_zero_le hX.1
  rw [tdiv_pos _ hX.1, IntWalk.wrap64_in _ ⟨by omega, by omega⟩]
  exact pick_tmod hn (xor_bd m (m / 64) (by omega) (by omega)).1

/-- What a draw of an integer leaves: a number of its kind, the reader moved on by at most m places, all else as it was. -/
def DrawInt (rb : Nat) (p m : Int) (R : Int → Prop) (w : World) (e : Ending) (w' : World) : Prop :=
  ∃ x p' : Int, e = .returned (.int .i64 x) ∧ R x ∧ p ≤ p' ∧ p' ≤ p + m ∧ Rd w' rb p' ∧ But rb w w'
def DrawBool (rb : Nat) (p m : Int) (w : World) (e : Ending) (w' : World) : Prop :=
  ∃ (x : Bool) (p' : Int), e = .returned (.bool x) ∧ p ≤ p' ∧ p' ≤ p + m ∧ Rd w' rb p' ∧ But rb w w'
def DrawItv (rb : Nat) (p m : Int) (w : World) (e : Ending) (w' : World) : Prop :=
  ∃ x y p' : Int, e = .returned (.agg #[.int .i64 x, .int .i64 y]) ∧ I64 x ∧ I64 y ∧ p ≤ p' ∧ p' ≤ p + m ∧ Rd w' rb p' ∧ But rb w w'

set_option maxHeartbeats 400000 in
theorem open_s (a : Option Addr) (len cap : Nat) (z : List Int) (w : World) (h : IsRow .u8 w a len cap z) :
    Calls Try.prog 26 #[.slice a len cap] w fun e w' => e = .returned (.pointer (some ⟨w.heap.size, 0, none⟩)) ∧ Rd w' w.heap.size 0 ∧ Below w.heap.size w w' := by
  have hcap : len ≤ cap ∧ cap ≤ maxLen := by
    rcases h with ⟨_, h1, h2, _⟩ | ⟨_, _, h1, h2, _⟩
    · subst h1; subst h2; unfold maxLen; omega
    · exact ⟨h1, h2⟩
  unfold maxLen at hcap
  by_cases hl : 2000 < len
  · go_enter Try.func26, Try.ntmps26
    go_wp2
    go_ret
    exact ⟨rfl, Rd.mk' (h.cut hl), by go_grown⟩
  · go_enter Try.func26, Try.ntmps26
    go_wp2
    go_ret
    exact ⟨rfl, Rd.mk' h, by go_grown⟩
/-- The reader's step: its place is written. -/
theorem Rd.step {w : World} {rb : Nat} {p q : Int} {a : Option Addr} {len cap : Nat} {z : List Int} (hb : w.heap[rb]? = some (.cells #[.slice a len cap, .int .i64 p] 76 (0, 0))) (hr : IsRow .u8 w a len cap z)
    (hl : ∀ x, a = some x → 0 < cap → x.block < rb) (h0 : 0 ≤ q) (h1 : q ≤ 1000000000) : Rd (w.setCell ⟨rb, 1, none⟩ (.int .i64 q)) rb q := by
  refine ⟨h0, h1, a, len, cap, z, by rw [Joins.block_setCell hb]; simp, ?_, hl⟩
  rcases hr with h | ⟨x, rfl, k1, k2, k3, k4, k5⟩
  · exact .inl h
  · refine .inr ⟨x, rfl, k1, k2, k3, fun i hi => ?_, k5⟩
    have hx := hl x rfl (by omega)
    exact (World.cell?_of_block (w := w) (Below.heap_setCell w ⟨rb, 1, none⟩ _ _ (by rw [add_block]; simp only; omega))).trans (k4 i hi)
theorem But.drewN {b : Nat} {u w : World} (h : But b u w) (n : Nat) : But b u (w.drewN n) := ⟨h.os, h.tape, h.output, h.size, h.block⟩
theorem But.step {w : World} {rb : Nat} (o : Nat) (v : Value) : But rb w (w.setCell ⟨rb, o, none⟩ v) := (But.refl rb w).setCell (.inl rfl) v

set_option maxHeartbeats 1000000 in
theorem pick_s (rb : Nat) (p n : Int) (w : World) (h : Rd w rb p) (hp : p ≤ 999999999) (hn : I64 n) :
    Calls Try.prog 27 #[.pointer (some ⟨rb, 0, none⟩), .int .i64 n] w (DrawInt rb p 1 (Pick n) w) := by
  obtain ⟨a, len, cap, z, hb, hr, hxl⟩ := h.at'
  have h0 := h.lo
  have hst := Rd.step (q := p + 1) hb hr hxl (by omega) (by omega)
  have c0 : w.cell? ⟨rb, 0, none⟩ = some (.slice a len cap) := by rw [Joins.cell_of_block hb]; rfl
  have c1 : w.cell? ⟨rb, 1, none⟩ = some (.int .i64 p) := by rw [Joins.cell_of_block hb]; rfl
  have u1 := Joins.unfrozen_of_block hb 1
  unfold I64 at hn
  have hlen : len ≤ 9223372036854775807 := by
    rcases hr with ⟨_, h1, _⟩ | ⟨x, _, h1, h2, _⟩
    · omega
    · unfold maxLen at h2; omega
  have hbt := But.step (w := w) (rb := rb) 1 (.int .i64 (p + 1))
  by_cases h1 : n < 1
  · go_enter Try.func27, Try.ntmps27
    go_wp2
    go_ret
    unfold DrawInt
    exact ⟨0, p + 1, rfl, ⟨by omega, fun h => by omega, fun _ => rfl⟩, by omega, by omega, hst, hbt⟩
  · by_cases h2 : len = 0
    · subst h2
      go_enter Try.func27, Try.ntmps27
      go_wp2
      go_ret
      unfold DrawInt
      exact ⟨0, p + 1, rfl, ⟨by omega, fun h => by omega, fun _ => rfl⟩, by omega, by omega, hst, hbt⟩
    · obtain ⟨b, off, rfl, hcell, hz, _⟩ := hr.open (by omega)
      have hne : ((len : Int) == 0) = false := by simp; omega
      obtain ⟨q, rfl⟩ := Int.eq_ofNat_of_zero_le h0
      have hbr : b ≠ rb := by
        have := hxl _ rfl (by have := hr.le; omega)
        simp only at this
        omega
      have hrb := Ne.symm hbr
      by_cases hk : q < len
      · have hc := hcell q hk
        have hz0 := hz q
        clear hcell hz hxl
        go_enter Try.func27, Try.ntmps27
        go_wp2
        go_ret
        unfold DrawInt
        have hm := Int.emod_nonneg (z[q]?.getD 0) (show n ≠ 0 by omega)
        have hm2 := Int.emod_lt_of_pos (z[q]?.getD 0) (show 0 < n by omega)
        exact ⟨_, (q : Int) + 1, rfl, ⟨hm, fun _ => hm2, fun h => by omega⟩, by omega, by omega, hst, hbt⟩
      · have j1 : q % len < len := Nat.mod_lt _ (by omega)
        have j2 : (q * 7 + 3) % len < len := Nat.mod_lt _ (by omega)
        have hc1 := hcell _ j1
        have hc2 := hcell _ j2
        have hz1 := hz (q % len)
        have hz2 := hz ((q * 7 + 3) % len)
        clear hcell hz hxl
        have t1 : (q : Int).tmod (len : Int) = ((q % len : Nat) : Int) := by rw [tmod_pos _ (by omega)]; rfl
        have t2 : ((q : Int) * 7 + 3).tmod (len : Int) = (((q * 7 + 3) % len : Nat) : Int) := by rw [tmod_pos _ (by omega)]; rfl
        have T1 := Lib.hid t1
        have T2 := Lib.hid t2
        clear t1 t2
        generalize q % len = i1 at *
        generalize (q * 7 + 3) % len = i2 at *
        have b1 : (0 : Int) ≤ (i1 : Int) := by omega
        have b2 : (i1 : Int) < (len : Int) := by omega
        have b3 : (0 : Int) ≤ (i2 : Int) := by omega
        have b4 : (i2 : Int) < (len : Int) := by omega
        go_enter Try.func27, Try.ntmps27
        go_wp2_with fail
        have t1 := T1.out
        have t2 := T2.out
        go_quiet (fail)
        clear t1 t2
        go_wp2_with fail
        go_ret
        unfold DrawInt
        refine ⟨_, (q : Int) + 1, rfl, ?_, by omega, by omega, hst.drewN _, hbt.drewN _⟩
        exact mix_pick (by omega) (by omega) hz1 hz2 (by omega)
/-- Behind a draw: the blocks above the reader's read as before. -/
theorem butcell {rb : Nat} {W w1 : World} (hb : But rb W w1) : (∀ b o, rb < b → b < W.heap.size → w1.cell? ⟨b, o, none⟩ = W.cell? ⟨b, o, none⟩) ∧ (∀ b o, rb < b → b < W.heap.size → w1.frozen? ⟨b, o, none⟩ = W.frozen? ⟨b, o, none⟩) :=
  ⟨fun b o h1 h2 => hb.cell (p := ⟨b, o, none⟩) h2 (by simp only; omega), fun b o h1 h2 => hb.frozen (p := ⟨b, o, none⟩) h2 (by simp only; omega)⟩
theorem lt4 {x : Int} (h : Pick 4 x) : x = 0 ∨ x = 1 ∨ x = 2 ∨ x = 3 := by have := h.1; have := h.2.1 (by omega); omega
theorem lt8 {x : Int} (h : Pick 8 x) : x = 0 ∨ x = 1 ∨ x = 2 ∨ x = 3 ∨ x = 4 ∨ x = 5 ∨ x = 6 ∨ x = 7 := by have := h.1; have := h.2.1 (by omega); omega
theorem lt9 {x : Int} (h : Pick 9 x) : x = 0 ∨ x = 1 ∨ x = 2 ∨ x = 3 ∨ x = 4 ∨ x = 5 ∨ x = 6 ∨ x = 7 ∨ x = 8 := by have := h.1; have := h.2.1 (by omega); omega

set_option maxHeartbeats 2000000 in
theorem l20Num_s (rb : Nat) (p : Int) (w : World) (h : Rd w rb p) (hp : p ≤ 999999990) :
    Calls Try.prog 66 #[.pointer (some ⟨rb, 0, none⟩)] w (DrawInt rb p 3 (fun x => -32768 ≤ x ∧ x ≤ 32767) w) := by
  have hU := But.refl rb w
  have hq := h.lt
  go_enter Try.func66, Try.ntmps66
  go_wp2_with fail
  refine (pick_s _ _ 4 _ h (by omega) (by unfold I64; omega)).mono ?_
  rintro e w' ⟨x, p', rfl, hx, hp1, hp2, hR, hbt⟩; have hs0 := hbt.size; have hU : But rb w w' := But.trans (by (repeat' (first | with_reducible assumption | with_reducible refine But.alloc ?_ _ | with_reducible refine But.drew ?_ | with_reducible refine But.drewN ?_ _ | with_reducible refine But.setCell ?_ (Or.inr ?_) _ | (simp only []; omega) | with_reducible exact But.refl _ _))) hbt; have hz := hU.size; have hq := hR.lt; have hc := butcell hbt; (try simp only [World.size_alloc, World.size_setCell, World.size_drew] at hs0); (first | have m0 := up_7 m0 (show _ ≤ w'.heap.size by omega) | have m0 := up_6 m0 (show _ ≤ w'.heap.size by omega) | have m0 := up_5 m0 (show _ ≤ w'.heap.size by omega) | have m0 := up_4 m0 (show _ ≤ w'.heap.size by omega) | have m0 := up_3 m0 (show _ ≤ w'.heap.size by omega) | have m0 := up_2 m0 (show _ ≤ w'.heap.size by omega) | have m0 := up_1 m0 (show _ ≤ w'.heap.size by omega) | skip); (first | have m1 := up_7 m1 (show _ ≤ w'.heap.size by omega) | have m1 := up_6 m1 (show _ ≤ w'.heap.size by omega) | have m1 := up_5 m1 (show _ ≤ w'.heap.size by omega) | have m1 := up_4 m1 (show _ ≤ w'.heap.size by omega) | have m1 := up_3 m1 (show _ ≤ w'.heap.size by omega) | have m1 := up_2 m1 (show _ ≤ w'.heap.size by omega) | have m1 := up_1 m1 (show _ ≤ w'.heap.size by omega) | skip); (first | have m2 := up_7 m2 (show _ ≤ w'.heap.size by omega) | have m2 := up_6 m2 (show _ ≤ w'.heap.size by omega) | have m2 := up_5 m2 (show _ ≤ w'.heap.size by omega) | have m2 := up_4 m2 (show _ ≤ w'.heap.size by omega) | have m2 := up_3 m2 (show _ ≤ w'.heap.size by omega) | have m2 := up_2 m2 (show _ ≤ w'.heap.size by omega) | have m2 := up_1 m2 (show _ ≤ w'.heap.size by omega) | skip); (first | have m3 := up_7 m3 (show _ ≤ w'.heap.size by omega) | have m3 := up_6 m3 (show _ ≤ w'.heap.size by omega) | have m3 := up_5 m3 (show _ ≤ w'.heap.size by omega) | have m3 := up_4 m3 (show _ ≤ w'.heap.size by omega) | have m3 := up_3 m3 (show _ ≤ w'.heap.size by omega) | have m3 := up_2 m3 (show _ ≤ w'.heap.size by omega) | have m3 := up_1 m3 (show _ ≤ w'.heap.size by omega) | skip); (first | have m4 := up_7 m4 (show _ ≤ w'.heap.size by omega) | have m4 := up_6 m4 (show _ ≤ w'.heap.size by omega) | have m4 := up_5 m4 (show _ ≤ w'.heap.size by omega) | have m4 := up_4 m4 (show _ ≤ w'.heap.size by omega) | have m4 := up_3 m4 (show _ ≤ w'.heap.size by omega) | have m4 := up_2 m4 (show _ ≤ w'.heap.size by omega) | have m4 := up_1 m4 (show _ ≤ w'.heap.size by omega) | skip); (first | have m5 := up_7 m5 (show _ ≤ w'.heap.size by omega) | have m5 := up_6 m5 (show _ ≤ w'.heap.size by omega) | have m5 := up_5 m5 (show _ ≤ w'.heap.size by omega) | have m5 := up_4 m5 (show _ ≤ w'.heap.size by omega) | have m5 := up_3 m5 (show _ ≤ w'.heap.size by omega) | have m5 := up_2 m5 (show _ ≤ w'.heap.size by omega) | have m5 := up_1 m5 (show _ ≤ w'.heap.size by omega) | skip); (first | (have mm := lt_7 hs0; (try have m5 := m4); (try have m4 := m3); (try have m3 := m2); (try have m2 := m1); (try have m1 := m0); have m0 := mm) | (have mm := lt_6 hs0; (try have m5 := m4); (try have m4 := m3); (try have m3 := m2); (try have m2 := m1); (try have m1 := m0); have m0 := mm) | (have mm := lt_5 hs0; (try have m5 := m4); (try have m4 := m3); (try have m3 := m2); (try have m2 := m1); (try have m1 := m0); have m0 := mm) | (have mm := lt_4 hs0; (try have m5 := m4); (try have m4 := m3); (try have m3 := m2); (try have m2 := m1); (try have m1 := m0); have m0 := mm) | (have mm := lt_3 hs0; (try have m5 := m4); (try have m4 := m3); (try have m3 := m2); (try have m2 := m1); (try have m1 := m0); have m0 := mm) | (have mm := lt_2 hs0; (try have m5 := m4); (try have m4 := m3); (try have m3 := m2); (try have m2 := m1); (try have m1 := m0); have m0 := mm) | (have mm := lt_1 hs0; (try have m5 := m4); (try have m4 := m3); (try have m3 := m2); (try have m2 := m1); (try have m1 := m0); have m0 := mm) | skip); clear hs0; clear hbt
  rcases lt4 hx with rfl | rfl | rfl | rfl
  · clear hx
    go_wp2_with fail
    refine (pick_s _ _ 9 _ (hR.alloc _) (by omega) (by unfold I64; omega)).mono ?_
    rintro e w' ⟨x, p', rfl, hx, hp1, hp2, hR, hbt⟩; have hs0 := hbt.size; have hU : But rb w w' := But.trans (by (repeat' (first | with_reducible assumption | with_reducible refine But.alloc ?_ _ | with_reducible refine But.drew ?_ | with_reducible refine But.drewN ?_ _ | with_reducible refine But.setCell ?_ (Or.inr ?_) _ | (simp only []; omega) | with_reducible exact But.refl _ _))) hbt; have hz := hU.size; have hq := hR.lt; have hc := butcell hbt; (try simp only [World.size_alloc, World.size_setCell, World.size_drew] at hs0); (first | have m0 := up_7 m0 (show _ ≤ w'.heap.size by omega) | have m0 := up_6 m0 (show _ ≤ w'.heap.size by omega) | have m0 := up_5 m0 (show _ ≤ w'.heap.size by omega) | have m0 := up_4 m0 (show _ ≤ w'.heap.size by omega) | have m0 := up_3 m0 (show _ ≤ w'.heap.size by omega) | have m0 := up_2 m0 (show _ ≤ w'.heap.size by omega) | have m0 := up_1 m0 (show _ ≤ w'.heap.size by omega) | skip); (first | have m1 := up_7 m1 (show _ ≤ w'.heap.size by omega) | have m1 := up_6 m1 (show _ ≤ w'.heap.size by omega) | have m1 := up_5 m1 (show _ ≤ w'.heap.size by omega) | have m1 := up_4 m1 (show _ ≤ w'.heap.size by omega) | have m1 := up_3 m1 (show _ ≤ w'.heap.size by omega) | have m1 := up_2 m1 (show _ ≤ w'.heap.size by omega) | have m1 := up_1 m1 (show _ ≤ w'.heap.size by omega) | skip); (first | have m2 := up_7 m2 (show _ ≤ w'.heap.size by omega) | have m2 := up_6 m2 (show _ ≤ w'.heap.size by omega) | have m2 := up_5 m2 (show _ ≤ w'.heap.size by omega) | have m2 := up_4 m2 (show _ ≤ w'.heap.size by omega) | have m2 := up_3 m2 (show _ ≤ w'.heap.size by omega) | have m2 := up_2 m2 (show _ ≤ w'.heap.size by omega) | have m2 := up_1 m2 (show _ ≤ w'.heap.size by omega) | skip); (first | have m3 := up_7 m3 (show _ ≤ w'.heap.size by omega) | have m3 := up_6 m3 (show _ ≤ w'.heap.size by omega) | have m3 := up_5 m3 (show _ ≤ w'.heap.size by omega) | have m3 := up_4 m3 (show _ ≤ w'.heap.size by omega) | have m3 := up_3 m3 (show _ ≤ w'.heap.size by omega) | have m3 := up_2 m3 (show _ ≤ w'.heap.size by omega) | have m3 := up_1 m3 (show _ ≤ w'.heap.size by omega) | skip); (first | have m4 := up_7 m4 (show _ ≤ w'.heap.size by omega) | have m4 := up_6 m4 (show _ ≤ w'.heap.size by omega) | have m4 := up_5 m4 (show _ ≤ w'.heap.size by omega) | have m4 := up_4 m4 (show _ ≤ w'.heap.size by omega) | have m4 := up_3 m4 (show _ ≤ w'.heap.size by omega) | have m4 := up_2 m4 (show _ ≤ w'.heap.size by omega) | have m4 := up_1 m4 (show _ ≤ w'.heap.size by omega) | skip); (first | have m5 := up_7 m5 (show _ ≤ w'.heap.size by omega) | have m5 := up_6 m5 (show _ ≤ w'.heap.size by omega) | have m5 := up_5 m5 (show _ ≤ w'.heap.size by omega) | have m5 := up_4 m5 (show _ ≤ w'.heap.size by omega) | have m5 := up_3 m5 (show _ ≤ w'.heap.size by omega) | have m5 := up_2 m5 (show _ ≤ w'.heap.size by omega) | have m5 := up_1 m5 (show _ ≤ w'.heap.size by omega) | skip); (first | (have mm := lt_7 hs0; (try have m5 := m4); (try have m4 := m3); (try have m3 := m2); (try have m2 := m1); (try have m1 := m0); have m0 := mm) | (have mm := lt_6 hs0; (try have m5 := m4); (try have m4 := m3); (try have m3 := m2); (try have m2 := m1); (try have m1 := m0); have m0 := mm) | (have mm := lt_5 hs0; (try have m5 := m4); (try have m4 := m3); (try have m3 := m2); (try have m2 := m1); (try have m1 := m0); have m0 := mm) | (have mm := lt_4 hs0; (try have m5 := m4); (try have m4 := m3); (try have m3 := m2); (try have m2 := m1); (try have m1 := m0); have m0 := mm) | (have mm := lt_3 hs0; (try have m5 := m4); (try have m4 := m3); (try have m3 := m2); (try have m2 := m1); (try have m1 := m0); have m0 := mm) | (have mm := lt_2 hs0; (try have m5 := m4); (try have m4 := m3); (try have m3 := m2); (try have m2 := m1); (try have m1 := m0); have m0 := mm) | (have mm := lt_1 hs0; (try have m5 := m4); (try have m4 := m3); (try have m3 := m2); (try have m2 := m1); (try have m1 := m0); have m0 := mm) | skip); clear hs0; clear hbt
    rcases lt9 hx with rfl | rfl | rfl | rfl | rfl | rfl | rfl | rfl | rfl
    all_goals (clear hx; go_wp2_with fail; go_ret; unfold DrawInt; exact ⟨_, p', rfl, by omega, by omega, by omega, hR, hU⟩)
  · clear hx
    go_wp2_with fail
    refine (pick_s _ _ 12 _ hR (by omega) (by unfold I64; omega)).mono ?_
    rintro e w' ⟨x, p', rfl, hx, hp1, hp2, hR, hbt⟩; have hs0 := hbt.size; have hU : But rb w w' := But.trans (by (repeat' (first | with_reducible assumption | with_reducible refine But.alloc ?_ _ | with_reducible refine But.drew ?_ | with_reducible refine But.drewN ?_ _ | with_reducible refine But.setCell ?_ (Or.inr ?_) _ | (simp only []; omega) | with_reducible exact But.refl _ _))) hbt; have hz := hU.size; have hq := hR.lt; have hc := butcell hbt; (try simp only [World.size_alloc, World.size_setCell, World.size_drew] at hs0); (first | have m0 := up_7 m0 (show _ ≤ w'.heap.size by omega) | have m0 := up_6 m0 (show _ ≤ w'.heap.size by omega) | have m0 := up_5 m0 (show _ ≤ w'.heap.size by omega) | have m0 := up_4 m0 (show _ ≤ w'.heap.size by omega) | have m0 := up_3 m0 (show _ ≤ w'.heap.size by omega) | have m0 := up_2 m0 (show _ ≤ w'.heap.size by omega) | have m0 := up_1 m0 (show _ ≤ w'.heap.size by omega) | skip); (first | have m1 := up_7 m1 (show _ ≤ w'.heap.size by omega) | have m1 := up_6 m1 (show _ ≤ w'.heap.size by omega) | have m1 := up_5 m1 (show _ ≤ w'.heap.size by omega) | have m1 := up_4 m1 (show _ ≤ w'.heap.size by omega) | have m1 := up_3 m1 (show _ ≤ w'.heap.size by omega) | have m1 := up_2 m1 (show _ ≤ w'.heap.size by omega) | have m1 := up_1 m1 (show _ ≤ w'.heap.size by omega) | skip); (first | have m2 := up_7 m2 (show _ ≤ w'.heap.size by omega) | have m2 := up_6 m2 (show _ ≤ w'.heap.size by omega) | have m2 := up_5 m2 (show _ ≤ w'.heap.size by omega) | have m2 := up_4 m2 (show _ ≤ w'.heap.size by omega) | have m2 := up_3 m2 (show _ ≤ w'.heap.size by omega) | have m2 := up_2 m2 (show _ ≤ w'.heap.size by omega) | have m2 := up_1 m2 (show _ ≤ w'.heap.size by omega) | skip); (first | have m3 := up_7 m3 (show _ ≤ w'.heap.size by omega) | have m3 := up_6 m3 (show _ ≤ w'.heap.size by omega) | have m3 := up_5 m3 (show _ ≤ w'.heap.size by omega) | have m3 := up_4 m3 (show _ ≤ w'.heap.size by omega) | have m3 := up_3 m3 (show _ ≤ w'.heap.size by omega) | have m3 := up_2 m3 (show _ ≤ w'.heap.size by omega) | have m3 := up_1 m3 (show _ ≤ w'.heap.size by omega) | skip); (first | have m4 := up_7 m4 (show _ ≤ w'.heap.size by omega) | have m4 := up_6 m4 (show _ ≤ w'.heap.size by omega) | have m4 := up_5 m4 (show _ ≤ w'.heap.size by omega) | have m4 := up_4 m4 (show _ ≤ w'.heap.size by omega) | have m4 := up_3 m4 (show _ ≤ w'.heap.size by omega) | have m4 := up_2 m4 (show _ ≤ w'.heap.size by omega) | have m4 := up_1 m4 (show _ ≤ w'.heap.size by omega) | skip); (first | have m5 := up_7 m5 (show _ ≤ w'.heap.size by omega) | have m5 := up_6 m5 (show _ ≤ w'.heap.size by omega) | have m5 := up_5 m5 (show _ ≤ w'.heap.size by omega) | have m5 := up_4 m5 (show _ ≤ w'.heap.size by omega) | have m5 := up_3 m5 (show _ ≤ w'.heap.size by omega) | have m5 := up_2 m5 (show _ ≤ w'.heap.size by omega) | have m5 := up_1 m5 (show _ ≤ w'.heap.size by omega) | skip); (first | (have mm := lt_7 hs0; (try have m5 := m4); (try have m4 := m3); (try have m3 := m2); (try have m2 := m1); (try have m1 := m0); have m0 := mm) | (have mm := lt_6 hs0; (try have m5 := m4); (try have m4 := m3); (try have m3 := m2); (try have m2 := m1); (try have m1 := m0); have m0 := mm) | (have mm := lt_5 hs0; (try have m5 := m4); (try have m4 := m3); (try have m3 := m2); (try have m2 := m1); (try have m1 := m0); have m0 := mm) | (have mm := lt_4 hs0; (try have m5 := m4); (try have m4 := m3); (try have m3 := m2); (try have m2 := m1); (try have m1 := m0); have m0 := mm) | (have mm := lt_3 hs0; (try have m5 := m4); (try have m4 := m3); (try have m3 := m2); (try have m2 := m1); (try have m1 := m0); have m0 := mm) | (have mm := lt_2 hs0; (try have m5 := m4); (try have m4 := m3); (try have m3 := m2); (try have m2 := m1); (try have m1 := m0); have m0 := mm) | (have mm := lt_1 hs0; (try have m5 := m4); (try have m4 := m3); (try have m3 := m2); (try have m2 := m1); (try have m1 := m0); have m0 := mm) | skip); clear hs0; clear hbt
    have hx1 := hx.1
    have hx2 := hx.2.1 (by omega)
    clear hx
    go_wp2_with fail
    go_ret
    unfold DrawInt
    exact ⟨_, p', rfl, by omega, by omega, by omega, hR, hU⟩
  · clear hx
    go_wp2_with fail
    refine (pick_s _ _ 9 _ (hR.alloc _) (by omega) (by unfold I64; omega)).mono ?_
    rintro e w' ⟨x, p', rfl, hx, hp1, hp2, hR, hbt⟩; have hs0 := hbt.size; have hU : But rb w w' := But.trans (by (repeat' (first | with_reducible assumption | with_reducible refine But.alloc ?_ _ | with_reducible refine But.drew ?_ | with_reducible refine But.drewN ?_ _ | with_reducible refine But.setCell ?_ (Or.inr ?_) _ | (simp only []; omega) | with_reducible exact But.refl _ _))) hbt; have hz := hU.size; have hq := hR.lt; have hc := butcell hbt; (try simp only [World.size_alloc, World.size_setCell, World.size_drew] at hs0); (first | have m0 := up_7 m0 (show _ ≤ w'.heap.size by omega) | have m0 := up_6 m0 (show _ ≤ w'.heap.size by omega) | have m0 := up_5 m0 (show _ ≤ w'.heap.size by omega) | have m0 := up_4 m0 (show _ ≤ w'.heap.size by omega) | have m0 := up_3 m0 (show _ ≤ w'.heap.size by omega) | have m0 := up_2 m0 (show _ ≤ w'.heap.size by omega) | have m0 := up_1 m0 (show _ ≤ w'.heap.size by omega) | skip); (first | have m1 := up_7 m1 (show _ ≤ w'.heap.size by omega) | have m1 := up_6 m1 (show _ ≤ w'.heap.size by omega) | have m1 := up_5 m1 (show _ ≤ w'.heap.size by omega) | have m1 := up_4 m1 (show _ ≤ w'.heap.size by omega) | have m1 := up_3 m1 (show _ ≤ w'.heap.size by omega) | have m1 := up_2 m1 (show _ ≤ w'.heap.size by omega) | have m1 := up_1 m1 (show _ ≤ w'.heap.size by omega) | skip); (first | have m2 := up_7 m2 (show _ ≤ w'.heap.size by omega) | have m2 := up_6 m2 (show _ ≤ w'.heap.size by omega) | have m2 := up_5 m2 (show _ ≤ w'.heap.size by omega) | have m2 := up_4 m2 (show _ ≤ w'.heap.size by omega) | have m2 := up_3 m2 (show _ ≤ w'.heap.size by omega) | have m2 := up_2 m2 (show _ ≤ w'.heap.size by omega) | have m2 := up_1 m2 (show _ ≤ w'.heap.size by omega) | skip); (first | have m3 := up_7 m3 (show _ ≤ w'.heap.size by omega) | have m3 := up_6 m3 (show _ ≤ w'.heap.size by omega) | have m3 := up_5 m3 (show _ ≤ w'.heap.size by omega) | have m3 := up_4 m3 (show _ ≤ w'.heap.size by omega) | have m3 := up_3 m3 (show _ ≤ w'.heap.size by omega) | have m3 := up_2 m3 (show _ ≤ w'.heap.size by omega) | have m3 := up_1 m3 (show _ ≤ w'.heap.size by omega) | skip); (first | have m4 := up_7 m4 (show _ ≤ w'.heap.size by omega) | have m4 := up_6 m4 (show _ ≤ w'.heap.size by omega) | have m4 := up_5 m4 (show _ ≤ w'.heap.size by omega) | have m4 := up_4 m4 (show _ ≤ w'.heap.size by omega) | have m4 := up_3 m4 (show _ ≤ w'.heap.size by omega) | have m4 := up_2 m4 (show _ ≤ w'.heap.size by omega) | have m4 := up_1 m4 (show _ ≤ w'.heap.size by omega) | skip); (first | have m5 := up_7 m5 (show _ ≤ w'.heap.size by omega) | have m5 := up_6 m5 (show _ ≤ w'.heap.size by omega) | have m5 := up_5 m5 (show _ ≤ w'.heap.size by omega) | have m5 := up_4 m5 (show _ ≤ w'.heap.size by omega) | have m5 := up_3 m5 (show _ ≤ w'.heap.size by omega) | have m5 := up_2 m5 (show _ ≤ w'.heap.size by omega) | have m5 := up_1 m5 (show _ ≤ w'.heap.size by omega) | skip); (first | (have mm := lt_7 hs0; (try have m5 := m4); (try have m4 := m3); (try have m3 := m2); (try have m2 := m1); (try have m1 := m0); have m0 := mm) | (have mm := lt_6 hs0; (try have m5 := m4); (try have m4 := m3); (try have m3 := m2); (try have m2 := m1); (try have m1 := m0); have m0 := mm) | (have mm := lt_5 hs0; (try have m5 := m4); (try have m4 := m3); (try have m3 := m2); (try have m2 := m1); (try have m1 := m0); have m0 := mm) | (have mm := lt_4 hs0; (try have m5 := m4); (try have m4 := m3); (try have m3 := m2); (try have m2 := m1); (try have m1 := m0); have m0 := mm) | (have mm := lt_3 hs0; (try have m5 := m4); (try have m4 := m3); (try have m3 := m2); (try have m2 := m1); (try have m1 := m0); have m0 := mm) | (have mm := lt_2 hs0; (try have m5 := m4); (try have m4 := m3); (try have m3 := m2); (try have m2 := m1); (try have m1 := m0); have m0 := mm) | (have mm := lt_1 hs0; (try have m5 := m4); (try have m4 := m3); (try have m3 := m2); (try have m2 := m1); (try have m1 := m0); have m0 := mm) | skip); clear hs0; clear hbt
    rcases lt9 hx with rfl | rfl | rfl | rfl | rfl | rfl | rfl | rfl | rfl
    all_goals (clear hx; go_wp2_with fail; go_ret; unfold DrawInt; exact ⟨_, p', rfl, by omega, by omega, by omega, hR, hU⟩)
  · clear hx
    go_wp2_with fail
    refine (pick_s _ _ 256 _ hR (by omega) (by unfold I64; omega)).mono ?_
    rintro e w' ⟨x, p', rfl, hx, hp1, hp2, hR, hbt⟩; have hs0 := hbt.size; have hU : But rb w w' := But.trans (by (repeat' (first | with_reducible assumption | with_reducible refine But.alloc ?_ _ | with_reducible refine But.drew ?_ | with_reducible refine But.drewN ?_ _ | with_reducible refine But.setCell ?_ (Or.inr ?_) _ | (simp only []; omega) | with_reducible exact But.refl _ _))) hbt; have hz := hU.size; have hq := hR.lt; have hc := butcell hbt; (try simp only [World.size_alloc, World.size_setCell, World.size_drew] at hs0); (first | have m0 := up_7 m0 (show _ ≤ w'.heap.size by omega) | have m0 := up_6 m0 (show _ ≤ w'.heap.size by omega) | have m0 := up_5 m0 (show _ ≤ w'.heap.size by omega) | have m0 := up_4 m0 (show _ ≤ w'.heap.size by omega) | have m0 := up_3 m0 (show _ ≤ w'.heap.size by omega) | have m0 := up_2 m0 (show _ ≤ w'.heap.size by omega) | have m0 := up_1 m0 (show _ ≤ w'.heap.size by omega) | skip); (first | have m1 := up_7 m1 (show _ ≤ w'.heap.size by omega) | have m1 := up_6 m1 (show _ ≤ w'.heap.size by omega) | have m1 := up_5 m1 (show _ ≤ w'.heap.size by omega) | have m1 := up_4 m1 (show _ ≤ w'.heap.size by omega) | have m1 := up_3 m1 (show _ ≤ w'.heap.size by omega) | have m1 := up_2 m1 (show _ ≤ w'.heap.size by omega) | have m1 := up_1 m1 (show _ ≤ w'.heap.size by omega) | skip); (first | have m2 := up_7 m2 (show _ ≤ w'.heap.size by omega) | have m2 := up_6 m2 (show _ ≤ w'.heap.size by omega) | have m2 := up_5 m2 (show _ ≤ w'.heap.size by omega) | have m2 := up_4 m2 (show _ ≤ w'.heap.size by omega) | have m2 := up_3 m2 (show _ ≤ w'.heap.size by omega) | have m2 := up_2 m2 (show _ ≤ w'.heap.size by omega) | have m2 := up_1 m2 (show _ ≤ w'.heap.size by omega) | skip); (first | have m3 := up_7 m3 (show _ ≤ w'.heap.size by omega) | have m3 := up_6 m3 (show _ ≤ w'.heap.size by omega) | have m3 := up_5 m3 (show _ ≤ w'.heap.size by omega) | have m3 := up_4 m3 (show _ ≤ w'.heap.size by omega) | have m3 := up_3 m3 (show _ ≤ w'.heap.size by omega) | have m3 := up_2 m3 (show _ ≤ w'.heap.size by omega) | have m3 := up_1 m3 (show _ ≤ w'.heap.size by omega) | skip); (first | have m4 := up_7 m4 (show _ ≤ w'.heap.size by omega) | have m4 := up_6 m4 (show _ ≤ w'.heap.size by omega) | have m4 := up_5 m4 (show _ ≤ w'.heap.size by omega) | have m4 := up_4 m4 (show _ ≤ w'.heap.size by omega) | have m4 := up_3 m4 (show _ ≤ w'.heap.size by omega) | have m4 := up_2 m4 (show _ ≤ w'.heap.size by omega) | have m4 := up_1 m4 (show _ ≤ w'.heap.size by omega) | skip); (first | have m5 := up_7 m5 (show _ ≤ w'.heap.size by omega) | have m5 := up_6 m5 (show _ ≤ w'.heap.size by omega) | have m5 := up_5 m5 (show _ ≤ w'.heap.size by omega) | have m5 := up_4 m5 (show _ ≤ w'.heap.size by omega) | have m5 := up_3 m5 (show _ ≤ w'.heap.size by omega) | have m5 := up_2 m5 (show _ ≤ w'.heap.size by omega) | have m5 := up_1 m5 (show _ ≤ w'.heap.size by omega) | skip); (first | (have mm := lt_7 hs0; (try have m5 := m4); (try have m4 := m3); (try have m3 := m2); (try have m2 := m1); (try have m1 := m0); have m0 := mm) | (have mm := lt_6 hs0; (try have m5 := m4); (try have m4 := m3); (try have m3 := m2); (try have m2 := m1); (try have m1 := m0); have m0 := mm) | (have mm := lt_5 hs0; (try have m5 := m4); (try have m4 := m3); (try have m3 := m2); (try have m2 := m1); (try have m1 := m0); have m0 := mm) | (have mm := lt_4 hs0; (try have m5 := m4); (try have m4 := m3); (try have m3 := m2); (try have m2 := m1); (try have m1 := m0); have m0 := mm) | (have mm := lt_3 hs0; (try have m5 := m4); (try have m4 := m3); (try have m3 := m2); (try have m2 := m1); (try have m1 := m0); have m0 := mm) | (have mm := lt_2 hs0; (try have m5 := m4); (try have m4 := m3); (try have m3 := m2); (try have m2 := m1); (try have m1 := m0); have m0 := mm) | (have mm := lt_1 hs0; (try have m5 := m4); (try have m4 := m3); (try have m3 := m2); (try have m2 := m1); (try have m1 := m0); have m0 := mm) | skip); clear hs0; clear hbt
    have hx1 := hx.1
    have hx2 := hx.2.1 (by omega)
    clear hx
    go_wp2_with fail
    refine (pick_s _ _ 256 _ hR (by omega) (by unfold I64; omega)).mono ?_
    rintro e w' ⟨x, p', rfl, hx, hp1, hp2, hR, hbt⟩; have hs0 := hbt.size; have hU : But rb w w' := But.trans (by (repeat' (first | with_reducible assumption | with_reducible refine But.alloc ?_ _ | with_reducible refine But.drew ?_ | with_reducible refine But.drewN ?_ _ | with_reducible refine But.setCell ?_ (Or.inr ?_) _ | (simp only []; omega) | with_reducible exact But.refl _ _))) hbt; have hz := hU.size; have hq := hR.lt; have hc := butcell hbt; (try simp only [World.size_alloc, World.size_setCell, World.size_drew] at hs0); (first | have m0 := up_7 m0 (show _ ≤ w'.heap.size by omega) | have m0 := up_6 m0 (show _ ≤ w'.heap.size by omega) | have m0 := up_5 m0 (show _ ≤ w'.heap.size by omega) | have m0 := up_4 m0 (show _ ≤ w'.heap.size by omega) | have m0 := up_3 m0 (show _ ≤ w'.heap.size by omega) | have m0 := up_2 m0 (show _ ≤ w'.heap.size by omega) | have m0 := up_1 m0 (show _ ≤ w'.heap.size by omega) | skip); (first | have m1 := up_7 m1 (show _ ≤ w'.heap.size by omega) | have m1 := up_6 m1 (show _ ≤ w'.heap.size by omega) | have m1 := up_5 m1 (show _ ≤ w'.heap.size by omega) | have m1 := up_4 m1 (show _ ≤ w'.heap.size by omega) | have m1 := up_3 m1 (show _ ≤ w'.heap.size by omega) | have m1 := up_2 m1 (show _ ≤ w'.heap.size by omega) | have m1 := up_1 m1 (show _ ≤ w'.heap.size by omega) | skip); (first | have m2 := up_7 m2 (show _ ≤ w'.heap.size by omega) | have m2 := up_6 m2 (show _ ≤ w'.heap.size by omega) | have m2 := up_5 m2 (show _ ≤ w'.heap.size by omega) | have m2 := up_4 m2 (show _ ≤ w'.heap.size by omega) | have m2 := up_3 m2 (show _ ≤ w'.heap.size by omega) | have m2 := up_2 m2 (show _ ≤ w'.heap.size by omega) | have m2 := up_1 m2 (show _ ≤ w'.heap.size by omega) | skip); (first | have m3 := up_7 m3 (show _ ≤ w'.heap.size by omega) | have m3 := up_6 m3 (show _ ≤ w'.heap.size by omega) | have m3 := up_5 m3 (show _ ≤ w'.heap.size by omega) | have m3 := up_4 m3 (show _ ≤ w'.heap.size by omega) | have m3 := up_3 m3 (show _ ≤ w'.heap.size by omega) | have m3 := up_2 m3 (show _ ≤ w'.heap.size by omega) | have m3 := up_1 m3 (show _ ≤ w'.heap.size by omega) | skip); (first | have m4 := up_7 m4 (show _ ≤ w'.heap.size by omega) | have m4 := up_6 m4 (show _ ≤ w'.heap.size by omega) | have m4 := up_5 m4 (show _ ≤ w'.heap.size by omega) | have m4 := up_4 m4 (show _ ≤ w'.heap.size by omega) | have m4 := up_3 m4 (show _ ≤ w'.heap.size by omega) | have m4 := up_2 m4 (show _ ≤ w'.heap.size by omega) | have m4 := up_1 m4 (show _ ≤ w'.heap.size by omega) | skip); (first | have m5 := up_7 m5 (show _ ≤ w'.heap.size by omega) | have m5 := up_6 m5 (show _ ≤ w'.heap.size by omega) | have m5 := up_5 m5 (show _ ≤ w'.heap.size by omega) | have m5 := up_4 m5 (show _ ≤ w'.heap.size by omega) | have m5 := up_3 m5 (show _ ≤ w'.heap.size by omega) | have m5 := up_2 m5 (show _ ≤ w'.heap.size by omega) | have m5 := up_1 m5 (show _ ≤ w'.heap.size by omega) | skip); (first | (have mm := lt_7 hs0; (try have m5 := m4); (try have m4 := m3); (try have m3 := m2); (try have m2 := m1); (try have m1 := m0); have m0 := mm) | (have mm := lt_6 hs0; (try have m5 := m4); (try have m4 := m3); (try have m3 := m2); (try have m2 := m1); (try have m1 := m0); have m0 := mm) | (have mm := lt_5 hs0; (try have m5 := m4); (try have m4 := m3); (try have m3 := m2); (try have m2 := m1); (try have m1 := m0); have m0 := mm) | (have mm := lt_4 hs0; (try have m5 := m4); (try have m4 := m3); (try have m3 := m2); (try have m2 := m1); (try have m1 := m0); have m0 := mm) | (have mm := lt_3 hs0; (try have m5 := m4); (try have m4 := m3); (try have m3 := m2); (try have m2 := m1); (try have m1 := m0); have m0 := mm) | (have mm := lt_2 hs0; (try have m5 := m4); (try have m4 := m3); (try have m3 := m2); (try have m2 := m1); (try have m1 := m0); have m0 := mm) | (have mm := lt_1 hs0; (try have m5 := m4); (try have m4 := m3); (try have m3 := m2); (try have m2 := m1); (try have m1 := m0); have m0 := mm) | skip); clear hs0; clear hbt
    have hx3 := hx.1
    have hx4 := hx.2.1 (by omega)
    clear hx
    go_wp2_with fail
    go_ret
    unfold DrawInt
    exact ⟨_, p', rfl, by omega, by omega, by omega, hR, hU⟩
end Go.Proofs.Ytdpooiiacdfpkaa
