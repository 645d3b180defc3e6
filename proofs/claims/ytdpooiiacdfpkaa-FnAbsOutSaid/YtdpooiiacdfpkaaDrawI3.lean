/-
  The reference's draw of an instruction and a state: DrawAbsOut. No conditions.
-/
import Derived.Test.YtdpooiiacdfpkaaDrawI2
import Derived.Test.YtdpooiiacdfpkaaDrawS3
namespace Go.Proofs.Ytdpooiiacdfpkaa
set_option linter.unusedSimpArgs false
set_option linter.unusedVariables false
open Go.ChangeShapes Go.WideShapes Go.ChangeAt Go.RowKit Go.Sort

section
variable {w w' W : World} {V R A rb n : Nat} {p p' : Int} {c0 c1 c2 c3 c4 c5 c6 c7 : Value}
theorem keep8_drew (h : w.cell? ⟨V, 0, none⟩ = some c0 ∧ w.cell? ⟨V, 1, none⟩ = some c1 ∧ w.cell? ⟨V, 2, none⟩ = some c2 ∧ w.cell? ⟨V, 3, none⟩ = some c3 ∧ w.cell? ⟨V, 4, none⟩ = some c4 ∧ w.cell? ⟨V, 5, none⟩ = some c5 ∧ w.cell? ⟨V, 6, none⟩ = some c6 ∧ w.cell? ⟨V, 7, none⟩ = some c7) : w.drew.cell? ⟨V, 0, none⟩ = some c0 ∧ w.drew.cell? ⟨V, 1, none⟩ = some c1 ∧ w.drew.cell? ⟨V, 2, none⟩ = some c2 ∧ w.drew.cell? ⟨V, 3, none⟩ = some c3 ∧ w.drew.cell? ⟨V, 4, none⟩ = some c4 ∧ w.drew.cell? ⟨V, 5, none⟩ = some c5 ∧ w.drew.cell? ⟨V, 6, none⟩ = some c6 ∧ w.drew.cell? ⟨V, 7, none⟩ = some c7 := h
theorem keep8_put (hn : V ≠ R) (h : w.cell? ⟨V, 0, none⟩ = some c0 ∧ w.cell? ⟨V, 1, none⟩ = some c1 ∧ w.cell? ⟨V, 2, none⟩ = some c2 ∧ w.cell? ⟨V, 3, none⟩ = some c3 ∧ w.cell? ⟨V, 4, none⟩ = some c4 ∧ w.cell? ⟨V, 5, none⟩ = some c5 ∧ w.cell? ⟨V, 6, none⟩ = some c6 ∧ w.cell? ⟨V, 7, none⟩ = some c7) (a0 a1 a2 a3 a4 a5 a6 a7 : Int) : ((((((((w.setCell ⟨R, 0, none⟩ (.int .i64 a0)).setCell ⟨R, 1, none⟩ (.int .i64 a1)).setCell ⟨R, 2, none⟩ (.int .i64 a2)).setCell ⟨R, 3, none⟩ (.int .i64 a3)).setCell ⟨R, 4, none⟩ (.int .i64 a4)).setCell ⟨R, 5, none⟩ (.int .i64 a5)).setCell ⟨R, 6, none⟩ (.int .i64 a6)).setCell ⟨R, 7, none⟩ (.int .i64 a7)).cell? ⟨V, 0, none⟩ = some c0 ∧ ((((((((w.setCell ⟨R, 0, none⟩ (.int .i64 a0)).setCell ⟨R, 1, none⟩ (.int .i64 a1)).setCell ⟨R, 2, none⟩ (.int .i64 a2)).setCell ⟨R, 3, none⟩ (.int .i64 a3)).setCell ⟨R, 4, none⟩ (.int .i64 a4)).setCell ⟨R, 5, none⟩ (.int .i64 a5)).setCell ⟨R, 6, none⟩ (.int .i64 a6)).setCell ⟨R, 7, none⟩ (.int .i64 a7)).cell? ⟨V, 1, none⟩ = some c1 ∧ ((((((((w.setCell ⟨R, 0, none⟩ (.int .i64 a0)).setCell ⟨R, 1, none⟩ (.int .i64 a1)).setCell ⟨R, 2, none⟩ (.int .i64 a2)).setCell ⟨R, 3, none⟩ (.int .i64 a3)).setCell ⟨R, 4, none⟩ (.int .i64 a4)).setCell ⟨R, 5, none⟩ (.int .i64 a5)).setCell ⟨R, 6, none⟩ (.int .i64 a6)).setCell ⟨R, 7, none⟩ (.int .i64 a7)).cell? ⟨V, 2, none⟩ = some c2 ∧ ((((((((w.setCell ⟨R, 0, none⟩ (.int .i64 a0)).setCell ⟨R, 1, none⟩ (.int .i64 a1)).setCell ⟨R, 2, none⟩ (.int .i64 a2)).setCell ⟨R, 3, none⟩ (.int .i64 a3)).setCell ⟨R, 4, none⟩ (.int .i64 a4)).setCell ⟨R, 5, none⟩ (.int .i64 a5)).setCell ⟨R, 6, none⟩ (.int .i64 a6)).setCell ⟨R, 7, none⟩ (.int .i64 a7)).cell? ⟨V, 3, none⟩ = some c3 ∧ ((((((((w.setCell ⟨R, 0, none⟩ (.int .i64 a0)).setCell ⟨R, 1, none⟩ (.int .i64 a1)).setCell ⟨R, 2, none⟩ (.int .i64 a2)).setCell ⟨R, 3, none⟩ (.int .i64 a3)).setCell ⟨R, 4, none⟩ (.int .i64 a4)).setCell ⟨R, 5, none⟩ (.int .i64 a5)).setCell ⟨R, 6, none⟩ (.int .i64 a6)).setCell ⟨R, 7, none⟩ (.int .i64 a7)).cell? ⟨V, 4, none⟩ = some c4 ∧ ((((((((w.setCell ⟨R, 0, none⟩ (.int .i64 a0)).setCell ⟨R, 1, none⟩ (.int .i64 a1)).setCell ⟨R, 2, none⟩ (.int .i64 a2)).setCell ⟨R, 3, none⟩ (.int .i64 a3)).setCell ⟨R, 4, none⟩ (.int .i64 a4)).setCell ⟨R, 5, none⟩ (.int .i64 a5)).setCell ⟨R, 6, none⟩ (.int .i64 a6)).setCell ⟨R, 7, none⟩ (.int .i64 a7)).cell? ⟨V, 5, none⟩ = some c5 ∧ ((((((((w.setCell ⟨R, 0, none⟩ (.int .i64 a0)).setCell ⟨R, 1, none⟩ (.int .i64 a1)).setCell ⟨R, 2, none⟩ (.int .i64 a2)).setCell ⟨R, 3, none⟩ (.int .i64 a3)).setCell ⟨R, 4, none⟩ (.int .i64 a4)).setCell ⟨R, 5, none⟩ (.int .i64 a5)).setCell ⟨R, 6, none⟩ (.int .i64 a6)).setCell ⟨R, 7, none⟩ (.int .i64 a7)).cell? ⟨V, 6, none⟩ = some c6 ∧ ((((((((w.setCell ⟨R, 0, none⟩ (.int .i64 a0)).setCell ⟨R, 1, none⟩ (.int .i64 a1)).setCell ⟨R, 2, none⟩ (.int .i64 a2)).setCell ⟨R, 3, none⟩ (.int .i64 a3)).setCell ⟨R, 4, none⟩ (.int .i64 a4)).setCell ⟨R, 5, none⟩ (.int .i64 a5)).setCell ⟨R, 6, none⟩ (.int .i64 a6)).setCell ⟨R, 7, none⟩ (.int .i64 a7)).cell? ⟨V, 7, none⟩ = some c7 := by
  obtain ⟨h0, h1, h2, h3, h4, h5, h6, h7⟩ := h
  exact ⟨keep_set _ hn (keep_set _ hn (keep_set _ hn (keep_set _ hn (keep_set _ hn (keep_set _ hn (keep_set _ hn (keep_set _ hn h0))))))), keep_set _ hn (keep_set _ hn (keep_set _ hn (keep_set _ hn (keep_set _ hn (keep_set _ hn (keep_set _ hn (keep_set _ hn h1))))))), keep_set _ hn (keep_set _ hn (keep_set _ hn (keep_set _ hn (keep_set _ hn (keep_set _ hn (keep_set _ hn (keep_set _ hn h2))))))), keep_set _ hn (keep_set _ hn (keep_set _ hn (keep_set _ hn (keep_set _ hn (keep_set _ hn (keep_set _ hn (keep_set _ hn h3))))))), keep_set _ hn (keep_set _ hn (keep_set _ hn (keep_set _ hn (keep_set _ hn (keep_set _ hn (keep_set _ hn (keep_set _ hn h4))))))), keep_set _ hn (keep_set _ hn (keep_set _ hn (keep_set _ hn (keep_set _ hn (keep_set _ hn (keep_set _ hn (keep_set _ hn h5))))))), keep_set _ hn (keep_set _ hn (keep_set _ hn (keep_set _ hn (keep_set _ hn (keep_set _ hn (keep_set _ hn (keep_set _ hn h6))))))), keep_set _ hn (keep_set _ hn (keep_set _ hn (keep_set _ hn (keep_set _ hn (keep_set _ hn (keep_set _ hn (keep_set _ hn h7)))))))⟩
theorem keep8_put4 (hn : V ≠ R) (h : w.cell? ⟨V, 0, none⟩ = some c0 ∧ w.cell? ⟨V, 1, none⟩ = some c1 ∧ w.cell? ⟨V, 2, none⟩ = some c2 ∧ w.cell? ⟨V, 3, none⟩ = some c3 ∧ w.cell? ⟨V, 4, none⟩ = some c4 ∧ w.cell? ⟨V, 5, none⟩ = some c5 ∧ w.cell? ⟨V, 6, none⟩ = some c6 ∧ w.cell? ⟨V, 7, none⟩ = some c7) (u0 u1 u2 u3 : Value) : ((((w.setCell ⟨R, 0, none⟩ u0).setCell ⟨R, 1, none⟩ u1).setCell ⟨R, 2, none⟩ u2).setCell ⟨R, 3, none⟩ u3).cell? ⟨V, 0, none⟩ = some c0 ∧ ((((w.setCell ⟨R, 0, none⟩ u0).setCell ⟨R, 1, none⟩ u1).setCell ⟨R, 2, none⟩ u2).setCell ⟨R, 3, none⟩ u3).cell? ⟨V, 1, none⟩ = some c1 ∧ ((((w.setCell ⟨R, 0, none⟩ u0).setCell ⟨R, 1, none⟩ u1).setCell ⟨R, 2, none⟩ u2).setCell ⟨R, 3, none⟩ u3).cell? ⟨V, 2, none⟩ = some c2 ∧ ((((w.setCell ⟨R, 0, none⟩ u0).setCell ⟨R, 1, none⟩ u1).setCell ⟨R, 2, none⟩ u2).setCell ⟨R, 3, none⟩ u3).cell? ⟨V, 3, none⟩ = some c3 ∧ ((((w.setCell ⟨R, 0, none⟩ u0).setCell ⟨R, 1, none⟩ u1).setCell ⟨R, 2, none⟩ u2).setCell ⟨R, 3, none⟩ u3).cell? ⟨V, 4, none⟩ = some c4 ∧ ((((w.setCell ⟨R, 0, none⟩ u0).setCell ⟨R, 1, none⟩ u1).setCell ⟨R, 2, none⟩ u2).setCell ⟨R, 3, none⟩ u3).cell? ⟨V, 5, none⟩ = some c5 ∧ ((((w.setCell ⟨R, 0, none⟩ u0).setCell ⟨R, 1, none⟩ u1).setCell ⟨R, 2, none⟩ u2).setCell ⟨R, 3, none⟩ u3).cell? ⟨V, 6, none⟩ = some c6 ∧ ((((w.setCell ⟨R, 0, none⟩ u0).setCell ⟨R, 1, none⟩ u1).setCell ⟨R, 2, none⟩ u2).setCell ⟨R, 3, none⟩ u3).cell? ⟨V, 7, none⟩ = some c7 := by
  obtain ⟨h0, h1, h2, h3, h4, h5, h6, h7⟩ := h
  exact ⟨keep_set _ hn (keep_set _ hn (keep_set _ hn (keep_set _ hn h0))), keep_set _ hn (keep_set _ hn (keep_set _ hn (keep_set _ hn h1))), keep_set _ hn (keep_set _ hn (keep_set _ hn (keep_set _ hn h2))), keep_set _ hn (keep_set _ hn (keep_set _ hn (keep_set _ hn h3))), keep_set _ hn (keep_set _ hn (keep_set _ hn (keep_set _ hn h4))), keep_set _ hn (keep_set _ hn (keep_set _ hn (keep_set _ hn h5))), keep_set _ hn (keep_set _ hn (keep_set _ hn (keep_set _ hn h6))), keep_set _ hn (keep_set _ hn (keep_set _ hn (keep_set _ hn h7)))⟩
theorem but_chain8 (w : World) (r : Nat) (a0 a1 a2 a3 a4 a5 a6 a7 : Int) : But r w ((((((((w.setCell ⟨r, 0, none⟩ (.int .i64 a0)).setCell ⟨r, 1, none⟩ (.int .i64 a1)).setCell ⟨r, 2, none⟩ (.int .i64 a2)).setCell ⟨r, 3, none⟩ (.int .i64 a3)).setCell ⟨r, 4, none⟩ (.int .i64 a4)).setCell ⟨r, 5, none⟩ (.int .i64 a5)).setCell ⟨r, 6, none⟩ (.int .i64 a6)).setCell ⟨r, 7, none⟩ (.int .i64 a7)) :=
  ((((((((But.refl r w).setCell (.inl rfl) _).setCell (.inl rfl) _).setCell (.inl rfl) _).setCell (.inl rfl) _).setCell (.inl rfl) _).setCell (.inl rfl) _).setCell (.inl rfl) _).setCell (.inl rfl) _
theorem below_chain8 (h : Below n W w) (hr : n ≤ R) (a0 a1 a2 a3 a4 a5 a6 a7 : Int) : Below n W ((((((((w.setCell ⟨R, 0, none⟩ (.int .i64 a0)).setCell ⟨R, 1, none⟩ (.int .i64 a1)).setCell ⟨R, 2, none⟩ (.int .i64 a2)).setCell ⟨R, 3, none⟩ (.int .i64 a3)).setCell ⟨R, 4, none⟩ (.int .i64 a4)).setCell ⟨R, 5, none⟩ (.int .i64 a5)).setCell ⟨R, 6, none⟩ (.int .i64 a6)).setCell ⟨R, 7, none⟩ (.int .i64 a7)) :=
  (((((((h.setCell hr _).setCell hr _).setCell hr _).setCell hr _).setCell hr _).setCell hr _).setCell hr _).setCell hr _
theorem below_chain4 (h : Below n W w) (hr : n ≤ R) (u0 u1 u2 u3 : Value) : Below n W ((((w.setCell ⟨R, 0, none⟩ u0).setCell ⟨R, 1, none⟩ u1).setCell ⟨R, 2, none⟩ u2).setCell ⟨R, 3, none⟩ u3) :=
  (((h.setCell hr _).setCell hr _).setCell hr _).setCell hr _
/-- An instruction (in block V) and a state that are being drawn; the results' blocks A and A + 1 are still empty. -/
structure LO (W : World) (rb A V : Nat) (p : Int) (wr : World) : Prop where
  rd : Rd wr rb p
  but : But rb W wr
  kA : Blk wr A 24 #[.int .i64 0, .int .i64 0, .int .i64 0, .int .i64 0, .int .i64 0, .int .i64 0, .int .i64 0, .int .i64 0]
  kB : Blk wr (A + 1) 29 #[.bool false, .slice none 0 0, .int .i64 0, .int .i64 0]
  var : InsB wr V
  hV : rb < V
  hA : A + 1 < rb
theorem LO.next (h : LO W rb A V p w) (hR : Rd w' rb p') (hb : But rb w w') : LO W rb A V p' w' := by
  have h1 := h.hV; have h2 := h.hA
  obtain ⟨i0, i1, i2, i3, i4, i5, i6, i7, hv⟩ := h.var
  exact ⟨hR, h.but.trans hb, h.kA.but hb (by omega), h.kB.but hb (by omega), ⟨_, _, _, _, _, _, _, _, hv.but hb (by omega)⟩, h1, h2⟩
theorem LO.put (h : LO W rb A V p w) (hw : W.heap.size ≤ V) (a0 a1 a2 a3 a4 a5 a6 a7 : Int) : LO W rb A V p ((((((((w.setCell ⟨V, 0, none⟩ (.int .i64 a0)).setCell ⟨V, 1, none⟩ (.int .i64 a1)).setCell ⟨V, 2, none⟩ (.int .i64 a2)).setCell ⟨V, 3, none⟩ (.int .i64 a3)).setCell ⟨V, 4, none⟩ (.int .i64 a4)).setCell ⟨V, 5, none⟩ (.int .i64 a5)).setCell ⟨V, 6, none⟩ (.int .i64 a6)).setCell ⟨V, 7, none⟩ (.int .i64 a7)) := by
  have h1 := h.hV; have h2 := h.hA
  obtain ⟨i0, i1, i2, i3, i4, i5, i6, i7, hv⟩ := h.var
  exact ⟨h.rd.put8 (by omega) _ _ _ _ _ _ _ _, h.but.put8 hw _ _ _ _ _ _ _ _, h.kA.far8 (by omega) _ _ _ _ _ _ _ _, h.kB.far8 (by omega) _ _ _ _ _ _ _ _, ⟨_, _, _, _, _, _, _, _, hv.put8 _ _ _ _ _ _ _ _⟩, h1, h2⟩
theorem LO.ltV (h : LO W rb A V p w) : V < w.heap.size := by
  obtain ⟨i0, i1, i2, i3, i4, i5, i6, i7, hv⟩ := h.var
  exact hv.lt
end
/-- What a draw of an instruction and a state leaves. -/
def DrawOut (w : World) (e : Ending) (w' : World) : Prop :=
  ∃ (i0 i1 i2 i3 i4 i5 i6 i7 : Int) (on : Bool) (a : Option Addr) (len cap : Nat) (lo hi : Int) (z : List (Int × Int)), e = .returned (.tuple #[.agg #[.int .i64 i0, .int .i64 i1, .int .i64 i2, .int .i64 i3, .int .i64 i4, .int .i64 i5, .int .i64 i6, .int .i64 i7], .agg #[.bool on, .slice a len cap, .int .i64 lo, .int .i64 hi]]) ∧ Hid (RdI w' a len z ∧ AtHead a len cap) ∧ len ≤ 4 ∧ Below w.heap.size w w'
set_option maxRecDepth 100000 in
set_option maxHeartbeats 8000000 in
theorem drawAbsOut_s (a : Option Addr) (len cap : Nat) (z : List Int) (w : World) (hrow : IsRow .u8 w a len cap z) : Calls Try.prog 8 #[.slice a len cap] w (DrawOut w) := by
  go_enter Try.func8, Try.ntmps8
  go_wp2_with fail
  refine (open_s _ _ _ _ _ (row_alloc (row_alloc hrow _) _)).mono ?_
  rintro e w0 ⟨rfl, hR0, hb0⟩
  have kA : Blk w0 w.heap.size 24 #[.int .i64 0, .int .i64 0, .int .i64 0, .int .i64 0, .int .i64 0, .int .i64 0, .int .i64 0, .int .i64 0] := Blk.below ((Blk.new_at rfl).alloc _) hb0
  have kB : Blk w0 (w.heap.size + 1) 29 #[.bool false, .slice none 0 0, .int .i64 0, .int .i64 0] := Blk.below (Blk.new_at (by simp only [World.size_alloc])) hb0
  have hS : Below w.heap.size w w0 := below_on (((Below.refl w.heap.size w).alloc (Nat.le_refl _) _).alloc (by simp only [World.size_alloc]; omega) _) hb0
  simp only [World.size_alloc] at hR0
  have hzr := hR0.lt
  clear hb0 hrow
  have KA := Lib.hid kA
  have KB := Lib.hid kB
  clear kA kB
  go_wp2_with fail
  refine (pick_s (w.heap.size + 1 + 1) 0 4 _ hR0 (by omega) (by unfold I64; omega)).mono ?_
  rintro e w1 ⟨x, p1, rfl, hx, hq1, hq2, hR1, hb1⟩
  clear hx hR0
  have hz1 := hb1.size
  have hL : LO w0 (w.heap.size + 1 + 1) w.heap.size w1.heap.size p1 (w1.alloc (.cells #[.int .i64 12, .int .i64 0, .int .i64 x, .int .i64 0, .int .i64 0, .int .i64 0, .int .i64 0, .int .i64 0] 24)) := ⟨hR1.alloc _, hb1.alloc _, (KA.out.but hb1 (by omega)).alloc _, (KB.out.but hb1 (by omega)).alloc _, ⟨_, _, _, _, _, _, _, _, Blk.new _ _ _⟩, by omega, by omega⟩
  have HL := Lib.hid hL
  clear hL hR1 hb1 KA KB
  go_wp2_with fail
  refine (odd_s (w.heap.size + 1 + 1) p1 4 _ HL.out.rd (by omega) (by unfold I64; omega)).mono ?_
  rintro e w2 ⟨x, p2, rfl, hq3, hq4, hR2, hb2⟩
  have HM := Lib.hid (HL.out.next hR2 hb2); clear HL hR2 hb2; have HL := HM; clear HM
  cases x
  · go_upto_region 5 with fail
    have zV := HL.out.ltV
    have nA : w1.heap.size ≠ w.heap.size := by have := HL.out.hV; omega
    have nB : w1.heap.size ≠ w.heap.size + 1 := by have := HL.out.hV; omega
    obtain ⟨i0, i1, i2, i3, i4, i5, i6, i7, hv⟩ := HL.out.var
    obtain ⟨c0, c1, c2, c3, c4, c5, c6, c7⟩ := hv.eight
    have HV := Lib.hid hv
    clear hv
    go_region_held3 (fun w' => w'.cell? ⟨w1.heap.size, 0, none⟩ = some (.int .i64 i0) ∧ w'.cell? ⟨w1.heap.size, 1, none⟩ = some (.int .i64 i1) ∧ w'.cell? ⟨w1.heap.size, 2, none⟩ = some (.int .i64 i2) ∧ w'.cell? ⟨w1.heap.size, 3, none⟩ = some (.int .i64 i3) ∧ w'.cell? ⟨w1.heap.size, 4, none⟩ = some (.int .i64 i4) ∧ w'.cell? ⟨w1.heap.size, 5, none⟩ = some (.int .i64 i5) ∧ w'.cell? ⟨w1.heap.size, 6, none⟩ = some (.int .i64 i6) ∧ w'.cell? ⟨w1.heap.size, 7, none⟩ = some (.int .i64 i7)) (((try go_split_ands); first | (((with_reducible refine ⟨?_, ?_, ?_, ?_, ?_, ?_, ?_, ?_⟩) <;> with_reducible assumption)) | ((with_reducible refine keep8_drew ⟨?_, ?_, ?_, ?_, ?_, ?_, ?_, ?_⟩) <;> with_reducible assumption) | ((with_reducible refine keep8_put nA ⟨?_, ?_, ?_, ?_, ?_, ?_, ?_, ?_⟩ _ _ _ _ _ _ _ _) <;> with_reducible assumption) | ((with_reducible refine keep8_put4 nB ⟨?_, ?_, ?_, ?_, ?_, ?_, ?_, ?_⟩ _ _ _ _) <;> with_reducible assumption))) ((go_at_call 30; refine (l21State_s (w.heap.size + 1 + 1) p2 12 _ HL.out.rd.drew (by omega) (by unfold I64; omega)).mono ?_; rintro e w8 ⟨on, a0, len0, cap0, lo, hi, z0, p8, rfl, hz0, ha0, hl0, hab0, hq7, hq8, hR8, hb8⟩; (try simp only [World.size_drew] at hab0); clear c0 c1 c2 c3 c4 c5 c6 c7; obtain ⟨c0, c1, c2, c3, c4, c5, c6, c7⟩ := (HV.out.drew'.but hb8 (by have := HL.out.hV; omega)).eight; have HM := Lib.hid (HL.out.next hR8 ((But.refl _ _).drew.trans hb8)); have zA := HL.out.kA.lt; have zB := HL.out.kB.lt; clear HL hR8 hb8 HV; have HL := HM; clear HM; obtain ⟨r0, r1, r2, r3, r4, r5, r6, r7⟩ := HL.out.kA.eight; obtain ⟨s0, s1, s2, s3, s4, s5, s6, s7⟩ := HL.out.kA.free8; obtain ⟨g0, g1, g2, g3⟩ := HL.out.kB.four; obtain ⟨t0, t1, t2, t3⟩ := HL.out.kB.free))
    go_wp2_with fail
    refine bodyPost_ret (by simp [results, Try.results8, go_sem, *]; try rfl) rfl ?_
    unfold DrawOut
    exact ⟨_, _, _, _, _, _, _, _, on, a0, len0, cap0, lo, hi, z0, rfl, Lib.hid ⟨(hz0.out.but (but_chain8 _ w.heap.size _ _ _ _ _ _ _ _) (fun x hx => by have := hab0 x hx; omega)).but (but_put4 _ (w.heap.size + 1) _ _ _ _) (fun x hx => by have := hab0 x hx; omega), ha0⟩, hl0, below_chain4 (below_chain8 (HL.out.but.to_below hS (by omega) hS.size) (Nat.le_refl _) _ _ _ _ _ _ _ _) (by omega) _ _ _ _⟩
  · go_wp2_with fail
    refine (l20InsOr_s (w.heap.size + 1 + 1) p2 3 _ HL.out.rd (by omega) (by unfold I64; omega)).mono ?_
    rintro e w3 ⟨k0, k1, k2, k3, k4, k5, k6, k7, p3, rfl, hq5, hq6, hR3, hb3⟩
    have HM := Lib.hid (HL.out.next hR3 hb3); clear HL hR3 hb3; have HL := HM; clear HM
    obtain ⟨i0, i1, i2, i3, i4, i5, i6, i7, hv⟩ := HL.out.var; obtain ⟨c0, c1, c2, c3, c4, c5, c6, c7⟩ := hv.eight; obtain ⟨f0, f1, f2, f3, f4, f5, f6, f7⟩ := hv.free8; clear hv
    go_upto_region 5 with fail
    have HM := Lib.hid (HL.out.put hz1 k0 k1 k2 k3 k4 k5 k6 k7)
    clear HL c0 c1 c2 c3 c4 c5 c6 c7 f0 f1 f2 f3 f4 f5 f6 f7
    have HL := HM
    clear HM
    generalize ((((((((w3.setCell ⟨w1.heap.size, 0, none⟩ (.int .i64 k0)).setCell ⟨w1.heap.size, 1, none⟩ (.int .i64 k1)).setCell ⟨w1.heap.size, 2, none⟩ (.int .i64 k2)).setCell ⟨w1.heap.size, 3, none⟩ (.int .i64 k3)).setCell ⟨w1.heap.size, 4, none⟩ (.int .i64 k4)).setCell ⟨w1.heap.size, 5, none⟩ (.int .i64 k5)).setCell ⟨w1.heap.size, 6, none⟩ (.int .i64 k6)).setCell ⟨w1.heap.size, 7, none⟩ (.int .i64 k7)) = w6 at *
    have zV := HL.out.ltV
    have nA : w1.heap.size ≠ w.heap.size := by have := HL.out.hV; omega
    have nB : w1.heap.size ≠ w.heap.size + 1 := by have := HL.out.hV; omega
    obtain ⟨i0, i1, i2, i3, i4, i5, i6, i7, hv⟩ := HL.out.var
    obtain ⟨c0, c1, c2, c3, c4, c5, c6, c7⟩ := hv.eight
    have HV := Lib.hid hv
    clear hv
    go_region_held3 (fun w' => w'.cell? ⟨w1.heap.size, 0, none⟩ = some (.int .i64 i0) ∧ w'.cell? ⟨w1.heap.size, 1, none⟩ = some (.int .i64 i1) ∧ w'.cell? ⟨w1.heap.size, 2, none⟩ = some (.int .i64 i2) ∧ w'.cell? ⟨w1.heap.size, 3, none⟩ = some (.int .i64 i3) ∧ w'.cell? ⟨w1.heap.size, 4, none⟩ = some (.int .i64 i4) ∧ w'.cell? ⟨w1.heap.size, 5, none⟩ = some (.int .i64 i5) ∧ w'.cell? ⟨w1.heap.size, 6, none⟩ = some (.int .i64 i6) ∧ w'.cell? ⟨w1.heap.size, 7, none⟩ = some (.int .i64 i7)) (((try go_split_ands); first | (((with_reducible refine ⟨?_, ?_, ?_, ?_, ?_, ?_, ?_, ?_⟩) <;> with_reducible assumption)) | ((with_reducible refine keep8_drew ⟨?_, ?_, ?_, ?_, ?_, ?_, ?_, ?_⟩) <;> with_reducible assumption) | ((with_reducible refine keep8_put nA ⟨?_, ?_, ?_, ?_, ?_, ?_, ?_, ?_⟩ _ _ _ _ _ _ _ _) <;> with_reducible assumption) | ((with_reducible refine keep8_put4 nB ⟨?_, ?_, ?_, ?_, ?_, ?_, ?_, ?_⟩ _ _ _ _) <;> with_reducible assumption))) ((go_at_call 30; refine (l21State_s (w.heap.size + 1 + 1) p3 12 _ HL.out.rd.drew (by omega) (by unfold I64; omega)).mono ?_; rintro e w8 ⟨on, a0, len0, cap0, lo, hi, z0, p8, rfl, hz0, ha0, hl0, hab0, hq7, hq8, hR8, hb8⟩; (try simp only [World.size_drew] at hab0); clear c0 c1 c2 c3 c4 c5 c6 c7; obtain ⟨c0, c1, c2, c3, c4, c5, c6, c7⟩ := (HV.out.drew'.but hb8 (by have := HL.out.hV; omega)).eight; have HM := Lib.hid (HL.out.next hR8 ((But.refl _ _).drew.trans hb8)); have zA := HL.out.kA.lt; have zB := HL.out.kB.lt; clear HL hR8 hb8 HV; have HL := HM; clear HM; obtain ⟨r0, r1, r2, r3, r4, r5, r6, r7⟩ := HL.out.kA.eight; obtain ⟨s0, s1, s2, s3, s4, s5, s6, s7⟩ := HL.out.kA.free8; obtain ⟨g0, g1, g2, g3⟩ := HL.out.kB.four; obtain ⟨t0, t1, t2, t3⟩ := HL.out.kB.free))
    go_wp2_with fail
    refine bodyPost_ret (by simp [results, Try.results8, go_sem, *]; try rfl) rfl ?_
    unfold DrawOut
    exact ⟨_, _, _, _, _, _, _, _, on, a0, len0, cap0, lo, hi, z0, rfl, Lib.hid ⟨(hz0.out.but (but_chain8 _ w.heap.size _ _ _ _ _ _ _ _) (fun x hx => by have := hab0 x hx; omega)).but (but_put4 _ (w.heap.size + 1) _ _ _ _) (fun x hx => by have := hab0 x hx; omega), ha0⟩, hl0, below_chain4 (below_chain8 (HL.out.but.to_below hS (by omega) hS.size) (Nat.le_refl _) _ _ _ _ _ _ _ _) (by omega) _ _ _ _⟩
end Go.Proofs.Ytdpooiiacdfpkaa
