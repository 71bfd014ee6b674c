/- Contract: pavaneref08.same. The walk's conditions: the parameters' memory; no number of more than a million limbs. (Printed by wip/gen_same8.py.) Contract: pavaneref08.Same. The walk's conditions: the parameters' memory; no number of more than a million limbs. -/
import Derived.Test.YtlcofdgaidlldaaGreatDoorZo
import Derived.Test.YtlcofdgaidlldaaGreatDoorZu
import Derived.Test.YtlcofdgaidlldaaGreatDoorZv
namespace Go.Proofs.YtlcofdgaidlldaaGreatDoor
open Go.RowKit Go.Shelf Go.Proofs.YtlcofdgaidlldaaGreatDoorW.PrintWords
set_option linter.unusedVariables false
set_option linter.unusedSimpArgs false
section
variable {ops : Array Oper} {rest : List Oper} {o : Oper} {a : Act} {Q : Exit → Act → World → Prop} {w : World}
theorem seven_part {a b c d e f g h i j k l m u : Value} {n : Nat} (hh : ([b, c, d, e, f, g, h] : List Value)[n]? = some u) : ([a, b, c, d, e, f, g, h, i, j, k, l, m] : List Value)[1 + n]? = some u := by
  match n, hh with
  | 0, h => exact h
  | 1, h => exact h
  | 2, h => exact h
  | 3, h => exact h
  | 4, h => exact h
  | 5, h => exact h
  | 6, h => exact h
  | (n + 7), h => exact absurd h (by simp)
/-- The datum of an expression in a block of its own, behind a guard. -/
theorem ldDxg {cd : List Value} {gb : Nat} (N : Tmp) (hC : ∀ j u, cd[j]? = some u → w.cell? ((⟨gb, 1, none⟩ : Addr).add j) = some u) (hl : cd.length = 7) (hN : o.dst = some N) (hw : Region.wanted o (yielded ops a.tmps) = true) (x : Operand) (ho : o.op = .load 28 x) (hx : a.eval x = .pointer (some ⟨gb, 1, none⟩))
    (h : wpList Tryz.prog ops Q rest (a.put (some N) (.agg cd.toArray)) w) : wpList Tryz.prog ops Q (o :: rest) a w :=
  wpList_step fun K hK => by
    rw [if_pos hw]
    unfold Oper.wp execOp
    simp only [ho, hx, Instr.loadAt, Instr.sureAddr, Sem.run_bind, Sem.run_pure, Result.andThen_ok, run_load_list w ⟨gb, 1, none⟩ 28 cd _ hC Tryz.underlying28 rfl (by rw [hl]; exact size28')]
    rw [← hN] at h
    exact hK _ _ h
end
/-- Data that may be held against each other. -/
def few3 (d : Dt) : Bool := decide (0 ≤ d.within 100000 10000)
set_option maxRecDepth 100000 in
set_option maxHeartbeats 16000000 in
theorem same8_calls (n : Nat) : ∀ (x y : Ex) (cs cd : List Value) (w : World), x.big < n → kE.K w x cs → kE.K w y cd → allD slimD x = true → allD slimD y = true →
    Calls Tryz.prog 14 #[.agg cs.toArray, .agg cd.toArray] w fun e w' => e = .returned (.bool (sameX few3 x y)) ∧ Below w.heap.size w w' := by
  induction n with
  | zero => intro x y cs cd w h; omega
  | succ n ih =>
  intro x y cs cd w hn hx hy hsx hsy
  obtain ⟨A3, c3, A6, c6, A7, c7, A9, c9, A12, c12, rfl, l3, g3, l6, g6, l7, g7, l9, g9, l12, g12⟩ := kE_open hx
  obtain ⟨B3, d3, B6, d6, B7, d7, B9, d9, B12, d12, rfl, m3, j3, m6, j6, m7, j7, m9, j9, m12, j12⟩ := kE_open hy
  rw [allD_eq, Bool.and_eq_true] at hsx hsy
  have hm12 := Kd.C_max g12
  have km12 := Kd.C_max j12
  have G12 := Lib.hid g12
  have J12 := Lib.hid j12
  have HSX := Lib.hid hsx.2
  have HSY := Lib.hid hsy.2
  have HB := Lib.hid hn
  have IH := Lib.hid ih
  have HI := Lib.hid (fun (W : World) (h : Below w.heap.size w W) => ints_calls x.vars y.vars A9 B9 c9 d9 W (Kd.C_below g9 h) (Kd.C_below j9 h))
  have hXD : ∀ (W : World), Below w.heap.size w W → kD.K W x.d [.int .i64 x.d.kind, .bool x.d.i.neg, .slice A3 x.d.i.l.length c3, .bool x.d.b, .string x.d.s, .slice A6 x.d.items.length c6, .slice A7 x.d.tail.length c7] := fun W h => kD_mk W x.d l3 (Kd.C_below g3 h) l6 (Kd.C_below g6 h) l7 (Kd.C_below g7 h)
  have hYD : ∀ (W : World), Below w.heap.size w W → kD.K W y.d [.int .i64 y.d.kind, .bool y.d.i.neg, .slice B3 y.d.i.l.length d3, .bool y.d.b, .string y.d.s, .slice B6 y.d.items.length d6, .slice B7 y.d.tail.length d7] := fun W h => kD_mk W y.d m3 (Kd.C_below j3 h) m6 (Kd.C_below j6 h) m7 (Kd.C_below j7 h)
  have HFX := Lib.hid (fun (W : World) (h : Below w.heap.size w W) => rdFew_calls x.d _ W (hXD W h))
  have HFY := Lib.hid (fun (W : World) (h : Below w.heap.size w W) => rdFew_calls y.d _ W (hYD W h))
  have HDD := Lib.hid (fun (W : World) (h : Below w.heap.size w W) => same3_calls (x.d.big + 1) x.d y.d _ _ W (Nat.lt_succ_self _) (hXD W h) (hYD W h) hsx.1 hsy.1)
  have HE := Lib.hid (sameX_eq few3 x y)
  obtain ⟨r, hr⟩ : ∃ r, r = sameX few3 x y := ⟨_, rfl⟩
  rw [← hr] at HE ⊢
  clear hr hsx hsy hx hy hn ih hXD hYD g3 g6 g7 g9 g12 j3 j6 j7 j9 j12 l3 l6 l7 l9 l12 m3 m6 m7 m9 m12
  obtain ⟨vd, hvd⟩ : ∃ vd, vd = decide (x.vars = y.vars) := ⟨_, rfl⟩
  rw [← hvd] at HI HE
  obtain ⟨fx, hfx⟩ : ∃ fx, fx = few3 x.d := ⟨_, rfl⟩
  obtain ⟨fy, hfy⟩ : ∃ fy, fy = few3 y.d := ⟨_, rfl⟩
  rw [show decide (0 ≤ x.d.within 100000 10000) = fx from hfx.symm] at HFX
  rw [show decide (0 ≤ y.d.within 100000 10000) = fy from hfy.symm] at HFY
  rw [← hfx, ← hfy] at HE
  obtain ⟨sm, hsm⟩ : ∃ sm, sm = sameD x.d y.d := ⟨_, rfl⟩
  rw [← hsm] at HDD HE
  obtain ⟨xr, hxr⟩ : ∃ xr, xr = x.rest := ⟨_, rfl⟩
  obtain ⟨yr, hyr⟩ : ∃ yr, yr = y.rest := ⟨_, rfl⟩
  rw [← hxr, ← hyr] at HE ⊢
  clear hvd hfx hfy hsm hxr hyr
  have hX0 : BX 32 ((w.alloc (.cells [.int .i64 x.kind, .int .i64 x.d.kind, .bool x.d.i.neg, .slice A3 x.d.i.l.length c3, .bool x.d.b, .string x.d.s, .slice A6 x.d.items.length c6, .slice A7 x.d.tail.length c7, .int .i64 x.v, .slice A9 x.vars.length c9, .bool xr, .int .i64 x.p, .slice A12 x.kids.length c12].toArray 32)).alloc (.cells [.int .i64 y.kind, .int .i64 y.d.kind, .bool y.d.i.neg, .slice B3 y.d.i.l.length d3, .bool y.d.b, .string y.d.s, .slice B6 y.d.items.length d6, .slice B7 y.d.tail.length d7, .int .i64 y.v, .slice B9 y.vars.length d9, .bool yr, .int .i64 y.p, .slice B12 y.kids.length d12].toArray 32)) w.heap.size [.int .i64 x.kind, .int .i64 x.d.kind, .bool x.d.i.neg, .slice A3 x.d.i.l.length c3, .bool x.d.b, .string x.d.s, .slice A6 x.d.items.length c6, .slice A7 x.d.tail.length c7, .int .i64 x.v, .slice A9 x.vars.length c9, .bool xr, .int .i64 x.p, .slice A12 x.kids.length c12] := (BX.new w _).alloc _
  have hY0 : BX 32 ((w.alloc (.cells [.int .i64 x.kind, .int .i64 x.d.kind, .bool x.d.i.neg, .slice A3 x.d.i.l.length c3, .bool x.d.b, .string x.d.s, .slice A6 x.d.items.length c6, .slice A7 x.d.tail.length c7, .int .i64 x.v, .slice A9 x.vars.length c9, .bool xr, .int .i64 x.p, .slice A12 x.kids.length c12].toArray 32)).alloc (.cells [.int .i64 y.kind, .int .i64 y.d.kind, .bool y.d.i.neg, .slice B3 y.d.i.l.length d3, .bool y.d.b, .string y.d.s, .slice B6 y.d.items.length d6, .slice B7 y.d.tail.length d7, .int .i64 y.v, .slice B9 y.vars.length d9, .bool yr, .int .i64 y.p, .slice B12 y.kids.length d12].toArray 32)) (w.heap.size + 1) [.int .i64 y.kind, .int .i64 y.d.kind, .bool y.d.i.neg, .slice B3 y.d.i.l.length d3, .bool y.d.b, .string y.d.s, .slice B6 y.d.items.length d6, .slice B7 y.d.tail.length d7, .int .i64 y.v, .slice B9 y.vars.length d9, .bool yr, .int .i64 y.p, .slice B12 y.kids.length d12] := by simpa using BX.new (t := 32) (w.alloc (.cells [.int .i64 x.kind, .int .i64 x.d.kind, .bool x.d.i.neg, .slice A3 x.d.i.l.length c3, .bool x.d.b, .string x.d.s, .slice A6 x.d.items.length c6, .slice A7 x.d.tail.length c7, .int .i64 x.v, .slice A9 x.vars.length c9, .bool xr, .int .i64 x.p, .slice A12 x.kids.length c12].toArray 32)) [.int .i64 y.kind, .int .i64 y.d.kind, .bool y.d.i.neg, .slice B3 y.d.i.l.length d3, .bool y.d.b, .string y.d.s, .slice B6 y.d.items.length d6, .slice B7 y.d.tail.length d7, .int .i64 y.v, .slice B9 y.vars.length d9, .bool yr, .int .i64 y.p, .slice B12 y.kids.length d12]
  have hW0 : Below w.heap.size w ((w.alloc (.cells [.int .i64 x.kind, .int .i64 x.d.kind, .bool x.d.i.neg, .slice A3 x.d.i.l.length c3, .bool x.d.b, .string x.d.s, .slice A6 x.d.items.length c6, .slice A7 x.d.tail.length c7, .int .i64 x.v, .slice A9 x.vars.length c9, .bool xr, .int .i64 x.p, .slice A12 x.kids.length c12].toArray 32)).alloc (.cells [.int .i64 y.kind, .int .i64 y.d.kind, .bool y.d.i.neg, .slice B3 y.d.i.l.length d3, .bool y.d.b, .string y.d.s, .slice B6 y.d.items.length d6, .slice B7 y.d.tail.length d7, .int .i64 y.v, .slice B9 y.vars.length d9, .bool yr, .int .i64 y.p, .slice B12 y.kids.length d12].toArray 32)) := below_alloc (below_alloc (Below.refl _ _) _) _
  have hs0 : w.heap.size + 2 = ((w.alloc (.cells [.int .i64 x.kind, .int .i64 x.d.kind, .bool x.d.i.neg, .slice A3 x.d.i.l.length c3, .bool x.d.b, .string x.d.s, .slice A6 x.d.items.length c6, .slice A7 x.d.tail.length c7, .int .i64 x.v, .slice A9 x.vars.length c9, .bool xr, .int .i64 x.p, .slice A12 x.kids.length c12].toArray 32)).alloc (.cells [.int .i64 y.kind, .int .i64 y.d.kind, .bool y.d.i.neg, .slice B3 y.d.i.l.length d3, .bool y.d.b, .string y.d.s, .slice B6 y.d.items.length d6, .slice B7 y.d.tail.length d7, .int .i64 y.v, .slice B9 y.vars.length d9, .bool yr, .int .i64 y.p, .slice B12 y.kids.length d12].toArray 32)).heap.size := by simp
  have hcase : ((x.kind != y.kind) = true) ∨ ((x.kind != y.kind) = false ∧ (x.v != y.v) = true) ∨ ((x.kind != y.kind) = false ∧ (x.v != y.v) = false ∧ vd = false) ∨ ((x.kind != y.kind) = false ∧ (x.v != y.v) = false ∧ vd = true ∧ (xr != yr) = true) ∨ ((x.kind != y.kind) = false ∧ (x.v != y.v) = false ∧ vd = true ∧ (xr != yr) = false ∧ (x.p != y.p) = true) ∨ ((x.kind != y.kind) = false ∧ (x.v != y.v) = false ∧ vd = true ∧ (xr != yr) = false ∧ (x.p != y.p) = false ∧ ((x.kids.length : Int) != (y.kids.length : Int)) = true) ∨ ((x.kind != y.kind) = false ∧ (x.v != y.v) = false ∧ vd = true ∧ (xr != yr) = false ∧ (x.p != y.p) = false ∧ ((x.kids.length : Int) != (y.kids.length : Int)) = false ∧ fx = false) ∨ ((x.kind != y.kind) = false ∧ (x.v != y.v) = false ∧ vd = true ∧ (xr != yr) = false ∧ (x.p != y.p) = false ∧ ((x.kids.length : Int) != (y.kids.length : Int)) = false ∧ fx = true ∧ fy = false) ∨ ((x.kind != y.kind) = false ∧ (x.v != y.v) = false ∧ vd = true ∧ (xr != yr) = false ∧ (x.p != y.p) = false ∧ ((x.kids.length : Int) != (y.kids.length : Int)) = false ∧ fx = true ∧ fy = true ∧ sm = false) ∨ ((x.kind != y.kind) = false ∧ (x.v != y.v) = false ∧ vd = true ∧ (xr != yr) = false ∧ (x.p != y.p) = false ∧ ((x.kids.length : Int) != (y.kids.length : Int)) = false ∧ fx = true ∧ fy = true ∧ sm = true) := by
    cases hk : (x.kind != y.kind) <;> cases hv : (x.v != y.v) <;> cases vd <;> cases hr : (xr != yr) <;> cases hp : (x.p != y.p) <;> cases hl : ((x.kids.length : Int) != (y.kids.length : Int)) <;> cases fx <;> cases fy <;> cases sm <;> simp
  rcases hcase with hk | ⟨hk, hv⟩ | ⟨hk, hv, rfl⟩ | ⟨hk, hv, rfl, hr⟩ | ⟨hk, hv, rfl, hr, hp⟩ | ⟨hk, hv, rfl, hr, hp, hl⟩ | ⟨hk, hv, rfl, hr, hp, hl, rfl⟩ | ⟨hk, hv, rfl, hr, hp, hl, rfl, rfl⟩ | ⟨hk, hv, rfl, hr, hp, hl, rfl, rfl, rfl⟩ | ⟨hk, hv, rfl, hr, hp, hl, rfl, rfl, rfl⟩
  · have HRs := Lib.hid (show r = false from (by rw [HE.out, show (x.kind == y.kind) = false by simpa [bne] using hk]; simp))
    clear HE IH
    go_enter Tryz.func14, Tryz.ntmps14
    go_wp2_with (first
      | (go_at_call 23; (with_reducible refine (HI.out _ hW0).mono ?_); rintro e w1 ⟨rfl, hb1⟩; have hs1 := hb1.size; have hw1 := below_then hW0 (by omega) hb1; have hX1 := hX0.below hb1; have hY1 := hY0.below hb1; have px10 := hX1.cell (j := 10) rfl; have py10 := hY1.cell (j := 10) rfl; have px11 := hX1.cell (j := 11) rfl; have py11 := hY1.cell (j := 11) rfl; have px12 := hX1.cell (j := 12) rfl; have py12 := hY1.cell (j := 12) rfl)
      | ((with_reducible refine ldDxg 51 (hX1.part (fun _ _ h => seven_part h)) rfl rfl ?_ _ rfl ?_ ?_); (case _ => rfl); (case _ => rfl))
      | ((with_reducible refine ldDxg 57 (hY2.part (fun _ _ h => seven_part h)) rfl rfl ?_ _ rfl ?_ ?_); (case _ => rfl); (case _ => rfl))
      | ((with_reducible refine ldDxg 63 (hX3.part (fun _ _ h => seven_part h)) rfl rfl ?_ _ rfl ?_ ?_); (case _ => rfl); (case _ => rfl))
      | ((with_reducible refine ldDxg 65 (hY3.part (fun _ _ h => seven_part h)) rfl rfl ?_ _ rfl ?_ ?_); (case _ => rfl); (case _ => rfl))
      | (go_at_call 24; (with_reducible refine (HFX.out _ hw1).mono ?_); rintro e w2 ⟨rfl, hb2⟩; have hs2 := hb2.size; have hw2 := below_then hw1 hw1.size hb2; have hX2 := hX1.below hb2; have hY2 := hY1.below hb2)
      | (go_at_call 24; (with_reducible refine (HFY.out _ hw2).mono ?_); rintro e w3 ⟨rfl, hb3⟩; have hs3 := hb3.size; have hw3 := below_then hw2 hw2.size hb3; have hX3 := hX2.below hb3; have hY3 := hY2.below hb3)
      | (go_at_call 25; (with_reducible refine (HDD.out _ hw3).mono ?_); rintro e w4 ⟨rfl, hb4⟩; have hs4 := hb4.size; have hw4 := below_then hw3 hw3.size hb4; have hX4 := hX3.below hb4; have hY4 := hY3.below hb4; have qx12 := hX4.cell (j := 12) rfl; have qy12 := hY4.cell (j := 12) rfl))
    go_ret
    exact ⟨by rw [HRs.out]; rfl, hW0⟩
  · have HRs := Lib.hid (show r = false from (by rw [HE.out, show (x.v == y.v) = false by simpa [bne] using hv]; simp))
    clear HE IH
    go_enter Tryz.func14, Tryz.ntmps14
    go_wp2_with (first
      | (go_at_call 23; (with_reducible refine (HI.out _ hW0).mono ?_); rintro e w1 ⟨rfl, hb1⟩; have hs1 := hb1.size; have hw1 := below_then hW0 (by omega) hb1; have hX1 := hX0.below hb1; have hY1 := hY0.below hb1; have px10 := hX1.cell (j := 10) rfl; have py10 := hY1.cell (j := 10) rfl; have px11 := hX1.cell (j := 11) rfl; have py11 := hY1.cell (j := 11) rfl; have px12 := hX1.cell (j := 12) rfl; have py12 := hY1.cell (j := 12) rfl)
      | ((with_reducible refine ldDxg 51 (hX1.part (fun _ _ h => seven_part h)) rfl rfl ?_ _ rfl ?_ ?_); (case _ => rfl); (case _ => rfl))
      | ((with_reducible refine ldDxg 57 (hY2.part (fun _ _ h => seven_part h)) rfl rfl ?_ _ rfl ?_ ?_); (case _ => rfl); (case _ => rfl))
      | ((with_reducible refine ldDxg 63 (hX3.part (fun _ _ h => seven_part h)) rfl rfl ?_ _ rfl ?_ ?_); (case _ => rfl); (case _ => rfl))
      | ((with_reducible refine ldDxg 65 (hY3.part (fun _ _ h => seven_part h)) rfl rfl ?_ _ rfl ?_ ?_); (case _ => rfl); (case _ => rfl))
      | (go_at_call 24; (with_reducible refine (HFX.out _ hw1).mono ?_); rintro e w2 ⟨rfl, hb2⟩; have hs2 := hb2.size; have hw2 := below_then hw1 hw1.size hb2; have hX2 := hX1.below hb2; have hY2 := hY1.below hb2)
      | (go_at_call 24; (with_reducible refine (HFY.out _ hw2).mono ?_); rintro e w3 ⟨rfl, hb3⟩; have hs3 := hb3.size; have hw3 := below_then hw2 hw2.size hb3; have hX3 := hX2.below hb3; have hY3 := hY2.below hb3)
      | (go_at_call 25; (with_reducible refine (HDD.out _ hw3).mono ?_); rintro e w4 ⟨rfl, hb4⟩; have hs4 := hb4.size; have hw4 := below_then hw3 hw3.size hb4; have hX4 := hX3.below hb4; have hY4 := hY3.below hb4; have qx12 := hX4.cell (j := 12) rfl; have qy12 := hY4.cell (j := 12) rfl))
    go_ret
    exact ⟨by rw [HRs.out]; rfl, hW0⟩
  · have HRs := Lib.hid (show r = false from (by rw [HE.out]; simp))
    clear HE IH
    go_enter Tryz.func14, Tryz.ntmps14
    go_wp2_with (first
      | (go_at_call 23; (with_reducible refine (HI.out _ hW0).mono ?_); rintro e w1 ⟨rfl, hb1⟩; have hs1 := hb1.size; have hw1 := below_then hW0 (by omega) hb1; have hX1 := hX0.below hb1; have hY1 := hY0.below hb1; have px10 := hX1.cell (j := 10) rfl; have py10 := hY1.cell (j := 10) rfl; have px11 := hX1.cell (j := 11) rfl; have py11 := hY1.cell (j := 11) rfl; have px12 := hX1.cell (j := 12) rfl; have py12 := hY1.cell (j := 12) rfl)
      | ((with_reducible refine ldDxg 51 (hX1.part (fun _ _ h => seven_part h)) rfl rfl ?_ _ rfl ?_ ?_); (case _ => rfl); (case _ => rfl))
      | ((with_reducible refine ldDxg 57 (hY2.part (fun _ _ h => seven_part h)) rfl rfl ?_ _ rfl ?_ ?_); (case _ => rfl); (case _ => rfl))
      | ((with_reducible refine ldDxg 63 (hX3.part (fun _ _ h => seven_part h)) rfl rfl ?_ _ rfl ?_ ?_); (case _ => rfl); (case _ => rfl))
      | ((with_reducible refine ldDxg 65 (hY3.part (fun _ _ h => seven_part h)) rfl rfl ?_ _ rfl ?_ ?_); (case _ => rfl); (case _ => rfl))
      | (go_at_call 24; (with_reducible refine (HFX.out _ hw1).mono ?_); rintro e w2 ⟨rfl, hb2⟩; have hs2 := hb2.size; have hw2 := below_then hw1 hw1.size hb2; have hX2 := hX1.below hb2; have hY2 := hY1.below hb2)
      | (go_at_call 24; (with_reducible refine (HFY.out _ hw2).mono ?_); rintro e w3 ⟨rfl, hb3⟩; have hs3 := hb3.size; have hw3 := below_then hw2 hw2.size hb3; have hX3 := hX2.below hb3; have hY3 := hY2.below hb3)
      | (go_at_call 25; (with_reducible refine (HDD.out _ hw3).mono ?_); rintro e w4 ⟨rfl, hb4⟩; have hs4 := hb4.size; have hw4 := below_then hw3 hw3.size hb4; have hX4 := hX3.below hb4; have hY4 := hY3.below hb4; have qx12 := hX4.cell (j := 12) rfl; have qy12 := hY4.cell (j := 12) rfl))
    go_ret
    exact ⟨by rw [HRs.out]; rfl, hw1⟩
  · have HRs := Lib.hid (show r = false from (by rw [HE.out, show (xr == yr) = false by simpa [bne] using hr]; simp))
    clear HE IH
    have hr1 : ((!xr) == yr) = true := by revert hr; cases xr <;> cases yr <;> decide
    have hr2 : (!(xr == yr)) = true := by revert hr; cases xr <;> cases yr <;> decide
    go_enter Tryz.func14, Tryz.ntmps14
    go_wp2_with (first
      | (go_at_call 23; (with_reducible refine (HI.out _ hW0).mono ?_); rintro e w1 ⟨rfl, hb1⟩; have hs1 := hb1.size; have hw1 := below_then hW0 (by omega) hb1; have hX1 := hX0.below hb1; have hY1 := hY0.below hb1; have px10 := hX1.cell (j := 10) rfl; have py10 := hY1.cell (j := 10) rfl; have px11 := hX1.cell (j := 11) rfl; have py11 := hY1.cell (j := 11) rfl; have px12 := hX1.cell (j := 12) rfl; have py12 := hY1.cell (j := 12) rfl)
      | ((with_reducible refine ldDxg 51 (hX1.part (fun _ _ h => seven_part h)) rfl rfl ?_ _ rfl ?_ ?_); (case _ => rfl); (case _ => rfl))
      | ((with_reducible refine ldDxg 57 (hY2.part (fun _ _ h => seven_part h)) rfl rfl ?_ _ rfl ?_ ?_); (case _ => rfl); (case _ => rfl))
      | ((with_reducible refine ldDxg 63 (hX3.part (fun _ _ h => seven_part h)) rfl rfl ?_ _ rfl ?_ ?_); (case _ => rfl); (case _ => rfl))
      | ((with_reducible refine ldDxg 65 (hY3.part (fun _ _ h => seven_part h)) rfl rfl ?_ _ rfl ?_ ?_); (case _ => rfl); (case _ => rfl))
      | (go_at_call 24; (with_reducible refine (HFX.out _ hw1).mono ?_); rintro e w2 ⟨rfl, hb2⟩; have hs2 := hb2.size; have hw2 := below_then hw1 hw1.size hb2; have hX2 := hX1.below hb2; have hY2 := hY1.below hb2)
      | (go_at_call 24; (with_reducible refine (HFY.out _ hw2).mono ?_); rintro e w3 ⟨rfl, hb3⟩; have hs3 := hb3.size; have hw3 := below_then hw2 hw2.size hb3; have hX3 := hX2.below hb3; have hY3 := hY2.below hb3)
      | (go_at_call 25; (with_reducible refine (HDD.out _ hw3).mono ?_); rintro e w4 ⟨rfl, hb4⟩; have hs4 := hb4.size; have hw4 := below_then hw3 hw3.size hb4; have hX4 := hX3.below hb4; have hY4 := hY3.below hb4; have qx12 := hX4.cell (j := 12) rfl; have qy12 := hY4.cell (j := 12) rfl))
    go_ret
    exact ⟨by rw [HRs.out]; rfl, hw1⟩
  · have HRs := Lib.hid (show r = false from (by rw [HE.out, show (x.p == y.p) = false by simpa [bne] using hp]; simp))
    clear HE IH
    have hr1 : ((!xr) == yr) = false := by revert hr; cases xr <;> cases yr <;> decide
    have hr2 : (!(xr == yr)) = false := by revert hr; cases xr <;> cases yr <;> decide
    go_enter Tryz.func14, Tryz.ntmps14
    go_wp2_with (first
      | (go_at_call 23; (with_reducible refine (HI.out _ hW0).mono ?_); rintro e w1 ⟨rfl, hb1⟩; have hs1 := hb1.size; have hw1 := below_then hW0 (by omega) hb1; have hX1 := hX0.below hb1; have hY1 := hY0.below hb1; have px10 := hX1.cell (j := 10) rfl; have py10 := hY1.cell (j := 10) rfl; have px11 := hX1.cell (j := 11) rfl; have py11 := hY1.cell (j := 11) rfl; have px12 := hX1.cell (j := 12) rfl; have py12 := hY1.cell (j := 12) rfl)
      | ((with_reducible refine ldDxg 51 (hX1.part (fun _ _ h => seven_part h)) rfl rfl ?_ _ rfl ?_ ?_); (case _ => rfl); (case _ => rfl))
      | ((with_reducible refine ldDxg 57 (hY2.part (fun _ _ h => seven_part h)) rfl rfl ?_ _ rfl ?_ ?_); (case _ => rfl); (case _ => rfl))
      | ((with_reducible refine ldDxg 63 (hX3.part (fun _ _ h => seven_part h)) rfl rfl ?_ _ rfl ?_ ?_); (case _ => rfl); (case _ => rfl))
      | ((with_reducible refine ldDxg 65 (hY3.part (fun _ _ h => seven_part h)) rfl rfl ?_ _ rfl ?_ ?_); (case _ => rfl); (case _ => rfl))
      | (go_at_call 24; (with_reducible refine (HFX.out _ hw1).mono ?_); rintro e w2 ⟨rfl, hb2⟩; have hs2 := hb2.size; have hw2 := below_then hw1 hw1.size hb2; have hX2 := hX1.below hb2; have hY2 := hY1.below hb2)
      | (go_at_call 24; (with_reducible refine (HFY.out _ hw2).mono ?_); rintro e w3 ⟨rfl, hb3⟩; have hs3 := hb3.size; have hw3 := below_then hw2 hw2.size hb3; have hX3 := hX2.below hb3; have hY3 := hY2.below hb3)
      | (go_at_call 25; (with_reducible refine (HDD.out _ hw3).mono ?_); rintro e w4 ⟨rfl, hb4⟩; have hs4 := hb4.size; have hw4 := below_then hw3 hw3.size hb4; have hX4 := hX3.below hb4; have hY4 := hY3.below hb4; have qx12 := hX4.cell (j := 12) rfl; have qy12 := hY4.cell (j := 12) rfl))
    go_ret
    exact ⟨by rw [HRs.out]; rfl, hw1⟩
  · have HRs := Lib.hid (show r = false from (by rw [HE.out, show decide (x.kids.length = y.kids.length) = false by simp [bne] at hl ⊢; omega]; simp))
    clear HE IH
    have hr1 : ((!xr) == yr) = false := by revert hr; cases xr <;> cases yr <;> decide
    have hr2 : (!(xr == yr)) = false := by revert hr; cases xr <;> cases yr <;> decide
    have hl1 : decide (x.kids.length = y.kids.length) = false := by simp [bne] at hl ⊢; omega
    have hl2 : (x.kids.length != y.kids.length) = true := by simp [bne] at hl ⊢; omega
    go_enter Tryz.func14, Tryz.ntmps14
    go_wp2_with (first
      | (go_at_call 23; (with_reducible refine (HI.out _ hW0).mono ?_); rintro e w1 ⟨rfl, hb1⟩; have hs1 := hb1.size; have hw1 := below_then hW0 (by omega) hb1; have hX1 := hX0.below hb1; have hY1 := hY0.below hb1; have px10 := hX1.cell (j := 10) rfl; have py10 := hY1.cell (j := 10) rfl; have px11 := hX1.cell (j := 11) rfl; have py11 := hY1.cell (j := 11) rfl; have px12 := hX1.cell (j := 12) rfl; have py12 := hY1.cell (j := 12) rfl)
      | ((with_reducible refine ldDxg 51 (hX1.part (fun _ _ h => seven_part h)) rfl rfl ?_ _ rfl ?_ ?_); (case _ => rfl); (case _ => rfl))
      | ((with_reducible refine ldDxg 57 (hY2.part (fun _ _ h => seven_part h)) rfl rfl ?_ _ rfl ?_ ?_); (case _ => rfl); (case _ => rfl))
      | ((with_reducible refine ldDxg 63 (hX3.part (fun _ _ h => seven_part h)) rfl rfl ?_ _ rfl ?_ ?_); (case _ => rfl); (case _ => rfl))
      | ((with_reducible refine ldDxg 65 (hY3.part (fun _ _ h => seven_part h)) rfl rfl ?_ _ rfl ?_ ?_); (case _ => rfl); (case _ => rfl))
      | (go_at_call 24; (with_reducible refine (HFX.out _ hw1).mono ?_); rintro e w2 ⟨rfl, hb2⟩; have hs2 := hb2.size; have hw2 := below_then hw1 hw1.size hb2; have hX2 := hX1.below hb2; have hY2 := hY1.below hb2)
      | (go_at_call 24; (with_reducible refine (HFY.out _ hw2).mono ?_); rintro e w3 ⟨rfl, hb3⟩; have hs3 := hb3.size; have hw3 := below_then hw2 hw2.size hb3; have hX3 := hX2.below hb3; have hY3 := hY2.below hb3)
      | (go_at_call 25; (with_reducible refine (HDD.out _ hw3).mono ?_); rintro e w4 ⟨rfl, hb4⟩; have hs4 := hb4.size; have hw4 := below_then hw3 hw3.size hb4; have hX4 := hX3.below hb4; have hY4 := hY3.below hb4; have qx12 := hX4.cell (j := 12) rfl; have qy12 := hY4.cell (j := 12) rfl))
    go_ret
    exact ⟨by rw [HRs.out]; rfl, hw1⟩
  · have HRs := Lib.hid (show r = false from (by rw [HE.out]; simp))
    clear HE IH
    have hr1 : ((!xr) == yr) = false := by revert hr; cases xr <;> cases yr <;> decide
    have hr2 : (!(xr == yr)) = false := by revert hr; cases xr <;> cases yr <;> decide
    have hl1 : decide (x.kids.length = y.kids.length) = true := by simp [bne] at hl ⊢; omega
    have hl2 : (x.kids.length != y.kids.length) = false := by simp [bne] at hl ⊢; omega
    go_enter Tryz.func14, Tryz.ntmps14
    go_wp2_with (first
      | (go_at_call 23; (with_reducible refine (HI.out _ hW0).mono ?_); rintro e w1 ⟨rfl, hb1⟩; have hs1 := hb1.size; have hw1 := below_then hW0 (by omega) hb1; have hX1 := hX0.below hb1; have hY1 := hY0.below hb1; have px10 := hX1.cell (j := 10) rfl; have py10 := hY1.cell (j := 10) rfl; have px11 := hX1.cell (j := 11) rfl; have py11 := hY1.cell (j := 11) rfl; have px12 := hX1.cell (j := 12) rfl; have py12 := hY1.cell (j := 12) rfl)
      | ((with_reducible refine ldDxg 51 (hX1.part (fun _ _ h => seven_part h)) rfl rfl ?_ _ rfl ?_ ?_); (case _ => rfl); (case _ => rfl))
      | ((with_reducible refine ldDxg 57 (hY2.part (fun _ _ h => seven_part h)) rfl rfl ?_ _ rfl ?_ ?_); (case _ => rfl); (case _ => rfl))
      | ((with_reducible refine ldDxg 63 (hX3.part (fun _ _ h => seven_part h)) rfl rfl ?_ _ rfl ?_ ?_); (case _ => rfl); (case _ => rfl))
      | ((with_reducible refine ldDxg 65 (hY3.part (fun _ _ h => seven_part h)) rfl rfl ?_ _ rfl ?_ ?_); (case _ => rfl); (case _ => rfl))
      | (go_at_call 24; (with_reducible refine (HFX.out _ hw1).mono ?_); rintro e w2 ⟨rfl, hb2⟩; have hs2 := hb2.size; have hw2 := below_then hw1 hw1.size hb2; have hX2 := hX1.below hb2; have hY2 := hY1.below hb2)
      | (go_at_call 24; (with_reducible refine (HFY.out _ hw2).mono ?_); rintro e w3 ⟨rfl, hb3⟩; have hs3 := hb3.size; have hw3 := below_then hw2 hw2.size hb3; have hX3 := hX2.below hb3; have hY3 := hY2.below hb3)
      | (go_at_call 25; (with_reducible refine (HDD.out _ hw3).mono ?_); rintro e w4 ⟨rfl, hb4⟩; have hs4 := hb4.size; have hw4 := below_then hw3 hw3.size hb4; have hX4 := hX3.below hb4; have hY4 := hY3.below hb4; have qx12 := hX4.cell (j := 12) rfl; have qy12 := hY4.cell (j := 12) rfl))
    go_ret
    exact ⟨by rw [HRs.out]; rfl, hw2⟩
  · have HRs := Lib.hid (show r = false from (by rw [HE.out]; simp))
    clear HE IH
    have hr1 : ((!xr) == yr) = false := by revert hr; cases xr <;> cases yr <;> decide
    have hr2 : (!(xr == yr)) = false := by revert hr; cases xr <;> cases yr <;> decide
    have hl1 : decide (x.kids.length = y.kids.length) = true := by simp [bne] at hl ⊢; omega
    have hl2 : (x.kids.length != y.kids.length) = false := by simp [bne] at hl ⊢; omega
    go_enter Tryz.func14, Tryz.ntmps14
    go_wp2_with (first
      | (go_at_call 23; (with_reducible refine (HI.out _ hW0).mono ?_); rintro e w1 ⟨rfl, hb1⟩; have hs1 := hb1.size; have hw1 := below_then hW0 (by omega) hb1; have hX1 := hX0.below hb1; have hY1 := hY0.below hb1; have px10 := hX1.cell (j := 10) rfl; have py10 := hY1.cell (j := 10) rfl; have px11 := hX1.cell (j := 11) rfl; have py11 := hY1.cell (j := 11) rfl; have px12 := hX1.cell (j := 12) rfl; have py12 := hY1.cell (j := 12) rfl)
      | ((with_reducible refine ldDxg 51 (hX1.part (fun _ _ h => seven_part h)) rfl rfl ?_ _ rfl ?_ ?_); (case _ => rfl); (case _ => rfl))
      | ((with_reducible refine ldDxg 57 (hY2.part (fun _ _ h => seven_part h)) rfl rfl ?_ _ rfl ?_ ?_); (case _ => rfl); (case _ => rfl))
      | ((with_reducible refine ldDxg 63 (hX3.part (fun _ _ h => seven_part h)) rfl rfl ?_ _ rfl ?_ ?_); (case _ => rfl); (case _ => rfl))
      | ((with_reducible refine ldDxg 65 (hY3.part (fun _ _ h => seven_part h)) rfl rfl ?_ _ rfl ?_ ?_); (case _ => rfl); (case _ => rfl))
      | (go_at_call 24; (with_reducible refine (HFX.out _ hw1).mono ?_); rintro e w2 ⟨rfl, hb2⟩; have hs2 := hb2.size; have hw2 := below_then hw1 hw1.size hb2; have hX2 := hX1.below hb2; have hY2 := hY1.below hb2)
      | (go_at_call 24; (with_reducible refine (HFY.out _ hw2).mono ?_); rintro e w3 ⟨rfl, hb3⟩; have hs3 := hb3.size; have hw3 := below_then hw2 hw2.size hb3; have hX3 := hX2.below hb3; have hY3 := hY2.below hb3)
      | (go_at_call 25; (with_reducible refine (HDD.out _ hw3).mono ?_); rintro e w4 ⟨rfl, hb4⟩; have hs4 := hb4.size; have hw4 := below_then hw3 hw3.size hb4; have hX4 := hX3.below hb4; have hY4 := hY3.below hb4; have qx12 := hX4.cell (j := 12) rfl; have qy12 := hY4.cell (j := 12) rfl))
    go_ret
    exact ⟨by rw [HRs.out]; rfl, hw3⟩
  · have HRs := Lib.hid (show r = false from (by rw [HE.out]; simp))
    clear HE IH
    have hr1 : ((!xr) == yr) = false := by revert hr; cases xr <;> cases yr <;> decide
    have hr2 : (!(xr == yr)) = false := by revert hr; cases xr <;> cases yr <;> decide
    have hl1 : decide (x.kids.length = y.kids.length) = true := by simp [bne] at hl ⊢; omega
    have hl2 : (x.kids.length != y.kids.length) = false := by simp [bne] at hl ⊢; omega
    go_enter Tryz.func14, Tryz.ntmps14
    go_wp2_with (first
      | (go_at_call 23; (with_reducible refine (HI.out _ hW0).mono ?_); rintro e w1 ⟨rfl, hb1⟩; have hs1 := hb1.size; have hw1 := below_then hW0 (by omega) hb1; have hX1 := hX0.below hb1; have hY1 := hY0.below hb1; have px10 := hX1.cell (j := 10) rfl; have py10 := hY1.cell (j := 10) rfl; have px11 := hX1.cell (j := 11) rfl; have py11 := hY1.cell (j := 11) rfl; have px12 := hX1.cell (j := 12) rfl; have py12 := hY1.cell (j := 12) rfl)
      | ((with_reducible refine ldDxg 51 (hX1.part (fun _ _ h => seven_part h)) rfl rfl ?_ _ rfl ?_ ?_); (case _ => rfl); (case _ => rfl))
      | ((with_reducible refine ldDxg 57 (hY2.part (fun _ _ h => seven_part h)) rfl rfl ?_ _ rfl ?_ ?_); (case _ => rfl); (case _ => rfl))
      | ((with_reducible refine ldDxg 63 (hX3.part (fun _ _ h => seven_part h)) rfl rfl ?_ _ rfl ?_ ?_); (case _ => rfl); (case _ => rfl))
      | ((with_reducible refine ldDxg 65 (hY3.part (fun _ _ h => seven_part h)) rfl rfl ?_ _ rfl ?_ ?_); (case _ => rfl); (case _ => rfl))
      | (go_at_call 24; (with_reducible refine (HFX.out _ hw1).mono ?_); rintro e w2 ⟨rfl, hb2⟩; have hs2 := hb2.size; have hw2 := below_then hw1 hw1.size hb2; have hX2 := hX1.below hb2; have hY2 := hY1.below hb2)
      | (go_at_call 24; (with_reducible refine (HFY.out _ hw2).mono ?_); rintro e w3 ⟨rfl, hb3⟩; have hs3 := hb3.size; have hw3 := below_then hw2 hw2.size hb3; have hX3 := hX2.below hb3; have hY3 := hY2.below hb3)
      | (go_at_call 25; (with_reducible refine (HDD.out _ hw3).mono ?_); rintro e w4 ⟨rfl, hb4⟩; have hs4 := hb4.size; have hw4 := below_then hw3 hw3.size hb4; have hX4 := hX3.below hb4; have hY4 := hY3.below hb4; have qx12 := hX4.cell (j := 12) rfl; have qy12 := hY4.cell (j := 12) rfl))
    go_ret
    exact ⟨by rw [HRs.out]; rfl, hw4⟩
  · have hnl : x.kids.length = y.kids.length := by simp [bne] at hl; omega
    have HRs := Lib.hid (show r = sameXs few3 x.kids y.kids from (by rw [HE.out, show (x.kind == y.kind) = true by simpa [bne] using hk, show (x.v == y.v) = true by simpa [bne] using hv, show (xr == yr) = true by simpa [bne] using hr, show (x.p == y.p) = true by simpa [bne] using hp, decide_eq_true hnl]; rfl))
    have HNL := Lib.hid hnl
    clear HE hnl
    have hr1 : ((!xr) == yr) = false := by revert hr; cases xr <;> cases yr <;> decide
    have hr2 : (!(xr == yr)) = false := by revert hr; cases xr <;> cases yr <;> decide
    have hl1 : decide (x.kids.length = y.kids.length) = true := by simp [bne] at hl ⊢; omega
    have hl2 : (x.kids.length != y.kids.length) = false := by simp [bne] at hl ⊢; omega
    go_enter Tryz.func14, Tryz.ntmps14
    go_wp2_with (first
      | (go_at_call 23; (with_reducible refine (HI.out _ hW0).mono ?_); rintro e w1 ⟨rfl, hb1⟩; have hs1 := hb1.size; have hw1 := below_then hW0 (by omega) hb1; have hX1 := hX0.below hb1; have hY1 := hY0.below hb1; have px10 := hX1.cell (j := 10) rfl; have py10 := hY1.cell (j := 10) rfl; have px11 := hX1.cell (j := 11) rfl; have py11 := hY1.cell (j := 11) rfl; have px12 := hX1.cell (j := 12) rfl; have py12 := hY1.cell (j := 12) rfl)
      | ((with_reducible refine ldDxg 51 (hX1.part (fun _ _ h => seven_part h)) rfl rfl ?_ _ rfl ?_ ?_); (case _ => rfl); (case _ => rfl))
      | ((with_reducible refine ldDxg 57 (hY2.part (fun _ _ h => seven_part h)) rfl rfl ?_ _ rfl ?_ ?_); (case _ => rfl); (case _ => rfl))
      | ((with_reducible refine ldDxg 63 (hX3.part (fun _ _ h => seven_part h)) rfl rfl ?_ _ rfl ?_ ?_); (case _ => rfl); (case _ => rfl))
      | ((with_reducible refine ldDxg 65 (hY3.part (fun _ _ h => seven_part h)) rfl rfl ?_ _ rfl ?_ ?_); (case _ => rfl); (case _ => rfl))
      | (go_at_call 24; (with_reducible refine (HFX.out _ hw1).mono ?_); rintro e w2 ⟨rfl, hb2⟩; have hs2 := hb2.size; have hw2 := below_then hw1 hw1.size hb2; have hX2 := hX1.below hb2; have hY2 := hY1.below hb2)
      | (go_at_call 24; (with_reducible refine (HFY.out _ hw2).mono ?_); rintro e w3 ⟨rfl, hb3⟩; have hs3 := hb3.size; have hw3 := below_then hw2 hw2.size hb3; have hX3 := hX2.below hb3; have hY3 := hY2.below hb3)
      | (go_at_call 25; (with_reducible refine (HDD.out _ hw3).mono ?_); rintro e w4 ⟨rfl, hb4⟩; have hs4 := hb4.size; have hw4 := below_then hw3 hw3.size hb4; have hX4 := hX3.below hb4; have hY4 := hY3.below hb4; have qx12 := hX4.cell (j := 12) rfl; have qy12 := hY4.cell (j := 12) rfl))
    go_loopw [72] (fun v72 wr => ∃ k : Nat, k ≤ x.kids.length ∧ v72 = .int .i64 k ∧ Hid (∀ j : Nat, j < k → sameX few3 (rdE x.kids j) (rdE y.kids j) = true) ∧ Below w4.heap.size w4 wr) (fun v72 _ => x.kids.length - (intOf v72).toNat)
    case atStart => exact ⟨0, Nat.zero_le _, rfl, Lib.hid (fun j h => absurd h (Nat.not_lt_zero j)), Below.refl _ _⟩
    case round =>
      obtain ⟨k, hk', rfl, HP, hbr⟩ := hrel
      have hbw := below_then hw4 hw4.size hbr
      by_cases hlt : k < x.kids.length
      · have hlt2 : k < y.kids.length := by rw [← HNL.out]; exact hlt
        obtain ⟨ad, cc, hA, hKc, hcc⟩ := elE G12.out hlt
        obtain ⟨ae, ce, hA2, hKe, hce⟩ := elE J12.out hlt2
        subst hA hA2
        have zx := pw_cell_below hbr qx12
        have zy := pw_cell_below hbr qy12
        have hlc := Lib.hid (kE_len hKc)
        have hle := Lib.hid (kE_len hKe)
        have HC : Hid (∀ j u, cc[j]? = some u → wr.cell? ((ad.add (k * 13)).add j) = some u) := Lib.hid (fun j u h => pw_cell_below hbw (hcc j u h))
        have HC2 : Hid (∀ j u, ce[j]? = some u → wr.cell? ((ae.add (k * 13)).add j) = some u) := Lib.hid (fun j u h => pw_cell_below hbw (hce j u h))
        have HIH := Lib.hid (fun (W : World) (h : Below w.heap.size w W) => IH.out (rdE x.kids k) (rdE y.kids k) cc ce W (by have := Ex.big_kid (x := x) hlt; have := HB.out; omega) (kE.K_below h hKc) (kE.K_below h hKe) (allDs_at _ _ k HSX.out hlt) (allDs_at _ _ k HSY.out hlt2))
        obtain ⟨sk, hsk⟩ : ∃ sk, sk = sameX few3 (rdE x.kids k) (rdE y.kids k) := ⟨_, rfl⟩
        rw [← hsk] at HIH
        have HSM := Lib.hid hsk
        have hi0 : (0 : Int) ≤ (k : Int) := by omega
        have hi1 : (k : Int) < (x.kids.length : Int) := by omega
        have hi2 : (k : Int) < (y.kids.length : Int) := by omega
        clear hsk hKc hKe hcc hce
        go_wp2_with fail
        refine wp_region_held_drew (S := Stood wr) (by kernel_rfl) (below_drew (Below.refl _ _)) (fun hS => ?_)
        refine wpAnyH_take (i := 0) (v := ?_) rfl (by kernel_rfl) (by kernel_rfl) (by kernel_rfl) (fun _ _ _ h => h) (Or.inl ⟨by rfl, ?_⟩) hS ?_
        case refine_2 => (intro w' hS'; go_simp; try with_reducible rfl)
        simp only [Act.put, List.getElem_toArray, List.getElem_cons_succ, List.getElem_cons_zero, List.setIfInBounds_toArray, List.set_cons_zero, List.set_cons_succ]
        refine wpAnyH_take (i := 1) (v := ?_) rfl (by kernel_rfl) (by kernel_rfl) (by kernel_rfl) (fun _ _ _ h => h) (Or.inl ⟨by rfl, ?_⟩) hS ?_
        case refine_2 => (intro w' hS'; have h := pw_cell_below hS' zx; go_simp; try with_reducible rfl)
        simp only [Act.put, List.getElem_toArray, List.getElem_cons_succ, List.getElem_cons_zero, List.setIfInBounds_toArray, List.set_cons_zero, List.set_cons_succ]
        refine wpAnyH_take (i := 2) (v := ?_) rfl (by kernel_rfl) (by kernel_rfl) (by kernel_rfl) (fun _ _ _ h => h) (Or.inl ⟨by rfl, ?_⟩) hS ?_
        case refine_2 => (intro w' hS'; go_simp; try with_reducible rfl)
        simp only [Act.put, List.getElem_toArray, List.getElem_cons_succ, List.getElem_cons_zero, List.setIfInBounds_toArray, List.set_cons_zero, List.set_cons_succ]
        refine wpAnyH_take (i := 3) (v := ?_) rfl (by kernel_rfl) (by kernel_rfl) (by kernel_rfl) (fun _ _ _ h => h) (Or.inl ⟨by rfl, ?_⟩) hS ?_
        case refine_2 => (intro w' hS'; go_simp; try with_reducible rfl)
        simp only [Act.put, List.getElem_toArray, List.getElem_cons_succ, List.getElem_cons_zero, List.setIfInBounds_toArray, List.set_cons_zero, List.set_cons_succ]
        refine wpAnyH_take (i := 4) rfl (by kernel_rfl) (by kernel_rfl) (by kernel_rfl) (fun _ _ _ h => h) (held_load (by rfl) 32 _ rfl (ad.add (k * 13)) rfl cc _ HC.out Tryz.underlying32 rfl (by rw [hlc.out]; exact size32')) hS ?_
        simp only [Act.put, List.getElem_toArray, List.getElem_cons_succ, List.getElem_cons_zero, List.setIfInBounds_toArray, List.set_cons_zero, List.set_cons_succ]
        refine wpAnyH_take (i := 5) (v := ?_) rfl (by kernel_rfl) (by kernel_rfl) (by kernel_rfl) (fun _ _ _ h => h) (Or.inl ⟨by rfl, ?_⟩) hS ?_
        case refine_2 => (intro w' hS'; go_simp; try with_reducible rfl)
        simp only [Act.put, List.getElem_toArray, List.getElem_cons_succ, List.getElem_cons_zero, List.setIfInBounds_toArray, List.set_cons_zero, List.set_cons_succ]
        refine wpAnyH_take (i := 6) (v := ?_) rfl (by kernel_rfl) (by kernel_rfl) (by kernel_rfl) (fun _ _ _ h => h) (Or.inl ⟨by rfl, ?_⟩) hS ?_
        case refine_2 => (intro w' hS'; have h := pw_cell_below hS' zy; go_simp; try with_reducible rfl)
        simp only [Act.put, List.getElem_toArray, List.getElem_cons_succ, List.getElem_cons_zero, List.setIfInBounds_toArray, List.set_cons_zero, List.set_cons_succ]
        refine wpAnyH_take (i := 7) (v := ?_) rfl (by kernel_rfl) (by kernel_rfl) (by kernel_rfl) (fun _ _ _ h => h) (Or.inl ⟨by rfl, ?_⟩) hS ?_
        case refine_2 => (intro w' hS'; go_simp; try with_reducible rfl)
        simp only [Act.put, List.getElem_toArray, List.getElem_cons_succ, List.getElem_cons_zero, List.setIfInBounds_toArray, List.set_cons_zero, List.set_cons_succ]
        refine wpAnyH_take (i := 8) (v := ?_) rfl (by kernel_rfl) (by kernel_rfl) (by kernel_rfl) (fun _ _ _ h => h) (Or.inl ⟨by rfl, ?_⟩) hS ?_
        case refine_2 => (intro w' hS'; go_simp; try with_reducible rfl)
        simp only [Act.put, List.getElem_toArray, List.getElem_cons_succ, List.getElem_cons_zero, List.setIfInBounds_toArray, List.set_cons_zero, List.set_cons_succ]
        refine wpAnyH_take (i := 9) rfl (by kernel_rfl) (by kernel_rfl) (by kernel_rfl) (fun _ _ _ h => h) (held_load (by rfl) 32 _ rfl (ae.add (k * 13)) rfl ce _ HC2.out Tryz.underlying32 rfl (by rw [hle.out]; exact size32')) hS ?_
        simp only [Act.put, List.getElem_toArray, List.getElem_cons_succ, List.getElem_cons_zero, List.setIfInBounds_toArray, List.set_cons_zero, List.set_cons_succ]
        refine wpAnyH_ready (rs := [10]) (by kernel_rfl) (by simp) ?_
        refine AllReadyH.cons (o := _) rfl (fun K hK => ?_) AllReadyH.nil
        go_simp
        refine (HIH.out _ (hbw.trans (hS.mono hbw.size))).mono ?_
        rintro e w5 ⟨rfl, hb5⟩
        have hS1 := hS.call hb5
        clear hS
        refine hK.out _ _ (hS1) (fun hS => ?_)
        clear hK K
        try simp only [Act.put, List.getElem_toArray, List.getElem_cons_succ, List.getElem_cons_zero, List.setIfInBounds_toArray, List.set_cons_zero, List.set_cons_succ]
        refine wpAnyH_take (i := 11) (v := ?_) rfl (by kernel_rfl) (by kernel_rfl) (by kernel_rfl) (fun _ _ _ h => h) (Or.inl ⟨by rfl, ?_⟩) hS ?_
        case refine_2 => (intro w' hS'; go_simp; try with_reducible rfl)
        simp only [Act.put, List.getElem_toArray, List.getElem_cons_succ, List.getElem_cons_zero, List.setIfInBounds_toArray, List.set_cons_zero, List.set_cons_succ]
        refine wpAnyH_done (by kernel_rfl) ?_ _
        have hb6 := below_then hbr hbr.size hS1
        have hb7 := below_then hw4 hw4.size hb6
        cases sk
        · go_wp2
          go_ret
          exact ⟨by rw [HRs.out, sameXs_no few3 x.kids y.kids k hlt hlt2 HSM.out.symm]; rfl, hb7⟩
        · go_wp2
          go_roundw
          case rel => exact ⟨k + 1, by omega, by go_num, Lib.hid (fun j hj => by rcases Nat.lt_or_ge j k with h | h; (exact HP.out j h); (have h2 : j = k := (by omega); rw [h2]; exact HSM.out.symm)), hb6⟩
          case measure => simp [intOf]; omega
      · have HD := Lib.hid (sameXs_yes few3 x.kids y.kids HNL.out (fun j hj => HP.out j (by omega)))
        go_wp2
        go_ret
        exact ⟨by rw [HRs.out, HD.out]; rfl, hbw⟩
end Go.Proofs.YtlcofdgaidlldaaGreatDoor
namespace Go.Proofs.YtlcofdgaidlldaaGreatDoor
open Go.RowKit Go.Shelf Go.Proofs.YtlcofdgaidlldaaGreatDoorW.PrintWords
set_option linter.unusedVariables false
set_option linter.unusedSimpArgs false
/-- Same, of few. -/
def SameX (x y : Ex) : Bool := x.few && y.few && sameX few3 x y
set_option maxRecDepth 100000 in
set_option maxHeartbeats 4000000 in
theorem rSame8_calls (x y : Ex) (cs cd : List Value) (w : World) (hx : kE.K w x cs) (hy : kE.K w y cd) (hsx : allD slimD x = true) (hsy : allD slimD y = true) :
    Calls Tryz.prog 7 #[.agg cs.toArray, .agg cd.toArray] w fun e w' => e = .returned (.bool (SameX x y)) ∧ Below w.heap.size w w' := by
  have HXl := Lib.hid (kE_len hx)
  have HYl := Lib.hid (kE_len hy)
  have HFX := Lib.hid (fun (W : World) (h : Below w.heap.size w W) => rFew_calls x cs W (kE.K_below h hx))
  have HFY := Lib.hid (fun (W : World) (h : Below w.heap.size w W) => rFew_calls y cd W (kE.K_below h hy))
  have HS := Lib.hid (fun (W : World) (h : Below w.heap.size w W) => same8_calls (x.big + 1) x y cs cd W (Nat.lt_succ_self _) (kE.K_below h hx) (kE.K_below h hy) hsx hsy)
  have HE := Lib.hid (show SameX x y = (x.few && y.few && sameX few3 x y) from rfl)
  obtain ⟨r, hr⟩ : ∃ r, r = SameX x y := ⟨_, rfl⟩
  obtain ⟨f1, hf1⟩ : ∃ f1, f1 = x.few := ⟨_, rfl⟩
  obtain ⟨f2, hf2⟩ : ∃ f2, f2 = y.few := ⟨_, rfl⟩
  obtain ⟨sm, hsm⟩ : ∃ sm, sm = sameX few3 x y := ⟨_, rfl⟩
  rw [← hr] at HE ⊢
  rw [← hf1] at HE HFX
  rw [← hf2] at HE HFY
  rw [← hsm] at HE HS
  have hX0 : BX 32 ((w.alloc (.cells cs.toArray 32)).alloc (.cells cd.toArray 32)) w.heap.size cs := (BX.new w _).alloc _
  have hY0 : BX 32 ((w.alloc (.cells cs.toArray 32)).alloc (.cells cd.toArray 32)) (w.heap.size + 1) cd := by simpa using BX.new (t := 32) (w.alloc (.cells cs.toArray 32)) cd
  have hW0 : Below w.heap.size w ((w.alloc (.cells cs.toArray 32)).alloc (.cells cd.toArray 32)) := below_alloc (below_alloc (Below.refl _ _) _) _
  have hs0 : w.heap.size + 2 = ((w.alloc (.cells cs.toArray 32)).alloc (.cells cd.toArray 32)).heap.size := by simp
  clear hx hy hsx hsy hr hf1 hf2 hsm
  have hcase : f1 = false ∨ f1 = true ∧ f2 = false ∨ f1 = true ∧ f2 = true := by cases f1 <;> cases f2 <;> simp
  rcases hcase with rfl | ⟨rfl, rfl⟩ | ⟨rfl, rfl⟩
  all_goals
    go_enter Tryz.func7, Tryz.ntmps7
    go_wp2_with (first
      | ((with_reducible refine ldE 5 hX0 HXl rfl ?_ _ rfl ?_ ?_); (case _ => rfl); (case _ => rfl))
      | ((with_reducible refine ldEg 8 hY1 HYl rfl ?_ _ rfl ?_ ?_); (case _ => rfl); (case _ => rfl))
      | ((with_reducible refine ldEg 12 hX2 HXl rfl ?_ _ rfl ?_ ?_); (case _ => rfl); (case _ => rfl))
      | ((with_reducible refine ldEg 13 hY2 HYl rfl ?_ _ rfl ?_ ?_); (case _ => rfl); (case _ => rfl))
      | (go_at_call 13; (with_reducible refine (HFX.out _ hW0).mono ?_); rintro e w1 ⟨rfl, hb1⟩; have hw1 := below_then hW0 (by omega) hb1; have hX1 := hX0.below hb1; have hY1 := hY0.below hb1)
      | (go_at_call 13; (with_reducible refine (HFY.out _ hw1).mono ?_); rintro e w2 ⟨rfl, hb2⟩; have hw2 := below_then hw1 hw1.size hb2; have hX2 := hX1.below hb2; have hY2 := hY1.below hb2)
      | (go_at_call 14; (with_reducible refine (HS.out _ hw2).mono ?_); rintro e w3 ⟨rfl, hb3⟩; have hw3 := below_then hw2 hw2.size hb3))
    go_ret
  · exact ⟨by rw [HE.out]; rfl, hw1⟩
  · exact ⟨by rw [HE.out]; rfl, hw2⟩
  · exact ⟨by rw [HE.out]; rfl, hw3⟩
end Go.Proofs.YtlcofdgaidlldaaGreatDoor
