/- Contracts: rule.here, by what the part answers to which it turns. Contract: rule.Here, by what rule.here answers. Contract: rule.Apply, by what rule.Here answers. The walk's conditions: the parameters' memory; not more than a million expressions. -/
import Derived.Test.YtlcofdgaidlldaaGreatDoorZk
import Derived.Test.YtlcofdgaidlldaaGreatDoorZm
import Derived.Test.YtlcofdgaidlldaaGreatDoorZr
import Derived.Test.YtlcofdgaidlldaaGreatDoorZs
namespace Go.Proofs.YtlcofdgaidlldaaGreatDoor
open Go.RowKit Go.Shelf Go.Proofs.YtlcofdgaidlldaaGreatDoorW.PrintWords
set_option linter.unusedVariables false
set_option linter.unusedSimpArgs false
/-- An expression and whether it is new. -/
def Post (w : World) (ok : Nat → Prop) (out : Ex × Bool) : Ending → World → Prop := fun e w' => ∃ cs', e = .returned (.tuple #[.agg cs'.toArray, .bool out.2]) ∧ Kd.FK kE w' (okN ok w.heap.size) out.1 cs' ∧ Below w.heap.size w w'
section
variable {ops : Array Oper} {rest : List Oper} {o : Oper} {a : Act} {Q : Exit → Act → World → Prop} {w : World}
theorem sizeSt : (Tryz.prog.info? 36).map (·.size) = some 4 := by kernel_rfl
/-- A step is read out of a block of its own. -/
theorem ldSt {r : Int} {A : Option Addr} {n c : Nat} {k : Int} {no : Bool} {gb : Nat} (N : Tmp) (hB : BX 36 w gb (stepC r A n c k no)) (hN : o.dst = some N) (hgd : o.guard = none) (x : Operand) (ho : o.op = .load 36 x) (hx : a.eval x = .pointer (some ⟨gb, 0, none⟩))
    (h : wpList Tryz.prog ops Q rest (a.put (some N) (.agg (stepC r A n c k no).toArray)) w) : wpList Tryz.prog ops Q (o :: rest) a w :=
  load_list N hN hgd 36 x ho ⟨gb, 0, none⟩ hx (stepC r A n c k no) _ hB.cells Tryz.underlying36 rfl sizeSt h
end
set_option maxRecDepth 100000 in
set_option maxHeartbeats 4000000 in
theorem here_fold (x : Ex) (cs : List Value) (r : Int) (A : Option Addr) (n c : Nat) (k : Int) (no : Bool) (next : Int) (w : World) (ok : Nat → Prop) (hok : ∀ k, ok k → k < w.heap.size) (hx : Kd.FK kE w ok x cs) (out : Ex × Bool) (h1 : (r == 1) = true)
    (H : ∀ W, Below w.heap.size w W → Calls Tryz.prog 61 #[.agg (stepC r A n c k no).toArray, .agg cs.toArray] W (Post W ok out)) :
    Calls Tryz.prog 47 #[.agg (stepC r A n c k no).toArray, .agg cs.toArray, .int .i64 next] w (Post w ok out) := by
  have HXl := Lib.hid (kE_len (Kd.FK_now hx))
  have HO := Lib.hid hok
  have HH := Lib.hid H
  have hP0 : BX 36 (((w.alloc (.cells (stepC r A n c k no).toArray 36)).alloc (.cells cs.toArray 32)).alloc (.cells zEc.toArray 32)) w.heap.size (stepC r A n c k no) := ((BX.new w _).alloc _).alloc _
  have hB0 : BX 32 (((w.alloc (.cells (stepC r A n c k no).toArray 36)).alloc (.cells cs.toArray 32)).alloc (.cells zEc.toArray 32)) (w.heap.size + 1) cs := by simpa using (BX.new (t := 32) (w.alloc (.cells (stepC r A n c k no).toArray 36)) cs).alloc (.cells zEc.toArray 32)
  have hR0 : BX 32 (((w.alloc (.cells (stepC r A n c k no).toArray 36)).alloc (.cells cs.toArray 32)).alloc (.cells zEc.toArray 32)) (w.heap.size + 1 + 1) zEc := by simpa using BX.new (t := 32) ((w.alloc (.cells (stepC r A n c k no).toArray 36)).alloc (.cells cs.toArray 32)) zEc
  have hW0 : Below w.heap.size w (((w.alloc (.cells (stepC r A n c k no).toArray 36)).alloc (.cells cs.toArray 32)).alloc (.cells zEc.toArray 32)) := below_alloc (below_alloc (below_alloc (Below.refl _ _) _) _) _
  have hs0 : w.heap.size + 3 = (((w.alloc (.cells (stepC r A n c k no).toArray 36)).alloc (.cells cs.toArray 32)).alloc (.cells zEc.toArray 32)).heap.size := by simp
  obtain ⟨A3, c3, A6, c6, A7, c7, A9, c9, A12, c12, he, _⟩ := kE_openF hx
  have q0 := hB0.cell (j := 0) (u := .int .i64 x.kind) (by rw [he]; rfl)
  have hkk : (x.kind == 6) = true → (x.kind == 7) = false ∧ (x.kind == 4) = false ∧ (x.kind == 9) = false ∧ (x.kind == 8) = false := fun h => by
    have h : x.kind = 6 := by simpa using h
    rw [h]; decide
  clear he hx hok H
  go_enter Tryz.func47, Tryz.ntmps47
  go_wp2_with (first
    | ((with_reducible refine ldSt 12 hP0 rfl ?_ _ rfl ?_ ?_); (case _ => rfl); (case _ => rfl))
    | ((with_reducible refine ldE 13 hB0 HXl rfl ?_ _ rfl ?_ ?_); (case _ => rfl); (case _ => rfl))
    | (go_at_call 61; (with_reducible refine (HH.out _ hW0).mono ?_); rintro e w1 ⟨cr, rfl, hKr, hb1⟩; have hrl := Lib.hid (kE_len (Kd.FK_now hKr)); have hr1 := Lib.hid (kE.K_one (Kd.FK_now hKr)); have HKr := Lib.hid hKr; have hs1 := hb1.size; clear hKr)
    | ((with_reducible refine stE (hR0.below hb1) rfl hrl hr1 none rfl ?_ _ _ rfl ?_ ?_ ?_); (case _ => rfl); (case _ => rfl); (case _ => rfl); intro w2 hR2 hg2))
  have hload := loadE hR2 hrl
  have hbz : Below w.heap.size w w2 := (below_then hW0 (by omega) hb1).trans (below_grown hg2 (by omega) (by omega))
  refine bodyPost_ret (v := .tuple #[.agg cr.toArray, .bool out.2]) ?_ rfl ⟨cr, rfl, Kd.FK_mono (Kd.FK_grown HKr.out hg2 (fun q hq e => by injection e with e; rcases hq with hq | hq; (have := HO.out _ hq; omega); (rw [← hs0] at hq; omega))) (fun q hq => by rcases hq with hq | hq; exact .inl hq; exact .inr (by rw [← hs0] at hq; omega)), hbz⟩
  simp [results, Tryz.f47, asAddr, Result.andThen, Act.put, hload]
end Go.Proofs.YtlcofdgaidlldaaGreatDoor
namespace Go.Proofs.YtlcofdgaidlldaaGreatDoor
open Go.RowKit Go.Shelf Go.Proofs.YtlcofdgaidlldaaGreatDoorW.PrintWords
set_option linter.unusedVariables false
set_option linter.unusedSimpArgs false
/-- What Here answers, by what here answers. -/
def hereE (x : Ex) (out : Ex × Bool) : Ex × Bool := if x.Good && out.2 then (out.1, true) else (zE, false)
theorem zE_at (W : World) (ok : Nat → Prop) : Kd.FK kE W ok zE zEc := kE_mkF W ok zE (A3 := none) (c3 := 0) (Nat.le_refl 0) (Kd.F_nil _ _ _) (A6 := none) (c6 := 0) (Nat.le_refl 0) (Kd.F_nil _ _ _) (A7 := none) (c7 := 0) (Nat.le_refl 0) (Kd.F_nil _ _ _) (A9 := none) (c9 := 0) (Nat.le_refl 0) (Kd.F_nil _ _ _) (A12 := none) (c12 := 0) (Nat.le_refl 0) (Kd.F_nil _ _ _)
set_option maxRecDepth 100000 in
set_option maxHeartbeats 4000000 in
theorem Here_calls (x : Ex) (cs : List Value) (r : Int) (A : Option Addr) (n c : Nat) (k : Int) (no : Bool) (next : Int) (w : World) (ok : Nat → Prop) (hok : ∀ k, ok k → k < w.heap.size) (hx : Kd.FK kE w ok x cs) (hL : Laid w) (out : Ex × Bool)
    (H : x.Good = true → ∀ W, Below w.heap.size w W → Calls Tryz.prog 47 #[.agg (stepC r A n c k no).toArray, .agg cs.toArray, .int .i64 next] W (Post W ok out)) :
    Calls Tryz.prog 31 #[.agg cs.toArray, .agg (stepC r A n c k no).toArray, .int .i64 next] w (Post w ok (hereE x out)) := by
  have HXl := Lib.hid (kE_len (Kd.FK_now hx))
  have HO := Lib.hid hok
  have HH := Lib.hid H
  have HG := Lib.hid (fun (W : World) (hb : Below w.heap.size w W) => Good_calls x cs W (Kd.FK_now (Kd.FK_below hx hb)) (hL.below hb))
  have HE := Lib.hid (show hereE x out = if x.Good && out.2 then (out.1, true) else (zE, false) from rfl)
  have hzl : Hid (zEc.length = 13) := Lib.hid rfl
  have hz1 := Lib.hid (kE.K_one (Kd.FK_now (zE_at w ok)))
  have hB0 : BX 32 (((w.alloc (.cells cs.toArray 32)).alloc (.cells (stepC r A n c k no).toArray 36)).alloc (.cells zEc.toArray 32)) w.heap.size cs := ((BX.new w _).alloc _).alloc _
  have hP0 : BX 36 (((w.alloc (.cells cs.toArray 32)).alloc (.cells (stepC r A n c k no).toArray 36)).alloc (.cells zEc.toArray 32)) (w.heap.size + 1) (stepC r A n c k no) := by simpa using (BX.new (t := 36) (w.alloc (.cells cs.toArray 32)) (stepC r A n c k no)).alloc (.cells zEc.toArray 32)
  have hR0 : BX 32 (((w.alloc (.cells cs.toArray 32)).alloc (.cells (stepC r A n c k no).toArray 36)).alloc (.cells zEc.toArray 32)) (w.heap.size + 1 + 1) zEc := by simpa using BX.new (t := 32) ((w.alloc (.cells cs.toArray 32)).alloc (.cells (stepC r A n c k no).toArray 36)) zEc
  have hW0 : Below w.heap.size w (((w.alloc (.cells cs.toArray 32)).alloc (.cells (stepC r A n c k no).toArray 36)).alloc (.cells zEc.toArray 32)) := below_alloc (below_alloc (below_alloc (Below.refl _ _) _) _) _
  have hs0 : w.heap.size + 3 = (((w.alloc (.cells cs.toArray 32)).alloc (.cells (stepC r A n c k no).toArray 36)).alloc (.cells zEc.toArray 32)).heap.size := by simp
  obtain ⟨res, hres⟩ : ∃ res, res = hereE x out := ⟨_, rfl⟩
  rw [← hres] at HE ⊢
  obtain ⟨g, hg⟩ : ∃ g, g = x.Good := ⟨_, rfl⟩
  rw [← hg] at HG HH HE
  clear hx hok H hL hg hres
  cases g
  · have HRs := Lib.hid (show res = (zE, false) by rw [HE.out]; rfl)
    clear HE HH
    go_enter Tryz.func31, Tryz.ntmps31
    go_wp2_with (first
      | ((with_reducible refine ldE 10 hB0 HXl rfl ?_ _ rfl ?_ ?_); (case _ => rfl); (case _ => rfl))
      | (go_at_call 27; (with_reducible refine (HG.out _ hW0).mono ?_); rintro e w1 ⟨rfl, hb1⟩; have hs1 := hb1.size)
      | ((with_reducible refine stE (hR0.below hb1) rfl hzl hz1 none rfl ?_ _ _ rfl ?_ ?_ ?_); (case _ => rfl); (case _ => rfl); (case _ => rfl); intro w2 hR2 hg2))
    have hload := loadE hR2 hzl
    have hbz : Below w.heap.size w w2 := (below_then hW0 (by omega) hb1).trans (below_grown hg2 (by omega) (by omega))
    refine bodyPost_ret (v := .tuple #[.agg zEc.toArray, .bool false]) ?_ rfl ⟨zEc, by rw [HRs.out], by rw [HRs.out]; exact zE_at _ _, hbz⟩
    simp [results, Tryz.f31, asAddr, Result.andThen, Act.put, hload]
  have HH2 := Lib.hid (HH.out rfl)
  clear HH
  obtain ⟨oe, ob⟩ := out
  cases ob
  · have HRs := Lib.hid (show res = (zE, false) by rw [HE.out]; rfl)
    clear HE
    go_enter Tryz.func31, Tryz.ntmps31
    go_wp2_with (first
      | ((with_reducible refine ldE 10 hB0 HXl rfl ?_ _ rfl ?_ ?_); (case _ => rfl); (case _ => rfl))
      | (go_at_call 27; (with_reducible refine (HG.out _ hW0).mono ?_); rintro e w1 ⟨rfl, hb1⟩; have hs1 := hb1.size; have hb2 := below_then hW0 (by omega) hb1; have hR1 := hR0.below hb1)
      | ((with_reducible refine ldSt 13 (hP0.below hb1) rfl ?_ _ rfl ?_ ?_); (case _ => rfl); (case _ => rfl))
      | ((with_reducible refine ldE 14 (hB0.below hb1) HXl rfl ?_ _ rfl ?_ ?_); (case _ => rfl); (case _ => rfl))
      | (go_at_call 47; (with_reducible refine (HH2.out _ hb2).mono ?_); rintro e w2 ⟨cr, rfl, hKr, hb3⟩; have hrl := Lib.hid (kE_len (Kd.FK_now hKr)); have hr1 := Lib.hid (kE.K_one (Kd.FK_now hKr)); have hs2 := hb3.size; have hR3 := hR1.below hb3; clear hKr)
      | ((with_reducible refine stE (BX.new w2 zEc) rfl hrl hr1 none rfl ?_ _ _ rfl ?_ ?_ ?_); (case _ => rfl); (case _ => rfl); (case _ => rfl); intro w4 hT4 hg4; have hb4 : Below w2.heap.size w2 w4 := (below_alloc (Below.refl _ _) _).trans (below_grown hg4 (by simp) (Nat.le_refl _)); have hR4 := hR3.below hb4)
      | ((with_reducible refine stE hR4 rfl hzl hz1 none rfl ?_ _ _ rfl ?_ ?_ ?_); (case _ => rfl); (case _ => rfl); (case _ => rfl); intro w5 hR5 hg5))
    have hload := loadE hR5 hzl
    have hb5 := below_then (below_then hb2 hb2.size hb3) (by omega) hb4
    have hbz : Below w.heap.size w w5 := hb5.trans (below_grown hg5 hb5.size (by omega))
    refine bodyPost_ret (v := .tuple #[.agg zEc.toArray, .bool false]) ?_ rfl ⟨zEc, by rw [HRs.out], by rw [HRs.out]; exact zE_at _ _, hbz⟩
    simp [results, Tryz.f31, asAddr, Result.andThen, Act.put, hload]
  · have HRs := Lib.hid (show res = (oe, true) by rw [HE.out]; rfl)
    clear HE
    go_enter Tryz.func31, Tryz.ntmps31
    go_wp2_with (first
      | ((with_reducible refine ldE 10 hB0 HXl rfl ?_ _ rfl ?_ ?_); (case _ => rfl); (case _ => rfl))
      | (go_at_call 27; (with_reducible refine (HG.out _ hW0).mono ?_); rintro e w1 ⟨rfl, hb1⟩; have hs1 := hb1.size; have hb2 := below_then hW0 (by omega) hb1; have hR1 := hR0.below hb1)
      | ((with_reducible refine ldSt 13 (hP0.below hb1) rfl ?_ _ rfl ?_ ?_); (case _ => rfl); (case _ => rfl))
      | ((with_reducible refine ldE 14 (hB0.below hb1) HXl rfl ?_ _ rfl ?_ ?_); (case _ => rfl); (case _ => rfl))
      | (go_at_call 47; (with_reducible refine (HH2.out _ hb2).mono ?_); rintro e w2 ⟨cr, rfl, hKr, hb3⟩; have hrl := Lib.hid (kE_len (Kd.FK_now hKr)); have hr1 := Lib.hid (kE.K_one (Kd.FK_now hKr)); have HKr := Lib.hid hKr; have hs2 := hb3.size; have hR3 := hR1.below hb3; clear hKr)
      | ((with_reducible refine stE (BX.new w2 zEc) rfl hrl hr1 none rfl ?_ _ _ rfl ?_ ?_ ?_); (case _ => rfl); (case _ => rfl); (case _ => rfl); intro w4 hT4 hg4; have hb4 : Below w2.heap.size w2 w4 := (below_alloc (Below.refl _ _) _).trans (below_grown hg4 (by simp) (Nat.le_refl _)); have hR4 := hR3.below hb4)
      | ((with_reducible refine ldE 20 hT4 hrl rfl ?_ _ rfl ?_ ?_); (case _ => rfl); (case _ => rfl))
      | ((with_reducible refine stE hR4 rfl hrl hr1 none rfl ?_ _ _ rfl ?_ ?_ ?_); (case _ => rfl); (case _ => rfl); (case _ => rfl); intro w5 hR5 hg5))
    have hload := loadE hR5 hrl
    have hb5 := below_then (below_then hb2 hb2.size hb3) (by omega) hb4
    have hbz : Below w.heap.size w w5 := hb5.trans (below_grown hg5 hb5.size (by omega))
    refine bodyPost_ret (v := .tuple #[.agg cr.toArray, .bool true]) ?_ rfl ⟨cr, by rw [HRs.out], by rw [HRs.out]; exact Kd.FK_mono (Kd.FK_grown (Kd.FK_below HKr.out hb4) hg5 (fun q hq e => by injection e with e; rcases hq with hq | hq; (have := HO.out _ hq; omega); omega)) (fun q hq => by rcases hq with hq | hq; exact .inl hq; exact .inr (by omega)), hbz⟩
    simp [results, Tryz.f31, asAddr, Result.andThen, Act.put, hload]
end Go.Proofs.YtlcofdgaidlldaaGreatDoor
namespace Go.Proofs.YtlcofdgaidlldaaGreatDoor
open Go.RowKit Go.Shelf Go.Proofs.YtlcofdgaidlldaaGreatDoorW.PrintWords
set_option linter.unusedVariables false
set_option linter.unusedSimpArgs false
/-- Apply, by what Here answers. -/
def applyE (x : Ex) (path : List Int) (hr : Ex → Ex × Bool) : Ex × Int :=
  if x.may then match x.at path with
    | none => (zE, 14)
    | some z => if (hr z).2 then (if ((x.put path (hr z).1).getD zE).Good then ((x.put path (hr z).1).getD zE, 0) else (zE, 12)) else (zE, 14)
  else (zE, 2)
/-- An expression and an error. -/
def PostI (w : World) (ok : Nat → Prop) (out : Ex × Int) : Ending → World → Prop := fun e w' => ∃ cs', e = .returned (.tuple #[.agg cs'.toArray, .int .i64 out.2]) ∧ Kd.FK kE w' (okN ok w.heap.size) out.1 cs' ∧ Below w.heap.size w w'
set_option maxRecDepth 100000 in
set_option maxHeartbeats 8000000 in
theorem Apply_calls (x : Ex) (cs : List Value) (r : Int) (path : List Int) (A : Option Addr) (c : Nat) (k : Int) (no : Bool) (w : World) (ok : Nat → Prop) (hok : ∀ k, ok k → k < w.heap.size) (hx : Kd.FK kE w ok x cs) (hp : (Kd.int .i64).C w A path.length path) (hpc : path.length ≤ c) (hL : Laid w) (hl : x.all.length ≤ 1000000) (hr : Ex → Ex × Bool)
    (H : ∀ z cz W, x.at path = some z → Below w.heap.size w W → Kd.FK kE W ok z cz → Calls Tryz.prog 31 #[.agg cz.toArray, .agg (stepC r A path.length c k no).toArray, .int .i64 x.top] W (Post W ok (hr z))) :
    Calls Tryz.prog 19 #[.agg cs.toArray, .agg (stepC r A path.length c k no).toArray] w (PostI w ok (applyE x path hr)) := by
  have HXl := Lib.hid (kE_len (Kd.FK_now hx))
  have HO := Lib.hid hok
  have HH := Lib.hid H
  have HM := Lib.hid (fun (W : World) (hb : Below w.heap.size w W) => May_calls x cs W (Kd.FK_now (Kd.FK_below hx hb)) (hL.below hb))
  have HAt := Lib.hid (fun (W : World) (hb : Below w.heap.size w W) => At_callsF x cs path A c W ok (Kd.FK_below hx hb) (Kd.C_below hp hb))
  have HTop := Lib.hid (fun (W : World) (hb : Below w.heap.size w W) => Top_calls x cs W (Kd.FK_now (Kd.FK_below hx hb)))
  have HPut := Lib.hid (fun (y : Ex) (cy : List Value) (W : World) (ok' : Nat → Prop) (hb : Below w.heap.size w W) (h1 : ∀ k, ok' k → k < W.heap.size) (h2 : ∀ k, ok k → ok' k) (hy : Kd.FK kE W ok' y cy) => Put_calls path x y cs cy A c W ok' h1 (Kd.FK_mono (Kd.FK_below hx hb) h2) hy (Kd.C_below hp hb) hpc hl)
  have HGood := Lib.hid (fun (y : Ex) (cy : List Value) (W : World) (hb : Below w.heap.size w W) (hy : kE.K W y cy) => Good_calls y cy W hy (hL.below hb))
  have HE := Lib.hid (show applyE x path hr = if x.may then match x.at path with
    | none => ((zE, 14) : Ex × Int)
    | some z => if (hr z).2 then (if ((x.put path (hr z).1).getD zE).Good then ((x.put path (hr z).1).getD zE, 0) else ((zE, 12) : Ex × Int)) else ((zE, 14) : Ex × Int)
  else ((zE, 2) : Ex × Int) from rfl)
  have hzl : Hid (zEc.length = 13) := Lib.hid rfl
  have hz1 := Lib.hid (kE.K_one (Kd.FK_now (zE_at w ok)))
  have hB0 : BX 32 (((w.alloc (.cells cs.toArray 32)).alloc (.cells (stepC r A path.length c k no).toArray 36)).alloc (.cells zEc.toArray 32)) w.heap.size cs := ((BX.new w _).alloc _).alloc _
  have hP0 : BX 36 (((w.alloc (.cells cs.toArray 32)).alloc (.cells (stepC r A path.length c k no).toArray 36)).alloc (.cells zEc.toArray 32)) (w.heap.size + 1) (stepC r A path.length c k no) := by simpa using (BX.new (t := 36) (w.alloc (.cells cs.toArray 32)) (stepC r A path.length c k no)).alloc (.cells zEc.toArray 32)
  have hR0 : BX 32 (((w.alloc (.cells cs.toArray 32)).alloc (.cells (stepC r A path.length c k no).toArray 36)).alloc (.cells zEc.toArray 32)) (w.heap.size + 1 + 1) zEc := by simpa using BX.new (t := 32) ((w.alloc (.cells cs.toArray 32)).alloc (.cells (stepC r A path.length c k no).toArray 36)) zEc
  have hW0 : Below w.heap.size w (((w.alloc (.cells cs.toArray 32)).alloc (.cells (stepC r A path.length c k no).toArray 36)).alloc (.cells zEc.toArray 32)) := below_alloc (below_alloc (below_alloc (Below.refl _ _) _) _) _
  have hs0 : w.heap.size + 3 = (((w.alloc (.cells cs.toArray 32)).alloc (.cells (stepC r A path.length c k no).toArray 36)).alloc (.cells zEc.toArray 32)).heap.size := by simp
  obtain ⟨res, hres⟩ : ∃ res, res = applyE x path hr := ⟨_, rfl⟩
  rw [← hres] at HE ⊢
  obtain ⟨m, hm⟩ : ∃ m, m = x.may := ⟨_, rfl⟩
  rw [← hm] at HM HE
  clear hx hok H hL hm hres hp hl
  cases m
  · have HRs := Lib.hid (show res = (zE, 2) by rw [HE.out]; rfl)
    clear HE HH HAt HTop HPut HGood
    go_enter Tryz.func19, Tryz.ntmps19
    go_wp2_with (first
      | ((with_reducible refine ldE 11 hB0 HXl rfl ?_ _ rfl ?_ ?_); (case _ => rfl); (case _ => rfl))
      | (go_at_call 10; (with_reducible refine (HM.out _ hW0).mono ?_); rintro e w1 ⟨rfl, hb1⟩; have hs1 := hb1.size)
      | ((with_reducible refine stE (hR0.below hb1) rfl hzl hz1 none rfl ?_ _ _ rfl ?_ ?_ ?_); (case _ => rfl); (case _ => rfl); (case _ => rfl); intro w2 hR2 hg2))
    have hload := loadE hR2 hzl
    have hbz : Below w.heap.size w w2 := (below_then hW0 (by omega) hb1).trans (below_grown hg2 (by omega) (by omega))
    refine bodyPost_ret (v := .tuple #[.agg zEc.toArray, .int .i64 2]) ?_ rfl ⟨zEc, by rw [HRs.out], by rw [HRs.out]; exact zE_at _ _, hbz⟩
    simp [results, Tryz.f19, asAddr, Result.andThen, Act.put, hload]
  obtain ⟨oz, hoz⟩ : ∃ oz, oz = x.at path := ⟨_, rfl⟩
  rw [← hoz] at HAt HE HH
  clear hoz
  cases oz with
  | none =>
    have HRs := Lib.hid (show res = (zE, 14) by rw [HE.out]; rfl)
    clear HE HH HTop HPut HGood
    go_enter Tryz.func19, Tryz.ntmps19
    go_wp2_with (first
      | ((with_reducible refine ldE 11 hB0 HXl rfl ?_ _ rfl ?_ ?_); (case _ => rfl); (case _ => rfl))
      | (go_at_call 10; (with_reducible refine (HM.out _ hW0).mono ?_); rintro e w1 ⟨rfl, hb1⟩; have hs1 := hb1.size; have hw1 := below_then hW0 (by omega) hb1; have hB1 := hB0.below hb1; have hP1 := hP0.below hb1; have hR1 := hR0.below hb1; have qp := hP1.cell (j := 1) (u := .slice A path.length c) rfl)
      | ((with_reducible refine ldE 16 hB1 HXl rfl ?_ _ rfl ?_ ?_); (case _ => rfl); (case _ => rfl))
      | (go_at_call 30; (with_reducible refine (HAt.out _ hw1).mono ?_); rintro e w2 ⟨cz, rfl, hz, hb2⟩; have hzzl := Lib.hid (kE_len (Kd.FK_now hz)); have hzz1 := Lib.hid (kE.K_one (Kd.FK_now hz)); have hs2 := hb2.size; have hw2 := below_then hw1 hw1.size hb2; have hR2 := hR1.below hb2; clear hz)
      | ((with_reducible refine stE (BX.new w2 zEc) rfl hzzl hzz1 none rfl ?_ _ _ rfl ?_ ?_ ?_); (case _ => rfl); (case _ => rfl); (case _ => rfl); intro w3 hZ3 hg3; have hb3 : Below w2.heap.size w2 w3 := (below_alloc (Below.refl _ _) _).trans (below_grown hg3 (by simp) (Nat.le_refl _)); have hR3 := hR2.below hb3)
      | ((with_reducible refine stE hR3 rfl hzl hz1 none rfl ?_ _ _ rfl ?_ ?_ ?_); (case _ => rfl); (case _ => rfl); (case _ => rfl); intro w4 hR4 hg4))
    have hload := loadE hR4 hzl
    have hw3 := below_then hw2 hw2.size hb3
    have hbz : Below w.heap.size w w4 := hw3.trans (below_grown hg4 hw3.size (by omega))
    refine bodyPost_ret (v := .tuple #[.agg zEc.toArray, .int .i64 14]) ?_ rfl ⟨zEc, by rw [HRs.out], by rw [HRs.out]; exact zE_at _ _, hbz⟩
    simp [results, Tryz.f19, asAddr, Result.andThen, Act.put, hload]
  | some z =>
    go_enter Tryz.func19, Tryz.ntmps19
    go_upto_region 6 with (first
      | ((with_reducible refine ldE 11 hB0 HXl rfl ?_ _ rfl ?_ ?_); (case _ => rfl); (case _ => rfl))
      | (go_at_call 10; (with_reducible refine (HM.out _ hW0).mono ?_); rintro e w1 ⟨rfl, hb1⟩; have hs1 := hb1.size; have hw1 := below_then hW0 (by omega) hb1; have hB1 := hB0.below hb1; have hP1 := hP0.below hb1; have hR1 := hR0.below hb1; have qp := hP1.cell (j := 1) (u := .slice A path.length c) rfl)
      | ((with_reducible refine ldE 16 hB1 HXl rfl ?_ _ rfl ?_ ?_); (case _ => rfl); (case _ => rfl))
      | (go_at_call 30; (with_reducible refine (HAt.out _ hw1).mono ?_); rintro e w2 ⟨cz, rfl, hz, hb2⟩; have hzzl := Lib.hid (kE_len (Kd.FK_now hz)); have hzz1 := Lib.hid (kE.K_one (Kd.FK_now hz)); have HZz := Lib.hid hz; have hs2 := hb2.size; have hw2 := below_then hw1 hw1.size hb2; have hR2 := hR1.below hb2; have hB2 := hB1.below hb2; have hP2 := hP1.below hb2; clear hz)
      | ((with_reducible refine stE (BX.new w2 zEc) rfl hzzl hzz1 none rfl ?_ _ _ rfl ?_ ?_ ?_); (case _ => rfl); (case _ => rfl); (case _ => rfl); intro w3 hZ3 hg3; have hb3 : Below w2.heap.size w2 w3 := (below_alloc (Below.refl _ _) _).trans (below_grown hg3 (by simp) (Nat.le_refl _)); have hR3 := hR2.below hb3; have hB3 := hB2.below hb3; have hP3 := hP2.below hb3))
    have hw3 := below_then hw2 hw2.size hb3
    have hs3 := hZ3.lt
    have hsw : w.heap.size + 3 ≤ w3.heap.size := by omega
    obtain ⟨oh, hoh⟩ : ∃ oh, oh = hr z := ⟨_, rfl⟩
    have HHR := Lib.hid (fun (W : World) (hb : Below w3.heap.size w3 W) => HH.out z cz W rfl (below_then hw3 hw3.size hb) (Kd.FK_below (Kd.FK_below HZz.out hb3) hb))
    have HE2 := Lib.hid (show res = if (hr z).2 then (if ((x.put path (hr z).1).getD zE).Good then ((x.put path (hr z).1).getD zE, 0) else ((zE, 12) : Ex × Int)) else ((zE, 14) : Ex × Int) by rw [HE.out]; rfl)
    rw [← hoh] at HHR HE2
    clear hoh HH HE HM HAt
    go_cut [7, 8] (fun v7 v8 wx => ∃ (g : Nat) (ch : List Value), v7 = .bool oh.2 ∧ v8 = .pointer (some ⟨g, 0, none⟩) ∧ w3.heap.size ≤ g ∧ BX 32 wx g ch ∧ Hid (Kd.FK kE wx (fun k => okN ok w3.heap.size k ∧ k ≠ g) oh.1 ch) ∧ Below w3.heap.size w3 wx)
    case first =>
      refine wp_region_held_drew (S := Stood w3) (by kernel_rfl) (below_drew (Below.refl _ _)) (fun hS => ?_)
      refine wpAnyH_take (i := 0) rfl (by kernel_rfl) (by kernel_rfl) (by kernel_rfl) (fun _ _ _ h => h) (held_load (by rfl) 32 _ rfl ⟨w2.heap.size, 0, none⟩ rfl cz _ hZ3.cells Tryz.underlying32 rfl (by rw [hzzl.out]; exact size32')) hS ?_
      simp only [Act.put, List.getElem_toArray, List.getElem_cons_succ, List.getElem_cons_zero, List.setIfInBounds_toArray, List.set_cons_zero, List.set_cons_succ]
      refine wpAnyH_take (i := 1) rfl (by kernel_rfl) (by kernel_rfl) (by kernel_rfl) (fun _ _ _ h => h) (held_load (by rfl) 36 _ rfl ⟨w.heap.size + 1, 0, none⟩ rfl (stepC r A path.length c k no) _ hP3.cells Tryz.underlying36 rfl sizeSt) hS ?_
      simp only [Act.put, List.getElem_toArray, List.getElem_cons_succ, List.getElem_cons_zero, List.setIfInBounds_toArray, List.set_cons_zero, List.set_cons_succ]
      refine wpAnyH_take (i := 2) rfl (by kernel_rfl) (by kernel_rfl) (by kernel_rfl) (fun _ _ _ h => h) (held_load (by rfl) 32 _ rfl ⟨w.heap.size, 0, none⟩ rfl cs _ hB3.cells Tryz.underlying32 rfl (by rw [HXl.out]; exact size32')) hS ?_
      simp only [Act.put, List.getElem_toArray, List.getElem_cons_succ, List.getElem_cons_zero, List.setIfInBounds_toArray, List.set_cons_zero, List.set_cons_succ]
      refine wpAnyH_ready (rs := [3, 8]) (by kernel_rfl) (by simp) ?_
      refine AllReadyH.cons (o := _) rfl (fun K hK => ?_) (AllReadyH.cons (o := _) rfl (fun K hK => ?_) AllReadyH.nil)
      · go_simp
        refine (HTop.out _ (hw3.trans (below_drew (Below.refl _ _)))).mono ?_
        rintro e w4 ⟨rfl, hb4⟩
        have hb4' : Below w3.heap.size w3 w4 := below_then (below_drew (Below.refl _ _)) (Nat.le_refl _) hb4
        have hs4 := hb4'.size
        refine hK.out _ _ ((hS.call hb4)) (fun hS => ?_)
        clear hK K
        try simp only [Act.put, List.getElem_toArray, List.getElem_cons_succ, List.getElem_cons_zero, List.setIfInBounds_toArray, List.set_cons_zero, List.set_cons_succ]
        refine wpAnyH_ready (rs := [4, 8]) (by kernel_rfl) (by simp) ?_
        refine AllReadyH.cons (o := _) rfl (fun K hK => ?_) (AllReadyH.cons (o := _) rfl (fun K hK => ?_) AllReadyH.nil)
        ·
          go_simp
          refine (HHR.out _ (hb4')).mono ?_
          rintro e w5 ⟨ch, rfl, hH, hb5⟩
          have hHl := Lib.hid (kE_len (Kd.FK_now hH))
          have hH1 := Lib.hid (kE.K_one (Kd.FK_now hH))
          have HZ := Lib.hid hH
          have hs5 := hb5.size
          clear hH
          refine hK.out _ _ ((hS.call hb5)) (fun hS => ?_)
          clear hK K
          try simp only [Act.put, List.getElem_toArray, List.getElem_cons_succ, List.getElem_cons_zero, List.setIfInBounds_toArray, List.set_cons_zero, List.set_cons_succ]
          refine wpAnyH_take (i := 5) (v := ?_) rfl (by kernel_rfl) (by kernel_rfl) (by kernel_rfl) (fun _ _ _ h => h) (Or.inl ⟨by rfl, ?_⟩) hS ?_
          case refine_2 => (intro w' hS'; go_simp; try with_reducible rfl)
          simp only [Act.put, List.getElem_toArray, List.getElem_cons_succ, List.getElem_cons_zero, List.setIfInBounds_toArray, List.set_cons_zero, List.set_cons_succ]
          refine wpAnyH_take (i := 6) (v := ?_) rfl (by kernel_rfl) (by kernel_rfl) (by kernel_rfl) (fun _ _ _ h => h) (Or.inl ⟨by rfl, ?_⟩) hS ?_
          case refine_2 => (intro w' hS'; go_simp; try with_reducible rfl)
          simp only [Act.put, List.getElem_toArray, List.getElem_cons_succ, List.getElem_cons_zero, List.setIfInBounds_toArray, List.set_cons_zero, List.set_cons_succ]
          refine wpAnyH_take (i := 7) (v := ?_) rfl (by kernel_rfl) (by kernel_rfl) (by kernel_rfl) (fun _ _ _ h => h) (Or.inl ⟨by rfl, ?_⟩) hS ?_
          case refine_2 => (intro w' hS'; go_simp; try with_reducible rfl)
          simp only [Act.put, List.getElem_toArray, List.getElem_cons_succ, List.getElem_cons_zero, List.setIfInBounds_toArray, List.set_cons_zero, List.set_cons_succ]
          have hs45 : w3.heap.size ≤ w5.heap.size := by omega
          refine wpAnyH_ready (rs := [8]) (by kernel_rfl) (by simp) ?_
          refine AllReadyH.cons (o := _) rfl (fun K hK => ?_) AllReadyH.nil
          go_simp
          refine hK.out _ _ ((hS.alloc _)) (fun hS => ?_)
          clear hK K
          try simp only [Act.put, List.getElem_toArray, List.getElem_cons_succ, List.getElem_cons_zero, List.setIfInBounds_toArray, List.set_cons_zero, List.set_cons_succ]
          refine wpAnyH_ready (rs := [9]) (by kernel_rfl) (by simp) ?_
          refine AllReadyH.cons (o := _) rfl (fun K hK => ?_) AllReadyH.nil
          refine step_store (BX.new w5 zEc) (by rfl) none rfl _ _ rfl ch rfl rfl (by rw [hHl.out]; exact size32') (by rw [hHl.out]; rfl) hH1.out ?_
          intro w6 hZ6 hg6
          refine hK.out _ _ ((hS.grown hg6 (by have := hs45; omega))) (fun hS => ?_)
          clear hK K
          try simp only [Act.put, List.getElem_toArray, List.getElem_cons_succ, List.getElem_cons_zero, List.setIfInBounds_toArray, List.set_cons_zero, List.set_cons_succ]
          refine wpAnyH_take (i := 10) (v := ?_) rfl (by kernel_rfl) (by kernel_rfl) (by kernel_rfl) (fun _ _ _ h => h) (Or.inl ⟨by rfl, ?_⟩) hS ?_
          case refine_2 => (intro w' hS'; go_simp; try with_reducible rfl)
          simp only [Act.put, List.getElem_toArray, List.getElem_cons_succ, List.getElem_cons_zero, List.setIfInBounds_toArray, List.set_cons_zero, List.set_cons_succ]
          refine wpAnyH_done (by kernel_rfl) ?_ _
          go_wp2_with fail
          go_meet
          exact ⟨w5.heap.size, ch, rfl, rfl, by have := hs45; omega, hZ6, Lib.hid (Kd.FK_mono (Kd.FK_grown (Kd.FK_below (Kd.FK_bound HZ.out) (below_alloc (Below.refl _ _) _)) hg6 (fun q hq e => by cases e; exact Nat.lt_irrefl _ hq.2)) (fun q hq => ⟨by rcases hq.1 with hq | hq; exact .inl hq; exact .inr (by omega), fun e => by subst e; exact Nat.lt_irrefl _ hq.2⟩)), hS⟩
        · go_simp
          refine hK.out _ _ ((hS.alloc _)) (fun hS => ?_)
          clear hK K
          try simp only [Act.put, List.getElem_toArray, List.getElem_cons_succ, List.getElem_cons_zero, List.setIfInBounds_toArray, List.set_cons_zero, List.set_cons_succ]
          refine wpAnyH_ready (rs := [4]) (by kernel_rfl) (by simp) ?_
          refine AllReadyH.cons (o := _) rfl (fun K hK => ?_) AllReadyH.nil
          go_simp
          refine (HHR.out _ (below_then hb4' hs4 (below_alloc (Below.refl _ _) _))).mono ?_
          rintro e w5 ⟨ch, rfl, hH, hb5⟩
          have hHl := Lib.hid (kE_len (Kd.FK_now hH))
          have hH1 := Lib.hid (kE.K_one (Kd.FK_now hH))
          have HZ := Lib.hid hH
          have hs5 := hb5.size
          clear hH
          refine hK.out _ _ ((hS.call hb5)) (fun hS => ?_)
          clear hK K
          try simp only [Act.put, List.getElem_toArray, List.getElem_cons_succ, List.getElem_cons_zero, List.setIfInBounds_toArray, List.set_cons_zero, List.set_cons_succ]
          refine wpAnyH_take (i := 5) (v := ?_) rfl (by kernel_rfl) (by kernel_rfl) (by kernel_rfl) (fun _ _ _ h => h) (Or.inl ⟨by rfl, ?_⟩) hS ?_
          case refine_2 => (intro w' hS'; go_simp; try with_reducible rfl)
          simp only [Act.put, List.getElem_toArray, List.getElem_cons_succ, List.getElem_cons_zero, List.setIfInBounds_toArray, List.set_cons_zero, List.set_cons_succ]
          refine wpAnyH_take (i := 6) (v := ?_) rfl (by kernel_rfl) (by kernel_rfl) (by kernel_rfl) (fun _ _ _ h => h) (Or.inl ⟨by rfl, ?_⟩) hS ?_
          case refine_2 => (intro w' hS'; go_simp; try with_reducible rfl)
          simp only [Act.put, List.getElem_toArray, List.getElem_cons_succ, List.getElem_cons_zero, List.setIfInBounds_toArray, List.set_cons_zero, List.set_cons_succ]
          refine wpAnyH_take (i := 7) (v := ?_) rfl (by kernel_rfl) (by kernel_rfl) (by kernel_rfl) (fun _ _ _ h => h) (Or.inl ⟨by rfl, ?_⟩) hS ?_
          case refine_2 => (intro w' hS'; go_simp; try with_reducible rfl)
          simp only [Act.put, List.getElem_toArray, List.getElem_cons_succ, List.getElem_cons_zero, List.setIfInBounds_toArray, List.set_cons_zero, List.set_cons_succ]
          have hs45 : w4.heap.size + 1 ≤ w5.heap.size := by simpa using hs5
          have HZ := Lib.hid (Kd.FK_mono (ok' := okN ok (w4.heap.size + 1)) HZ.out (fun q hq => hq.imp id (fun h => by simpa using h)))
          refine wpAnyH_ready (rs := [9]) (by kernel_rfl) (by simp) ?_
          refine AllReadyH.cons (o := _) rfl (fun K hK => ?_) AllReadyH.nil
          refine step_store (g := w4.heap.size) ((BX.new w4 zEc).below hb5) (by rfl) none rfl _ _ rfl ch (by rfl) rfl (by rw [hHl.out]; exact size32') (by rw [hHl.out]; rfl) hH1.out ?_
          intro w6 hZ6 hg6
          refine hK.out _ _ ((hS.grown hg6 (by omega))) (fun hS => ?_)
          clear hK K
          try simp only [Act.put, List.getElem_toArray, List.getElem_cons_succ, List.getElem_cons_zero, List.setIfInBounds_toArray, List.set_cons_zero, List.set_cons_succ]
          refine wpAnyH_take (i := 10) (v := ?_) rfl (by kernel_rfl) (by kernel_rfl) (by kernel_rfl) (fun _ _ _ h => h) (Or.inl ⟨by rfl, ?_⟩) hS ?_
          case refine_2 => (intro w' hS'; go_simp; try with_reducible rfl)
          simp only [Act.put, List.getElem_toArray, List.getElem_cons_succ, List.getElem_cons_zero, List.setIfInBounds_toArray, List.set_cons_zero, List.set_cons_succ]
          refine wpAnyH_done (by kernel_rfl) ?_ _
          go_wp2_with fail
          go_meet
          exact ⟨w4.heap.size, ch, rfl, rfl, by omega, hZ6, Lib.hid (Kd.FK_mono (Kd.FK_grown HZ.out hg6 (fun q hq e => by cases e; rcases hq with hq | hq; (have := HO.out _ hq; omega); (have := hs45; omega))) (fun q hq => ⟨by rcases hq with hq | hq; exact .inl hq; exact .inr (by have := hs45; omega), fun e => by subst e; rcases hq with hq | hq; (have := HO.out _ hq; omega); (have := hs45; omega)⟩)), hS⟩
      · go_simp
        have hS1 : Stood w3 (w3.alloc (.cells zEc.toArray 32)).drew := below_drew (below_alloc (Below.refl _ _) _)
        refine hK.out _ _ (hS1) (fun hS => ?_)
        clear hK K
        try simp only [Act.put, List.getElem_toArray, List.getElem_cons_succ, List.getElem_cons_zero, List.setIfInBounds_toArray, List.set_cons_zero, List.set_cons_succ]
        refine wpAnyH_ready (rs := [3]) (by kernel_rfl) (by simp) ?_
        refine AllReadyH.cons (o := _) rfl (fun K hK => ?_) AllReadyH.nil
        go_simp
        refine (HTop.out _ (hw3.trans (hS1.mono (by omega)))).mono ?_
        rintro e w4 ⟨rfl, hb4⟩
        have hb4' : Below w3.heap.size w3 w4 := below_then hS1 hS1.size hb4
        have hs4 : w3.heap.size + 1 ≤ w4.heap.size := by simpa using hb4.size
        have hY4 := BX.below (w := (w3.alloc (.cells zEc.toArray 32)).drew) (BX.new w3 zEc) hb4
        refine hK.out _ _ ((hS.call hb4)) (fun hS => ?_)
        clear hK K
        try simp only [Act.put, List.getElem_toArray, List.getElem_cons_succ, List.getElem_cons_zero, List.setIfInBounds_toArray, List.set_cons_zero, List.set_cons_succ]
        refine wpAnyH_ready (rs := [4]) (by kernel_rfl) (by simp) ?_
        refine AllReadyH.cons (o := _) rfl (fun K hK => ?_) AllReadyH.nil
        ·
          go_simp
          refine (HHR.out _ (hb4')).mono ?_
          rintro e w5 ⟨ch, rfl, hH, hb5⟩
          have hHl := Lib.hid (kE_len (Kd.FK_now hH))
          have hH1 := Lib.hid (kE.K_one (Kd.FK_now hH))
          have HZ := Lib.hid hH
          have hs5 := hb5.size
          clear hH
          refine hK.out _ _ ((hS.call hb5)) (fun hS => ?_)
          clear hK K
          try simp only [Act.put, List.getElem_toArray, List.getElem_cons_succ, List.getElem_cons_zero, List.setIfInBounds_toArray, List.set_cons_zero, List.set_cons_succ]
          refine wpAnyH_take (i := 5) (v := ?_) rfl (by kernel_rfl) (by kernel_rfl) (by kernel_rfl) (fun _ _ _ h => h) (Or.inl ⟨by rfl, ?_⟩) hS ?_
          case refine_2 => (intro w' hS'; go_simp; try with_reducible rfl)
          simp only [Act.put, List.getElem_toArray, List.getElem_cons_succ, List.getElem_cons_zero, List.setIfInBounds_toArray, List.set_cons_zero, List.set_cons_succ]
          refine wpAnyH_take (i := 6) (v := ?_) rfl (by kernel_rfl) (by kernel_rfl) (by kernel_rfl) (fun _ _ _ h => h) (Or.inl ⟨by rfl, ?_⟩) hS ?_
          case refine_2 => (intro w' hS'; go_simp; try with_reducible rfl)
          simp only [Act.put, List.getElem_toArray, List.getElem_cons_succ, List.getElem_cons_zero, List.setIfInBounds_toArray, List.set_cons_zero, List.set_cons_succ]
          refine wpAnyH_take (i := 7) (v := ?_) rfl (by kernel_rfl) (by kernel_rfl) (by kernel_rfl) (fun _ _ _ h => h) (Or.inl ⟨by rfl, ?_⟩) hS ?_
          case refine_2 => (intro w' hS'; go_simp; try with_reducible rfl)
          simp only [Act.put, List.getElem_toArray, List.getElem_cons_succ, List.getElem_cons_zero, List.setIfInBounds_toArray, List.set_cons_zero, List.set_cons_succ]
          have hs45 : w3.heap.size + 1 ≤ w5.heap.size := by omega
          refine wpAnyH_ready (rs := [9]) (by kernel_rfl) (by simp) ?_
          refine AllReadyH.cons (o := _) rfl (fun K hK => ?_) AllReadyH.nil
          refine step_store (g := w3.heap.size) (hY4.below hb5) (by rfl) none rfl _ _ rfl ch (by rfl) rfl (by rw [hHl.out]; exact size32') (by rw [hHl.out]; rfl) hH1.out ?_
          intro w6 hZ6 hg6
          refine hK.out _ _ ((hS.grown hg6 (by omega))) (fun hS => ?_)
          clear hK K
          try simp only [Act.put, List.getElem_toArray, List.getElem_cons_succ, List.getElem_cons_zero, List.setIfInBounds_toArray, List.set_cons_zero, List.set_cons_succ]
          refine wpAnyH_take (i := 10) (v := ?_) rfl (by kernel_rfl) (by kernel_rfl) (by kernel_rfl) (fun _ _ _ h => h) (Or.inl ⟨by rfl, ?_⟩) hS ?_
          case refine_2 => (intro w' hS'; go_simp; try with_reducible rfl)
          simp only [Act.put, List.getElem_toArray, List.getElem_cons_succ, List.getElem_cons_zero, List.setIfInBounds_toArray, List.set_cons_zero, List.set_cons_succ]
          refine wpAnyH_done (by kernel_rfl) ?_ _
          go_wp2_with fail
          go_meet
          exact ⟨w3.heap.size, ch, rfl, rfl, by omega, hZ6, Lib.hid (Kd.FK_mono (Kd.FK_grown HZ.out hg6 (fun q hq e => by cases e; rcases hq with hq | hq; (have := HO.out _ hq; omega); (have := hs45; omega))) (fun q hq => ⟨by rcases hq with hq | hq; exact .inl hq; exact .inr (by have := hs45; omega), fun e => by subst e; rcases hq with hq | hq; (have := HO.out _ hq; omega); (have := hs45; omega)⟩)), hS⟩
    case rest =>
      obtain ⟨g, ch, rfl, rfl, hgW, hZ, HZ, hbc⟩ := hcut
      have hsc := hbc.size
      have hwc := below_then hw3 hw3.size hbc
      have hRc := hR3.below hbc
      have hBc := hB3.below hbc
      have qc := (hP3.below hbc).cell (j := 1) (u := .slice A path.length c) rfl
      obtain ⟨oe, ob⟩ := oh
      clear hB1 hP1 hR1 hB2 hP2 hR2 hB3 hP3 hR3 qp HHR hP0 hB0 hR0
      cases ob
      · have HRs := Lib.hid (show res = (zE, 14) by rw [HE2.out]; rfl)
        clear HE2
        go_wp2_with ((with_reducible refine stE hRc rfl hzl hz1 none rfl ?_ _ _ rfl ?_ ?_ ?_); (case _ => rfl); (case _ => rfl); (case _ => rfl); intro w4 hR4 hg4)
        have hload := loadE hR4 hzl
        have hbz : Below w.heap.size w w4 := hwc.trans (below_grown hg4 hwc.size (by omega))
        refine bodyPost_ret (v := .tuple #[.agg zEc.toArray, .int .i64 14]) ?_ rfl ⟨zEc, by rw [HRs.out], by rw [HRs.out]; exact zE_at _ _, hbz⟩
        simp [results, Tryz.f19, asAddr, Result.andThen, Act.put, hload]
      · have hchl := Lib.hid (kE_len (Kd.FK_now HZ.out))
        have HPC := Lib.hid (HPut.out oe ch wc (fun q => (okN ok w3.heap.size q ∧ q ≠ g) ∧ q < wc.heap.size) hwc (fun q hq => hq.2) (fun q hq => ⟨⟨.inl hq, fun e => by have := HO.out q hq; omega⟩, by have := HO.out q hq; omega⟩) (Kd.FK_bound HZ.out))
        obtain ⟨y, hy⟩ : ∃ y, y = (x.put path oe).getD zE := ⟨_, rfl⟩
        have HE3 := Lib.hid (show res = if y.Good then (y, (0 : Int)) else (zE, 12) by rw [HE2.out, hy]; rfl)
        rw [← hy] at HPC
        have HGO := Lib.hid (fun (cy : List Value) (W : World) (hb : Below w.heap.size w W) (hk : kE.K W y cy) => HGood.out y cy W hb hk)
        obtain ⟨gd, hgd⟩ : ∃ gd, gd = y.Good := ⟨_, rfl⟩
        rw [← hgd] at HE3 HGO
        clear hy hgd HE2 HPut HGood HZ
        cases gd
        · have HRs := Lib.hid (show res = (zE, 12) by rw [HE3.out]; rfl)
          clear HE3
          go_wp2_with (first
            | ((with_reducible refine ldE 37 hBc HXl rfl ?_ _ rfl ?_ ?_); (case _ => rfl); (case _ => rfl))
            | ((with_reducible refine ldE 40 hZ hchl rfl ?_ _ rfl ?_ ?_); (case _ => rfl); (case _ => rfl))
            | (go_at_call 33; (with_reducible refine HPC.out.mono ?_); rintro e w4 ⟨cp, rfl, hpK, hb4⟩; have hpl := Lib.hid (kE_len (Kd.FK_now hpK)); have hp1 := Lib.hid (kE.K_one (Kd.FK_now hpK)); have HPK := Lib.hid hpK; have hs4 := hb4.size; have hR4 := hRc.below hb4; have hw4 := below_then hwc hwc.size hb4; clear hpK)
            | ((with_reducible refine stE (BX.new w4 zEc) rfl hpl hp1 none rfl ?_ _ _ rfl ?_ ?_ ?_); (case _ => rfl); (case _ => rfl); (case _ => rfl); intro w5 hT5 hg5; have hb5 : Below w4.heap.size w4 w5 := (below_alloc (Below.refl _ _) _).trans (below_grown hg5 (by simp) (Nat.le_refl _)); have hR5 := hR4.below hb5; have hw5 := below_then hw4 hw4.size hb5; have hs5 := hb5.size)
            | ((with_reducible refine ldE 44 hT5 hpl rfl ?_ _ rfl ?_ ?_); (case _ => rfl); (case _ => rfl))
            | (go_at_call 27; (with_reducible refine (HGO.out cp _ hw5 (Kd.FK_now (Kd.FK_below HPK.out hb5))).mono ?_); rintro e w6 ⟨rfl, hb6⟩; have hR6 := hR5.below hb6; have hT6 := hT5.below hb6; have hw6 := below_then hw5 hw5.size hb6; have hs6 := hb6.size)
            | ((with_reducible refine ldE 48 hT6 hpl rfl ?_ _ rfl ?_ ?_); (case _ => rfl); (case _ => rfl))
            | ((with_reducible refine stE hR6 rfl hzl hz1 none rfl ?_ _ _ rfl ?_ ?_ ?_); (case _ => rfl); (case _ => rfl); (case _ => rfl); intro w7 hR7 hg7))
          have hload := loadE hR7 hzl
          have hbz : Below w.heap.size w w7 := hw6.trans (below_grown hg7 hw6.size (by omega))
          refine bodyPost_ret (v := .tuple #[.agg zEc.toArray, .int .i64 12]) ?_ rfl ⟨zEc, by rw [HRs.out], by rw [HRs.out]; exact zE_at _ _, hbz⟩
          simp [results, Tryz.f19, asAddr, Result.andThen, Act.put, hload]
        · have HRs := Lib.hid (show res = (y, 0) by rw [HE3.out]; rfl)
          clear HE3
          go_wp2_with (first
            | ((with_reducible refine ldE 37 hBc HXl rfl ?_ _ rfl ?_ ?_); (case _ => rfl); (case _ => rfl))
            | ((with_reducible refine ldE 40 hZ hchl rfl ?_ _ rfl ?_ ?_); (case _ => rfl); (case _ => rfl))
            | (go_at_call 33; (with_reducible refine HPC.out.mono ?_); rintro e w4 ⟨cp, rfl, hpK, hb4⟩; have hpl := Lib.hid (kE_len (Kd.FK_now hpK)); have hp1 := Lib.hid (kE.K_one (Kd.FK_now hpK)); have HPK := Lib.hid hpK; have hs4 := hb4.size; have hR4 := hRc.below hb4; have hw4 := below_then hwc hwc.size hb4; clear hpK)
            | ((with_reducible refine stE (BX.new w4 zEc) rfl hpl hp1 none rfl ?_ _ _ rfl ?_ ?_ ?_); (case _ => rfl); (case _ => rfl); (case _ => rfl); intro w5 hT5 hg5; have hb5 : Below w4.heap.size w4 w5 := (below_alloc (Below.refl _ _) _).trans (below_grown hg5 (by simp) (Nat.le_refl _)); have hR5 := hR4.below hb5; have hw5 := below_then hw4 hw4.size hb5; have hs5 := hb5.size)
            | ((with_reducible refine ldE 44 hT5 hpl rfl ?_ _ rfl ?_ ?_); (case _ => rfl); (case _ => rfl))
            | (go_at_call 27; (with_reducible refine (HGO.out cp _ hw5 (Kd.FK_now (Kd.FK_below HPK.out hb5))).mono ?_); rintro e w6 ⟨rfl, hb6⟩; have hR6 := hR5.below hb6; have hT6 := hT5.below hb6; have hw6 := below_then hw5 hw5.size hb6; have hs6 := hb6.size)
            | ((with_reducible refine ldE 48 hT6 hpl rfl ?_ _ rfl ?_ ?_); (case _ => rfl); (case _ => rfl))
            | ((with_reducible refine stE hR6 rfl hpl hp1 none rfl ?_ _ _ rfl ?_ ?_ ?_); (case _ => rfl); (case _ => rfl); (case _ => rfl); intro w7 hR7 hg7))
          have hload := loadE hR7 hpl
          have hbz : Below w.heap.size w w7 := hw6.trans (below_grown hg7 hw6.size (by omega))
          refine bodyPost_ret (v := .tuple #[.agg cp.toArray, .int .i64 0]) ?_ rfl ⟨cp, by rw [HRs.out], by rw [HRs.out]; exact Kd.FK_mono (Kd.FK_grown (Kd.FK_below (Kd.FK_below HPK.out hb5) hb6) hg7 (fun q hq e => by injection e with e; rcases hq with ⟨⟨hq | hq, _⟩, _⟩ | hq; (have := HO.out _ hq; omega); omega; omega)) (fun q hq => by rcases hq with ⟨⟨hq | hq, _⟩, _⟩ | hq; exact .inl hq; exact .inr (by omega); exact .inr (by omega)), hbz⟩
          simp [results, Tryz.f19, asAddr, Result.andThen, Act.put, hload]
end Go.Proofs.YtlcofdgaidlldaaGreatDoor
