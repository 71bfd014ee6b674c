/- Structs in blocks of their own: what such a block holds, the laws on storing there and reading whole; the contract of core.At. The walk's condition: the parameters' memory. Contracts: slices.Clone of expressions, rule.let, rule.with. The walk's conditions: the parameters' memory; not more than a million. Contracts: rule.with (an expression, one of whose Kids is another one). The walk's conditions: the parameters' memory; there is such a Kid; not more than a million Kids. Contract: rule.let. Two structs side by side as a slice literal. The walk's condition: the parameters' memory. Contract: core.Top. The walk's condition: the parameter's memory. -/
import Derived.Great.BuildSlice
import Derived.Test.YtlcofdgaidlldaaGreatDoorZk
import Derived.Test.YtlcofdgaidlldaaGreatDoorZl
namespace Go.Proofs.YtlcofdgaidlldaaGreatDoor
open Go.RowKit Go.Shelf Go.Proofs.YtlcofdgaidlldaaGreatDoorW.PrintWords
set_option linter.unusedVariables false
set_option linter.unusedSimpArgs false
section
variable {t : TypeId} {w w' : World} {g : Nat} {c : List Value}
theorem BX.ck (h : BX t w g c) (hk : CK w w') : BX t w' g c := hk.cells _ _ h rfl
end
theorem Kd_C_nil {α : Type} (d : Kd α) (w : World) : d.C w none 0 ([] : List α) := ⟨rfl, by omega, fun h => absurd h (by omega)⟩
/-- api.Expr's zero value. -/
abbrev zEc : List Value := [.int .i64 0, .int .i64 0, .bool false, .slice none 0 0, .bool false, .string ⟨#[]⟩, .slice none 0 0, .slice none 0 0, .int .i64 0, .slice none 0 0, .bool false, .int .i64 0, .slice none 0 0]
theorem zE_K (w : World) : kE.K w zE zEc :=
  kE_mk w zE (A3 := none) (c3 := 0) (by decide) (Kd_C_nil _ _) (A6 := none) (c6 := 0) (by decide) (Kd_C_nil _ _) (A7 := none) (c7 := 0) (by decide) (Kd_C_nil _ _) (A9 := none) (c9 := 0) (by decide) (Kd_C_nil _ _) (A12 := none) (c12 := 0) (by decide) (Kd_C_nil _ _)
/-- What a path leads to. -/
def Ex.at (x : Ex) : List Int → Option Ex
  | [] => some x
  | i :: p => if 0 ≤ i ∧ i < x.kids.length then (rdE x.kids i).at p else none
end Go.Proofs.YtlcofdgaidlldaaGreatDoor
namespace Go.Proofs.YtlcofdgaidlldaaGreatDoor
open Go.RowKit Go.Shelf Go.Proofs.YtlcofdgaidlldaaGreatDoorW.PrintWords
set_option linter.unusedVariables false
set_option linter.unusedSimpArgs false
theorem infoE : (Tryz.prog.info? 32).map (fun i => (i.zero, i.size, i.bytes)) = some (some (.agg zEc.toArray), kE.sz, 192) := by kernel_rfl
theorem zE_FK (w : World) : Kd.FK kE w (fun _ => False) zE zEc := fun W' _ => zE_K W'
set_option maxRecDepth 100000 in
set_option maxHeartbeats 1000000 in
theorem Clone_E_calls (xs : List Ex) (A : Option Addr) (c : Nat) (w : World) (okp : Nat → Prop) (hx : kE.C w A xs.length xs) (hF : Kd.F kE w okp A xs.length xs) (hokp : ∀ k, okp k → k < w.heap.size) (hl : xs.length ≤ 1000000) :
    Calls Tryz.prog 48 #[.slice A xs.length c] w fun e w' => ∃ v, e = .returned v ∧ Kd.N kE 32 w' w.heap.size (fun k => okp k ∨ w.heap.size ≤ k) v xs ∧ Below w.heap.size w w' := by
  have FA := Lib.hid hF
  have q29 : ∀ (w : World) (a : Option Addr) (n c n' c' : Nat), (binOp .eql 30 (.slice a n c) (.slice none n' c')).run Tryz.prog w = .ok (.bool a.isNone) w := fun w a n c n' c' => Lib.run_eql_slice_nil w _ _ a n c n' c' Tryz.underlying30
  have HO := Lib.hid hokp
  clear hF hokp
  cases A with
  | none =>
    have : xs = [] := by
      cases xs with
      | nil => rfl
      | cons a l => obtain ⟨ad, h, _⟩ := hx.2.2 (by simp); cases h
    subst this
    clear hx
    go_enter Tryz.func48, Tryz.ntmps48
    go_wp2
    go_ret
    exact ⟨_, rfl, Kd.N_nil _ _ _ _ _, Below.refl _ _⟩
  | some ad =>
    clear hx
    go_enter Tryz.func48, Tryz.ntmps48
    go_wp2_with (first
      | ((with_reducible refine gate_dst (N := 5) rfl ?_); refine Kd.N_lit kE (w0 := w) w.heap.size 32 rfl rfl (xs := []) (inner := []) (ok := fun k => okp k ∨ w.heap.size ≤ k) (okp := fun _ => False) (by go_simp) (Reps.none _ _) (fun _ h => h.elim) (.inr (Nat.le_refl _)) (Below.refl _ _) (Nat.le_refl _) (by simp) ?_; intro v1 w1 hN hB _ _; have HN := Lib.hid hN; have HB := Lib.hid hB; have hz := hB.size; clear hN hB)
      | ((with_reducible refine gate_dst (N := 7) rfl ?_); refine Kd.N_append_rows kE (w0 := w) w.heap.size rfl _ _ 30 32 _ 192 rfl Tryz.underlying30 infoE rfl (by decide) (by decide) _ [] xs (some ad) xs.length c (fun k => okp k ∨ w.heap.size ≤ k) _ ?_ ?_ HN.out (Kd.F_below FA.out HB.out) (fun k hk => ⟨.inl hk, fun he => by have h1 := Kd.N_base HN.out k he.symm; have h2 := HO.out k hk; omega⟩) (fun k hk => .inr (Nat.le_trans hz hk)) HB.out hz ?_ ?_; (case _ => rfl); (case _ => rfl); (case _ => simp; omega); intro v2 w2 hN2 hB2 _ _; have HN2 := Lib.hid hN2; have HB2 := Lib.hid hB2; clear hN2 hB2))
    go_ret
    exact ⟨_, rfl, by simpa using HN2.out, HB2.out⟩
end Go.Proofs.YtlcofdgaidlldaaGreatDoor
namespace Go.Proofs.YtlcofdgaidlldaaGreatDoor
open Go.RowKit Go.Shelf Go.Proofs.YtlcofdgaidlldaaGreatDoorW.PrintWords
set_option linter.unusedVariables false
set_option linter.unusedSimpArgs false
/-- An expression, one of whose Kids is another one. -/
def Ex.with (x : Ex) (i : Nat) (y : Ex) : Ex := { x with kids := x.kids.set i y }
end Go.Proofs.YtlcofdgaidlldaaGreatDoor
namespace Go.Proofs.YtlcofdgaidlldaaGreatDoor
open Go.RowKit Go.Shelf Go.Proofs.YtlcofdgaidlldaaGreatDoorW.PrintWords
set_option linter.unusedVariables false
set_option linter.unusedSimpArgs false
theorem list13 {c : List Value} (h : c.length = 13) : ∃ a0 a1 a2 a3 a4 a5 a6 a7 a8 a9 a10 a11 a12, c = [a0, a1, a2, a3, a4, a5, a6, a7, a8, a9, a10, a11, a12] := by
  match c, h with
  | [a0, a1, a2, a3, a4, a5, a6, a7, a8, a9, a10, a11, a12], _ => exact ⟨a0, a1, a2, a3, a4, a5, a6, a7, a8, a9, a10, a11, a12, rfl⟩
theorem fill2 (ca cb : List Value) (ha : ca.length = 13) (hb : cb.length = 13) :
    Instr.fill (fun i => some (i * 13, 13)) ((Array.range (2 * 13)).map (zEc.toArray[· % zEc.toArray.size]!)) [(0, .agg ca.toArray), (1, .agg cb.toArray)] = some (ca ++ cb).toArray := by
  obtain ⟨a0, a1, a2, a3, a4, a5, a6, a7, a8, a9, a10, a11, a12, rfl⟩ := list13 ha
  obtain ⟨b0, b1, b2, b3, b4, b5, b6, b7, b8, b9, b10, b11, b12, rfl⟩ := list13 hb
  kernel_rfl
theorem reps2 {R : Ex → List Value → Prop} {x y : Ex} {ca cb : List Value} (ha : R x ca) (hb : R y cb) (la : ca.length = 13) (lb : cb.length = 13) : Reps R 13 [x, y] (ca ++ cb) := by
  have h1 := ((Reps.none R 13).snoc ha la).snoc hb lb
  simpa using h1
section
variable {ops : Array Oper} {rest : List Oper} {o : Oper} {a : Act} {Q : Exit → Act → World → Prop}
theorem build2_E {w : World} (N : Tmp) (hN : o.dst = some N) (hgd : o.guard = none) (x y : Operand) (ho : o.op = .buildSlice 30 2 #[(0, x), (1, y)]) (ca cb : List Value) (ha : ca.length = 13) (hb : cb.length = 13) (hx : a.eval x = .agg ca.toArray) (hy : a.eval y = .agg cb.toArray)
    (h : wpList Tryz.prog ops Q rest (a.put (some N) (.slice (some ⟨w.heap.size, 0, none⟩) 2 2)) (w.alloc (.cells (ca ++ cb).toArray 32))) : wpList Tryz.prog ops Q (o :: rest) a w := by
  obtain ⟨ie, hie, hz, hs, _⟩ := info_parts infoE
  rw [← hN] at h
  have hs' : ie.size = 13 := hs
  refine wpList_buildSlice hgd 30 32 2 _ ho (ca ++ cb).toArray ie _ Tryz.underlying30 hie hz (by rw [hs']; decide) (by rw [hs']; decide) ?_ h
  rw [hs']
  have := fill2 ca cb ha hb
  simpa [hx, hy, Value.cells] using this
end
/-- ExLet. -/
def letE (v : Int) (a b : Ex) : Ex := { zE with kind := 8, v := v, kids := [a, b] }
end Go.Proofs.YtlcofdgaidlldaaGreatDoor
namespace Go.Proofs.YtlcofdgaidlldaaGreatDoor
open Go.RowKit Go.Shelf Go.Proofs.YtlcofdgaidlldaaGreatDoorW.PrintWords
set_option linter.unusedVariables false
set_option linter.unusedSimpArgs false
attribute [local go_sem] Oper.semAt_some
/-- One more variable. -/
def topV (t v : Int) : Int := max t (wrap64 (v + 1))
def topE (t : Int) (y : Ex) : Int := y.vars.foldl topV (topV t y.v)
def topL (l : List Ex) : Int := l.foldl topE 1
def Ex.top (x : Ex) : Int := topL x.all
theorem topL_snoc (l : List Ex) (y : Ex) : topL (l ++ [y]) = topE (topL l) y := by simp [topL]
theorem keeps_set {n : Nat} (W : World) (v : Value) (h : n ≤ W.heap.size) : Keeps n (n + 2) W (W.setCell ⟨n + 1, 0, none⟩ v) :=
  ⟨(Below.refl n W).setCell (p := ⟨n + 1, 0, none⟩) (by simp) _, fun k o hk ho _ => (Below.heap_setCell W ⟨n + 1, 0, none⟩ v k (by simp; omega)).trans ho⟩
set_option maxRecDepth 100000 in
set_option maxHeartbeats 4000000 in
theorem Top_calls (x : Ex) (cs : List Value) (w : World) (hx : kE.K w x cs) : Calls Tryz.prog 32 #[.agg cs.toArray] w fun e w' => e = .returned (.int .i64 x.top) ∧ Below w.heap.size w w' := by
  have HX := Lib.hid hx
  have HKl := Lib.hid (kE_len hx)
  have HR := Lib.hid (show x.top = topL x.all from rfl)
  clear hx
  refine (callsIn_wide (n := 9)).1 ?_
  have h1 : (1 : Nat) ≤ 9 := by decide
  refine callsIn_of_wp_marks Tryz.func32 rfl trivial ?_ rfl
  simp only [Tryz.ntmps32, List.size_toArray, List.length_cons, List.length_nil, Nat.reduceAdd, Nat.reduceSub, Array.replicate_succ, Array.replicate_zero, List.push_toArray, List.append_toArray, List.nil_append, List.cons_append]
  gi_wp2_with (first
    | ((with_reducible refine load_listIn 7 rfl ?_ 32 _ rfl ⟨w.heap.size, 0, none⟩ ?_ cs _ ?_ Tryz.underlying32 ?_ ?_ ?_); (case _ => rfl); (case _ => rfl); (case _ => exact fun j u hj => pw_cell_below (below_alloc (Below.refl _ _) _) (new_cells _ _ _ j u hj)); (case _ => rfl); (case _ => rw [HKl.out]; exact size32'))
    | (refine ⟨trivial, ?_⟩; gi_at_call 40; refine (callsIn_wide.2 (all_calls cs _)).mono ?_; rintro e w' ⟨rfl, rfl⟩))
  have bT0 := (Boxed.new (w.alloc (.cells cs.toArray 32)) 3 (.int .i64 1)).alloc (.cells cs.toArray 32)
  have aC0 : ∀ j u, cs[j]? = some u → (((w.alloc (.cells cs.toArray 32)).alloc (.cells #[.int .i64 1] 3)).alloc (.cells cs.toArray 32)).cell? ((⟨w.heap.size + 1 + 1, 0, none⟩ : Addr).add j) = some u := fun j u hj => by
    have := new_cells ((w.alloc (.cells cs.toArray 32)).alloc (.cells #[.int .i64 1] 3)) cs 32 j u hj
    simpa using this
  have hB0 : Below w.heap.size w (((w.alloc (.cells cs.toArray 32)).alloc (.cells #[.int .i64 1] 3)).alloc (.cells cs.toArray 32)) := below_alloc (below_alloc (below_alloc (Below.refl _ _) _) _) _
  have hsz : (((w.alloc (.cells cs.toArray 32)).alloc (.cells #[.int .i64 1] 3)).alloc (.cells cs.toArray 32)).heap.size = w.heap.size + 3 := by simp
  simp only [World.size_alloc] at bT0
  obtain ⟨W0, hW0⟩ : ∃ W0, (((w.alloc (.cells cs.toArray 32)).alloc (.cells #[.int .i64 1] 3)).alloc (.cells cs.toArray 32)) = W0 := ⟨_, rfl⟩
  rw [hW0] at bT0 aC0 hB0 hsz ⊢
  clear hW0
  have HS := Lib.hid (all_stops Fence.wide rfl trivial trivial rfl (9 - 1) (w.heap.size + 1 + 1) w (w.heap.size + 2) x cs W0 HX.out hB0 (by omega) (by omega) aC0)
  clear aC0
  refine wpIn_rangeFunc_ownH rfl h1 (gf := 52) (lb := #[.pointer (some ⟨w.heap.size + 1 + 1, 0, none⟩)]) rfl trivial (enters_of Tryz.func52 (by kernel_rfl) rfl)
    HS.out (fun h k => h.trans k) (Keeps.putObj (by omega)) (Below.refl _ _) (fun _ => rfl)
    (fun pre W => Boxed W (w.heap.size + 1) 3 (.int .i64 (topL (pre.map EC.ex))) ∧ Below w.heap.size w W)
    (fun c pre W => False)
    (OwnFrom.and (Own.from (boxed_own _ _ _) _) (ownFrom_below (Nat.le_refl _) (by omega)))
    (fun c => ownFrom_pure _ _)
    ⟨by simpa [topL] using bT0, hB0⟩
    (fun x1 a' W => ∃ Bx, (w.heap.size + 2 ≤ Bx ∧ ∀ j u, x1.cs[j]? = some u → W.cell? ((⟨Bx, 0, none⟩ : Addr).add j) = some u) ∧ a' = { tmps := #[Value.agg cs.toArray, .pointer (some ⟨w.heap.size, 0, none⟩), .int .i64 0, .pointer (some ⟨w.heap.size + 1, 0, none⟩), .pointer (some ⟨Bx, 0, none⟩), undef, undef, Value.agg cs.toArray, .func (.func 52) #[] #[.pointer (some ⟨w.heap.size + 1 + 1, 0, none⟩)], .agg x1.cs.toArray, undef, undef, undef, undef, undef, undef, undef, undef, undef, undef, undef, undef, undef, undef, undef, undef, undef, undef], defers := [] })
    (fun x1 a' _ X Y row hs hg hr => by obtain ⟨Bx, ⟨h1, h2⟩, h3⟩ := hs; exact ⟨Bx, ⟨h1, cells_own Bx x1.cs () X Y row h2 hg (fun r e => (hr r e).2)⟩, h3⟩)
    ?assign ?body ?done ?stop
  case assign =>
    rintro l pre x1 W K ⟨bT1, hB1⟩ hK
    have hl1 := Lib.hid (kE_len x1.2)
    have ho1 := Lib.hid (kE.K_one x1.2)
    have hs1 := hB1.size
    have hsm := bT1.lt
    gi_wp2_with ((with_reducible refine store_newIn _ none rfl ?_ 32 _ _ rfl _ x1.cs ?_ ?_ ?_ ?_ ?_ ?_); (case _ => rfl); (case _ => rfl); (case _ => rfl); (case _ => rw [hl1.out]; exact size32'); (case _ => rw [hl1.out]; rfl); (case _ => rw [List.all_eq_true]; exact ho1.out))
    have hbw : Below W.heap.size W (W.alloc (.cells x1.cs.toArray 32)) := below_alloc (Below.refl _ _) _
    exact hK _ _ (keepsFrom_of_below hbw) (Keeps.of_below hbw hs1) ⟨Boxed_below bT1 hbw, below_then hB1 (by omega) hbw⟩ ⟨W.heap.size, ⟨by omega, new_cells _ _ _⟩, rfl⟩
  case body =>
    rintro l pre x1 a' W hl hr ⟨bT1, hB1⟩ ⟨Bx, ⟨hBx, hcX⟩, rfl⟩ hlt
    have hs1 := hB1.size
    obtain ⟨P, hP⟩ : ∃ P, P = pre.map EC.ex := ⟨_, rfl⟩
    obtain ⟨y, hy⟩ : ∃ y, y = EC.ex x1 := ⟨_, rfl⟩
    have hmap : (pre ++ [x1]).map EC.ex = P ++ [y] := by simp [hP, hy]
    have hK1 : kE.K w y x1.cs := by rw [hy]; exact x1.2
    obtain ⟨A3, c3, A6, c6, A7, c7, A9, c9, A12, c12, he, l3, g3, l6, g6, l7, g7, l9, g9, l12, g12⟩ := kE_open hK1
    have q8 : W.cell? ⟨Bx, 8, none⟩ = some (.int .i64 y.v) := by have := hcX 8 (.int .i64 y.v) (by rw [he]; rfl); rwa [add_plain] at this
    have q9 : W.cell? ⟨Bx, 9, none⟩ = some (.slice A9 y.vars.length c9) := by have := hcX 9 (.slice A9 y.vars.length c9) (by rw [he]; rfl); rwa [add_plain] at this
    have G9 := Lib.hid g9
    have hmx := Kd.C_max g9
    have cT := bT1.cell
    have fT := bT1.frozen
    rw [← hP] at cT bT1
    have HM := Lib.hid hmap
    clear hcX he g3 g6 g7 g9 g12 l3 l6 l7 hK1 hlt hr hP hy hmap
    obtain ⟨t0, ht0⟩ : ∃ t0, topL P = t0 := ⟨_, rfl⟩
    rw [ht0] at cT
    gi_wp2
    have hlt1 := bT1.lt
    have bT2 := bT1.set (.int .i64 (max t0 (wrap64 (y.v + 1))))
    have hk2 : Keeps w.heap.size (w.heap.size + 2) W (W.setCell ⟨w.heap.size + 1, 0, none⟩ (.int .i64 (max t0 (wrap64 (y.v + 1))))) := keeps_set _ _ hs1
    have hf2 : KeepsFrom W0.heap.size W (W.setCell ⟨w.heap.size + 1, 0, none⟩ (.int .i64 (max t0 (wrap64 (y.v + 1))))) := (KeepsOthers.setCell _ _ _).from _
    have HT := Lib.hid ht0
    clear cT fT bT1 ht0
    gi_loopw [18] (fun v18 wr => ∃ j : Nat, j ≤ y.vars.length ∧ v18 = .int .i64 j ∧ Boxed wr (w.heap.size + 1) 3 (.int .i64 ((y.vars.take j).foldl topV (topV t0 y.v))) ∧ Keeps w.heap.size (w.heap.size + 2) W wr ∧ KeepsFrom W0.heap.size W wr) (fun v18 _ => y.vars.length - (intOf v18).toNat)
    case atStart => exact ⟨0, Nat.zero_le _, rfl, by simpa [topV] using bT2, hk2, hf2⟩
    case round =>
      obtain ⟨j, hj, rfl, bT, hk, hf⟩ := hrel
      by_cases hjl : j < y.vars.length
      · obtain ⟨ad, hA, hc0⟩ := elI G9.out hjl
        subst hA
        have hc := pw_cell_below (hB1.trans hk.below) hc0
        have cT := bT.cell
        have fT := bT.frozen
        have hst : (y.vars.take (j + 1)).foldl topV (topV t0 y.v) = topV ((y.vars.take j).foldl topV (topV t0 y.v)) (y.vars.getD j 0) := by rw [take_getD hjl, List.foldl_append]; rfl
        obtain ⟨t1, ht1⟩ : ∃ t1, (y.vars.take j).foldl topV (topV t0 y.v) = t1 := ⟨_, rfl⟩
        obtain ⟨v, hv⟩ : ∃ v, v = y.vars.getD j 0 := ⟨_, rfl⟩
        rw [← hv] at hc hst
        rw [ht1] at cT hst
        have HS1 := Lib.hid hst
        have HT1 := Lib.hid ht1
        have hss := hk.below.size
        clear hv hc0 hst ht1
        gi_wp2
        go_roundw
        case rel => exact ⟨j + 1, by omega, by go_num, by rw [HS1.out]; exact bT.set _, hk.trans (keeps_set _ _ (by omega)), hf.trans ((KeepsOthers.setCell _ _ _).from _)⟩
        case measure => simp [intOf]; omega
      · gi_wp2
        have hjn : y.vars.take j = y.vars := List.take_of_length_le (by omega)
        rw [hjn] at bT
        exact ⟨hf, hk, by rw [HM.out, topL_snoc, HT.out]; exact bT, hB1.trans hk.below⟩
  case done =>
    rintro D ys W hD hS ⟨bT1, hB1⟩ hK
    have cT := bT1.cell
    have fT := bT1.frozen
    gi_wp2
    refine ⟨by simp, .inl ⟨_, _, rfl, run_takeDeferred hK, ?_⟩⟩
    exact ⟨_, results_tmp rfl _ _ _, by rw [HR.out, ← hS]; rfl, hB1.trans (belowK_b (w := w) (Nat.le_refl _) W D _ _ (by omega) hK rfl rfl)⟩
  case stop =>
    rintro D c pre W hD hSp h hK
    exact h.elim
end Go.Proofs.YtlcofdgaidlldaaGreatDoor
