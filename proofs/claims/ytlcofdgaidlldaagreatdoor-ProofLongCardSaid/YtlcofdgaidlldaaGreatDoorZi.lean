/- Contracts: the iterator core.all (all$1, walk), for every loop body that keeps what lay. Contracts: core.all and its closure, for every loop body that keeps what lay. Maps of integers to booleans, and to integers, as functions: what a block is good for, and the walk's laws on look-up and store. Contract: core.Good. The walk's conditions: the parameter's memory; the tables are laid. what core.free leaves behind; a struct stored; small laws on maps. -/
import Derived.RangeFuncNested
import Derived.RangeFuncBound
import Derived.RangeFuncCalls
import Derived.RangeFuncLeaves
import Derived.Shelf.Abstract
import Derived.Shelf.RegionOpen
import Derived.Deep.WholeRow
import Derived.WalkKit
import Derived.OwnWalkIn
import Derived.TacticsInMore
import Derived.LoopNIn
import Derived.LoopIn
import Derived.Maps.OwnIn
import Derived.Test.YtlcofdgaidlldaaGreatDoorZh
namespace Go.Proofs.YtlcofdgaidlldaaGreatDoor
open Go.RowKit Go.Shelf Go.Proofs.YtlcofdgaidlldaaGreatDoorW.PrintWords
set_option linter.unusedVariables false
set_option linter.unusedSimpArgs false
attribute [local go_sem] Oper.semAt_some
theorem room_of_none' {F : Fence} (hd : F.depth = none) (k : Nat) : F.room k := fun d h => by rw [hd] at h; cases h
theorem RoundIn_anyDepth {F : Fence} (hd : F.depth = none) {m m' : Nat} {P : Program} {l : Nat} {f : FuncId} {tmps : Array Value} {assign body : Code} {w : World} {R : Ending → World → Prop}
    (h : RoundIn F m P l f tmps assign body w R) : RoundIn F m' P l f tmps assign body w R := ⟨h.1, fun c cs _ => h.2 c cs (room_of_none' hd _)⟩
theorem YieldAt_anyDepth {F : Fence} (hd : F.depth = none) {m : Nat} (m' : Nat) {P : Program} {l : Nat} {args : Array Value} {W : World} {R : Ending → World → Prop} (h : YieldAt F m P l args W R) : YieldAt F m' P l args W R := by
  obtain ⟨fn, tmps, assign, body, hy, hR⟩ := h
  exact ⟨fn, tmps, assign, body, hy, RoundIn_anyDepth hd hR⟩
section
variable {F : Fence} {nF : Nat} {P : Program} {ops : Array Oper} {rest : List Oper} {o : Oper} {a : Act} {w : World} {Q : Exit → Act → World → Prop}
/-- A struct is read inside a fence. -/
theorem load_listIn (N : Tmp) (hN : o.dst = some N) (hgd : o.guard = none) (ty : TypeId) (x : Operand) (ho : o.op = .load ty x) (ad : Addr) (hx : a.eval x = .pointer (some ad)) (cs : List Value) (d : TypeDesc)
    (hc : ∀ j u, cs[j]? = some u → w.cell? (ad.add j) = some u)
    (hu : P.underlying ty = some d) (hd : (match d with | .struct _ | .array _ _ => true | _ => false) = true) (hi : (P.info? ty).map (·.size) = some cs.length)
    (h : wpListIn F nF P ops Q rest (a.put (some N) (.agg cs.toArray)) w) : wpListIn F nF P ops Q (o :: rest) a w := by
  refine wpListIn_plain hgd fun K hK => ?_
  unfold Oper.wpIn
  refine ⟨by simp [Oper.about, ho], ?_⟩
  rw [Oper.semAt_plain F _ _ (by rw [ho]; intro c hc'; cases hc')]
  unfold execOp
  simp only [ho, hx, Instr.loadAt, Instr.sureAddr, Sem.run_bind, Sem.run_pure, Result.andThen_ok, run_load_list w ad ty cs d hc hu hd hi]
  rw [← hN] at h
  exact hK _ _ h
end
section
variable {F : Fence} {nF : Nat} {P : Program} {ops : Array Oper} {rest : List Oper} {o : Oper} {a : Act} {Q : Exit → Act → World → Prop}
/-- A struct is stored into the block that was made last, inside a fence. -/
theorem store_newIn (w : World) (N : Option Tmp) (hN : o.dst = N) (hgd : o.guard = none) (ty : TypeId) (x y : Operand) (ho : o.op = .store ty x y) (c : Array Value) (cs : List Value) (hx : a.eval x = .pointer (some ⟨w.heap.size, 0, none⟩)) (hy : a.eval y = .agg cs.toArray)
    (hi : (P.info? ty).map (·.size) = some cs.length) (hc : c.size = cs.length) (h1 : cs.all (·.oneCell') = true)
    (h : wpListIn F nF P ops Q rest (a.put N undef) (w.alloc (.cells cs.toArray ty))) : wpListIn F nF P ops Q (o :: rest) a (w.alloc (.cells c ty)) := by
  refine wpListIn_plain hgd fun K hK => ?_
  unfold Oper.wpIn
  refine ⟨by simp [Oper.about, ho], ?_⟩
  rw [Oper.semAt_plain F _ _ (by rw [ho]; intro c hc'; cases hc')]
  unfold execOp
  simp only [ho, hx, hy, Sem.run_bind, Sem.run_pure, Result.andThen_ok, run_storeAt_new w ty c cs.toArray (by simpa using hi) (by simpa using hc) (by simpa using h1)]
  rw [← hN] at h
  exact hK _ _ h
end
theorem new_cells (w : World) (cs : List Value) (ty : TypeId) (j : Nat) (u : Value) (h : cs[j]? = some u) : (w.alloc (.cells cs.toArray ty)).cell? ((⟨w.heap.size, 0, none⟩ : Addr).add j) = some u := by
  rw [add_plain, cell_of_row _ _ _ cs.toArray ty (0, 0) (heap_alloc_last w _)]
  simpa using h
/-- What a round keeps: all that lay below n₀; and all cells that lie at or beyond n₁. -/
structure Keeps (n₀ n₁ : Nat) (W W' : World) : Prop where
  below : Below n₀ W W'
  cells : ∀ (k : Nat) (o : Obj), n₁ ≤ k → W.heap[k]? = some o → o.isCells = true → W'.heap[k]? = some o
theorem Keeps.refl (n₀ n₁ : Nat) (W : World) : Keeps n₀ n₁ W W := ⟨Below.refl _ _, fun _ _ _ h _ => h⟩
theorem Keeps.trans {n₀ n₁ : Nat} {A B C : World} (h : Keeps n₀ n₁ A B) (k : Keeps n₀ n₁ B C) : Keeps n₀ n₁ A C := ⟨h.below.trans k.below, fun i o hi ho hc => k.cells i o hi (h.cells i o hi ho hc) hc⟩
theorem Keeps.of_below {n₀ n₁ : Nat} {A B : World} (h : Below A.heap.size A B) (h0 : n₀ ≤ A.heap.size) : Keeps n₀ n₁ A B := ⟨h.mono h0, fun i o _ ho _ => (h.block i (Array.getElem?_eq_some_iff.1 ho).1).trans ho⟩
theorem Keeps.putObj {n₀ n₁ : Nat} {w : World} (hn : n₀ ≤ w.heap.size) (W : World) (l : Nat) (o o' : Obj) (hl : w.heap.size ≤ l) (h : W.heap[l]? = some o) (hc : o.isCells = false) (hw : o.isWalk = false) : Keeps n₀ n₁ W (W.putObj l o') :=
  ⟨belowK_b hn W l o o' hl h hc hw, fun i oi _ hi hci => ((grownBy_putObj' W l o').block i (Array.getElem?_eq_some_iff.1 hi).1 (fun e => by cases e; rw [h] at hi; cases hi; rw [hc] at hci; cases hci)).trans hi⟩
theorem isCells_of_cell {W : World} {a : Addr} {v : Value} (h : W.cell? a = some v) : ∃ o : Obj, W.heap[a.block]? = some o ∧ o.isCells = true := by
  unfold World.cell? at h
  cases ho : W.heap[a.block]? with
  | none => simp [ho] at h
  | some o => exact ⟨o, rfl, by cases o <;> simp_all [Obj.isCells]⟩
theorem Keeps.cell {n₀ n₁ : Nat} {A B : World} (h : Keeps n₀ n₁ A B) {p : Addr} (hp : n₁ ≤ p.block) {v : Value} (hc : A.cell? p = some v) : B.cell? p = some v := by
  obtain ⟨o, ho, hk⟩ := isCells_of_cell hc
  rw [← hc]
  exact World.cell?_of_block ((h.cells _ o hp ho hk).trans ho.symm)
theorem grown_of_below {A B : World} (h : Below A.heap.size A B) : A.grownBy B none := ⟨h.os, h.tape, h.output, h.size, fun k hk _ => h.block k hk⟩
/-- An expression that lies in a world, with its cells. -/
abbrev EC (w0 : World) := { p : Ex × List Value // kE.K w0 p.1 p.2 }
def EC.ex {w0 : World} (x : EC w0) : Ex := x.1.1
abbrev EC.cs {w0 : World} (x : EC w0) : List Value := x.1.2
abbrev EC.encs {w0 : World} (x : EC w0) : Array Value := #[Value.agg x.cs.toArray]
set_option maxRecDepth 100000 in
set_option maxHeartbeats 2000000 in
theorem walkE_in (F : Fence) (hd : F.depth = none) (h144 : F.fn 53) (hro : F.round = none) (l : Nat) (w0 : World) (B n₁ : Nat) (N : Nat) (J Jx : List (EC w0) → World → Prop) (hJ : AbidesFrom B J)
    (hY : ∀ m pre (x : EC w0) W, J pre W → pre.length < N → YieldAt F m Tryz.prog l #[.agg x.cs.toArray] W fun e W' =>
      (e = .returned (.bool true) ∧ J (pre ++ [x]) W' ∧ Keeps w0.heap.size n₁ W W') ∨ (e = .returned (.bool false) ∧ Jx (pre ++ [x]) W')) :
    ∀ (n : Nat) (x : Ex) (cs : List Value) (m : Nat) (pre : List (EC w0)) (W : World), x.big < n → kE.K w0 x cs → Below w0.heap.size w0 W → n₁ ≤ W.heap.size → J pre W → pre.length + x.all.length ≤ N →
      CallsIn F m Tryz.prog 53 #[.agg cs.toArray, .func (.yield l) #[] #[]] W fun e W' =>
        (e = .returned (.bool true) ∧ (∃ q : List (EC w0), q.map EC.ex = x.all ∧ J (pre ++ q) W') ∧ Keeps w0.heap.size n₁ W W') ∨ (e = .returned (.bool false) ∧ ∃ q : List (EC w0), q.map EC.ex <+: x.all ∧ Jx (pre ++ q) W') := by
  intro n
  induction n with
  | zero => intro x cs m pre W h; omega
  | succ n ih =>
  intro x cs m pre W hn hx hb0 hn1 hj hN
  have hdd : ∀ k : Nat, (F.depth.isSome = true → 1 ≤ k) := fun k h => by rw [hd] at h; cases h
  have hall := Lib.hid x.all_eq
  have hlen : x.all.length = 1 + (Ex.allL x.kids).length := by rw [x.all_eq]; simp; omega
  have hY1 : ∀ W1, J pre W1 → YieldAt F (m - 1) Tryz.prog l #[.agg cs.toArray] W1 fun e W' =>
      (e = .returned (.bool true) ∧ J (pre ++ [⟨(x, cs), hx⟩]) W' ∧ Keeps w0.heap.size n₁ W1 W') ∨ (e = .returned (.bool false) ∧ Jx (pre ++ [⟨(x, cs), hx⟩]) W') :=
    fun W1 h => hY (m - 1) pre ⟨(x, cs), hx⟩ W1 h (by omega)
  obtain ⟨X0, hX0⟩ : ∃ X0 : EC w0, X0 = ⟨(x, cs), hx⟩ := ⟨_, rfl⟩
  have hX0e := Lib.hid (show X0.ex = x by rw [hX0]; rfl)
  rw [← hX0] at hY1
  have IH := Lib.hid (fun (k : Nat) (hk : k < x.kids.length) (c : List Value) (m : Nat) (pre : List (EC w0)) (W : World) => ih (rdE x.kids k) c m pre W (by have := Ex.big_kid hk; omega))
  obtain ⟨A3, c3, A6, c6, A7, c7, A9, c9, A12, c12, rfl, l3, g3, l6, g6, l7, g7, l9, g9, l12, g12⟩ := kE_open hx
  have HX := Lib.hid (fun (W : World) (hb : Below w0.heap.size w0 W) => Kd.C_below g12 hb)
  have hm := Kd.C_max g12
  clear hX0 hx g3 g6 g7 g9 g12 l3 l6 l7 l9 ih
  have hJa : ∀ (s : List (EC w0)) (A B' : World), Below A.heap.size A B' → J s A → J s B' := fun s A B' hb h => hJ s A B' none h (grown_of_below hb) (fun r e => by cases e)
  have hjW := hJa pre W (W.alloc (.cells #[.int .i64 x.kind, .int .i64 x.d.kind, .bool x.d.i.neg, .slice A3 x.d.i.l.length c3, .bool x.d.b, .string x.d.s, .slice A6 x.d.items.length c6, .slice A7 x.d.tail.length c7, .int .i64 x.v, .slice A9 x.vars.length c9, .bool x.rest, .int .i64 x.p, .slice A12 x.kids.length c12] 32)) (below_alloc (Below.refl _ _) _) hj
  obtain ⟨fn, tmps, assign, body, hy, hR⟩ := hY1 _ hjW
  clear hY1
  have hbW : Below W.heap.size W (W.alloc (.cells #[.int .i64 x.kind, .int .i64 x.d.kind, .bool x.d.i.neg, .slice A3 x.d.i.l.length c3, .bool x.d.b, .string x.d.s, .slice A6 x.d.items.length c6, .slice A7 x.d.tail.length c7, .int .i64 x.v, .slice A9 x.vars.length c9, .bool x.rest, .int .i64 x.p, .slice A12 x.kids.length c12] 32)) := below_alloc (Below.refl _ _) _
  have hs0 := hb0.size
  refine callsIn_of_wp Tryz.func53 rfl h144 ?_ hro
  simp only [Tryz.ntmps53, List.size_toArray, List.length_cons, List.length_nil, Nat.reduceAdd, Nat.reduceSub, Array.replicate_succ, Array.replicate_zero, List.push_toArray, List.append_toArray, List.nil_append, List.cons_append]
  gi_wp2_with ((try refine ⟨hdd _, ?_⟩); refine hR.mono ?_; clear hR; rintro e W2 (⟨rfl, hJ2, hk2⟩ | ⟨rfl, hx2⟩); (try (have q12 := hk2.cell (p := ⟨W.heap.size, 12, none⟩) hn1 (v := .slice A12 x.kids.length c12) (by go_simp))))
  · have hk0 : Keeps w0.heap.size n₁ W W2 := (Keeps.of_below hbW hs0).trans hk2
    clear hbW
    gi_loopw [14] (fun v14 wr => ∃ (k : Nat) (q : List (EC w0)), k ≤ x.kids.length ∧ v14 = .int .i64 k ∧ q.map EC.ex = x :: Ex.allL (x.kids.take k) ∧ J (pre ++ q) wr ∧ Keeps w0.heap.size n₁ W wr) (fun v14 _ => x.kids.length - (intOf v14).toNat)
    case atStart => exact ⟨0, [X0], Nat.zero_le _, rfl, by simp [Ex.allL, hX0e.out], hJ2, hk0⟩
    case round =>
      obtain ⟨k, q, hk, rfl, hq, hjq, hkr⟩ := hrel
      by_cases hlt : k < x.kids.length
      · obtain ⟨ad, cc, hA, hK, hcc0⟩ := elE (HX.out w0 (Below.refl _ _)) hlt
        have hcc : ∀ j u, cc[j]? = some u → wr.cell? ((ad.add (k * 13)).add j) = some u := fun j u h => pw_cell_below (hb0.trans hkr.below) (hcc0 j u h)
        clear hcc0 hjW hy hk2
        subst hA
        have HC := Lib.hid hcc
        have hsr := hkr.below.size
        have hbr : ∀ o, Below w0.heap.size w0 (wr.alloc o) := fun o => (hb0.trans hkr.below).trans ((below_alloc (Below.refl wr.heap.size wr) o).mono (by omega))
        have hjr : ∀ o, J (pre ++ q) (wr.alloc o) := fun o => hJa _ wr _ (below_alloc (Below.refl _ _) _) hjq
        have hNk : (pre ++ q).length + (rdE x.kids k).all.length ≤ N := by
          have h1 : q.length = 1 + (Ex.allL (x.kids.take k)).length := by rw [← List.length_map (f := EC.ex), hq]; simp; omega
          have h2 := congrArg List.length (Ex.allL_drop (l := x.kids) (k + 1))
          rw [Ex.allL_take hlt] at h2
          simp only [List.length_append] at h2 ⊢
          omega
        have hkx : ∀ o, Keeps w0.heap.size n₁ W (wr.alloc o) := fun o => hkr.trans (Keeps.of_below (below_alloc (Below.refl _ _) _) (by omega))
        have HI := Lib.hid (fun o mm => IH.out k hlt cc mm (pre ++ q) (wr.alloc o) hK (hbr o) (by simp; omega) (hjr o) hNk)
        have HK1 := Lib.hid (kE.K_one hK)
        have HKl := Lib.hid (kE_len hK)
        clear hcc hK hbr hjr hNk
        gi_wp2_with (first
          | ((with_reducible refine load_listIn 17 rfl ?_ 32 _ rfl (ad.add (k * 13)) ?_ cc _ HC.out Tryz.underlying32 ?_ ?_ ?_); (case _ => rfl); (case _ => rfl); (case _ => rfl); (case _ => rw [HKl.out]; exact size32'))
          | ((with_reducible refine store_newIn _ none rfl ?_ 32 _ _ rfl _ cc ?_ ?_ ?_ ?_ ?_ ?_); (case _ => rfl); (case _ => rfl); (case _ => rfl); (case _ => rw [HKl.out]; exact size32'); (case _ => rw [HKl.out]; rfl); (case _ => rw [List.all_eq_true]; exact HK1.out))
          | ((with_reducible refine load_listIn 18 rfl ?_ 32 _ rfl ⟨wr.heap.size, 0, none⟩ ?_ cc _ (new_cells _ _ _) Tryz.underlying32 ?_ ?_ ?_); (case _ => rfl); (case _ => rfl); (case _ => rfl); (case _ => rw [HKl.out]; exact size32'))
          | ((try refine ⟨hdd _, ?_⟩); gi_at_call 53; refine (HI.out _ _).mono ?_; rintro e W3 (⟨rfl, ⟨q2, hq2, hj3⟩, hk3⟩ | ⟨rfl, q2, hq2, hx3⟩)))
        · go_roundw
          case rel => exact ⟨k + 1, q ++ q2, by omega, by go_num, by rw [List.map_append, hq, hq2, Ex.allL_take hlt]; rfl, by rw [← List.append_assoc]; exact hj3, (hkx _).trans hk3⟩
          case measure => simp [intOf]; omega
        · go_ret
          obtain ⟨r, hr⟩ := hq2
          refine .inr ⟨rfl, q ++ q2, ⟨r ++ Ex.allL (x.kids.drop (k + 1)), ?_⟩, by rw [← List.append_assoc]; exact hx3⟩
          rw [List.map_append, hq, hall.out, Ex.allL_drop (l := x.kids) (k + 1), Ex.allL_take hlt, ← hr]
          simp [List.append_assoc]
      · gi_wp2
        go_ret
        have hq' : q.map EC.ex = x.all := by rw [hq, hall.out, show Ex.allL (x.kids.take k) = Ex.allL x.kids by rw [List.take_of_length_le (by omega)]]
        exact .inl ⟨rfl, ⟨q, hq', hjq⟩, hkr⟩
  · go_ret
    exact .inr ⟨rfl, [X0], by rw [hall.out]; simp [hX0e.out], hx2⟩
end Go.Proofs.YtlcofdgaidlldaaGreatDoor
namespace Go.Proofs.YtlcofdgaidlldaaGreatDoor
open Go.RowKit Go.Shelf Go.Proofs.YtlcofdgaidlldaaGreatDoorW.PrintWords
set_option linter.unusedVariables false
set_option linter.unusedSimpArgs false
attribute [local go_sem] Oper.semAt_some
set_option maxRecDepth 100000 in
set_option maxHeartbeats 1000000 in
theorem all1_in (F : Fence) (hd : F.depth = none) (h143 : F.fn 52) (h144 : F.fn 53) (hro : F.round = none) (n l Bt : Nat) (w0 : World) (B n₁ : Nat) (x : Ex) (cs : List Value) (J Jx : List (EC w0) → World → Prop) (hJ : AbidesFrom B J)
    (hY : ∀ pre (x1 : EC w0) W, J pre W → pre.length < x.all.length → YieldAt F (n - 1) Tryz.prog l #[.agg x1.cs.toArray] W fun e W' =>
      (e = .returned (.bool true) ∧ J (pre ++ [x1]) W' ∧ Keeps w0.heap.size n₁ W W') ∨ (e = .returned (.bool false) ∧ Jx (pre ++ [x1]) W'))
    (W : World) (hx : kE.K w0 x cs) (hb0 : Below w0.heap.size w0 W) (hn1 : n₁ ≤ W.heap.size) (hc : ∀ j u, cs[j]? = some u → W.cell? ((⟨Bt, 0, none⟩ : Addr).add j) = some u) (h0 : J [] W) :
    CallsIn F n Tryz.prog 52 #[.func (.yield l) #[] #[], .pointer (some ⟨Bt, 0, none⟩)] W fun e W' => (∃ v, e = .returned v) ∧
      ((∃ ys : List (EC w0), ys.map EC.ex = x.all ∧ J ys W') ∨ (∃ pre : List (EC w0), pre.map EC.ex <+: x.all ∧ Jx pre W')) := by
  have hdd : ∀ k : Nat, (F.depth.isSome = true → 1 ≤ k) := fun k h => by rw [hd] at h; cases h
  have hp := walkE_in F hd h144 hro l w0 B n₁ x.all.length J Jx hJ (fun m pre x1 W hj hl => YieldAt_anyDepth hd m (hY pre x1 W hj hl)) (x.big + 1) x cs (n - 1) [] W (by omega) hx hb0 hn1 h0 (by simp)
  have HKl := Lib.hid (kE_len hx)
  have HC := Lib.hid hc
  clear hx hc hY
  refine callsIn_of_wp Tryz.func52 rfl h143 ?_ hro
  simp only [Tryz.ntmps52, List.size_toArray, List.length_cons, List.length_nil, Nat.reduceAdd, Nat.reduceSub, Array.replicate_succ, Array.replicate_zero, List.push_toArray, List.append_toArray, List.nil_append, List.cons_append]
  gi_wp2_with (first
    | ((with_reducible refine load_listIn 3 rfl ?_ 32 _ rfl ⟨Bt, 0, none⟩ ?_ cs _ HC.out Tryz.underlying32 ?_ ?_ ?_); (case _ => rfl); (case _ => rfl); (case _ => rfl); (case _ => rw [HKl.out]; exact size32'))
    | ((try refine ⟨hdd _, ?_⟩); gi_at_call 53; refine hp.mono ?_; clear hp; rintro e W3 (⟨rfl, ⟨q2, hq2, hj3⟩, hk3⟩ | ⟨rfl, q2, hq2, hx3⟩)))
  · go_end0
    exact ⟨⟨_, rfl⟩, .inl ⟨q2, hq2, hj3⟩⟩
  · go_end0
    exact ⟨⟨_, rfl⟩, .inr ⟨q2, hq2, hx3⟩⟩
set_option maxHeartbeats 1000000 in
theorem all_calls (cs : List Value) (w : World) : Calls Tryz.prog 40 #[.agg cs.toArray] w fun e w' => e = .returned (.func (.func 52) #[] #[.pointer (some ⟨w.heap.size, 0, none⟩)]) ∧ w' = w.alloc (.cells cs.toArray 32) := by
  go_enter Tryz.func40, Tryz.ntmps40
  go_wp2
  go_ret
  exact ⟨rfl, rfl⟩
theorem all_stops (F : Fence) (hd : F.depth = none) (h143 : F.fn 52) (h144 : F.fn 53) (hro : F.round = none) (n Bt : Nat) (w0 : World) (n₁ : Nat) (x : Ex) (cs : List Value) (w : World) (hx : kE.K w0 x cs) (hb0 : Below w0.heap.size w0 w) (hn1 : n₁ ≤ w.heap.size) (hBt : Bt < w.heap.size)
    (hc : ∀ j u, cs[j]? = some u → w.cell? ((⟨Bt, 0, none⟩ : Addr).add j) = some u) :
    SeqStopsK F n Tryz.prog 52 #[.pointer (some ⟨Bt, 0, none⟩)] (EC.encs (w0 := w0)) (Keeps w0.heap.size n₁) (fun ys => ys.map EC.ex = x.all) (fun pre => pre.map EC.ex <+: x.all) x.all.length w := fun l J Jx W hW hJ _ hY h0 =>
  all1_in F hd h143 h144 hro n l Bt w0 W.heap.size n₁ x cs J Jx hJ hY W hx (hb0.trans (hW.mono hb0.size)) (by have := hW.size; omega) (fun j u h => pw_cell_below hW (hc j u h)) h0
end Go.Proofs.YtlcofdgaidlldaaGreatDoor
namespace Go.Proofs.YtlcofdgaidlldaaGreatDoor
open Go.RowKit Go.Shelf Go.Proofs.YtlcofdgaidlldaaGreatDoorW.PrintWords
set_option linter.unusedVariables false
set_option linter.unusedSimpArgs false
theorem plainElem_bool_inv {P : Program} {e : TypeId} (he : P.underlying e = some .bool) {v : Value} {z : DataW Unit × List MemPlace} (h : plainElem P e v = some z) : ∃ a, v = .bool a ∧ z = (.lit (.bool a), []) := by
  unfold plainElem at h
  rw [he] at h
  cases v <;> simp at h
  exact ⟨_, rfl, h.symm⟩
theorem wf64 {i : Int} (h0 : -9223372036854775808 ≤ i) (h1 : i ≤ 9223372036854775807) : (Lit.int .i64 i).wf = true := by
  simp only [Lit.wf, Bool.and_eq_true, decide_eq_true_eq]
  exact ⟨h0, h1⟩
/-- Block b is a map of at most n entries, from integers to booleans, that reads as f; 'true' alone is held. -/
def MB (w : World) (b n : Nat) (f : Int → Bool) : Prop :=
  ∃ D : DataW Unit, w.ownsMap Tryz.prog 3 (plainElem Tryz.prog 4) b n D ∧ (∀ i, D.atKey (.int .i64 i) (.lit (.bool false)) = .lit (.bool (f i))) ∧ ∀ i, Maps.has D (.int .i64 i) = f i
/-- .. from integers to integers. -/
def MI (w : World) (b n : Nat) (f : Int → Int) : Prop :=
  ∃ D : DataW Unit, w.ownsMap Tryz.prog 3 (plainElem Tryz.prog 3) b n D ∧ ∀ i, D.atKey (.int .i64 i) (.lit (.int .i64 0)) = .lit (.int .i64 (f i))
theorem keyI : Maps.Keyed Tryz.prog 3 := Maps.int_keyed Tryz.underlying3
theorem MB.lt {w : World} {b n : Nat} {f : Int → Bool} (h : MB w b n f) : b < w.heap.size := by
  obtain ⟨D, ⟨es, ck, hb, _⟩, _⟩ := h
  exact (Array.getElem?_eq_some_iff.1 hb).1
theorem MB.other {w : World} {b n : Nat} {f : Int → Bool} (h : MB w b n f) : ∃ o : Obj, w.heap[b]? = some o ∧ o.isCells = false := by
  obtain ⟨D, ⟨es, ck, hb, _⟩, _⟩ := h
  exact ⟨_, hb, rfl⟩
theorem MB.kept {w w' : World} {row : Option Nat} {b n : Nat} {f : Int → Bool} (h : MB w b n f) (hg : w.grownBy w' row) (hne : some b ≠ row) : MB w' b n f := by
  obtain ⟨D, h1, h2⟩ := h
  exact ⟨D, h1.kept hg hne, h2⟩
theorem MB.below {w w' : World} {b n : Nat} {f : Int → Bool} (h : MB w b n f) (hb : Below w.heap.size w w') : MB w' b n f := h.kept (grown_of_below hb) (fun e => by cases e)
theorem MI.lt {w : World} {b n : Nat} {f : Int → Int} (h : MI w b n f) : b < w.heap.size := by
  obtain ⟨D, ⟨es, ck, hb, _⟩, _⟩ := h
  exact (Array.getElem?_eq_some_iff.1 hb).1
theorem MI.other {w : World} {b n : Nat} {f : Int → Int} (h : MI w b n f) : ∃ o : Obj, w.heap[b]? = some o ∧ o.isCells = false := by
  obtain ⟨D, ⟨es, ck, hb, _⟩, _⟩ := h
  exact ⟨_, hb, rfl⟩
theorem MI.kept {w w' : World} {row : Option Nat} {b n : Nat} {f : Int → Int} (h : MI w b n f) (hg : w.grownBy w' row) (hne : some b ≠ row) : MI w' b n f := by
  obtain ⟨D, h1, h2⟩ := h
  exact ⟨D, h1.kept hg hne, h2⟩
theorem MI.below {w w' : World} {b n : Nat} {f : Int → Int} (h : MI w b n f) (hb : Below w.heap.size w w') : MI w' b n f := h.kept (grown_of_below hb) (fun e => by cases e)
theorem MB.made (w : World) : MB (w.alloc (.map #[] 0)) w.heap.size 0 (fun _ => false) := ⟨.map [], World.ownsMap_made w _ _ _, fun _ => rfl, fun _ => rfl⟩
theorem MI.made (w : World) : MI (w.alloc (.map #[] 0)) w.heap.size 0 (fun _ => 0) := ⟨.map [], World.ownsMap_made w _ _ _, fun _ => rfl⟩
theorem atKey_put_i {D : DataW Unit} (hD : Maps.IsMap D) (i j : Int) (d z : DataW Unit) : (D.put (.int .i64 i) d).atKey (.int .i64 j) z = if j = i then d else D.atKey (.int .i64 j) z := by
  by_cases h : j = i
  · subst h; rw [if_pos rfl]; exact Maps.atKey_put_same hD (by trivial) _ _
  · rw [if_neg h]; exact Maps.atKey_put_other (fun e => h (by cases e; rfl)) _ _
theorem MB.value {w : World} {b n : Nat} {f : Int → Bool} (h : MB w b n f) {i : Int} (hi : (Lit.int .i64 i).wf = true) :
    (Instr.lookup 72 (.map (some b)) (.int .i64 i) false).run Tryz.prog w = .ok (.bool (f i)) w := by
  obtain ⟨D, h1, h2, _⟩ := h
  obtain ⟨v, ps, hr, hv⟩ := h1.lookup (zd := .lit (.bool false)) (zp := []) (t := 72) (z := .bool false) keyI Tryz.underlying72 (Tryz.zeroValue4 _) (plainElem_bool Tryz.underlying4 false) (Maps.keyOf_int_mk Tryz.underlying3 hi)
  obtain ⟨c, rfl, hz⟩ := plainElem_bool_inv Tryz.underlying4 hv
  have he := (congrArg Prod.fst hz).symm.trans (h2 i)
  rw [hr]
  simp only [DataW.lit.injEq, Lit.bool.injEq] at he
  rw [he]
theorem MI.value {w : World} {b n : Nat} {f : Int → Int} (h : MI w b n f) {i : Int} (hi : (Lit.int .i64 i).wf = true) :
    (Instr.lookup 77 (.map (some b)) (.int .i64 i) false).run Tryz.prog w = .ok (.int .i64 (f i)) w := by
  obtain ⟨D, h1, h2⟩ := h
  obtain ⟨c, hr, hat, _⟩ := h1.lookup_int (t := 77) keyI Tryz.underlying77 Tryz.underlying3 (Tryz.zeroValue3 _) (Maps.keyOf_int_mk Tryz.underlying3 hi)
  have he := hat.symm.trans (h2 i)
  rw [hr]
  simp only [DataW.lit.injEq, Lit.int.injEq, true_and] at he
  rw [he]
theorem MB.store0 {w : World} {b n : Nat} {f : Int → Bool} (h : MB w b n f) {i : Int} (hi : (Lit.int .i64 i).wf = true) (hn : n < maxLen) {v : Bool} (hv : v = true) :
    ∃ w', (Instr.mapUpdate 72 (.map (some b)) (.int .i64 i) (.bool v)).run Tryz.prog w = .ok () w' ∧ MB w' b (n + 1) (fun j => if j = i then v else f j) ∧ w.grownBy w' (some b) := by
  obtain ⟨D, h1, h2, h5⟩ := h
  obtain ⟨w', hr, h3, h4⟩ := h1.update (t := 72) keyI Tryz.underlying72 hn (Maps.keyOf_int_mk Tryz.underlying3 hi) (plainElem_bool Tryz.underlying4 v)
  refine ⟨w', hr, ⟨_, h3, fun j => ?_, fun j => ?_⟩, h4⟩
  rotate_left
  · subst hv
    dsimp only
    by_cases hj : j = i
    · subst hj; rw [Maps.has_put_same h1.isMap (by trivial), if_pos rfl]
    · rw [Maps.has_put_other (fun e => hj (by cases e; rfl)), if_neg hj]; exact h5 j
  rw [atKey_put_i h1.isMap]
  dsimp only
  by_cases hj : j = i
  · rw [if_pos hj, if_pos hj]
  · rw [if_neg hj, if_neg hj]; exact h2 j
theorem MI.store0 {w : World} {b n : Nat} {f : Int → Int} (h : MI w b n f) {i : Int} (hi : (Lit.int .i64 i).wf = true) (hn : n < maxLen) {v : Int} (hv : (Lit.int .i64 v).wf = true) :
    ∃ w', (Instr.mapUpdate 77 (.map (some b)) (.int .i64 i) (.int .i64 v)).run Tryz.prog w = .ok () w' ∧ MI w' b (n + 1) (fun j => if j = i then v else f j) ∧ w.grownBy w' (some b) := by
  obtain ⟨D, h1, h2⟩ := h
  obtain ⟨w', hr, h3, h4⟩ := h1.update (t := 77) keyI Tryz.underlying77 hn (Maps.keyOf_int_mk Tryz.underlying3 hi) (plainElem_int Tryz.underlying3 hv)
  refine ⟨w', hr, ⟨_, h3, fun j => ?_⟩, h4⟩
  rw [atKey_put_i h1.isMap]
  dsimp only
  by_cases hj : j = i
  · rw [if_pos hj, if_pos hj]
  · rw [if_neg hj, if_neg hj]; exact h2 j
section
variable {F : Fence} {nF : Nat} {ops : Array Oper} {rest : List Oper} {o : Oper} {a : Act} {Q : Exit → Act → World → Prop} {w : World}
theorem MB.look {b n : Nat} {f : Int → Bool} (N : Tmp) (hN : o.dst = some N) (hgd : o.guard = none) (m x : Operand) (ho : o.op = .lookup 72 m x false) (H : MB w b n f) (i : Int) (hm : a.eval m = .map (some b)) (hx : a.eval x = .int .i64 i) (hi : (Lit.int .i64 i).wf = true)
    (h : wpList Tryz.prog ops Q rest (a.put (some N) (.bool (f i))) w) : wpList Tryz.prog ops Q (o :: rest) a w :=
  wpList_plain hgd fun K hK => by
    unfold Oper.wp execOp
    simp only [ho, hm, hx, Sem.run_bind, Sem.run_pure, Result.andThen_ok, H.value hi]
    rw [← hN] at h
    exact hK _ _ h
theorem MB.lookIn {b n : Nat} {f : Int → Bool} (N : Tmp) (hN : o.dst = some N) (hgd : o.guard = none) (m x : Operand) (ho : o.op = .lookup 72 m x false) (H : MB w b n f) (i : Int) (hm : a.eval m = .map (some b)) (hx : a.eval x = .int .i64 i) (hi : (Lit.int .i64 i).wf = true)
    (h : wpListIn F nF Tryz.prog ops Q rest (a.put (some N) (.bool (f i))) w) : wpListIn F nF Tryz.prog ops Q (o :: rest) a w := by
  refine wpListIn_plain hgd fun K hK => ?_
  unfold Oper.wpIn
  refine ⟨by simp [Oper.about, ho], ?_⟩
  rw [Oper.semAt_plain F _ _ (by rw [ho]; intro c hc'; cases hc')]
  unfold execOp
  simp only [ho, hm, hx, Sem.run_bind, Sem.run_pure, Result.andThen_ok, H.value hi]
  rw [← hN] at h
  exact hK _ _ h
theorem MB.put {b n : Nat} {f : Int → Bool} (hN : o.dst = none) (hgd : o.guard = none) (m x y : Operand) (ho : o.op = .mapUpdate 72 m x y) (H : MB w b n f) (hn : n < maxLen) (i : Int) (v : Bool) (hm : a.eval m = .map (some b)) (hx : a.eval x = .int .i64 i) (hy : a.eval y = .bool v) (hi : (Lit.int .i64 i).wf = true) (hv : v = true)
    (h : ∀ w', MB w' b (n + 1) (fun j => if j = i then v else f j) → w.grownBy w' (some b) → wpList Tryz.prog ops Q rest (a.put none undef) w') : wpList Tryz.prog ops Q (o :: rest) a w :=
  wpList_plain hgd fun K hK => by
    obtain ⟨w', hr, h3, h4⟩ := H.store0 hi hn hv
    unfold Oper.wp execOp
    simp only [ho, hm, hx, hy, Sem.run_bind, Sem.run_pure, Result.andThen_ok, hr]
    have hh := h w' h3 h4
    rw [← hN] at hh
    exact hK _ _ hh
theorem MB.putIn {b n : Nat} {f : Int → Bool} (hN : o.dst = none) (hgd : o.guard = none) (m x y : Operand) (ho : o.op = .mapUpdate 72 m x y) (H : MB w b n f) (hn : n < maxLen) (i : Int) (v : Bool) (hm : a.eval m = .map (some b)) (hx : a.eval x = .int .i64 i) (hy : a.eval y = .bool v) (hi : (Lit.int .i64 i).wf = true) (hv : v = true)
    (h : ∀ w', MB w' b (n + 1) (fun j => if j = i then v else f j) → w.grownBy w' (some b) → wpListIn F nF Tryz.prog ops Q rest (a.put none undef) w') : wpListIn F nF Tryz.prog ops Q (o :: rest) a w := by
  refine wpListIn_plain hgd fun K hK => ?_
  obtain ⟨w', hr, h3, h4⟩ := H.store0 hi hn hv
  unfold Oper.wpIn
  refine ⟨by simp [Oper.about, ho], ?_⟩
  rw [Oper.semAt_plain F _ _ (by rw [ho]; intro c hc'; cases hc')]
  unfold execOp
  simp only [ho, hm, hx, hy, Sem.run_bind, Sem.run_pure, Result.andThen_ok, hr]
  have hh := h w' h3 h4
  rw [← hN] at hh
  exact hK _ _ hh
theorem MI.look {b n : Nat} {f : Int → Int} (N : Tmp) (hN : o.dst = some N) (hgd : o.guard = none) (m x : Operand) (ho : o.op = .lookup 77 m x false) (H : MI w b n f) (i : Int) (hm : a.eval m = .map (some b)) (hx : a.eval x = .int .i64 i) (hi : (Lit.int .i64 i).wf = true)
    (h : wpList Tryz.prog ops Q rest (a.put (some N) (.int .i64 (f i))) w) : wpList Tryz.prog ops Q (o :: rest) a w :=
  wpList_plain hgd fun K hK => by
    unfold Oper.wp execOp
    simp only [ho, hm, hx, Sem.run_bind, Sem.run_pure, Result.andThen_ok, H.value hi]
    rw [← hN] at h
    exact hK _ _ h
theorem MI.lookIn {b n : Nat} {f : Int → Int} (N : Tmp) (hN : o.dst = some N) (hgd : o.guard = none) (m x : Operand) (ho : o.op = .lookup 77 m x false) (H : MI w b n f) (i : Int) (hm : a.eval m = .map (some b)) (hx : a.eval x = .int .i64 i) (hi : (Lit.int .i64 i).wf = true)
    (h : wpListIn F nF Tryz.prog ops Q rest (a.put (some N) (.int .i64 (f i))) w) : wpListIn F nF Tryz.prog ops Q (o :: rest) a w := by
  refine wpListIn_plain hgd fun K hK => ?_
  unfold Oper.wpIn
  refine ⟨by simp [Oper.about, ho], ?_⟩
  rw [Oper.semAt_plain F _ _ (by rw [ho]; intro c hc'; cases hc')]
  unfold execOp
  simp only [ho, hm, hx, Sem.run_bind, Sem.run_pure, Result.andThen_ok, H.value hi]
  rw [← hN] at h
  exact hK _ _ h
theorem MI.put {b n : Nat} {f : Int → Int} (hN : o.dst = none) (hgd : o.guard = none) (m x y : Operand) (ho : o.op = .mapUpdate 77 m x y) (H : MI w b n f) (hn : n < maxLen) (i : Int) (v : Int) (hm : a.eval m = .map (some b)) (hx : a.eval x = .int .i64 i) (hy : a.eval y = .int .i64 v) (hi : (Lit.int .i64 i).wf = true) (hv : (Lit.int .i64 v).wf = true)
    (h : ∀ w', MI w' b (n + 1) (fun j => if j = i then v else f j) → w.grownBy w' (some b) → wpList Tryz.prog ops Q rest (a.put none undef) w') : wpList Tryz.prog ops Q (o :: rest) a w :=
  wpList_plain hgd fun K hK => by
    obtain ⟨w', hr, h3, h4⟩ := H.store0 hi hn hv
    unfold Oper.wp execOp
    simp only [ho, hm, hx, hy, Sem.run_bind, Sem.run_pure, Result.andThen_ok, hr]
    have hh := h w' h3 h4
    rw [← hN] at hh
    exact hK _ _ hh
theorem MI.putIn {b n : Nat} {f : Int → Int} (hN : o.dst = none) (hgd : o.guard = none) (m x y : Operand) (ho : o.op = .mapUpdate 77 m x y) (H : MI w b n f) (hn : n < maxLen) (i : Int) (v : Int) (hm : a.eval m = .map (some b)) (hx : a.eval x = .int .i64 i) (hy : a.eval y = .int .i64 v) (hi : (Lit.int .i64 i).wf = true) (hv : (Lit.int .i64 v).wf = true)
    (h : ∀ w', MI w' b (n + 1) (fun j => if j = i then v else f j) → w.grownBy w' (some b) → wpListIn F nF Tryz.prog ops Q rest (a.put none undef) w') : wpListIn F nF Tryz.prog ops Q (o :: rest) a w := by
  refine wpListIn_plain hgd fun K hK => ?_
  obtain ⟨w', hr, h3, h4⟩ := H.store0 hi hn hv
  unfold Oper.wpIn
  refine ⟨by simp [Oper.about, ho], ?_⟩
  rw [Oper.semAt_plain F _ _ (by rw [ho]; intro c hc'; cases hc')]
  unfold execOp
  simp only [ho, hm, hx, hy, Sem.run_bind, Sem.run_pure, Result.andThen_ok, hr]
  have hh := h w' h3 h4
  rw [← hN] at hh
  exact hK _ _ hh
end
end Go.Proofs.YtlcofdgaidlldaaGreatDoor
namespace Go.Proofs.YtlcofdgaidlldaaGreatDoor
open Go.RowKit Go.Shelf Go.Proofs.YtlcofdgaidlldaaGreatDoorW.PrintWords
set_option linter.unusedVariables false
set_option linter.unusedSimpArgs false
attribute [local go_sem] Oper.semAt_some
theorem Boxed_below {W W' : World} {B : Nat} {t : TypeId} {v : Value} (h : Boxed W B t v) (hb : Below W.heap.size W W') : Boxed W' B t v := (hb.block B h.lt).trans h
theorem keepsFrom_of_below {B : Nat} {W W' : World} (hb : Below W.heap.size W W') : KeepsFrom B W W' := ⟨hb.size, fun k o _ h _ => (hb.block k (Array.getElem?_eq_some_iff.1 h).1).trans h⟩
theorem cells_own {β : Type} (b : Nat) (cs : List Value) : Own (fun (_ : β) W => ∀ j u, cs[j]? = some u → W.cell? ((⟨b, 0, none⟩ : Addr).add j) = some u) := fun s A B row h hg hr j u hj => Go.cell_kept (h j u hj) hg hr
theorem take_getD {l : List Int} {j : Nat} (h : j < l.length) : l.take (j + 1) = l.take j ++ [l.getD j 0] := by
  rw [List.take_add_one]; simp [h]
theorem nodup_snoc {l : List Int} {v : Int} (h : l.Nodup) (hv : v ∉ l) : (l ++ [v]).Nodup := by
  rw [List.nodup_append]; exact ⟨h, by simp, fun a ha b hb => by simp at hb; subst hb; exact fun e => hv (e ▸ ha)⟩
/-- All cells lie as they lay. -/
structure CK (A B : World) : Prop where
  size : A.heap.size ≤ B.heap.size
  cells : ∀ (k : Nat) (o : Obj), A.heap[k]? = some o → o.isCells = true → B.heap[k]? = some o
theorem CK.refl (A : World) : CK A A := ⟨Nat.le_refl _, fun _ _ h _ => h⟩
theorem CK.trans {A B C : World} (h : CK A B) (k : CK B C) : CK A C := ⟨Nat.le_trans h.size k.size, fun i o hi hc => k.cells i o (h.cells i o hi hc) hc⟩
theorem CK.of_below {A B : World} (h : Below A.heap.size A B) : CK A B := ⟨h.size, fun k o hk _ => (h.block k (Array.getElem?_eq_some_iff.1 hk).1).trans hk⟩
theorem CK.of_grown {A B : World} {b : Nat} (h : A.grownBy B (some b)) (hb : ∃ o : Obj, A.heap[b]? = some o ∧ o.isCells = false) : CK A B :=
  ⟨h.size, fun k o hk hc => (h.block k (Array.getElem?_eq_some_iff.1 hk).1 (fun e => by cases e; obtain ⟨o', ho, hc'⟩ := hb; rw [hk] at ho; cases ho; rw [hc] at hc'; cases hc')).trans hk⟩
theorem CK.cell {A B : World} (h : CK A B) {p : Addr} {v : Value} (hc : A.cell? p = some v) : B.cell? p = some v := by
  obtain ⟨o, ho, hk⟩ := isCells_of_cell hc
  rw [← hc]
  exact World.cell?_of_block ((h.cells _ o ho hk).trans ho.symm)
theorem CK.boxed {A B : World} (h : CK A B) {b : Nat} {t : TypeId} {v : Value} (hb : Boxed A b t v) : Boxed B b t v := h.cells _ _ hb rfl
theorem CK.keeps {n₀ n₁ : Nat} {A B : World} (h : CK A B) (hb : Below n₀ A B) : Keeps n₀ n₁ A B := ⟨hb, fun k o _ hk hc => h.cells k o hk hc⟩
theorem below_grown {n₀ b : Nat} {A B : World} (h : A.grownBy B (some b)) (hn : n₀ ≤ A.heap.size) (hb : n₀ ≤ b) : Below n₀ A B := (Below.refl n₀ A).grown h hn (fun k e => by cases e; exact hb)
theorem keepsFrom_grown {B₀ b : Nat} {A B : World} (h : A.grownBy B (some b)) (hb : b < B₀) : KeepsFrom B₀ A B := KeepsFrom.of_grownBy h (fun j e => by cases e; exact hb)
set_option maxRecDepth 100000 in
set_option maxHeartbeats 4000000 in
theorem Good_calls (x : Ex) (cs : List Value) (w : World) (hx : kE.K w x cs) (hL : Laid w) : Calls Tryz.prog 27 #[.agg cs.toArray] w fun e w' => e = .returned (.bool x.Good) ∧ Below w.heap.size w w' := by
  have hmm := @run_makeMap Tryz.prog
  have HW := Lib.hid (fun (W : World) (hb : Below w.heap.size w W) => within_calls (x.big + 1) x cs 5000 10000 W (by omega) (kE.K_below hb hx) (by omega) (by omega) (by omega) (by omega))
  have HR := Lib.hid (show x.Good = (decide (0 ≤ x.within 5000 10000) && okL x.all) from rfl)
  have HX := Lib.hid hx
  have HKl := Lib.hid (kE_len hx)
  clear hx
  by_cases h0 : 0 ≤ x.within 5000 10000
  · refine (callsIn_wide (n := 9)).1 ?_
    have h1 : (1 : Nat) ≤ 9 := by decide
    refine callsIn_of_wp_marks Tryz.func27 rfl trivial ?_ rfl
    simp only [Tryz.ntmps27, List.size_toArray, List.length_cons, List.length_nil, Nat.reduceAdd, Nat.reduceSub, Array.replicate_succ, Array.replicate_zero, List.push_toArray, List.append_toArray, List.nil_append, List.cons_append]
    gi_wp2_with (first
      | ((with_reducible refine load_listIn 7 rfl ?_ 32 _ rfl ⟨w.heap.size, 0, none⟩ ?_ cs _ ?_ Tryz.underlying32 ?_ ?_ ?_); (case _ => rfl); (case _ => rfl); (case _ => exact fun j u hj => pw_cell_below (below_alloc (Below.refl _ _) _) (new_cells _ _ _ j u hj)); (case _ => rfl); (case _ => rw [HKl.out]; exact size32'))
      | (refine ⟨trivial, ?_⟩; gi_at_call 34; refine (callsIn_wide.2 (HW.out _ (below_alloc (below_alloc (Below.refl _ _) _) _))).mono ?_; rintro e w1 ⟨rfl, hb1⟩)
      | ((with_reducible refine load_listIn 11 rfl ?_ 32 _ rfl ⟨w.heap.size, 0, none⟩ ?_ cs _ ?_ Tryz.underlying32 ?_ ?_ ?_); (case _ => rfl); (case _ => rfl); (case _ => exact fun j u hj => pw_cell_below (below_alloc (below_alloc (Below.refl _ _) _) _) (pw_cell_below hb1 (pw_cell_below (below_alloc (Below.refl _ _) _) (new_cells _ _ _ j u hj)))); (case _ => rfl); (case _ => rw [HKl.out]; exact size32'))
      | (refine ⟨trivial, ?_⟩; gi_at_call 40; refine (callsIn_wide.2 (all_calls cs _)).mono ?_; rintro e w' ⟨rfl, rfl⟩))
    have hw1 : w.heap.size + 2 ≤ w1.heap.size := by have h_ := hb1.size; simp at h_; omega
    have hB1 : Below w.heap.size w w1 := below_then (below_alloc (below_alloc (Below.refl _ _) _) _) (by simp; omega) hb1
    have bR0 := (((Boxed_below (Boxed.new (w.alloc (.cells cs.toArray 32)) 4 (.bool false)) hb1).alloc (.map #[] 0)).alloc (.cells #[.map (some w1.heap.size)] 72)).alloc (.cells cs.toArray 32)
    have bM0 := (Boxed.new (w1.alloc (.map #[] 0)) 72 (.map (some w1.heap.size))).alloc (.cells cs.toArray 32)
    have mB0 : MB (((w1.alloc (.map #[] 0)).alloc (.cells #[.map (some w1.heap.size)] 72)).alloc (.cells cs.toArray 32)) w1.heap.size 0 (fun _ => false) := ((MB.made w1).below (below_alloc (Below.refl _ _) _)).below (below_alloc (Below.refl _ _) _)
    have aC0 : ∀ j u, cs[j]? = some u → (((w1.alloc (.map #[] 0)).alloc (.cells #[.map (some w1.heap.size)] 72)).alloc (.cells cs.toArray 32)).cell? ((⟨w1.heap.size + 1 + 1, 0, none⟩ : Addr).add j) = some u := fun j u hj => by
      have := new_cells ((w1.alloc (.map #[] 0)).alloc (.cells #[.map (some w1.heap.size)] 72)) cs 32 j u hj
      simpa using this
    have hB0 : Below w.heap.size w (((w1.alloc (.map #[] 0)).alloc (.cells #[.map (some w1.heap.size)] 72)).alloc (.cells cs.toArray 32)) := hB1.trans (((((Below.refl _ w1).alloc (Nat.le_refl _) _).alloc (by simp) _).alloc (by simp; omega) _).mono (by omega))
    have hsz : (((w1.alloc (.map #[] 0)).alloc (.cells #[.map (some w1.heap.size)] 72)).alloc (.cells cs.toArray 32)).heap.size = w1.heap.size + 3 := by simp
    simp only [World.size_alloc] at bR0 bM0
    obtain ⟨W0, hW0⟩ : ∃ W0, (((w1.alloc (.map #[] 0)).alloc (.cells #[.map (some w1.heap.size)] 72)).alloc (.cells cs.toArray 32)) = W0 := ⟨_, rfl⟩
    rw [hW0] at bR0 bM0 mB0 aC0 hB0 hsz ⊢
    clear hW0 hb1 hB1 HW hmm
    obtain ⟨b, hb⟩ : ∃ b, w1.heap.size = b := ⟨_, rfl⟩
    rw [hb] at bM0 mB0 aC0 hsz hw1 ⊢
    clear hb
    have HS := Lib.hid (all_stops Fence.wide rfl trivial trivial rfl (9 - 1) (b + 1 + 1) w (b + 2) x cs W0 HX.out hB0 (by omega) (by omega) aC0)
    clear aC0
    refine wpIn_rangeFunc_ownH rfl h1 (gf := 52) (lb := #[.pointer (some ⟨b + 1 + 1, 0, none⟩)]) rfl trivial (enters_of Tryz.func52 (by kernel_rfl) rfl)
      HS.out (fun h k => h.trans k) (Keeps.putObj (by omega)) (Below.refl _ _) (fun _ => rfl)
      (fun pre W => ((okL (pre.map EC.ex) = true ∧ Boxed W (w.heap.size + 1) 4 (.bool false)) ∧ Boxed W (b + 1) 72 (.map (some b))) ∧ (MB W b ((pre.map EC.ex).flatMap Ex.binds).length (fun i => decide (i ∈ (pre.map EC.ex).flatMap Ex.binds)) ∧ Below w.heap.size w W))
      (fun c pre W => ((c = .ret ∧ okL (pre.map EC.ex) = false) ∧ Boxed W (w.heap.size + 1) 4 (.bool false)) ∧ Below w.heap.size w W)
      (OwnFrom.and (OwnFrom.and (OwnFrom.and (ownFrom_pure _ _) (Own.from (boxed_own _ _ _) _)) (Own.from (boxed_own _ _ _) _)) (OwnFrom.and (fun s X Y row hs hg hr => hs.kept hg (fun e => by have := (hr _ e.symm).1; omega)) (ownFrom_below (Nat.le_refl _) (by omega))))
      (fun c => OwnFrom.and (OwnFrom.and (ownFrom_pure _ _) (Own.from (boxed_own _ _ _) _)) (ownFrom_below (Nat.le_refl _) (by omega)))
      ⟨⟨⟨by simp [okL], bR0⟩, bM0⟩, by simpa using mB0, hB0⟩
      (fun x1 a' W => ∃ Bx, (b + 1 < Bx ∧ ∀ j u, x1.cs[j]? = some u → W.cell? ((⟨Bx, 0, none⟩ : Addr).add j) = some u) ∧ a' = { tmps := #[Value.agg cs.toArray, .pointer (some ⟨w.heap.size, 0, none⟩), .pointer (some ⟨w.heap.size + 1, 0, none⟩), .pointer (some ⟨b + 1, 0, none⟩), .pointer (some ⟨Bx, 0, none⟩), undef, undef, Value.agg cs.toArray, .int .i64 (x.within 5000 10000), .bool (decide (x.within 5000 10000 < 0)), .map (some b), Value.agg cs.toArray, .func (.func 52) #[] #[.pointer (some ⟨b + 1 + 1, 0, none⟩)], .agg x1.cs.toArray, undef, undef, undef, undef, undef, undef, undef, undef, undef, undef, undef, undef, undef, undef, undef, undef], defers := [] })
      (fun x1 a' _ X Y row hs hg hr => by obtain ⟨Bx, ⟨h1, h2⟩, h3⟩ := hs; exact ⟨Bx, ⟨h1, cells_own Bx x1.cs () X Y row h2 hg (fun r e => (hr r e).2)⟩, h3⟩)
      ?assign ?body ?done ?stop
    case assign =>
      rintro l pre x1 W K ⟨⟨⟨hok, bR1⟩, bM1⟩, mB1, hB1⟩ hK
      have hl1 := Lib.hid (kE_len x1.2)
      have ho1 := Lib.hid (kE.K_one x1.2)
      have hs1 := hB1.size
      have hsb := mB1.lt
      have hsm := bM1.lt
      gi_wp2_with ((with_reducible refine store_newIn _ none rfl ?_ 32 _ _ rfl _ x1.cs ?_ ?_ ?_ ?_ ?_ ?_); (case _ => rfl); (case _ => rfl); (case _ => rfl); (case _ => rw [hl1.out]; exact size32'); (case _ => rw [hl1.out]; rfl); (case _ => rw [List.all_eq_true]; exact ho1.out))
      have hbw : Below W.heap.size W (W.alloc (.cells x1.cs.toArray 32)) := below_alloc (Below.refl _ _) _
      exact hK _ _ (keepsFrom_of_below hbw) (Keeps.of_below hbw hs1) ⟨⟨⟨hok, Boxed_below bR1 hbw⟩, Boxed_below bM1 hbw⟩, mB1.below hbw, below_then hB1 (by omega) hbw⟩ ⟨W.heap.size, ⟨by omega, new_cells _ _ _⟩, rfl⟩
    case body =>
      rintro l pre x1 a' W hl hr ⟨⟨⟨hok, bR1⟩, bM1⟩, mB1, hB1⟩ ⟨Bx, ⟨hBx, hcX⟩, rfl⟩ hlt
      have hl1 := Lib.hid (kE_len x1.2)
      have hs1 := hB1.size
      have HCX := Lib.hid hcX
      have HPl : Hid (∀ W2, Below W.heap.size W W2 → Calls Tryz.prog 41 #[.agg x1.cs.toArray] W2 fun e w' => e = .returned (.bool (EC.ex x1).plain) ∧ Below W2.heap.size W2 w') :=
        Lib.hid (fun W2 hb => plain_calls x1.1.1 x1.cs W2 (kE.K_below (below_then hB1 hs1 hb) x1.2) (hL.below (below_then hB1 hs1 hb)))
      have HBi : Hid (∀ W2, Below W.heap.size W W2 → Calls Tryz.prog 42 #[.agg x1.cs.toArray] W2 fun e w' => ∃ A n c, e = .returned (.slice A n c) ∧ n = (EC.ex x1).binds.length ∧ (Kd.int .i64).C w' A n (EC.ex x1).binds ∧ Below W2.heap.size W2 w') :=
        Lib.hid (fun W2 hb => binds_calls x1.1.1 x1.cs W2 (kE.K_below (below_then hB1 hs1 hb) x1.2))
      obtain ⟨P, hP⟩ : ∃ P, P = pre.map EC.ex := ⟨_, rfl⟩
      obtain ⟨y, hy⟩ : ∃ y, y = EC.ex x1 := ⟨_, rfl⟩
      have hmap : (pre ++ [x1]).map EC.ex = P ++ [y] := by simp [hP, hy]
      rw [← hP] at hok mB1
      rw [← hy] at HPl HBi
      clear hcX hlt hr hP hy
      cases hp : y.plain
      case false =>
        gi_wp2_with (first
          | ((with_reducible refine load_listIn 14 rfl ?_ 32 _ rfl ⟨Bx, 0, none⟩ ?_ x1.cs _ HCX.out Tryz.underlying32 ?_ ?_ ?_); (case _ => rfl); (case _ => rfl); (case _ => rfl); (case _ => rw [hl1.out]; exact size32'))
          | (refine ⟨trivial, ?_⟩; gi_at_call 41; refine (CallsIn.inRound l (callsIn_wide.2 (HPl.out _ (Below.refl _ _)))).mono ?_; rw [hp]; rintro e w2 ⟨rfl, hb1⟩; have cR := (Boxed_below bR1 hb1).cell; have fR := (Boxed_below bR1 hb1).frozen))
        exact ⟨(keepsFrom_of_below hb1).trans ((KeepsOthers.setCell _ _ _).from _), ⟨⟨rfl, by rw [hmap]; exact okL_snoc_plain hp⟩, (Boxed_below bR1 hb1).set _⟩, (below_then hB1 hs1 hb1).setCell (p := ⟨w.heap.size + 1, 0, none⟩) (by simp) _⟩
      gi_wp2_with (first
        | ((with_reducible refine load_listIn 14 rfl ?_ 32 _ rfl ⟨Bx, 0, none⟩ ?_ x1.cs _ HCX.out Tryz.underlying32 ?_ ?_ ?_); (case _ => rfl); (case _ => rfl); (case _ => rfl); (case _ => rw [hl1.out]; exact size32'))
        | (refine ⟨trivial, ?_⟩; gi_at_call 41; refine (CallsIn.inRound l (callsIn_wide.2 (HPl.out _ (Below.refl _ _)))).mono ?_; rw [hp]; rintro e w2 ⟨rfl, hb1⟩)
        | ((with_reducible refine load_listIn 17 rfl ?_ 32 _ rfl ⟨Bx, 0, none⟩ ?_ x1.cs _ (fun j u hj => pw_cell_below hb1 (HCX.out j u hj)) Tryz.underlying32 ?_ ?_ ?_); (case _ => rfl); (case _ => rfl); (case _ => rfl); (case _ => rw [hl1.out]; exact size32'))
        | (refine ⟨trivial, ?_⟩; gi_at_call 42; refine (CallsIn.inRound l (callsIn_wide.2 (HBi.out _ hb1))).mono ?_; rintro e w3 ⟨A, n, c, rfl, hn, hC, hb2⟩))
      have hb12 : Below W.heap.size W w3 := below_then hb1 (by have := hb1.size; omega) hb2
      have hs3 := hb12.size
      have hmax := Kd.C_max hC
      have HC := Lib.hid hC
      obtain ⟨L, hL0⟩ : ∃ L, L = P.flatMap Ex.binds := ⟨_, rfl⟩
      have hLn := okL_nodup hok
      have hLr := okL_range hok
      rw [← hL0] at mB1 hLn hLr
      have hbsz := mB1.lt
      have bM3 := Boxed_below bM1 hb12
      have bR3 := Boxed_below bR1 hb12
      have mB3 := mB1.below hb12
      have hyr := plain_binds hp
      clear hC HPl HBi HCX bM1 bR1 mB1
      gi_loopw [20] (fun v20 wr => ∃ j : Nat, j ≤ n ∧ v20 = .int .i64 j ∧ MB wr b (L.length + j) (fun i => decide (i ∈ L ++ y.binds.take j)) ∧ Hid ((L ++ y.binds.take j).Nodup) ∧ CK w3 wr ∧ KeepsFrom W0.heap.size w3 wr ∧ Below w.heap.size w3 wr) (fun v20 _ => n - (intOf v20).toNat)
      case atStart => exact ⟨0, Nat.zero_le _, rfl, by simpa using mB3, Lib.hid (by simpa using hLn), CK.refl _, KeepsFrom.refl _ _, Below.refl _ _⟩
      case round =>
        obtain ⟨j, hj, rfl, mB, HN, hck, hkf, hbl⟩ := hrel
        by_cases hlt : j < n
        · obtain ⟨ad, hA, hc⟩ := elI HC.out hlt
          subst hA
          have hc2 := hck.cell hc
          have cM := (hck.boxed bM3).cell
          have hsr := hbl.size
          obtain ⟨v, hv⟩ : ∃ v, v = y.binds.getD j 0 := ⟨_, rfl⟩
          have hvm : v ∈ y.binds := by
            rw [hv, List.getD_eq_getElem?_getD, List.getElem?_eq_getElem (by omega)]
            exact List.getElem_mem _
          rw [← hv] at hc2
          have hwf : (Lit.int .i64 v).wf = true := wf64 (by have := hyr v hvm; omega) (by have := hyr v hvm; omega)
          have hlenL : L.length + j < maxLen := by
            have h5 := nodup_len 1000000 _ HN.out (fun u hu => by
              rcases List.mem_append.1 hu with h | h
              · exact hLr u h
              · exact hyr u (List.mem_of_mem_take h))
            rw [List.length_append, List.length_take] at h5
            have : (1000000 : Nat) < maxLen := by decide
            omega
          obtain ⟨f, hf⟩ : ∃ f : Int → Bool, f = fun i => decide (i ∈ L ++ y.binds.take j) := ⟨_, rfl⟩
          rw [← hf] at mB
          have hMo := mB.other
          have HV := Lib.hid hv
          have HJ := Lib.hid (show j < y.binds.length by omega)
          have HFf := Lib.hid hf
          have HL0 := Lib.hid hL0
          clear hc hv hf hvm hL0
          cases hin : f v
          case true =>
            have cR := (hck.boxed bR3).cell
            have fR := (hck.boxed bR3).frozen
            gi_wp2_with ((with_reducible refine MB.lookIn 26 rfl ?_ _ _ rfl mB v ?_ ?_ hwf ?_); (case _ => rfl); (case _ => rfl); (case _ => rfl); rw [hin])
            have hmem : y.binds.getD j 0 ∈ P.flatMap Ex.binds ++ y.binds.take j := by
              rw [← HL0.out, ← HV.out]; rw [HFf.out] at hin; simpa using hin
            exact ⟨((keepsFrom_of_below hb12).trans hkf).trans ((KeepsOthers.setCell _ _ _).from _), ⟨⟨rfl, by rw [hmap]; exact okL_snoc_twice (j := j) HJ.out hmem⟩, (hck.boxed bR3).set _⟩, (hB1.trans ((hb12.mono hs1).trans hbl)).setCell (p := ⟨w.heap.size + 1, 0, none⟩) (by simp) _⟩
          case false =>
            gi_wp2_with (first
              | ((with_reducible refine MB.lookIn 26 rfl ?_ _ _ rfl mB v ?_ ?_ hwf ?_); (case _ => rfl); (case _ => rfl); (case _ => rfl); rw [hin])
              | ((with_reducible refine MB.putIn rfl ?_ _ _ _ rfl mB hlenL v true ?_ ?_ ?_ hwf rfl ?_); (case _ => rfl); (case _ => rfl); (case _ => rfl); (case _ => rfl); intro w5 mB5 hg5))
            go_roundw
            case rel =>
              refine ⟨j + 1, by omega, by go_num, ?_, ?_, hck.trans (CK.of_grown hg5 hMo), hkf.trans (keepsFrom_grown hg5 (by omega)), hbl.trans (below_grown hg5 (by omega) (by omega))⟩
              · have e : (fun k => if k = v then true else f k) = fun i => decide (i ∈ L ++ y.binds.take (j + 1)) := by
                  funext k
                  rw [HFf.out, take_getD HJ.out, ← HV.out]
                  by_cases hk : k = v <;> simp [hk]
                rw [← e]; exact mB5
              · refine Lib.hid ?_
                rw [take_getD HJ.out, ← HV.out, ← List.append_assoc]
                refine nodup_snoc HN.out ?_
                rw [HFf.out] at hin; simpa using hin
            case measure => simp [intOf]; omega
        · gi_wp2
          have hjn : y.binds.take j = y.binds := List.take_of_length_le (by omega)
          rw [hjn] at mB HN
          refine ⟨(keepsFrom_of_below hb12).trans hkf, (CK.of_below hb12).trans hck |>.keeps (hb12.mono hs1 |>.trans hbl), ⟨⟨⟨by rw [hmap]; exact okL_snoc hok hp (by rw [← hL0]; exact HN.out), hck.boxed bR3⟩, hck.boxed bM3⟩, ?_, hB1.trans ((hb12.mono hs1).trans hbl)⟩⟩
          rw [hmap, List.flatMap_append, List.flatMap_singleton, ← hL0, List.length_append]
          have : j = y.binds.length := by omega
          rw [this] at mB
          exact mB
    case done =>
      rintro D ys W hD hS ⟨⟨⟨hok, bR1⟩, bM1⟩, mB1, hB1⟩ hK
      have cR := bR1.cell
      have fR := bR1.frozen
      gi_wp2
      have hK' := (KeepsOthers.setCell W ⟨w.heap.size + 1, 0, none⟩ (.bool true)).same D _ hK rfl
      refine ⟨by simp, .inl ⟨_, _, rfl, run_takeDeferred hK', ?_⟩⟩
      have hc5 := Go.cell_kept (bR1.set (.bool true)).cell (grownBy_putObj' _ D (.deferred none)) (fun r e => by cases e; exact ⟨_, hK', rfl⟩)
      refine ⟨.bool true, ?_, retB (by rw [HR.out, ← hS, hok]; simp [h0]), (hB1.setCell (p := ⟨w.heap.size + 1, 0, none⟩) (by simp) _).trans (belowK_b (w := w) (Nat.le_refl _) _ D _ _ (by omega) hK' rfl rfl)⟩
      simp [results, Tryz.f27, go_sem, hc5]
    case stop =>
      rintro D c pre W hD hSp ⟨⟨⟨rfl, hno⟩, bR1⟩, hB1⟩ hK
      have hGo : x.Good = false := by
        rw [HR.out]
        cases h2 : okL x.all
        · simp
        · rw [okL_prefix hSp h2] at hno; cases hno
      gi_wp2
      refine ⟨by simp, .inl ⟨_, _, rfl, run_takeDeferred hK, ?_⟩⟩
      have hc5 := Go.cell_kept bR1.cell (grownBy_putObj' _ D (.deferred none)) (fun r e => by cases e; exact ⟨_, hK, rfl⟩)
      refine ⟨.bool false, ?_, retB hGo.symm, hB1.trans (belowK_b (w := w) (Nat.le_refl _) W D _ _ (by omega) hK rfl rfl)⟩
      simp [results, Tryz.f27, go_sem, hc5]
  · have hGo : x.Good = false := by rw [HR.out]; simp [h0]
    refine (callsIn_wide (n := 9)).1 ?_
    refine callsIn_of_wp_marks Tryz.func27 rfl trivial ?_ rfl
    simp only [Tryz.ntmps27, List.size_toArray, List.length_cons, List.length_nil, Nat.reduceAdd, Nat.reduceSub, Array.replicate_succ, Array.replicate_zero, List.push_toArray, List.append_toArray, List.nil_append, List.cons_append]
    gi_wp2_with (first
      | ((with_reducible refine load_listIn 7 rfl ?_ 32 _ rfl ⟨w.heap.size, 0, none⟩ ?_ cs _ ?_ Tryz.underlying32 ?_ ?_ ?_); (case _ => rfl); (case _ => rfl); (case _ => exact fun j u hj => pw_cell_below (below_alloc (Below.refl _ _) _) (new_cells _ _ _ j u hj)); (case _ => rfl); (case _ => rw [HKl.out]; exact size32'))
      | (refine ⟨trivial, ?_⟩; gi_at_call 34; refine (callsIn_wide.2 (HW.out _ (below_alloc (below_alloc (Below.refl _ _) _) _))).mono ?_; rintro e w1 ⟨rfl, hb1⟩; have bR0 := Boxed_below (Boxed.new (w.alloc (.cells cs.toArray 32)) 4 (.bool false)) hb1; have cR := bR0.cell; have fR := bR0.frozen; simp only [World.size_alloc] at cR fR))
    simp only [World.size_alloc] at bR0
    have hc5 := (bR0.set (.bool false)).cell
    refine ⟨.bool false, ?_, retB hGo.symm, (below_then (below_alloc (below_alloc (Below.refl _ _) _) _) (by simp; omega) hb1).setCell (p := ⟨w.heap.size + 1, 0, none⟩) (by simp) _⟩
    simp [results, Tryz.f27, go_sem, hc5]
end Go.Proofs.YtlcofdgaidlldaaGreatDoor
namespace Go.Proofs.YtlcofdgaidlldaaGreatDoor
open Go.RowKit Go.Shelf Go.Proofs.YtlcofdgaidlldaaGreatDoorW.PrintWords
set_option linter.unusedVariables false
set_option linter.unusedSimpArgs false
section
variable {P : Program} {ops : Array Oper} {rest : List Oper} {o : Oper} {a : Act} {Q : Exit → Act → World → Prop}
/-- A struct is stored into the block that was made last. -/
theorem store_new (w : World) (N : Option Tmp) (hN : o.dst = N) (hgd : o.guard = none) (ty : TypeId) (x y : Operand) (ho : o.op = .store ty x y) (c : Array Value) (cs : List Value) (hx : a.eval x = .pointer (some ⟨w.heap.size, 0, none⟩)) (hy : a.eval y = .agg cs.toArray)
    (hi : (P.info? ty).map (·.size) = some cs.length) (hc : c.size = cs.length) (h1 : cs.all (·.oneCell') = true)
    (h : wpList P ops Q rest (a.put N undef) (w.alloc (.cells cs.toArray ty))) : wpList P ops Q (o :: rest) a (w.alloc (.cells c ty)) :=
  wpList_plain hgd fun K hK => by
    unfold Oper.wp execOp
    simp only [ho, hx, hy, Sem.run_bind, Sem.run_pure, Result.andThen_ok, run_storeAt_new w ty c cs.toArray (by simpa using hi) (by simpa using hc) (by simpa using h1)]
    rw [← hN] at h
    exact hK _ _ h
end
theorem MB.congr {w : World} {b n : Nat} {f g : Int → Bool} (h : MB w b n f) (e : ∀ i, f i = g i) : MB w b n g := by rwa [← funext e]
theorem MI.congr {w : World} {b n : Nat} {f g : Int → Int} (h : MI w b n f) (e : ∀ i, f i = g i) : MI w b n g := by rwa [← funext e]
theorem MB.wider {w : World} {b n m : Nat} {f : Int → Bool} (h : MB w b n f) (hm : n ≤ m) : MB w b m f := by
  obtain ⟨D, ⟨es, ck, h1, h2, h3, h4⟩, h5⟩ := h
  exact ⟨D, ⟨es, ck, h1, h2, Nat.le_trans h3 hm, h4⟩, h5⟩
theorem MI.wider {w : World} {b n m : Nat} {f : Int → Int} (h : MI w b n f) (hm : n ≤ m) : MI w b m f := by
  obtain ⟨D, ⟨es, ck, h1, h2, h3, h4⟩, h5⟩ := h
  exact ⟨D, ⟨es, ck, h1, h2, Nat.le_trans h3 hm, h4⟩, h5⟩
theorem new_cell0 (w : World) (cs : List Value) (ty : TypeId) (j : Nat) (u : Value) (h : cs[j]? = some u) : (w.alloc (.cells cs.toArray ty)).cell? ⟨w.heap.size, j, none⟩ = some u := by
  have := new_cells w cs ty j u h
  rwa [add_plain] at this
/-- What core.free leaves behind. -/
def FreeDone (x : Ex) (B : List Int) (bI nI bO nO : Nat) (fO : Int → Bool) (n₀ : Nat) (w w' : World) : Prop :=
  MI w' bI (nI + x.ups) (fun i => (B.count i : Int)) ∧ MB w' bO (nO + x.all.length) (fun i => fO i || decide (i ∈ x.fv B)) ∧ CK w w' ∧ Below n₀ w w'
theorem count_snoc (B : List Int) (v i : Int) : ((B ++ [v]).count i : Int) = if i = v then (B.count v : Int) + 1 else (B.count i : Int) := by
  rw [List.count_append, List.count_singleton]
  by_cases h : i = v
  · subst h; simp
  · rw [if_neg h, if_neg (by simp; exact fun e => h e.symm)]; simp
theorem count_take {B bs : List Int} {j : Nat} (h : j < bs.length) (i : Int) : ((B ++ bs.take (j + 1)).count i : Int) = if i = bs.getD j 0 then ((B ++ bs.take j).count (bs.getD j 0) : Int) + 1 else ((B ++ bs.take j).count i : Int) := by
  rw [take_getD h, ← List.append_assoc, count_snoc]
theorem count_drop {B bs : List Int} {j : Nat} (h : j < bs.length) (i : Int) : ((B ++ bs.drop (j + 1)).count i : Int) = if i = bs.getD j 0 then ((B ++ bs.drop j).count (bs.getD j 0) : Int) - 1 else ((B ++ bs.drop j).count i : Int) := by
  have e : bs.getD j 0 = bs[j] := by simp [h]
  rw [e, List.drop_eq_getElem_cons h]
  simp only [List.count_append, List.count_cons]
  by_cases hi : i = bs[j]
  · subst hi; simp; omega
  · rw [if_neg hi, if_neg (by simp; exact fun e => hi e.symm)]; simp
theorem count_drop_pos {B bs : List Int} {j : Nat} (h : j < bs.length) : 1 ≤ (B ++ bs.drop j).count (bs.getD j 0) := by
  have e : bs.getD j 0 = bs[j] := by simp [h]
  rw [e, List.drop_eq_getElem_cons h]
  simp only [List.count_append, List.count_cons]
  simp; omega
end Go.Proofs.YtlcofdgaidlldaaGreatDoor
