/- The kinds of this seat's data: how api.Int, api.Datum and api.Expr lie in cells, as Lean structures. Without conditions. Laws of the walk that this seat's texts lean on: a struct read out of cells; an element of a slice of structs. Without conditions. Contracts of core's small functions. Contracts of small functions of prim, rule, slices. Contracts: slices.Index, Contains at int; IndexFunc, ContainsFunc at expressions; rule.quiet, sets, idle. -/
import Derived.WalkKit
import Derived.Lib.Hide
import Derived.Deep.LoopGhost
import Derived.Deep.QuietTactic
import Derived.BigQuiet
import Derived.WalkSpells
import Derived.WalkLawsBesides
import Derived.Test.YtlcofdgaidlldaaGreatDoorZa
import Derived.Test.YtlcofdgaidlldaaGreatDoorZb
import Derived.Test.YtlcofdgaidlldaaGreatDoorProg
namespace Go.Proofs.YtlcofdgaidlldaaGreatDoor
open Go.RowKit Go.Proofs.YtlcofdgaidlldaaGreatDoorW.PrintWords
set_option linter.unusedVariables false
set_option linter.unusedSimpArgs false
/-! #### api.Int -/
def kI : Kd BI := Kd.iso (Kd.pair Kd.bool (Kd.slice 54 (Kd.int .u32))) (fun x : BI => (x.neg, x.l))
theorem kI_heap : Kd.Heap kI := Kd.heap_iso _ (Kd.heap_pair Kd.heap_bool (Kd.heap_slice 54 (Kd.heap_int .u32)))
theorem kI_open {w : World} {x : BI} {cs : List Value} (h : kI.K w x cs) : ∃ A1 c1, cs = [.bool x.neg, .slice A1 x.l.length c1] ∧ x.l.length ≤ c1 ∧ (Kd.int .u32).C w A1 x.l.length x.l := by
  obtain ⟨_, _, rfl, rfl, ⟨A1, c1, rfl, l1, g1⟩⟩ := h
  exact ⟨A1, c1, rfl, l1, g1⟩
theorem kI_mk (w : World) (x : BI) {A1 : Option Addr} {c1 : Nat} (l1 : x.l.length ≤ c1) (g1 : (Kd.int .u32).C w A1 x.l.length x.l) : kI.K w x [.bool x.neg, .slice A1 x.l.length c1] := ⟨[.bool x.neg], [.slice A1 x.l.length c1], rfl, rfl, ⟨A1, c1, rfl, l1, g1⟩⟩
/-! #### api.Datum, nested in itself -/
def FDt (d : Kd Dt) : Kd Dt := Kd.iso (Kd.pair (Kd.int .i64) (Kd.pair kI (Kd.pair Kd.bool (Kd.pair Kd.string (Kd.pair (Kd.slice 28 d) (Kd.slice 28 d)))))) (fun x : Dt => (x.kind, x.i, x.b, x.s, x.items, x.tail))
theorem monoDt : Kd.Mono FDt := Kd.mono_iso _ (Kd.mono_pair (Kd.mono_const _) (Kd.mono_pair (Kd.mono_const _) (Kd.mono_pair (Kd.mono_const _) (Kd.mono_pair (Kd.mono_const _) (Kd.mono_pair (Kd.mono_slice 28 Kd.mono_id) (Kd.mono_slice 28 Kd.mono_id))))))
theorem subDt : Kd.Sub FDt [28, 54] := Kd.sub_iso _ (Kd.sub_pair (Kd.sub_const _ (by decide)) (Kd.sub_pair (Kd.sub_const _ (by decide)) (Kd.sub_pair (Kd.sub_const _ (by decide)) (Kd.sub_pair (Kd.sub_const _ (by decide)) (Kd.sub_pair (Kd.sub_slice 28 (by decide) Kd.sub_id) (Kd.sub_slice 28 (by decide) Kd.sub_id))))))
theorem szDt : ∀ n, (Kd.upto FDt 7 [28, 54] n).sz = 7 := Kd.upto_sz (fun _ => rfl)
def kD : Kd Dt := Kd.fix FDt 7 [28, 54] szDt (Kd.upto_E subDt)
theorem kD_heap : Kd.Heap kD := Kd.heap_fix (fun _ h_ => Kd.heap_iso _ (Kd.heap_pair (Kd.heap_int .i64) (Kd.heap_pair kI_heap (Kd.heap_pair Kd.heap_bool (Kd.heap_pair Kd.heap_string (Kd.heap_pair (Kd.heap_slice 28 h_) (Kd.heap_slice 28 h_)))))))
theorem kD_open {w : World} {x : Dt} {cs : List Value} (h : kD.K w x cs) : ∃ A2 c2 A5 c5 A6 c6, cs = [.int .i64 x.kind, .bool x.i.neg, .slice A2 x.i.l.length c2, .bool x.b, .string x.s, .slice A5 x.items.length c5, .slice A6 x.tail.length c6] ∧ x.i.l.length ≤ c2 ∧ (Kd.int .u32).C w A2 x.i.l.length x.i.l ∧ x.items.length ≤ c5 ∧ kD.C w A5 x.items.length x.items ∧ x.tail.length ≤ c6 ∧ kD.C w A6 x.tail.length x.tail := by
  obtain ⟨n, h⟩ := h
  cases n with
  | zero => exact h.elim
  | succ n =>
    obtain ⟨_, _, rfl, rfl, ⟨_, _, rfl, s1, ⟨_, _, rfl, rfl, ⟨_, _, rfl, rfl, ⟨_, _, rfl, ⟨A5, c5, rfl, l5, g5⟩, ⟨A6, c6, rfl, l6, g6⟩⟩⟩⟩⟩⟩ := h
    obtain ⟨A2, c2, rfl, l2, g2⟩ := kI_open s1
    exact ⟨A2, c2, A5, c5, A6, c6, rfl, l2, g2, l5, Kd.fix_C g5, l6, Kd.fix_C g6⟩
theorem kD_mk (w : World) (x : Dt) {A2 : Option Addr} {c2 : Nat} (l2 : x.i.l.length ≤ c2) (g2 : (Kd.int .u32).C w A2 x.i.l.length x.i.l) {A5 : Option Addr} {c5 : Nat} (l5 : x.items.length ≤ c5) (g5 : kD.C w A5 x.items.length x.items) {A6 : Option Addr} {c6 : Nat} (l6 : x.tail.length ≤ c6) (g6 : kD.C w A6 x.tail.length x.tail) : kD.K w x [.int .i64 x.kind, .bool x.i.neg, .slice A2 x.i.l.length c2, .bool x.b, .string x.s, .slice A5 x.items.length c5, .slice A6 x.tail.length c6] := by
  obtain ⟨n5, q5⟩ := Kd.fix_C_back monoDt g5
  obtain ⟨n6, q6⟩ := Kd.fix_C_back monoDt g6
  have r5 := Kd.upto_C_le monoDt szDt (show n5 ≤ (max n5 n6) by omega) q5
  have r6 := Kd.upto_C_le monoDt szDt (show n6 ≤ (max n5 n6) by omega) q6
  exact ⟨(max n5 n6) + 1, ⟨[.int .i64 x.kind], [.bool x.i.neg, .slice A2 x.i.l.length c2, .bool x.b, .string x.s, .slice A5 x.items.length c5, .slice A6 x.tail.length c6], rfl, rfl, ⟨[.bool x.i.neg, .slice A2 x.i.l.length c2], [.bool x.b, .string x.s, .slice A5 x.items.length c5, .slice A6 x.tail.length c6], rfl, (kI_mk w x.i l2 g2), ⟨[.bool x.b], [.string x.s, .slice A5 x.items.length c5, .slice A6 x.tail.length c6], rfl, rfl, ⟨[.string x.s], [.slice A5 x.items.length c5, .slice A6 x.tail.length c6], rfl, rfl, ⟨[.slice A5 x.items.length c5], [.slice A6 x.tail.length c6], rfl, ⟨A5, c5, rfl, l5, r5⟩, ⟨A6, c6, rfl, l6, r6⟩⟩⟩⟩⟩⟩⟩
theorem atD {w : World} {A : Option Addr} {n : Nat} {xs : List Dt} (h : Kd.C kD w A n xs) (i : Int) (h0 : 0 ≤ i) (h1 : i < n) : ∃ ad A2 c2 A5 c5 A6 c6, A = some ad ∧ w.cell? (ad.add (i.toNat * 7)) = some (.int .i64 (rdD xs i).kind) ∧ w.cell? ⟨(ad.add (i.toNat * 7)).block, (ad.add (i.toNat * 7)).off + 1, none⟩ = some (.bool (rdD xs i).i.neg) ∧ w.cell? ⟨(ad.add (i.toNat * 7)).block, (ad.add (i.toNat * 7)).off + 2, none⟩ = some (.slice A2 (rdD xs i).i.l.length c2) ∧ w.cell? ⟨(ad.add (i.toNat * 7)).block, (ad.add (i.toNat * 7)).off + 3, none⟩ = some (.bool (rdD xs i).b) ∧ w.cell? ⟨(ad.add (i.toNat * 7)).block, (ad.add (i.toNat * 7)).off + 4, none⟩ = some (.string (rdD xs i).s) ∧ w.cell? ⟨(ad.add (i.toNat * 7)).block, (ad.add (i.toNat * 7)).off + 5, none⟩ = some (.slice A5 (rdD xs i).items.length c5) ∧ w.cell? ⟨(ad.add (i.toNat * 7)).block, (ad.add (i.toNat * 7)).off + 6, none⟩ = some (.slice A6 (rdD xs i).tail.length c6) ∧ (rdD xs i).i.l.length ≤ c2 ∧ (Kd.int .u32).C w A2 (rdD xs i).i.l.length (rdD xs i).i.l ∧ (rdD xs i).items.length ≤ c5 ∧ kD.C w A5 (rdD xs i).items.length (rdD xs i).items ∧ (rdD xs i).tail.length ≤ c6 ∧ kD.C w A6 (rdD xs i).tail.length (rdD xs i).tail := by
  obtain ⟨ad, c, e, _, hK, hc0⟩ := Kd.C_get h zD i h0 h1
  have hc : ∀ j u, c[j]? = some u → w.cell? (ad.add (i.toNat * 7 + j)) = some u := hc0
  obtain ⟨A2, c2, A5, c5, A6, c6, rfl, l2, g2, l5, g5, l6, g6⟩ := kD_open hK
  exact ⟨ad, A2, c2, A5, c5, A6, c6, e, hc 0 _ rfl, by rw [← add_field _ _ 1 (by omega)]; exact hc 1 _ rfl, by rw [← add_field _ _ 2 (by omega)]; exact hc 2 _ rfl, by rw [← add_field _ _ 3 (by omega)]; exact hc 3 _ rfl, by rw [← add_field _ _ 4 (by omega)]; exact hc 4 _ rfl, by rw [← add_field _ _ 5 (by omega)]; exact hc 5 _ rfl, by rw [← add_field _ _ 6 (by omega)]; exact hc 6 _ rfl, l2, g2, l5, g5, l6, g6⟩
/-! #### api.Expr, nested in itself -/
def FEx (d : Kd Ex) : Kd Ex := Kd.iso (Kd.pair (Kd.int .i64) (Kd.pair kD (Kd.pair (Kd.int .i64) (Kd.pair (Kd.slice 3 (Kd.int .i64)) (Kd.pair Kd.bool (Kd.pair (Kd.int .i64) (Kd.slice 32 d))))))) (fun x : Ex => (x.kind, x.d, x.v, x.vars, x.rest, x.p, x.kids))
theorem monoEx : Kd.Mono FEx := Kd.mono_iso _ (Kd.mono_pair (Kd.mono_const _) (Kd.mono_pair (Kd.mono_const _) (Kd.mono_pair (Kd.mono_const _) (Kd.mono_pair (Kd.mono_const _) (Kd.mono_pair (Kd.mono_const _) (Kd.mono_pair (Kd.mono_const _) (Kd.mono_slice 32 Kd.mono_id)))))))
theorem subEx : Kd.Sub FEx [3, 28, 32, 54] := Kd.sub_iso _ (Kd.sub_pair (Kd.sub_const _ (by decide)) (Kd.sub_pair (Kd.sub_const _ (by decide)) (Kd.sub_pair (Kd.sub_const _ (by decide)) (Kd.sub_pair (Kd.sub_const _ (by decide)) (Kd.sub_pair (Kd.sub_const _ (by decide)) (Kd.sub_pair (Kd.sub_const _ (by decide)) (Kd.sub_slice 32 (by decide) Kd.sub_id)))))))
theorem szEx : ∀ n, (Kd.upto FEx 13 [3, 28, 32, 54] n).sz = 13 := Kd.upto_sz (fun _ => rfl)
def kE : Kd Ex := Kd.fix FEx 13 [3, 28, 32, 54] szEx (Kd.upto_E subEx)
theorem kE_heap : Kd.Heap kE := Kd.heap_fix (fun _ h_ => Kd.heap_iso _ (Kd.heap_pair (Kd.heap_int .i64) (Kd.heap_pair kD_heap (Kd.heap_pair (Kd.heap_int .i64) (Kd.heap_pair (Kd.heap_slice 3 (Kd.heap_int .i64)) (Kd.heap_pair Kd.heap_bool (Kd.heap_pair (Kd.heap_int .i64) (Kd.heap_slice 32 h_))))))))
theorem kE_open {w : World} {x : Ex} {cs : List Value} (h : kE.K w x cs) : ∃ A3 c3 A6 c6 A7 c7 A9 c9 A12 c12, cs = [.int .i64 x.kind, .int .i64 x.d.kind, .bool x.d.i.neg, .slice A3 x.d.i.l.length c3, .bool x.d.b, .string x.d.s, .slice A6 x.d.items.length c6, .slice A7 x.d.tail.length c7, .int .i64 x.v, .slice A9 x.vars.length c9, .bool x.rest, .int .i64 x.p, .slice A12 x.kids.length c12] ∧ x.d.i.l.length ≤ c3 ∧ (Kd.int .u32).C w A3 x.d.i.l.length x.d.i.l ∧ x.d.items.length ≤ c6 ∧ kD.C w A6 x.d.items.length x.d.items ∧ x.d.tail.length ≤ c7 ∧ kD.C w A7 x.d.tail.length x.d.tail ∧ x.vars.length ≤ c9 ∧ (Kd.int .i64).C w A9 x.vars.length x.vars ∧ x.kids.length ≤ c12 ∧ kE.C w A12 x.kids.length x.kids := by
  obtain ⟨n, h⟩ := h
  cases n with
  | zero => exact h.elim
  | succ n =>
    obtain ⟨_, _, rfl, rfl, ⟨_, _, rfl, s1, ⟨_, _, rfl, rfl, ⟨_, _, rfl, ⟨A9, c9, rfl, l9, g9⟩, ⟨_, _, rfl, rfl, ⟨_, _, rfl, rfl, ⟨A12, c12, rfl, l12, g12⟩⟩⟩⟩⟩⟩⟩ := h
    obtain ⟨A3, c3, A6, c6, A7, c7, rfl, l3, g3, l6, g6, l7, g7⟩ := kD_open s1
    exact ⟨A3, c3, A6, c6, A7, c7, A9, c9, A12, c12, rfl, l3, g3, l6, g6, l7, g7, l9, g9, l12, Kd.fix_C g12⟩
theorem kE_mk (w : World) (x : Ex) {A3 : Option Addr} {c3 : Nat} (l3 : x.d.i.l.length ≤ c3) (g3 : (Kd.int .u32).C w A3 x.d.i.l.length x.d.i.l) {A6 : Option Addr} {c6 : Nat} (l6 : x.d.items.length ≤ c6) (g6 : kD.C w A6 x.d.items.length x.d.items) {A7 : Option Addr} {c7 : Nat} (l7 : x.d.tail.length ≤ c7) (g7 : kD.C w A7 x.d.tail.length x.d.tail) {A9 : Option Addr} {c9 : Nat} (l9 : x.vars.length ≤ c9) (g9 : (Kd.int .i64).C w A9 x.vars.length x.vars) {A12 : Option Addr} {c12 : Nat} (l12 : x.kids.length ≤ c12) (g12 : kE.C w A12 x.kids.length x.kids) : kE.K w x [.int .i64 x.kind, .int .i64 x.d.kind, .bool x.d.i.neg, .slice A3 x.d.i.l.length c3, .bool x.d.b, .string x.d.s, .slice A6 x.d.items.length c6, .slice A7 x.d.tail.length c7, .int .i64 x.v, .slice A9 x.vars.length c9, .bool x.rest, .int .i64 x.p, .slice A12 x.kids.length c12] := by
  obtain ⟨n12, q12⟩ := Kd.fix_C_back monoEx g12
  have r12 := Kd.upto_C_le monoEx szEx (show n12 ≤ n12 by omega) q12
  exact ⟨n12 + 1, ⟨[.int .i64 x.kind], [.int .i64 x.d.kind, .bool x.d.i.neg, .slice A3 x.d.i.l.length c3, .bool x.d.b, .string x.d.s, .slice A6 x.d.items.length c6, .slice A7 x.d.tail.length c7, .int .i64 x.v, .slice A9 x.vars.length c9, .bool x.rest, .int .i64 x.p, .slice A12 x.kids.length c12], rfl, rfl, ⟨[.int .i64 x.d.kind, .bool x.d.i.neg, .slice A3 x.d.i.l.length c3, .bool x.d.b, .string x.d.s, .slice A6 x.d.items.length c6, .slice A7 x.d.tail.length c7], [.int .i64 x.v, .slice A9 x.vars.length c9, .bool x.rest, .int .i64 x.p, .slice A12 x.kids.length c12], rfl, (kD_mk w x.d l3 g3 l6 g6 l7 g7), ⟨[.int .i64 x.v], [.slice A9 x.vars.length c9, .bool x.rest, .int .i64 x.p, .slice A12 x.kids.length c12], rfl, rfl, ⟨[.slice A9 x.vars.length c9], [.bool x.rest, .int .i64 x.p, .slice A12 x.kids.length c12], rfl, ⟨A9, c9, rfl, l9, g9⟩, ⟨[.bool x.rest], [.int .i64 x.p, .slice A12 x.kids.length c12], rfl, rfl, ⟨[.int .i64 x.p], [.slice A12 x.kids.length c12], rfl, rfl, ⟨A12, c12, rfl, l12, r12⟩⟩⟩⟩⟩⟩⟩⟩
end Go.Proofs.YtlcofdgaidlldaaGreatDoor
namespace Go.Proofs.YtlcofdgaidlldaaGreatDoor
open Go.RowKit Go.Proofs.YtlcofdgaidlldaaGreatDoorW.PrintWords
set_option linter.unusedVariables false
set_option linter.unusedSimpArgs false
theorem add_add (a : Addr) (i j : Nat) : (a.add i).add j = a.add (i + j) := by
  unfold Addr.add
  by_cases hi : i = 0 <;> by_cases hj : j = 0 <;> simp [hi, hj, Nat.add_assoc]
section
variable {P : Program} {ops : Array Oper} {rest : List Oper} {o : Oper} {a : Act} {w : World} {Q : Exit → Act → World → Prop}
theorem run_load_list (w : World) (ad : Addr) (ty : TypeId) (cs : List Value) (d : TypeDesc) (hc : ∀ j u, cs[j]? = some u → w.cell? (ad.add j) = some u)
    (hu : P.underlying ty = some d) (hd : (match d with | .struct _ | .array _ _ => true | _ => false) = true) (hi : (P.info? ty).map (·.size) = some cs.length) :
    (loadVar ty ad).run P w = .ok (.agg cs.toArray) w := by
  have hl := run_loadCells_list (P := P) w ad cs hc
  cases hq : P.info? ty with
  | none => simp [hq] at hi
  | some i =>
    have hs : i.size = cs.length := by simpa [hq] using hi
    have hagg : (isAgg ty).run P w = .ok true w := by
      unfold isAgg
      rw [Sem.run_bind, run_underlying hu w]
      cases d <;> simp_all
    simp [loadVar, Sem.run_bind, hagg, sizeOf, typeInfo, hq, hs, hl]
/-- A struct is read: its cells lie at the address. -/
theorem load_list (N : Tmp) (hN : o.dst = some N) (hgd : o.guard = none) (ty : TypeId) (x : Operand) (ho : o.op = .load ty x) (ad : Addr) (hx : a.eval x = .pointer (some ad)) (cs : List Value) (d : TypeDesc)
    (hc : ∀ j u, cs[j]? = some u → w.cell? (ad.add j) = some u)
    (hu : P.underlying ty = some d) (hd : (match d with | .struct _ | .array _ _ => true | _ => false) = true) (hi : (P.info? ty).map (·.size) = some cs.length)
    (h : wpList P ops Q rest (a.put (some N) (.agg cs.toArray)) w) : wpList P ops Q (o :: rest) a w :=
  wpList_plain hgd fun K hK => by
    unfold Oper.wp execOp
    simp only [ho, hx, Instr.loadAt, Instr.sureAddr, Sem.run_bind, Sem.run_pure, Result.andThen_ok, run_load_list w ad ty cs d hc hu hd hi]
    rw [← hN] at h
    exact hK _ _ h
end
theorem size32' : (Tryz.prog.info? 32).map (·.size) = some 13 := by kernel_rfl
theorem size28' : (Tryz.prog.info? 28).map (·.size) = some 7 := by kernel_rfl
theorem kE_len {w : World} {x : Ex} {cs : List Value} (h : kE.K w x cs) : cs.length = 13 := kE.K_len h
theorem kD_len {w : World} {x : Dt} {cs : List Value} (h : kD.K w x cs) : cs.length = 7 := kD.K_len h
/-- An element of a row of expressions: its cells. -/
theorem elE {w : World} {A : Option Addr} {n : Nat} {xs : List Ex} (h : kE.C w A n xs) {k : Nat} (hk : k < n) :
    ∃ ad c, A = some ad ∧ kE.K w (rdE xs k) c ∧ ∀ j u, c[j]? = some u → w.cell? ((ad.add (k * 13)).add j) = some u := by
  obtain ⟨ad, c, hA, _, hK, hc⟩ := Kd.C_get h zE (k : Int) (by omega) (by omega)
  refine ⟨ad, c, hA, hK, fun j u hj => ?_⟩
  rw [add_add]
  exact hc j u hj
theorem elD {w : World} {A : Option Addr} {n : Nat} {xs : List Dt} (h : kD.C w A n xs) {k : Nat} (hk : k < n) :
    ∃ ad c, A = some ad ∧ kD.K w (rdD xs k) c ∧ ∀ j u, c[j]? = some u → w.cell? ((ad.add (k * 7)).add j) = some u := by
  obtain ⟨ad, c, hA, _, hK, hc⟩ := Kd.C_get h zD (k : Int) (by omega) (by omega)
  refine ⟨ad, c, hA, hK, fun j u hj => ?_⟩
  rw [add_add]
  exact hc j u hj
theorem len0 {α : Type} (l : List α) : ((l.length : Int) == 0) = decide (l.length = 0) := by
  rw [Bool.eq_iff_iff]; simp
theorem retI {k : IntKind} {a b : Int} (h : a = b) : Ending.returned (.int k a) = .returned (.int k b) := by rw [h]
theorem retB {a b : Bool} (h : a = b) : Ending.returned (.bool a) = .returned (.bool b) := by rw [h]
/-- A block known whole reads as a row. -/
theorem C_block {α : Type} {d : Kd α} (W : World) (g : Nat) (t : TypeId) (fr : Nat × Nat) (xs : List α) (inner : List Value) (hg : W.heap[g]? = some (.cells inner.toArray t fr)) (hr : Reps (d.K W) d.sz xs inner) (hm : xs.length ≤ 9223372036854775807) :
    d.C W (some ⟨g, 0, none⟩) xs.length xs := by
  refine ⟨rfl, hm, fun _ => ⟨_, rfl, fun j p hj => ?_⟩⟩
  have hk := hr.2 j p hj
  refine ⟨_, d.K_len hk, hk, fun i u hu => ?_⟩
  have hi : i < d.sz := by have := (List.getElem?_eq_some_iff.1 hu).1; rwa [d.K_len hk] at this
  rw [List.getElem?_take, if_pos hi, List.getElem?_drop] at hu
  rw [add_plain, cell_of_row W g _ _ t fr hg]
  simpa using hu
theorem reps_nums (W : World) (k : IntKind) (xs : List Int) : Reps ((Kd.int k).K W) (Kd.int k).sz xs (nums k xs) := by
  refine ⟨by simp [nums, Kd.int, Kd.scalar], fun j p hj => ?_⟩
  obtain ⟨hl, hp⟩ := List.getElem?_eq_some_iff.1 hj
  show ((nums k xs).drop (j * 1)).take 1 = [.int k p]
  rw [Nat.mul_one, List.drop_eq_getElem_cons (by simpa [nums] using hl)]
  simp [nums, hp]
end Go.Proofs.YtlcofdgaidlldaaGreatDoor
namespace Go.Proofs.YtlcofdgaidlldaaGreatDoor
open Go.RowKit Go.Proofs.YtlcofdgaidlldaaGreatDoorW.PrintWords
set_option linter.unusedVariables false
set_option linter.unusedSimpArgs false
set_option maxHeartbeats 400000 in
theorem within_calls (n : Nat) : ∀ (x : Ex) (cs : List Value) (left deep : Int) (w : World), x.big < n → kE.K w x cs → 0 ≤ left → left ≤ 1000000 → 0 ≤ deep → deep ≤ 1000000 →
    Calls Tryz.prog 34 #[.agg cs.toArray, .int .i64 left, .int .i64 deep] w fun e w' => e = .returned (.int .i64 (x.within left deep)) ∧ Below w.heap.size w w' := by
  induction n with
  | zero => intro x cs left deep w h; omega
  | succ n ih =>
  intro x cs left deep w hn hx h0 h1 h2 h3
  obtain ⟨A3, c3, A6, c6, A7, c7, A9, c9, A12, c12, rfl, l3, g3, l6, g6, l7, g7, l9, g9, l12, g12⟩ := kE_open hx
  have G12 := Lib.hid g12
  have hm := Kd.C_max g12
  have IH := Lib.hid ih
  clear hx g3 g6 g7 g9 g12 ih
  have HR := Lib.hid (Ex.within_eq x left deep)
  by_cases hl : left - 1 < 0
  · go_enter Tryz.func34, Tryz.ntmps34
    go_wp2
    go_ret
    exact ⟨retI (by rw [HR.out, if_pos (.inl hl)]), by exact below_alloc (Below.refl _ _) _⟩
  by_cases hd : deep < 1
  · go_enter Tryz.func34, Tryz.ntmps34
    go_wp2
    go_ret
    exact ⟨retI (by rw [HR.out, if_pos (.inr hd)]), by exact below_alloc (Below.refl _ _) _⟩
  go_enter Tryz.func34, Tryz.ntmps34
  go_wp2
  go_loopw [1, 19] (fun v1 v19 wr => ∃ (k : Nat) (m : Int), k ≤ x.kids.length ∧ v19 = .int .i64 k ∧ v1 = .int .i64 m ∧ 0 ≤ m ∧ m ≤ 1000000 ∧ Hid (x.within left deep = Ex.withinL (x.kids.drop k) m (deep - 1)) ∧ wr.cell? ⟨w.heap.size, 12, none⟩ = some (.slice A12 x.kids.length c12) ∧ Below w.heap.size w wr)
    (fun _ v19 _ => x.kids.length - (intOf v19).toNat)
  case atStart => exact ⟨0, left - 1, Nat.zero_le _, rfl, rfl, by omega, by omega, Lib.hid (by rw [HR.out, if_neg (by omega)]; rfl), by go_simp, below_alloc (Below.refl _ _) _⟩
  case round =>
    obtain ⟨k, m, hk, rfl, rfl, hm0, hm1, HE, hc, hb⟩ := hrel
    by_cases hlt : k < x.kids.length
    · have g12 := Kd.C_below G12.out hb
      obtain ⟨ad, c, hA, hK, hcc⟩ := elE g12 hlt
      subst hA
      have HK := Lib.hid hK
      have HC := Lib.hid hcc
      clear g12 hK hcc
      have hbig := Ex.big_kid hlt
      have hle := Ex.within_le (rdE x.kids k) m (deep - 1)
      have HE2 := Lib.hid (HE.out.trans (by rw [drop_rdE hlt, Ex.withinL]))
      go_wp2_with (first
        | ((with_reducible refine load_list 26 rfl ?_ 32 _ rfl (ad.add (k * 13)) ?_ c _ HC.out Tryz.underlying32 ?_ ?_ ?_); (case _ => rfl); (case _ => rfl); (case _ => rfl); (case _ => rw [kE_len HK.out]; exact size32'))
        | (go_at_call 34; refine (IH.out (rdE x.kids k) c m (deep - 1) _ (by omega) HK.out (by omega) (by omega) (by omega) (by omega)).mono ?_; rintro e w1 ⟨rfl, hb1⟩))
      · go_ret
        exact ⟨retI (by rw [HE2.out, if_pos (by assumption)]), below_then hb hb.size hb1⟩
      · go_roundw
        case rel => exact ⟨k + 1, _, by omega, by go_num, rfl, by omega, by omega, Lib.hid (by rw [HE2.out, if_neg (by omega)]), pw_cell_below hb1 hc, below_then hb hb.size hb1⟩
        case measure => simp [intOf]; omega
    · go_wp2
      go_ret
      exact ⟨retI (by rw [HE.out, List.drop_eq_nil_of_le (by omega), Ex.withinL]), hb⟩
end Go.Proofs.YtlcofdgaidlldaaGreatDoor
namespace Go.Proofs.YtlcofdgaidlldaaGreatDoor
open Go.RowKit Go.Proofs.YtlcofdgaidlldaaGreatDoorW.PrintWords
set_option linter.unusedVariables false
set_option linter.unusedSimpArgs false
set_option maxHeartbeats 400000 in
theorem between_calls (p lo hi : Int) (w : World) : Calls Tryz.prog 120 #[.int .i64 p, .int .i64 lo, .int .i64 hi] w fun e w' => e = .returned (.bool (decide (lo ≤ p) && decide (p ≤ hi))) ∧ w = w' := by
  by_cases h1 : lo ≤ p
  · go_enter Tryz.func120, Tryz.ntmps120
    go_wp2
    go_ret
    exact ⟨retB (by simp [h1]), rfl⟩
  · go_enter Tryz.func120, Tryz.ntmps120
    go_wp2
    go_ret
    exact ⟨retB (by simp; omega), rfl⟩
set_option maxHeartbeats 400000 in
theorem Plain_calls (p : Int) (w : World) : Calls Tryz.prog 76 #[.int .i64 p] w fun e w' => e = .returned (.bool (plainB p)) ∧ w = w' := by
  have H : ∀ lo hi, Hid (∀ w, Calls Tryz.prog 120 #[.int .i64 p, .int .i64 lo, .int .i64 hi] w fun e w' => e = .returned (.bool (decide (lo ≤ p) && decide (p ≤ hi))) ∧ w = w') := fun lo hi => Lib.hid (fun w => between_calls p lo hi w)
  have HP := Lib.hid (show plainB p = ((decide (1 ≤ p) && decide (p ≤ 8)) || (decide (14 ≤ p) && decide (p ≤ 19)) || (decide (21 ≤ p) && decide (p ≤ 27))) from rfl)
  cases h1 : (decide (1 ≤ p) && decide (p ≤ 8)) with
  | true =>
    rw [h1] at HP
    have H1 := Lib.hid h1
    clear h1
    go_enter Tryz.func76, Tryz.ntmps76
    go_wp2_with (go_at_call 120; refine ((H _ _).out _).mono ?_; rw [H1.out]; rintro e w' ⟨rfl, rfl⟩)
    go_ret
    exact ⟨retB (by rw [HP.out]; rfl), rfl⟩
  | false =>
    cases h2 : (decide (14 ≤ p) && decide (p ≤ 19)) with
    | true =>
      rw [h1, h2] at HP
      have H1 := Lib.hid h1
      have H2 := Lib.hid h2
      clear h1 h2
      go_enter Tryz.func76, Tryz.ntmps76
      go_wp2_with fail
      refine ((H _ _).out _).mono ?_
      rw [H1.out]
      rintro e w' ⟨rfl, rfl⟩
      go_wp2_with fail
      refine ((H _ _).out _).mono ?_
      rw [H2.out]
      rintro e w' ⟨rfl, rfl⟩
      go_wp2_with fail
      go_ret
      exact ⟨retB (by rw [HP.out]; rfl), rfl⟩
    | false =>
      rw [h1, h2] at HP
      have H1 := Lib.hid h1
      have H2 := Lib.hid h2
      clear h1 h2
      go_enter Tryz.func76, Tryz.ntmps76
      go_wp2_with fail
      refine ((H _ _).out _).mono ?_
      rw [H1.out]
      rintro e w' ⟨rfl, rfl⟩
      go_wp2_with fail
      refine ((H _ _).out _).mono ?_
      rw [H2.out]
      rintro e w' ⟨rfl, rfl⟩
      go_wp2_with fail
      refine ((H _ _).out _).mono ?_
      rintro e w' ⟨rfl, rfl⟩
      go_wp2_with fail
      go_ret
      exact ⟨retB (by rw [HP.out]; rfl), rfl⟩
set_option maxHeartbeats 400000 in
theorem atom_calls (x : Ex) (cs : List Value) (w : World) (hx : kE.K w x cs) : Calls Tryz.prog 77 #[.agg cs.toArray] w fun e w' => e = .returned (.bool x.atom) ∧ Below w.heap.size w w' := by
  obtain ⟨A3, c3, A6, c6, A7, c7, A9, c9, A12, c12, rfl, l3, g3, l6, g6, l7, g7, l9, g9, l12, g12⟩ := kE_open hx
  clear hx g3 g6 g7 g9 g12
  have HR := Lib.hid (show x.atom = (x.kind == 1 && (x.d.kind != 5 || decide (x.d.items.length = 0))) from rfl)
  cases hk : x.kind == 1 <;> cases hd : x.d.kind != 5
  all_goals
    go_enter Tryz.func77, Tryz.ntmps77
    go_wp2
    go_ret
    exact ⟨retB (by rw [HR.out, hk, hd]; simp [len0]), by exact below_alloc (Below.refl _ _) _⟩
end Go.Proofs.YtlcofdgaidlldaaGreatDoor
namespace Go.Proofs.YtlcofdgaidlldaaGreatDoor
open Go.RowKit Go.Proofs.YtlcofdgaidlldaaGreatDoorW.PrintWords
set_option linter.unusedVariables false
set_option linter.unusedSimpArgs false
theorem elI {w : World} {k : IntKind} {A : Option Addr} {n : Nat} {xs : List Int} (h : (Kd.int k).C w A n xs) {j : Nat} (hj : j < n) : ∃ ad, A = some ad ∧ w.cell? (ad.add j) = some (.int k (xs.getD j 0)) := by
  obtain ⟨ad, e, hc⟩ := Kd.at_int h (j : Int) (by omega) (by omega)
  exact ⟨ad, e, by simpa [rd] using hc⟩
set_option maxHeartbeats 400000 in
theorem Index_int_calls (xs : List Int) (A : Option Addr) (c : Nat) (v : Int) (w : World) (hx : (Kd.int .i64).C w A xs.length xs) :
    Calls Tryz.prog 132 #[.slice A xs.length c, .int .i64 v] w fun e w' => e = .returned (.int .i64 (idxOf (fun x => v == x) xs 0)) ∧ w = w' := by
  have HX := Lib.hid hx
  have hm := Kd.C_max hx
  clear hx
  go_enter Tryz.func132, Tryz.ntmps132
  go_wp2
  go_loop [8] (fun v8 => ∃ k : Nat, k ≤ xs.length ∧ v8 = .int .i64 k ∧ Hid (idxOf (fun x => v == x) xs 0 = idxOf (fun x => v == x) (xs.drop k) k)) (fun v8 => xs.length - (intOf v8).toNat)
  case atStart => exact ⟨0, Nat.zero_le _, rfl, Lib.hid (by simp)⟩
  case round =>
    obtain ⟨k, hk, rfl, HE⟩ := hrel
    by_cases hlt : k < xs.length
    · obtain ⟨ad, hA, hc⟩ := elI HX.out hlt
      subst hA
      obtain ⟨y, hy⟩ : ∃ y, y = xs.getD k 0 := ⟨_, rfl⟩
      rw [← hy] at hc
      have HE2 := Lib.hid (HE.out.trans (show _ = if v == y then (k : Int) else idxOf (fun x => v == x) (xs.drop (k + 1)) (k + 1) by rw [List.drop_eq_getElem_cons hlt, idxOf, hy]; simp [List.getD_eq_getElem?_getD, hlt]))
      clear hy
      cases hv : v == y
      · go_wp2
        go_round
        case rel => exact ⟨k + 1, by omega, by go_num, Lib.hid (by rw [HE2.out, hv]; rfl)⟩
        case measure => simp [intOf]; omega
      · go_wp2
        go_ret
        exact ⟨retI (by rw [HE2.out, hv]; rfl), rfl⟩
    · go_wp2
      go_ret
      exact ⟨retI (by rw [HE.out, List.drop_eq_nil_of_le (by omega), idxOf]), rfl⟩
set_option maxHeartbeats 400000 in
theorem Contains_int_calls (xs : List Int) (A : Option Addr) (c : Nat) (v : Int) (w : World) (hx : (Kd.int .i64).C w A xs.length xs) :
    Calls Tryz.prog 91 #[.slice A xs.length c, .int .i64 v] w fun e w' => e = .returned (.bool (xs.any fun x => v == x)) ∧ w = w' := by
  have HX := Lib.hid (Index_int_calls xs A c v w hx)
  have HI := Lib.hid (idxOf_any (fun x => v == x) xs 0 (by omega))
  clear hx
  go_enter Tryz.func91, Tryz.ntmps91
  go_wp2_with (go_at_call 132; refine HX.out.mono ?_; rintro e w' ⟨rfl, rfl⟩)
  go_ret
  exact ⟨retB HI.out, rfl⟩
/-- What a function value answers of an expression, in whatever later world. -/
def SaysE (g : Nat) (p : Ex → Bool) (x : Ex) (w : World) : Prop := ∀ (W : World) (c : List Value), Below w.heap.size w W → kE.K W x c →
  Calls Tryz.prog g #[.agg c.toArray] W fun e w' => e = .returned (.bool (p x)) ∧ Below W.heap.size W w'
set_option maxHeartbeats 400000 in
theorem IndexFunc_E_sets (p : Ex → Bool) (xs : List Ex) (A : Option Addr) (c : Nat) (w : World) (hx : kE.C w A xs.length xs) (hp : ∀ k, k < xs.length → SaysE 17 p (rdE xs k) w) :
    Calls Tryz.prog 46 #[.slice A xs.length c, .func (.func 17) #[] #[]] w fun e w' => e = .returned (.int .i64 (idxOf p xs 0)) ∧ Below w.heap.size w w' := by
  have HX := Lib.hid hx
  have HP := Lib.hid hp
  have hm := Kd.C_max hx
  clear hx hp
  go_enter Tryz.func46, Tryz.ntmps46
  go_wp2
  go_loopw [8] (fun v8 wr => ∃ k : Nat, k ≤ xs.length ∧ v8 = .int .i64 k ∧ Hid (idxOf p xs 0 = idxOf p (xs.drop k) k) ∧ Below w.heap.size w wr) (fun v8 _ => xs.length - (intOf v8).toNat)
  case atStart => exact ⟨0, Nat.zero_le _, rfl, Lib.hid (by simp), Below.refl _ _⟩
  case round =>
    obtain ⟨k, hk, rfl, HE, hb⟩ := hrel
    by_cases hlt : k < xs.length
    · obtain ⟨ad, cc, hA, hK, hcc⟩ := elE (Kd.C_below HX.out hb) hlt
      subst hA
      have HK := Lib.hid hK
      have HC := Lib.hid hcc
      have HS := Lib.hid (HP.out k hlt wr cc hb hK)
      clear hK hcc
      have HE2 := Lib.hid (HE.out.trans (show _ = if p (rdE xs k) then (k : Int) else idxOf p (xs.drop (k + 1)) (k + 1) by rw [drop_rdE hlt, idxOf]))
      cases hv : p (rdE xs k)
      all_goals
        rw [hv] at HS
        go_wp2_with (first
          | ((with_reducible refine load_list 15 rfl ?_ 32 _ rfl (ad.add (k * 13)) ?_ cc _ HC.out Tryz.underlying32 ?_ ?_ ?_); (case _ => rfl); (case _ => rfl); (case _ => rfl); (case _ => rw [kE_len HK.out]; exact size32'))
          | ((with_reducible refine HS.out.mono ?_); rintro e w1 ⟨rfl, hb1⟩))
      · go_roundw
        case rel => exact ⟨k + 1, by omega, by go_num, Lib.hid (by rw [HE2.out, hv]; rfl), below_then hb hb.size hb1⟩
        case measure => simp [intOf]; omega
      · go_ret
        exact ⟨retI (by rw [HE2.out, hv]; rfl), below_then hb hb.size hb1⟩
    · go_wp2
      go_ret
      exact ⟨retI (by rw [HE.out, List.drop_eq_nil_of_le (by omega), idxOf]), hb⟩
set_option maxHeartbeats 400000 in
theorem ContainsFunc_E_sets (p : Ex → Bool) (xs : List Ex) (A : Option Addr) (c : Nat) (w : World) (hx : kE.C w A xs.length xs) (hp : ∀ k, k < xs.length → SaysE 17 p (rdE xs k) w) :
    Calls Tryz.prog 29 #[.slice A xs.length c, .func (.func 17) #[] #[]] w fun e w' => e = .returned (.bool (xs.any p)) ∧ Below w.heap.size w w' := by
  have HX := Lib.hid (IndexFunc_E_sets p xs A c w hx hp)
  have HI := Lib.hid (idxOf_any p xs 0 (by omega))
  clear hx hp
  go_enter Tryz.func29, Tryz.ntmps29
  go_wp2_with (go_at_call 46; refine HX.out.mono ?_; rintro e w1 ⟨rfl, hb1⟩)
  go_ret
  exact ⟨retB HI.out, hb1⟩
set_option maxHeartbeats 400000 in
theorem IndexFunc_E_idle (p : Ex → Bool) (xs : List Ex) (A : Option Addr) (c : Nat) (w : World) (hx : kE.C w A xs.length xs) (hp : ∀ k, k < xs.length → SaysE 85 p (rdE xs k) w) :
    Calls Tryz.prog 46 #[.slice A xs.length c, .func (.func 85) #[] #[]] w fun e w' => e = .returned (.int .i64 (idxOf p xs 0)) ∧ Below w.heap.size w w' := by
  have HX := Lib.hid hx
  have HP := Lib.hid hp
  have hm := Kd.C_max hx
  clear hx hp
  go_enter Tryz.func46, Tryz.ntmps46
  go_wp2
  go_loopw [8] (fun v8 wr => ∃ k : Nat, k ≤ xs.length ∧ v8 = .int .i64 k ∧ Hid (idxOf p xs 0 = idxOf p (xs.drop k) k) ∧ Below w.heap.size w wr) (fun v8 _ => xs.length - (intOf v8).toNat)
  case atStart => exact ⟨0, Nat.zero_le _, rfl, Lib.hid (by simp), Below.refl _ _⟩
  case round =>
    obtain ⟨k, hk, rfl, HE, hb⟩ := hrel
    by_cases hlt : k < xs.length
    · obtain ⟨ad, cc, hA, hK, hcc⟩ := elE (Kd.C_below HX.out hb) hlt
      subst hA
      have HK := Lib.hid hK
      have HC := Lib.hid hcc
      have HS := Lib.hid (HP.out k hlt wr cc hb hK)
      clear hK hcc
      have HE2 := Lib.hid (HE.out.trans (show _ = if p (rdE xs k) then (k : Int) else idxOf p (xs.drop (k + 1)) (k + 1) by rw [drop_rdE hlt, idxOf]))
      cases hv : p (rdE xs k)
      all_goals
        rw [hv] at HS
        go_wp2_with (first
          | ((with_reducible refine load_list 15 rfl ?_ 32 _ rfl (ad.add (k * 13)) ?_ cc _ HC.out Tryz.underlying32 ?_ ?_ ?_); (case _ => rfl); (case _ => rfl); (case _ => rfl); (case _ => rw [kE_len HK.out]; exact size32'))
          | ((with_reducible refine HS.out.mono ?_); rintro e w1 ⟨rfl, hb1⟩))
      · go_roundw
        case rel => exact ⟨k + 1, by omega, by go_num, Lib.hid (by rw [HE2.out, hv]; rfl), below_then hb hb.size hb1⟩
        case measure => simp [intOf]; omega
      · go_ret
        exact ⟨retI (by rw [HE2.out, hv]; rfl), below_then hb hb.size hb1⟩
    · go_wp2
      go_ret
      exact ⟨retI (by rw [HE.out, List.drop_eq_nil_of_le (by omega), idxOf]), hb⟩
set_option maxHeartbeats 400000 in
theorem ContainsFunc_E_idle (p : Ex → Bool) (xs : List Ex) (A : Option Addr) (c : Nat) (w : World) (hx : kE.C w A xs.length xs) (hp : ∀ k, k < xs.length → SaysE 85 p (rdE xs k) w) :
    Calls Tryz.prog 29 #[.slice A xs.length c, .func (.func 85) #[] #[]] w fun e w' => e = .returned (.bool (xs.any p)) ∧ Below w.heap.size w w' := by
  have HX := Lib.hid (IndexFunc_E_idle p xs A c w hx hp)
  have HI := Lib.hid (idxOf_any p xs 0 (by omega))
  clear hx hp
  go_enter Tryz.func29, Tryz.ntmps29
  go_wp2_with (go_at_call 46; refine HX.out.mono ?_; rintro e w1 ⟨rfl, hb1⟩)
  go_ret
  exact ⟨retB HI.out, hb1⟩
set_option maxHeartbeats 400000 in
theorem sets_calls (n : Nat) : ∀ (x : Ex) (cs : List Value) (w : World), x.big < n → kE.K w x cs → Calls Tryz.prog 17 #[.agg cs.toArray] w fun e w' => e = .returned (.bool x.sets) ∧ Below w.heap.size w w' := by
  induction n with
  | zero => intro x cs w h; omega
  | succ n ih =>
  intro x cs w hn hx
  obtain ⟨A3, c3, A6, c6, A7, c7, A9, c9, A12, c12, rfl, l3, g3, l6, g6, l7, g7, l9, g9, l12, g12⟩ := kE_open hx
  have HF := Lib.hid (fun (W : World) (hb : Below w.heap.size w W) => ContainsFunc_E_sets Ex.sets x.kids A12 c12 W (Kd.C_below g12 hb) (fun k hk W2 c _ hK => ih (rdE x.kids k) c W2 (by have := Ex.big_kid hk; omega) hK))
  clear hx g3 g6 g7 g9 g12 ih
  have HR := Lib.hid (x.sets_eq.trans (by rw [Ex.setsL_any]))
  cases hk : x.kind == 3
  all_goals
    go_enter Tryz.func17, Tryz.ntmps17
    go_wp2_with (go_at_call 29; refine (HF.out _ (below_alloc (Below.refl _ _) _)).mono ?_; rintro e w1 ⟨rfl, hb1⟩)
    go_ret
  · exact ⟨retB (by rw [HR.out, hk]; simp), below_then (below_alloc (Below.refl _ _) _) (by simp) hb1⟩
  · exact ⟨retB (by rw [HR.out, hk]; simp), by exact below_alloc (Below.refl _ _) _⟩
set_option maxHeartbeats 400000 in
theorem quiet_calls (p : Int) (w : World) : Calls Tryz.prog 84 #[.int .i64 p] w fun e w' => e = .returned (.bool (quietB p)) ∧ Below w.heap.size w w' := by
  have HR := Lib.hid (show quietB p = (([9, 35, 38, 22, 21] : List Int).any (fun x => p == x) || (decide (14 ≤ p) && decide (p ≤ 20))) from by simp [quietB, Bool.or_assoc])
  have HC := Lib.hid (fun (W : World) (A : Option Addr) (c : Nat) (hx : (Kd.int .i64).C W A 5 [9, 35, 38, 22, 21]) => Contains_int_calls [9, 35, 38, 22, 21] A c p W hx)
  have hC : (Kd.int .i64).C (w.alloc (.cells #[.int .i64 9, .int .i64 35, .int .i64 38, .int .i64 22, .int .i64 21] 3)) (some ⟨w.heap.size, 0, none⟩) 5 [9, 35, 38, 22, 21] :=
    C_block (d := Kd.int .i64) _ w.heap.size 3 (0, 0) [9, 35, 38, 22, 21] (nums .i64 [9, 35, 38, 22, 21]) (heap_alloc_new _ _) (reps_nums _ _ _) (by decide)
  cases h1 : ([9, 35, 38, 22, 21] : List Int).any (fun x => p == x)
  all_goals
    rw [h1] at HC HR
    have HCC := Lib.hid hC
    clear h1
    try clear hC
    go_enter Tryz.func84, Tryz.ntmps84
    go_wp2_with (go_at_call 91; refine (HC.out _ _ _ HCC.out).mono ?_; rintro e w1 ⟨rfl, rfl⟩)
  all_goals
    go_ret
    exact ⟨retB (by rw [HR.out]; first | rfl | (simp; omega)), by exact below_alloc (Below.refl _ _) _⟩
end Go.Proofs.YtlcofdgaidlldaaGreatDoor
