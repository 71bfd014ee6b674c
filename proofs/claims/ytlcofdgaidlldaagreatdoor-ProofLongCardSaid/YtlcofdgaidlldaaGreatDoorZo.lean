/- What expressions lead to, with the blocks it lies in (footprints): opened and made; core.At, rule.with, rule.let with footprints. The walks' conditions: the parameters' memory; not more than a million Kids. A law on regions that draw their order: an invariant over what has been done; each operation once. Without conditions. Regions that draw their order and write only what they make: what stood at the begin stays; structs read and stored there. Without conditions. Rows of one and of two expressions, made. Without conditions. -/
import Derived.StillTail
import Derived.RegionTactic
import Derived.Deep.RegionHeld3
import Derived.Deep.DeepCutAuto
import Derived.Test.YtlcofdgaidlldaaGreatDoorZb
import Derived.Test.YtlcofdgaidlldaaGreatDoorZm
import Derived.Test.YtlcofdgaidlldaaGreatDoorZn
namespace Go.Proofs.YtlcofdgaidlldaaGreatDoor
open Go.RowKit Go.Shelf Go.Proofs.YtlcofdgaidlldaaGreatDoorW.PrintWords
set_option linter.unusedVariables false
set_option linter.unusedSimpArgs false
theorem kI_openF {w : World} {ok : Nat → Prop} {x : BI} {cs : List Value} (h : Kd.FK kI w ok x cs) : ∃ A1 c1, cs = [.bool x.neg, .slice A1 x.l.length c1] ∧ x.l.length ≤ c1 ∧ Kd.F (Kd.int .u32) w ok A1 x.l.length x.l := by
  obtain ⟨A1, c1, he, l1, g1⟩ := kI_open (Kd.FK_now h)
  have key : ∀ W' : World, (∀ k, ok k → k < w.heap.size → W'.heap[k]? = w.heap[k]?) → Kd.C (Kd.int .u32) W' A1 x.l.length x.l := by
    intro W' hW
    obtain ⟨B1, d1, he', _, k1⟩ := kI_open (h W' hW)
    rw [he] at he'
    have e1 := congrArg (fun l : List Value => l[1]?) he'
    simp only [List.getElem?_cons_succ, List.getElem?_cons_zero, Option.some.injEq, Value.slice.injEq, true_and] at e1
    rw [← e1.1] at k1
    exact k1
  exact ⟨A1, c1, he, l1, fun W' hW => (key W' hW)⟩
theorem kI_mkF (w : World) (ok : Nat → Prop) (x : BI) {A1 : Option Addr} {c1 : Nat} (l1 : x.l.length ≤ c1) (g1 : Kd.F (Kd.int .u32) w ok A1 x.l.length x.l) : Kd.FK kI w ok x [.bool x.neg, .slice A1 x.l.length c1] := fun W' hW => kI_mk W' x l1 (g1 W' hW)
theorem kD_openF {w : World} {ok : Nat → Prop} {x : Dt} {cs : List Value} (h : Kd.FK kD w ok x cs) : ∃ A2 c2 A5 c5 A6 c6, cs = [.int .i64 x.kind, .bool x.i.neg, .slice A2 x.i.l.length c2, .bool x.b, .string x.s, .slice A5 x.items.length c5, .slice A6 x.tail.length c6] ∧ x.i.l.length ≤ c2 ∧ Kd.F (Kd.int .u32) w ok A2 x.i.l.length x.i.l ∧ x.items.length ≤ c5 ∧ Kd.F kD w ok A5 x.items.length x.items ∧ x.tail.length ≤ c6 ∧ Kd.F kD w ok A6 x.tail.length x.tail := by
  obtain ⟨A2, c2, A5, c5, A6, c6, he, l2, g2, l5, g5, l6, g6⟩ := kD_open (Kd.FK_now h)
  have key : ∀ W' : World, (∀ k, ok k → k < w.heap.size → W'.heap[k]? = w.heap[k]?) → Kd.C (Kd.int .u32) W' A2 x.i.l.length x.i.l ∧ Kd.C kD W' A5 x.items.length x.items ∧ Kd.C kD W' A6 x.tail.length x.tail := by
    intro W' hW
    obtain ⟨B2, d2, B5, d5, B6, d6, he', _, k2, _, k5, _, k6⟩ := kD_open (h W' hW)
    rw [he] at he'
    have e2 := congrArg (fun l : List Value => l[2]?) he'
    simp only [List.getElem?_cons_succ, List.getElem?_cons_zero, Option.some.injEq, Value.slice.injEq, true_and] at e2
    have e5 := congrArg (fun l : List Value => l[5]?) he'
    simp only [List.getElem?_cons_succ, List.getElem?_cons_zero, Option.some.injEq, Value.slice.injEq, true_and] at e5
    have e6 := congrArg (fun l : List Value => l[6]?) he'
    simp only [List.getElem?_cons_succ, List.getElem?_cons_zero, Option.some.injEq, Value.slice.injEq, true_and] at e6
    rw [← e2.1] at k2
    rw [← e5.1] at k5
    rw [← e6.1] at k6
    exact ⟨k2, k5, k6⟩
  exact ⟨A2, c2, A5, c5, A6, c6, he, l2, fun W' hW => (key W' hW).1, l5, fun W' hW => (key W' hW).2.1, l6, fun W' hW => (key W' hW).2.2⟩
theorem kD_mkF (w : World) (ok : Nat → Prop) (x : Dt) {A2 : Option Addr} {c2 : Nat} (l2 : x.i.l.length ≤ c2) (g2 : Kd.F (Kd.int .u32) w ok A2 x.i.l.length x.i.l) {A5 : Option Addr} {c5 : Nat} (l5 : x.items.length ≤ c5) (g5 : Kd.F kD w ok A5 x.items.length x.items) {A6 : Option Addr} {c6 : Nat} (l6 : x.tail.length ≤ c6) (g6 : Kd.F kD w ok A6 x.tail.length x.tail) : Kd.FK kD w ok x [.int .i64 x.kind, .bool x.i.neg, .slice A2 x.i.l.length c2, .bool x.b, .string x.s, .slice A5 x.items.length c5, .slice A6 x.tail.length c6] := fun W' hW => kD_mk W' x l2 (g2 W' hW) l5 (g5 W' hW) l6 (g6 W' hW)
theorem kE_openF {w : World} {ok : Nat → Prop} {x : Ex} {cs : List Value} (h : Kd.FK kE w ok x cs) : ∃ A3 c3 A6 c6 A7 c7 A9 c9 A12 c12, cs = [.int .i64 x.kind, .int .i64 x.d.kind, .bool x.d.i.neg, .slice A3 x.d.i.l.length c3, .bool x.d.b, .string x.d.s, .slice A6 x.d.items.length c6, .slice A7 x.d.tail.length c7, .int .i64 x.v, .slice A9 x.vars.length c9, .bool x.rest, .int .i64 x.p, .slice A12 x.kids.length c12] ∧ x.d.i.l.length ≤ c3 ∧ Kd.F (Kd.int .u32) w ok A3 x.d.i.l.length x.d.i.l ∧ x.d.items.length ≤ c6 ∧ Kd.F kD w ok A6 x.d.items.length x.d.items ∧ x.d.tail.length ≤ c7 ∧ Kd.F kD w ok A7 x.d.tail.length x.d.tail ∧ x.vars.length ≤ c9 ∧ Kd.F (Kd.int .i64) w ok A9 x.vars.length x.vars ∧ x.kids.length ≤ c12 ∧ Kd.F kE w ok A12 x.kids.length x.kids := by
  obtain ⟨A3, c3, A6, c6, A7, c7, A9, c9, A12, c12, he, l3, g3, l6, g6, l7, g7, l9, g9, l12, g12⟩ := kE_open (Kd.FK_now h)
  have key : ∀ W' : World, (∀ k, ok k → k < w.heap.size → W'.heap[k]? = w.heap[k]?) → Kd.C (Kd.int .u32) W' A3 x.d.i.l.length x.d.i.l ∧ Kd.C kD W' A6 x.d.items.length x.d.items ∧ Kd.C kD W' A7 x.d.tail.length x.d.tail ∧ Kd.C (Kd.int .i64) W' A9 x.vars.length x.vars ∧ Kd.C kE W' A12 x.kids.length x.kids := by
    intro W' hW
    obtain ⟨B3, d3, B6, d6, B7, d7, B9, d9, B12, d12, he', _, k3, _, k6, _, k7, _, k9, _, k12⟩ := kE_open (h W' hW)
    rw [he] at he'
    have e3 := congrArg (fun l : List Value => l[3]?) he'
    simp only [List.getElem?_cons_succ, List.getElem?_cons_zero, Option.some.injEq, Value.slice.injEq, true_and] at e3
    have e6 := congrArg (fun l : List Value => l[6]?) he'
    simp only [List.getElem?_cons_succ, List.getElem?_cons_zero, Option.some.injEq, Value.slice.injEq, true_and] at e6
    have e7 := congrArg (fun l : List Value => l[7]?) he'
    simp only [List.getElem?_cons_succ, List.getElem?_cons_zero, Option.some.injEq, Value.slice.injEq, true_and] at e7
    have e9 := congrArg (fun l : List Value => l[9]?) he'
    simp only [List.getElem?_cons_succ, List.getElem?_cons_zero, Option.some.injEq, Value.slice.injEq, true_and] at e9
    have e12 := congrArg (fun l : List Value => l[12]?) he'
    simp only [List.getElem?_cons_succ, List.getElem?_cons_zero, Option.some.injEq, Value.slice.injEq, true_and] at e12
    rw [← e3.1] at k3
    rw [← e6.1] at k6
    rw [← e7.1] at k7
    rw [← e9.1] at k9
    rw [← e12.1] at k12
    exact ⟨k3, k6, k7, k9, k12⟩
  exact ⟨A3, c3, A6, c6, A7, c7, A9, c9, A12, c12, he, l3, fun W' hW => (key W' hW).1, l6, fun W' hW => (key W' hW).2.1, l7, fun W' hW => (key W' hW).2.2.1, l9, fun W' hW => (key W' hW).2.2.2.1, l12, fun W' hW => (key W' hW).2.2.2.2⟩
theorem kE_mkF (w : World) (ok : Nat → Prop) (x : Ex) {A3 : Option Addr} {c3 : Nat} (l3 : x.d.i.l.length ≤ c3) (g3 : Kd.F (Kd.int .u32) w ok A3 x.d.i.l.length x.d.i.l) {A6 : Option Addr} {c6 : Nat} (l6 : x.d.items.length ≤ c6) (g6 : Kd.F kD w ok A6 x.d.items.length x.d.items) {A7 : Option Addr} {c7 : Nat} (l7 : x.d.tail.length ≤ c7) (g7 : Kd.F kD w ok A7 x.d.tail.length x.d.tail) {A9 : Option Addr} {c9 : Nat} (l9 : x.vars.length ≤ c9) (g9 : Kd.F (Kd.int .i64) w ok A9 x.vars.length x.vars) {A12 : Option Addr} {c12 : Nat} (l12 : x.kids.length ≤ c12) (g12 : Kd.F kE w ok A12 x.kids.length x.kids) : Kd.FK kE w ok x [.int .i64 x.kind, .int .i64 x.d.kind, .bool x.d.i.neg, .slice A3 x.d.i.l.length c3, .bool x.d.b, .string x.d.s, .slice A6 x.d.items.length c6, .slice A7 x.d.tail.length c7, .int .i64 x.v, .slice A9 x.vars.length c9, .bool x.rest, .int .i64 x.p, .slice A12 x.kids.length c12] := fun W' hW => kE_mk W' x l3 (g3 W' hW) l6 (g6 W' hW) l7 (g7 W' hW) l9 (g9 W' hW) l12 (g12 W' hW)
/-- What is in ok, or new. -/
def okN (ok : Nat → Prop) (n : Nat) : Nat → Prop := fun k => ok k ∨ n ≤ k
theorem elEF {w : World} {ok : Nat → Prop} {A : Option Addr} {n : Nat} {xs : List Ex} (h : Kd.F kE w ok A n xs) {k : Nat} (hk : k < n) :
    ∃ ad c, A = some ad ∧ Kd.FK kE w ok (rdE xs k) c ∧ ∀ j u, c[j]? = some u → w.cell? ((ad.add (k * 13)).add j) = some u := by
  obtain ⟨ad, c, hA, _, hK, hc, _⟩ := Kd.F_get h zE (k : Int) (by omega) (by omega)
  refine ⟨ad, c, hA, hK, fun j u hj => ?_⟩
  rw [add_add]
  exact hc j u hj
set_option maxHeartbeats 2000000 in
theorem At_callsF (x : Ex) (cs : List Value) (path : List Int) (A : Option Addr) (c : Nat) (w : World) (ok : Nat → Prop) (hx : Kd.FK kE w ok x cs) (hp : (Kd.int .i64).C w A path.length path) :
    Calls Tryz.prog 30 #[.agg cs.toArray, .slice A path.length c] w fun e w' => ∃ cs', e = .returned (.tuple #[.agg cs'.toArray, .bool (x.at path).isSome]) ∧ Kd.FK kE w' ok ((x.at path).getD zE) cs' ∧ Below w.heap.size w w' := by
  have HKl := Lib.hid (kE_len (Kd.FK_now hx))
  have HX := Lib.hid hx
  have HP := Lib.hid hp
  have hm := Kd.C_max hp
  obtain ⟨r, hr⟩ : ∃ r, r = x.at path := ⟨_, rfl⟩
  rw [← hr]
  have HRr := Lib.hid hr
  clear hx hp hr
  go_enter Tryz.func30, Tryz.ntmps30
  go_wp2
  have hw1 : Below w.heap.size w ((w.alloc (.cells cs.toArray 32)).alloc (.cells zEc.toArray 32)) := below_alloc (below_alloc (Below.refl _ _) _) _
  have hs1 : w.heap.size + 2 = ((w.alloc (.cells cs.toArray 32)).alloc (.cells zEc.toArray 32)).heap.size := by simp
  have hB0 : BX 32 ((w.alloc (.cells cs.toArray 32)).alloc (.cells zEc.toArray 32)) w.heap.size cs := (BX.new w cs).alloc _
  have hR0 : BX 32 ((w.alloc (.cells cs.toArray 32)).alloc (.cells zEc.toArray 32)) (w.heap.size + 1) zEc := by simpa using BX.new (t := 32) (w.alloc (.cells cs.toArray 32)) zEc
  go_loopw [10] (fun v10 wr => ∃ (k : Nat) (y : Ex) (cy : List Value), k ≤ path.length ∧ v10 = .int .i64 k ∧ Hid (Kd.FK kE w ok y cy) ∧ BX 32 wr w.heap.size cy ∧ BX 32 wr (w.heap.size + 1) zEc ∧ Hid (r = y.at (path.drop k)) ∧ Below w.heap.size w wr) (fun v10 _ => path.length - (intOf v10).toNat)
  case atStart => exact ⟨0, x, cs, Nat.zero_le _, rfl, HX, hB0, hR0, Lib.hid (by simpa using HRr.out), hw1⟩
  case round =>
    obtain ⟨k, y, cy, hk, rfl, HY, hB, hR, HE, hb⟩ := hrel
    have hsz : w.heap.size + 1 < wr.heap.size := hR.lt
    have hcl := Lib.hid (kE_len (Kd.FK_now HY.out))
    have hc1 := Lib.hid (kE.K_one (Kd.FK_now HY.out))
    by_cases hlt : k < path.length
    · obtain ⟨ad, hA, hc0⟩ := elI HP.out hlt
      subst hA
      have hc := pw_cell_below hb hc0
      have hd : path.drop k = path.getD k 0 :: path.drop (k + 1) := by rw [List.drop_eq_getElem_cons hlt]; simp [List.getD_eq_getElem?_getD, hlt]
      obtain ⟨i, hi⟩ : ∃ i, i = path.getD k 0 := ⟨_, rfl⟩
      rw [← hi] at hc hd
      have HE2 := Lib.hid (HE.out.trans (show _ = if 0 ≤ i ∧ i < y.kids.length then (rdE y.kids i).at (path.drop (k + 1)) else none by rw [hd, Ex.at]))
      obtain ⟨A3, c3, A6, c6, A7, c7, A9, c9, A12, c12, he, l3, g3, l6, g6, l7, g7, l9, g9, l12, g12⟩ := kE_openF HY.out
      have q12 := hB.cell (j := 12) (u := .slice A12 y.kids.length c12) (by rw [he]; rfl)
      have HX12 := Lib.hid g12
      have hm12 := Kd.F_max g12
      clear hd hi hc0 he g3 g6 g7 g9 g12 l3 l6 l7 l9 HE
      by_cases h0 : 0 ≤ i ∧ i < y.kids.length
      · obtain ⟨h0a, h0b⟩ := h0
        obtain ⟨m, rfl⟩ : ∃ m : Nat, i = m := ⟨i.toNat, by omega⟩
        obtain ⟨ad2, cc, hA2, hK2, hcc2⟩ := elEF HX12.out (show m < y.kids.length by omega)
        subst hA2
        have HC : Hid (∀ j u, cc[j]? = some u → wr.cell? ((ad2.add (m * 13)).add j) = some u) := Lib.hid (fun j u h => pw_cell_below hb (hcc2 j u h))
        have hcl2 := Lib.hid (kE_len (Kd.FK_now hK2))
        have hc12 := Lib.hid (kE.K_one (Kd.FK_now hK2))
        have HK2 := Lib.hid hK2
        clear hcc2 hK2
        go_wp2_with (first
          | ((with_reducible refine load_list 28 rfl ?_ 32 _ rfl (ad2.add (m * 13)) ?_ cc _ HC.out Tryz.underlying32 ?_ ?_ ?_); (case _ => rfl); (case _ => rfl); (case _ => rfl); (case _ => rw [hcl2.out]; exact size32'))
          | ((with_reducible refine store_bx hB none rfl ?_ _ _ rfl cc ?_ ?_ ?_ ?_ ?_ ?_); (case _ => rfl); (case _ => rfl); (case _ => rfl); (case _ => rw [hcl2.out]; exact size32'); (case _ => rw [hcl.out, hcl2.out]); (case _ => exact hc12.out); intro w2 hB2 hg2))
        go_roundw
        case rel => exact ⟨k + 1, rdE y.kids m, cc, by omega, by go_num, HK2, hB2, hR.kept hg2 (fun e => by simp at e), Lib.hid (by rw [HE2.out, if_pos ⟨h0a, h0b⟩]), hb.trans (below_grown hg2 (by omega) (Nat.le_refl _))⟩
        case measure => simp [intOf]; omega
      · have HRn := Lib.hid (show r = none by rw [HE2.out, if_neg h0])
        by_cases hneg : i < 0
        all_goals
          go_wp2_with ((with_reducible refine store_bx hR none rfl ?_ _ _ rfl zEc ?_ ?_ ?_ ?_ ?_ ?_); (case _ => rfl); (case _ => rfl); (case _ => rfl); (case _ => exact size32'); (case _ => rfl); (case _ => decide); intro w2 hR2 hg2)
          have hload := hR2.load (P := Tryz.prog) Tryz.underlying32 (by exact size32')
          refine bodyPost_ret (v := .tuple #[.agg zEc.toArray, .bool false]) ?_ rfl ⟨zEc, by rw [HRn.out]; rfl, by rw [HRn.out]; exact Kd.FK_mono (zE_FK _) (fun _ h => h.elim), hb.trans (below_grown hg2 (by omega) (by omega))⟩
          simp [results, Tryz.f30, asAddr, Result.andThen, hload]
    · have hkk : k = path.length := by omega
      have hrs : r = some y := by rw [HE.out, List.drop_eq_nil_of_le (by omega), Ex.at]
      go_wp2_with (first
        | ((with_reducible refine load_list 30 rfl ?_ 32 _ rfl ⟨w.heap.size, 0, none⟩ ?_ cy _ hB.cells Tryz.underlying32 ?_ ?_ ?_); (case _ => rfl); (case _ => rfl); (case _ => rfl); (case _ => rw [hcl.out]; exact size32'))
        | ((with_reducible refine store_bx hR none rfl ?_ _ _ rfl cy ?_ ?_ ?_ ?_ ?_ ?_); (case _ => rfl); (case _ => rfl); (case _ => rfl); (case _ => rw [hcl.out]; exact size32'); (case _ => rw [hcl.out]; rfl); (case _ => exact hc1.out); intro w2 hR2 hg2))
      have hload := hR2.load (P := Tryz.prog) Tryz.underlying32 (by rw [hcl.out]; exact size32')
      have hb2 : Below w.heap.size w w2 := hb.trans (below_grown hg2 (by omega) (by omega))
      refine bodyPost_ret (v := .tuple #[.agg cy.toArray, .bool true]) ?_ rfl ⟨cy, by rw [hrs]; rfl, by rw [hrs]; exact Kd.FK_below HY.out hb2, hb2⟩
      simp [results, Tryz.f30, asAddr, Result.andThen, hload]
end Go.Proofs.YtlcofdgaidlldaaGreatDoor
namespace Go.Proofs.YtlcofdgaidlldaaGreatDoor
section
variable {P : Program} {ops : Array Oper} {Q : Exit → Act → World → Prop}
end
end Go.Proofs.YtlcofdgaidlldaaGreatDoor
namespace Go.Proofs.YtlcofdgaidlldaaGreatDoor
open Go.RowKit Go.Shelf Go.Proofs.YtlcofdgaidlldaaGreatDoorW.PrintWords
set_option linter.unusedVariables false
set_option linter.unusedSimpArgs false
/-- All that stood in W is as it was. -/
abbrev Stood (W : World) : World → Prop := fun w' => Below W.heap.size W w'
section
variable {P : Program} {ops : Array Oper} {a : Act} {w W : World} {o : Oper} {K : Act → World → Prop} {Q : Exit → Act → World → Prop}
theorem held_load (hw : Region.wanted o (yielded ops a.tmps) = true) (t : TypeId) (x : Operand) (ho : o.op = .load t x) (ad : Addr) (hx : a.eval x = .pointer (some ad)) (cs : List Value) (d : TypeDesc)
    (hc : ∀ j u, cs[j]? = some u → W.cell? (ad.add j) = some u)
    (hu : P.underlying t = some d) (hd : (match d with | .struct _ | .array _ _ => true | _ => false) = true) (hi : (P.info? t).map (·.size) = some cs.length) : YieldsIf P ops (Stood W) o (.agg cs.toArray) a :=
  .inl ⟨hw, fun w' hS => by
    unfold execOp
    simp only [ho, hx, Instr.loadAt, Instr.sureAddr, Sem.run_bind, Sem.run_pure, Result.andThen_ok, run_load_list w' ad t cs d (fun j u h => pw_cell_below hS (hc j u h)) hu hd hi]⟩
theorem step_store {t : TypeId} {g : Nat} {c : List Value} (H : BX t w g c) (hw : Region.wanted o (yielded ops a.tmps) = true) (N : Option Tmp) (hN : o.dst = N) (x y : Operand) (ho : o.op = .store t x y) (cs : List Value) (hx : a.eval x = .pointer (some ⟨g, 0, none⟩)) (hy : a.eval y = .agg cs.toArray)
    (hi : (P.info? t).map (·.size) = some cs.length) (hc : c.length = cs.length) (h1 : ∀ u ∈ cs, u.oneCell' = true)
    (h : ∀ w', BX t w' g cs → w.grownBy w' (some g) → K (a.put N undef) w') : if Region.wanted o (yielded ops a.tmps) = true then Oper.wp P o a w K Q else K (a.put o.dst undef) w := by
  rw [if_pos hw]
  unfold Oper.wp execOp
  simp only [ho, hx, hy, Instr.storeAt, Instr.sureAddr, Sem.run_bind, Sem.run_pure, Result.andThen_ok, run_storeVar_row w g t t c.toArray cs.toArray H (by simpa using hi) (by simpa using hc) (by rw [List.all_toArray, List.all_eq_true]; exact h1)]
  have hh := h (w.setRow g cs.toArray) (setRow_heap w g _ _ _ _ H) (grown_setRow w g _)
  rw [← hN] at hh
  exact hh
end
theorem Stood.alloc {W w : World} (h : Stood W w) (o : Obj) : Stood W (w.alloc o) := below_then h h.size (below_alloc (Below.refl _ _) o)
theorem Stood.call {W w w' : World} (h : Stood W w) (hb : Below w.heap.size w w') : Stood W w' := below_then h h.size hb
theorem Stood.grown {W w w' : World} {g : Nat} (h : Stood W w) (hg : w.grownBy w' (some g)) (hW : W.heap.size ≤ g) : Stood W w' := h.trans (below_grown hg h.size hW)
theorem grown_then {W w w' : World} {g : Nat} (h : W.grownBy w (some g)) (hb : Below w.heap.size w w') : W.grownBy w' (some g) :=
  ⟨hb.os.trans h.os, hb.tape.trans h.tape, hb.output.trans h.output, Nat.le_trans h.size hb.size, fun k hk hne => (hb.block k (Nat.lt_of_lt_of_le hk h.size)).trans (h.block k hk hne)⟩
theorem grown_row {W w w' : World} {g : Nat} (h : W.grownBy w (some g)) (h2 : w.grownBy w' (some g)) : W.grownBy w' (some g) :=
  ⟨h2.os.trans h.os, h2.tape.trans h.tape, h2.output.trans h.output, Nat.le_trans h.size h2.size, fun k hk hne => (h2.block k (Nat.lt_of_lt_of_le hk h.size) hne).trans (h.block k hk hne)⟩
theorem grown_drew (W : World) (g : Option Nat) : W.grownBy W.drew g := ⟨rfl, rfl, rfl, Nat.le_refl _, fun _ _ _ => rfl⟩
section
variable {P : Program} {ops : Array Oper} {a : Act} {w W : World} {o : Oper} {K : Act → World → Prop} {Q : Exit → Act → World → Prop} {S : World → Prop}
theorem held_loadS (hw : Region.wanted o (yielded ops a.tmps) = true) (t : TypeId) (x : Operand) (ho : o.op = .load t x) (ad : Addr) (hx : a.eval x = .pointer (some ad)) (cs : List Value) (d : TypeDesc)
    (hc : ∀ w', S w' → ∀ j u, cs[j]? = some u → w'.cell? (ad.add j) = some u)
    (hu : P.underlying t = some d) (hd : (match d with | .struct _ | .array _ _ => true | _ => false) = true) (hi : (P.info? t).map (·.size) = some cs.length) : YieldsIf P ops S o (.agg cs.toArray) a :=
  .inl ⟨hw, fun w' hS => by
    unfold execOp
    simp only [ho, hx, Instr.loadAt, Instr.sureAddr, Sem.run_bind, Sem.run_pure, Result.andThen_ok, run_load_list w' ad t cs d (hc w' hS) hu hd hi]⟩
end
section
variable {ops : Array Oper} {rest : List Oper} {a : Act} {w : World} {o : Oper} {K : Act → World → Prop} {Q : Exit → Act → World → Prop} {base g n cap : Nat} {ok okp : Nat → Prop} {xs : List Ex} {y : Ex} {cy : List Value} {i : Nat}
/-- An expression is read out of a block of its own, or out of a row. -/
theorem ldE {cs : List Value} {gb : Nat} (N : Tmp) (hB : BX 32 w gb cs) (hl : Hid (cs.length = 13)) (hN : o.dst = some N) (hgd : o.guard = none) (x : Operand) (ho : o.op = .load 32 x) (hx : a.eval x = .pointer (some ⟨gb, 0, none⟩))
    (h : wpList Tryz.prog ops Q rest (a.put (some N) (.agg cs.toArray)) w) : wpList Tryz.prog ops Q (o :: rest) a w :=
  load_list N hN hgd 32 x ho ⟨gb, 0, none⟩ hx cs _ hB.cells Tryz.underlying32 rfl (by rw [hl.out]; exact size32') h
/-- .. behind a guard. -/
theorem ldEg {cs : List Value} {gb : Nat} (N : Tmp) (hB : BX 32 w gb cs) (hl : Hid (cs.length = 13)) (hN : o.dst = some N) (hw : Region.wanted o (yielded ops a.tmps) = true) (x : Operand) (ho : o.op = .load 32 x) (hx : a.eval x = .pointer (some ⟨gb, 0, none⟩))
    (h : wpList Tryz.prog ops Q rest (a.put (some N) (.agg cs.toArray)) w) : wpList Tryz.prog ops Q (o :: rest) a w :=
  wpList_step fun K hK => by
    rw [if_pos hw]
    unfold Oper.wp execOp
    simp only [ho, hx, Instr.loadAt, Instr.sureAddr, Sem.run_bind, Sem.run_pure, Result.andThen_ok, run_load_list w ⟨gb, 0, none⟩ 32 cs _ hB.cells Tryz.underlying32 rfl (by rw [hl.out]; exact size32')]
    rw [← hN] at h
    exact hK _ _ h
theorem ldR {cs : List Value} {ad : Addr} (N : Tmp) (hC : Hid (∀ j u, cs[j]? = some u → w.cell? (ad.add j) = some u)) (hl : Hid (cs.length = 13)) (hN : o.dst = some N) (hgd : o.guard = none) (x : Operand) (ho : o.op = .load 32 x) (hx : a.eval x = .pointer (some ad))
    (h : wpList Tryz.prog ops Q rest (a.put (some N) (.agg cs.toArray)) w) : wpList Tryz.prog ops Q (o :: rest) a w :=
  load_list N hN hgd 32 x ho ad hx cs _ hC.out Tryz.underlying32 rfl (by rw [hl.out]; exact size32') h
/-- An expression is stored into a block of its own. -/
theorem stE {cs cz : List Value} {gb : Nat} (hB : BX 32 w gb cz) (hz : cz.length = 13) (hl : Hid (cs.length = 13)) (h1 : Hid (∀ u ∈ cs, u.oneCell' = true)) (N : Option Tmp) (hN : o.dst = N) (hgd : o.guard = none) (x yo : Operand) (ho : o.op = .store 32 x yo) (hx : a.eval x = .pointer (some ⟨gb, 0, none⟩)) (hv : a.eval yo = .agg cs.toArray)
    (h : ∀ w', BX 32 w' gb cs → w.grownBy w' (some gb) → wpList Tryz.prog ops Q rest (a.put N undef) w') : wpList Tryz.prog ops Q (o :: rest) a w :=
  store_bx hB N hN hgd x yo ho cs hx hv (by rw [hl.out]; exact size32') (by rw [hz, hl.out]) h1.out h
theorem loadE {cs : List Value} {gb : Nat} (hB : BX 32 w gb cs) (hl : Hid (cs.length = 13)) : (loadVar 32 ⟨gb, 0, none⟩).run Tryz.prog w = .ok (.agg cs.toArray) w := hB.load Tryz.underlying32 (by rw [hl.out]; exact size32')
end
end Go.Proofs.YtlcofdgaidlldaaGreatDoor
namespace Go.Proofs.YtlcofdgaidlldaaGreatDoor
open Go.RowKit Go.Shelf Go.Proofs.YtlcofdgaidlldaaGreatDoorW.PrintWords
set_option linter.unusedVariables false
set_option linter.unusedSimpArgs false
theorem fill1 (ca : List Value) (ha : ca.length = 13) :
    Instr.fill (fun i => some (i * 13, 13)) ((Array.range (1 * 13)).map (zEc.toArray[· % zEc.toArray.size]!)) [(0, .agg ca.toArray)] = some ca.toArray := by
  obtain ⟨a0, a1, a2, a3, a4, a5, a6, a7, a8, a9, a10, a11, a12, rfl⟩ := list13 ha
  kernel_rfl
theorem reps1 {R : Ex → List Value → Prop} {x : Ex} {ca : List Value} (ha : R x ca) (la : ca.length = 13) : Reps R 13 [x] ca := by
  have h1 := (Reps.none R 13).snoc ha la
  simpa using h1
section
variable {ops : Array Oper} {rest : List Oper} {o : Oper} {a : Act} {Q : Exit → Act → World → Prop}
theorem build1_E {w : World} (N : Tmp) (hN : o.dst = some N) (hgd : o.guard = none) (x : Operand) (ho : o.op = .buildSlice 30 1 #[(0, x)]) (ca : List Value) (ha : ca.length = 13) (hx : a.eval x = .agg ca.toArray)
    (h : wpList Tryz.prog ops Q rest (a.put (some N) (.slice (some ⟨w.heap.size, 0, none⟩) 1 1)) (w.alloc (.cells ca.toArray 32))) : wpList Tryz.prog ops Q (o :: rest) a w := by
  obtain ⟨ie, hie, hz, hs, _⟩ := info_parts infoE
  rw [← hN] at h
  have hs' : ie.size = 13 := hs
  refine wpList_buildSlice hgd 30 32 1 _ ho ca.toArray ie _ Tryz.underlying30 hie hz (by rw [hs']; decide) (by rw [hs']; decide) ?_ h
  rw [hs']
  have := fill1 ca ha
  simpa [hx, Value.cells] using this
end
section
variable {ops : Array Oper} {a : Act} {w : World} {o : Oper} {K : Act → World → Prop} {Q : Exit → Act → World → Prop}
/-- A row of two, in a drawn region. -/
theorem step_build2_E (hw : Region.wanted o (yielded ops a.tmps) = true) (N : Tmp) (hN : o.dst = some N) (x y : Operand) (ho : o.op = .buildSlice 30 2 #[(0, x), (1, y)]) (ca cb : List Value) (ha : ca.length = 13) (hb : cb.length = 13) (hx : a.eval x = .agg ca.toArray) (hy : a.eval y = .agg cb.toArray)
    (h : K (a.put (some N) (.slice (some ⟨w.heap.size, 0, none⟩) 2 2)) (w.alloc (.cells (ca ++ cb).toArray 32))) : if Region.wanted o (yielded ops a.tmps) = true then Oper.wp Tryz.prog o a w K Q else K (a.put o.dst undef) w := by
  rw [if_pos hw]
  obtain ⟨ie, hie, hz, hs, _⟩ := info_parts infoE
  rw [← hN] at h
  have hs' : ie.size = 13 := hs
  refine wp_buildSlice 30 32 2 _ ho (ca ++ cb).toArray ie _ Tryz.underlying30 hie hz (by rw [hs']; decide) (by rw [hs']; decide) ?_ h
  rw [hs']
  have := fill2 ca cb ha hb
  simpa [hx, hy, Value.cells] using this
end
end Go.Proofs.YtlcofdgaidlldaaGreatDoor
