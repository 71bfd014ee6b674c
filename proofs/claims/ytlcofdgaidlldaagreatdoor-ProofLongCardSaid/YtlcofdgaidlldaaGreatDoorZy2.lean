/- Contracts: proof.states and its closure, where each step of a row of equal ones may be made. The walks' conditions: the parameters' memory; what each step makes; at least one step. Contract: proof.Run, where each step of a row of equal ones may be made. The walks' conditions: the parameters' memory; the tables; what each step makes; one to five hundred steps. -/
import Derived.Test.YtlcofdgaidlldaaGreatDoorZs
import Derived.Test.YtlcofdgaidlldaaGreatDoorZt
namespace Go.Proofs.YtlcofdgaidlldaaGreatDoor
open Go.RowKit Go.Shelf Go.Proofs.YtlcofdgaidlldaaGreatDoorW.PrintWords
set_option linter.unusedVariables false
set_option linter.unusedSimpArgs false
attribute [local go_sem] Oper.semAt_some
/-- What is yielded: an expression, and no error. -/
abbrev stEnc (cs : List Value) : Array Value := #[.agg cs.toArray, .int .i64 0]
/-- Each of m steps by the same rule may be made, and makes the next one. -/
def Steps (es : Nat → Ex) (m : Nat) (r : Int) (w : World) : Prop := ∀ i, i < m → ∀ (W : World) (cz : List Value) (ok : Nat → Prop), Below w.heap.size w W → (∀ k, ok k → k < W.heap.size) → Kd.FK kE W ok (es i) cz →
  Calls Tryz.prog 19 #[.agg cz.toArray, .agg (stepC r none 0 0 0 false).toArray] W (PostI W ok (es (i + 1), 0))
/-- Where an expression may lie: in ok, or from n₁ on, but not in one block. -/
def okS (ok : Nat → Prop) (n₁ Be : Nat) : Nat → Prop := fun k => (ok k ∨ n₁ ≤ k) ∧ k ≠ Be
theorem FK_keeps {ok : Nat → Prop} {n₀ n₁ Be : Nat} {A B : World} {x : Ex} {cs : List Value} (h : Kd.FK kE A (okS ok n₁ Be) x cs) (hok : ∀ k, ok k → k < n₀) (hk : Keeps n₀ n₁ A B) : Kd.FK kE B (okS ok n₁ Be) x cs :=
  Kd.FK_mono (Kd.FK_step (FK_cells h) (fun k ⟨hk1, o, ho, hc⟩ _ => by
    rcases hk1.1 with h1 | h1
    · exact hk.below.block k (hok k h1)
    · exact (hk.cells k o h1 ho hc).trans ho.symm)) (fun _ h => h.1)
set_option maxRecDepth 100000 in
set_option maxHeartbeats 4000000 in
theorem states1_in (n l Bs Be n₁ : Nat) (w : World) (es : Nat → Ex) (m : Nat) (r : Int) (ad : Addr) (c : Nat) (hA : Steps es m r w) (hm : m ≤ 100000) (hn0 : w.heap.size ≤ n₁) (ok : Nat → Prop) (hok : ∀ k, ok k → k < w.heap.size)
    (hst : ∀ i, i < m → ∀ j u, (stepC r none 0 0 0 false)[j]? = some u → w.cell? ((ad.add (i * 4)).add j) = some u)
    (J : List (List Value) → World → Prop) (hJ : AbidesIn (fun k => k = Be) J)
    (hY : ∀ pre x W1, J pre W1 → (pre.length < m ∧ Kd.FK kE W1 (okS ok n₁ Be) (es (pre.length + 1)) x) → YieldAt Fence.wide (n - 1) Tryz.prog l (stEnc x) W1 fun e W' => e = .returned (.bool true) ∧ J (pre ++ [x]) W' ∧ Keeps w.heap.size n₁ W1 W')
    (W : World) (hb0 : Below w.heap.size w W) (hBs : n₁ ≤ Bs) (hBe : n₁ ≤ Be) (hcs : W.cell? ⟨Bs, 0, none⟩ = some (.slice (some ad) m c)) (ce : List Value) (hE : BX 32 W Be ce) (hK : Kd.FK kE W (okS ok n₁ Be) (es 0) ce) (h0 : J [] W) :
    CallsIn Fence.wide n Tryz.prog 18 #[.func (.yield l) #[] #[], .pointer (some ⟨Bs, 0, none⟩), .pointer (some ⟨Be, 0, none⟩)] W fun e W' => (∃ v, e = .returned v) ∧ ∃ xs : List (List Value), xs.length = m ∧ J xs W' := by
  have hdd : ∀ k : Nat, (Fence.wide.depth.isSome = true → 1 ≤ k) := fun k h => by cases h
  have HA := Lib.hid hA
  have HST := Lib.hid hst
  have HJ := Lib.hid hJ
  have HY := Lib.hid hY
  clear hA hst hJ hY
  refine callsIn_of_wp Tryz.func18 rfl trivial ?_ rfl
  simp only [Tryz.ntmps18, List.size_toArray, List.length_cons, List.length_nil, Nat.reduceAdd, Nat.reduceSub, Array.replicate_succ, Array.replicate_zero, List.push_toArray, List.append_toArray, List.nil_append, List.cons_append]
  gi_wp2
  gi_loopw [10] (fun v10 wr => ∃ (i : Nat) (pre : List (List Value)) (ci : List Value), i ≤ m ∧ v10 = .int .i64 i ∧ pre.length = i ∧ J pre wr ∧ BX 32 wr Be ci ∧ Hid (Kd.FK kE wr (okS ok n₁ Be) (es i) ci) ∧ Below w.heap.size w wr) (fun v10 _ => m - (intOf v10).toNat)
  case atStart => exact ⟨0, [], ce, Nat.zero_le _, rfl, rfl, h0, hE, Lib.hid hK, hb0⟩
  case round =>
    obtain ⟨i, pre, ci, hi, rfl, hpl, hj, hEi, HKi, hb⟩ := hrel
    have hlt0 := hEi.lt
    by_cases hlt : i < m
    · have hil := Lib.hid (kE_len (Kd.FK_now HKi.out))
      have hi0 : (0 : Int) ≤ (i : Int) := by omega
      have hi1 : (i : Int) < (m : Int) := by omega
      have HC := Lib.hid (fun j u h => pw_cell_below hb (HST.out i hlt j u h))
      have hE1 := hEi.alloc (.cells (stepC r none 0 0 0 false).toArray 36)
      have hbs : Below wr.heap.size wr (wr.alloc (.cells (stepC r none 0 0 0 false).toArray 36)) := below_alloc (Below.refl _ _) _
      have hsz1 : (wr.alloc (.cells (stepC r none 0 0 0 false).toArray 36)).heap.size = wr.heap.size + 1 := by simp
      have HAp := Lib.hid (HA.out i hlt _ ci _ (below_then hb hb.size hbs) (fun k hk => hk.2) (Kd.FK_bound (Kd.FK_below HKi.out hbs)))
      gi_wp2_with (first
        | ((with_reducible refine load_listIn 13 rfl ?_ 36 _ rfl (ad.add (i * 4)) ?_ (stepC r none 0 0 0 false) _ HC.out Tryz.underlying36 ?_ ?_ ?_); (case _ => rfl); (case _ => rfl); (case _ => rfl); (case _ => exact sizeSt))
        | ((with_reducible refine store_newIn _ none rfl ?_ 36 _ _ rfl _ (stepC r none 0 0 0 false) ?_ ?_ ?_ ?_ ?_ ?_); (case _ => rfl); (case _ => rfl); (case _ => rfl); (case _ => exact sizeSt); (case _ => rfl); (case _ => rfl))
        | ((with_reducible refine load_listIn 15 rfl ?_ 32 _ rfl ⟨Be, 0, none⟩ ?_ ci _ hE1.cells Tryz.underlying32 ?_ ?_ ?_); (case _ => rfl); (case _ => rfl); (case _ => rfl); (case _ => rw [hil.out]; exact size32'))
        | ((with_reducible refine load_listIn 16 rfl ?_ 36 _ rfl ⟨wr.heap.size, 0, none⟩ ?_ (stepC r none 0 0 0 false) _ (new_cells _ _ _) Tryz.underlying36 ?_ ?_ ?_); (case _ => rfl); (case _ => rfl); (case _ => rfl); (case _ => exact sizeSt))
        | (refine ⟨trivial, hdd _, ?_⟩; gi_at_call 19; refine (callsIn_wide.2 HAp.out).mono ?_; rintro e w1 ⟨cx, rfl, hKx, hb1⟩; have hxl := Lib.hid (kE_len (Kd.FK_now hKx)); have hx1 := Lib.hid (kE.K_one (Kd.FK_now hKx)); have hs1 : wr.heap.size + 1 ≤ w1.heap.size := (by rw [← hsz1]; exact hb1.size); have HKx : Hid (Kd.FK kE w1 (okS ok n₁ Be) (es (i + 1)) cx) := Lib.hid (Kd.FK_mono hKx (fun k hk => by rcases hk with hk | hk; exact hk.1; (rw [hsz1] at hk; exact ⟨.inr (by omega), by omega⟩))); clear hKx)
        | ((with_reducible refine store_newIn _ none rfl ?_ 32 _ _ rfl _ cx ?_ ?_ ?_ ?_ ?_ ?_); (case _ => rfl); (case _ => rfl); (case _ => rfl); (case _ => rw [hxl.out]; exact size32'); (case _ => rw [hxl.out]; rfl); (case _ => rw [List.all_eq_true]; exact hx1.out); have hb2 : Below wr.heap.size wr (w1.alloc (.cells cx.toArray 32)) := below_alloc (below_then hbs (by omega) hb1) _; have hE2 := hEi.below hb2; have hj2 := HJ.out pre wr _ none hj (grown_of_below hb2) (fun r e => by cases e); obtain ⟨fn, tmps, assign, body, hy, hR⟩ := HY.out pre cx _ hj2 ⟨by omega, by rw [hpl]; exact Kd.FK_below HKx.out (below_alloc (Below.refl _ _) _)⟩)
        | ((with_reducible refine load_listIn 21 rfl ?_ 32 _ rfl ⟨w1.heap.size, 0, none⟩ ?_ cx _ (new_cells _ _ _) Tryz.underlying32 ?_ ?_ ?_); (case _ => rfl); (case _ => rfl); (case _ => rfl); (case _ => rw [hxl.out]; exact size32'))
        | ((try refine ⟨hdd _, ?_⟩); refine hR.mono ?_; clear hR; rintro e w3 ⟨rfl, hj3, hk3⟩; have hE3 : BX 32 w3 Be ci := hk3.cells Be _ hBe hE2 rfl; have hX3 : BX 32 w3 w1.heap.size cx := hk3.cells w1.heap.size _ (by omega) (BX.new w1 cx) rfl)
        | ((with_reducible refine load_listIn 29 rfl ?_ 32 _ rfl ⟨w1.heap.size, 0, none⟩ ?_ cx _ hX3.cells Tryz.underlying32 ?_ ?_ ?_); (case _ => rfl); (case _ => rfl); (case _ => rfl); (case _ => rw [hxl.out]; exact size32'))
        | ((with_reducible refine store_bxIn hE3 none rfl ?_ _ _ rfl cx ?_ ?_ ?_ ?_ hx1.out ?_); (case _ => rfl); (case _ => rfl); (case _ => rfl); (case _ => rw [hxl.out]; exact size32'); (case _ => rw [hil.out, hxl.out]); intro w4 hE4 hg4))
      go_roundw
      case rel =>
        have hK3 := FK_keeps (Kd.FK_below HKx.out (below_alloc (Below.refl _ _) _)) hok hk3
        exact ⟨i + 1, pre ++ [cx], cx, by omega, by go_num, by simp [hpl], HJ.out _ _ _ _ hj3 hg4 (fun r e => by injection e with e; exact e.symm), hE4, Lib.hid (Kd.FK_grown hK3 hg4 (fun q hq e => by injection e with e; exact hq.2 e)), (below_then hb hb.size hb2).trans (hk3.below.trans (below_grown hg4 (by have := hk3.below.size; simp at this; have := hb.size; omega) (by omega)))⟩
      case measure => simp [intOf]; omega
    · gi_wp2
      go_end0
      exact ⟨⟨_, rfl⟩, pre, by omega, hj⟩
set_option maxHeartbeats 1000000 in
theorem states_calls (cs : List Value) (A : Option Addr) (n c : Nat) (w : World) : Calls Tryz.prog 11 #[.agg cs.toArray, .slice A n c] w fun e w' => e = .returned (.func (.func 18) #[] #[.pointer (some ⟨w.heap.size + 1, 0, none⟩), .pointer (some ⟨w.heap.size, 0, none⟩)]) ∧ w' = (w.alloc (.cells cs.toArray 32)).alloc (.cells #[.slice A n c] 34) := by
  go_enter Tryz.func11, Tryz.ntmps11
  go_wp2
  go_ret
  exact ⟨rfl, rfl⟩
theorem states_seq (n Bs Be n₁ : Nat) (w : World) (es : Nat → Ex) (m : Nat) (r : Int) (ad : Addr) (c : Nat) (hA : Steps es m r w) (hm : m ≤ 100000) (hn0 : w.heap.size ≤ n₁) (ok : Nat → Prop) (hok : ∀ k, ok k → k < w.heap.size)
    (hst : ∀ i, i < m → ∀ j u, (stepC r none 0 0 0 false)[j]? = some u → w.cell? ((ad.add (i * 4)).add j) = some u)
    (W0 : World) (hb0 : Below w.heap.size w W0) (hBs : n₁ ≤ Bs) (hBe : n₁ ≤ Be) (hcs : W0.cell? ⟨Bs, 0, none⟩ = some (.slice (some ad) m c)) (ce : List Value) (hE : BX 32 W0 Be ce) (hK : Kd.FK kE W0 (okS ok n₁ Be) (es 0) ce) :
    SeqBox Fence.wide n Tryz.prog 18 #[.pointer (some ⟨Bs, 0, none⟩), .pointer (some ⟨Be, 0, none⟩)] stEnc (fun pre x W => pre.length < m ∧ Kd.FK kE W (okS ok n₁ Be) (es (pre.length + 1)) x) (Keeps w.heap.size n₁) (fun k => k = Be) (fun xs => xs.length = m) W0 := fun l J W hW hJ hY h0 =>
  states1_in n l Bs Be n₁ w es m r ad c hA hm hn0 ok hok hst J hJ hY W (hb0.trans (hW.mono hb0.size)) hBs hBe (pw_cell_below hW hcs) ce (hE.below hW) (Kd.FK_below hK hW) h0
end Go.Proofs.YtlcofdgaidlldaaGreatDoor
namespace Go.Proofs.YtlcofdgaidlldaaGreatDoor
open Go.RowKit Go.Shelf Go.Proofs.YtlcofdgaidlldaaGreatDoorW.PrintWords
set_option linter.unusedVariables false
set_option linter.unusedSimpArgs false
attribute [local go_sem] Oper.semAt_some
theorem wp_region_heldN {P : Program} {n id : Nat} {ops : Array Oper} {S : World → Prop} {Q : Exit → Act → World → Prop} {a : Act} {w : World} (hm : P.follows .mixedOrders = true) (hS : S w.drew)
    (h : S w.drew → wpAnyH P .any ops (NQ (Q .normal)) S ops.size (Array.replicate ops.size false) a w.drew) : (Code.region id ops true).wpIn Fence.wide n P Q a w :=
  wpIn_mono (wpIn_wide.2 (wp_region_held_drew (S := S) hm hS h)) (fun e a w h => by cases e <;> first | exact h | exact h.elim)
theorem own_bx {β : Type} (B g : Nat) (t : TypeId) (c : List Value) : OwnFrom B (fun (_ : β) W => BX t W g c) := fun s X Y row h hg hr => BX.kept h hg (fun e => by
  obtain ⟨_, o, ho, hc⟩ := hr _ e.symm
  have h' : X.heap[g]? = some (.cells c.toArray t (0, 0)) := h
  rw [h'] at ho
  cases ho
  cases hc)
theorem keeps_grown {n₀ n₁ g : Nat} {A B : World} (h : A.grownBy B (some g)) (h0 : n₀ ≤ g) (h1 : g < n₁) (hA : n₀ ≤ A.heap.size) : Keeps n₀ n₁ A B :=
  ⟨below_grown h hA h0, fun q o hq ho _ => kept_at h ho (fun e => by injection e with e; omega)⟩
set_option maxRecDepth 100000 in
set_option maxHeartbeats 8000000 in
theorem Run_steps (es : Nat → Ex) (m : Nat) (r : Int) (cs : List Value) (ad : Addr) (c : Nat) (w : World) (ok : Nat → Prop) (hok : ∀ k, ok k → k < w.heap.size) (hx : Kd.FK kE w ok (es 0) cs) (hm0 : 0 < m) (hm : m ≤ 500)
    (hst : ∀ i, i < m → ∀ j u, (stepC r none 0 0 0 false)[j]? = some u → w.cell? ((ad.add (i * 4)).add j) = some u) (hmay : (es 0).may = true) (hL : Laid w) (hA : Steps es m r w) :
    Calls Tryz.prog 5 #[.agg cs.toArray, .slice (some ad) m c] w fun e w' => ∃ cs', e = .returned (.tuple #[.agg cs'.toArray, .int .i64 m, .int .i64 0]) ∧ Kd.FK kE w' (okN ok w.heap.size) (es m) cs' ∧ Below w.heap.size w w' := by
  have HXl := Lib.hid (kE_len (Kd.FK_now hx))
  have HX1 := Lib.hid (kE.K_one (Kd.FK_now hx))
  have HX := Lib.hid hx
  have HO := Lib.hid hok
  have HST := Lib.hid hst
  have HA := Lib.hid hA
  have HM : Hid (∀ W, Below w.heap.size w W → Calls Tryz.prog 10 #[.agg cs.toArray] W fun e w' => e = .returned (.bool true) ∧ Below W.heap.size W w') := Lib.hid (fun W hb => by
    have := May_calls (es 0) cs W (Kd.FK_now (Kd.FK_below hx hb)) (hL.below hb)
    rwa [hmay] at this)
  have hB0 : BX 32 ((((w.alloc (.cells cs.toArray 32)).alloc (.cells zEc.toArray 32)).alloc (.cells #[.int .i64 0] 3)).alloc (.cells #[.int .i64 0] 37)) w.heap.size cs := (((BX.new w cs).alloc _).alloc _).alloc _
  have hR0 : BX 32 ((((w.alloc (.cells cs.toArray 32)).alloc (.cells zEc.toArray 32)).alloc (.cells #[.int .i64 0] 3)).alloc (.cells #[.int .i64 0] 37)) (w.heap.size + 1) zEc := by simpa using ((BX.new (t := 32) (w.alloc (.cells cs.toArray 32)) zEc).alloc (.cells #[.int .i64 0] 3)).alloc (.cells #[.int .i64 0] 37)
  have hI0 : BX 3 ((((w.alloc (.cells cs.toArray 32)).alloc (.cells zEc.toArray 32)).alloc (.cells #[.int .i64 0] 3)).alloc (.cells #[.int .i64 0] 37)) (w.heap.size + 2) [.int .i64 0] := by simpa using (BX.new (t := 3) ((w.alloc (.cells cs.toArray 32)).alloc (.cells zEc.toArray 32)) [.int .i64 0]).alloc (.cells #[.int .i64 0] 37)
  have hJ0 : BX 37 ((((w.alloc (.cells cs.toArray 32)).alloc (.cells zEc.toArray 32)).alloc (.cells #[.int .i64 0] 3)).alloc (.cells #[.int .i64 0] 37)) (w.heap.size + 3) [.int .i64 0] := by simpa using BX.new (t := 37) (((w.alloc (.cells cs.toArray 32)).alloc (.cells zEc.toArray 32)).alloc (.cells #[.int .i64 0] 3)) [.int .i64 0]
  have hW0 : Below w.heap.size w ((((w.alloc (.cells cs.toArray 32)).alloc (.cells zEc.toArray 32)).alloc (.cells #[.int .i64 0] 3)).alloc (.cells #[.int .i64 0] 37)) := below_alloc (below_alloc (below_alloc (below_alloc (Below.refl _ _) _) _) _) _
  have hs0 : ((((w.alloc (.cells cs.toArray 32)).alloc (.cells zEc.toArray 32)).alloc (.cells #[.int .i64 0] 3)).alloc (.cells #[.int .i64 0] 37)).heap.size = w.heap.size + 4 := by simp
  have hd1 : decide ((500 : Int) < (m : Int)) = false := by simp; omega
  have hd2 : decide (500 < m) = false := by simp; omega
  clear hok hx hst hmay hL hA
  refine (callsIn_wide (n := 9)).1 ?_
  have h1 : (1 : Nat) ≤ 9 := by decide
  refine callsIn_of_wp_marks Tryz.func5 rfl trivial ?_ rfl
  simp only [Tryz.ntmps5, List.size_toArray, List.length_cons, List.length_nil, Nat.reduceAdd, Nat.reduceSub, Array.replicate_succ, Array.replicate_zero, List.push_toArray, List.append_toArray, List.nil_append, List.cons_append]
  gi_wp2_with (first
    | ((with_reducible refine load_listIn 12 rfl ?_ 32 _ rfl ⟨w.heap.size, 0, none⟩ ?_ cs _ hB0.cells Tryz.underlying32 ?_ ?_ ?_); (case _ => rfl); (case _ => rfl); (case _ => rfl); (case _ => rw [HXl.out]; exact size32'))
    | (refine ⟨trivial, ?_⟩; gi_at_call 10; refine (callsIn_wide.2 (HM.out _ hW0)).mono ?_; rintro e w1 ⟨rfl, hb1⟩; have hB1 := hB0.below hb1; have hR1 := hR0.below hb1; have hw1 := below_then hW0 (by omega) hb1; have hs1 : w.heap.size + 4 ≤ w1.heap.size := (by rw [← hs0]; exact hb1.size))
    | ((with_reducible refine load_listIn 21 rfl ?_ 32 _ rfl ⟨w.heap.size, 0, none⟩ ?_ cs _ hB1.cells Tryz.underlying32 ?_ ?_ ?_); (case _ => rfl); (case _ => rfl); (case _ => rfl); (case _ => rw [HXl.out]; exact size32'))
    | ((with_reducible refine store_bxIn ((BX.new w1 zEc).alloc (.cells #[.int .i64 0] 3)) none rfl ?_ _ _ rfl cs ?_ ?_ ?_ ?_ HX1.out ?_); (case _ => rfl); (case _ => rfl); (case _ => rfl); (case _ => rw [HXl.out]; exact size32'); (case _ => rw [HXl.out]; rfl); intro w2 hT2 hg2; have hN2 : BX 3 w2 (w1.heap.size + 1) [.int .i64 0] := BX.kept (w := (w1.alloc (.cells zEc.toArray 32)).alloc (.cells #[.int .i64 0] 3)) (by simpa using BX.new (t := 3) (w1.alloc (.cells zEc.toArray 32)) [.int .i64 0]) hg2 (fun e => by injection e; omega); have qn := hN2.cell (j := 0) (u := .int .i64 0) rfl; have fn2 := BX.frozen hN2 0; have hg3 := grown_setCell w2 (w1.heap.size + 1) 0 (.int .i64 0); have hbA : Below w1.heap.size w1 w2 := (below_alloc (below_alloc (Below.refl _ _) _) _).trans (below_grown hg2 (by simp; omega) (Nat.le_refl _)); have hbV := hbA.trans (below_grown hg3 hbA.size (by omega)); have hBV := hB1.below hbV; have hRV := hR1.below hbV; have hIV := (hI0.below hb1).below hbV; have hJV := (hJ0.below hb1).below hbV; have hTV := hT2.kept hg3 (fun e => by injection e; omega); have hNV := BX.setCell hN2 0 (.int .i64 0); have hwV := below_then hw1 hw1.size hbV; have hs2 : w1.heap.size + 2 ≤ w2.heap.size := (by simpa using hg2.size))
    | ((with_reducible refine load_listIn 22 rfl ?_ 32 _ rfl ⟨w.heap.size, 0, none⟩ ?_ cs _ hBV.cells Tryz.underlying32 ?_ ?_ ?_); (case _ => rfl); (case _ => rfl); (case _ => rfl); (case _ => rw [HXl.out]; exact size32'))
    | (refine ⟨trivial, ?_⟩; gi_at_call 11; refine (callsIn_wide.2 (states_calls cs (some ad) m c _)).mono ?_; rintro e w' ⟨rfl, rfl⟩))
  have hEV : BX 32 (((w2.setCell ⟨w1.heap.size + 1, 0, none⟩ (.int .i64 0)).alloc (.cells cs.toArray 32)).alloc (.cells #[.slice (some ad) m c] 34)) w2.heap.size cs := by
    have := (BX.new (t := 32) (w2.setCell ⟨w1.heap.size + 1, 0, none⟩ (.int .i64 0)) cs).alloc (.cells #[.slice (some ad) m c] 34)
    rwa [show ((w2.setCell ⟨w1.heap.size + 1, 0, none⟩ (.int .i64 0))).heap.size = w2.heap.size by simp [World.setCell]] at this
  have hSV : ((((w2.setCell ⟨w1.heap.size + 1, 0, none⟩ (.int .i64 0)).alloc (.cells cs.toArray 32)).alloc (.cells #[.slice (some ad) m c] 34))).cell? ⟨w2.heap.size + 1, 0, none⟩ = some (.slice (some ad) m c) := by
    have := new_cells ((w2.setCell ⟨w1.heap.size + 1, 0, none⟩ (.int .i64 0)).alloc (.cells cs.toArray 32)) [.slice (some ad) m c] 34 0 _ rfl
    rw [World.size_alloc, show ((w2.setCell ⟨w1.heap.size + 1, 0, none⟩ (.int .i64 0))).heap.size = w2.heap.size by simp [World.setCell]] at this
    exact this
  have hsz : ((((w2.setCell ⟨w1.heap.size + 1, 0, none⟩ (.int .i64 0)).alloc (.cells cs.toArray 32)).alloc (.cells #[.slice (some ad) m c] 34))).heap.size = w2.heap.size + 2 := by simp [World.setCell]
  have hbZ : Below ((w2.setCell ⟨w1.heap.size + 1, 0, none⟩ (.int .i64 0))).heap.size (w2.setCell ⟨w1.heap.size + 1, 0, none⟩ (.int .i64 0)) (((w2.setCell ⟨w1.heap.size + 1, 0, none⟩ (.int .i64 0)).alloc (.cells cs.toArray 32)).alloc (.cells #[.slice (some ad) m c] 34)) := below_alloc (below_alloc (Below.refl _ _) _) _
  have hTW := hTV.below hbZ
  have hNW := hNV.below hbZ
  have hRW := hRV.below hbZ
  have hIW := hIV.below hbZ
  have hJW := hJV.below hbZ
  have hwW := below_then hwV hwV.size hbZ
  obtain ⟨W0, hW0e⟩ : ∃ W0, W0 = (((w2.setCell ⟨w1.heap.size + 1, 0, none⟩ (.int .i64 0)).alloc (.cells cs.toArray 32)).alloc (.cells #[.slice (some ad) m c] 34)) := ⟨_, rfl⟩
  rw [← hW0e] at hEV hSV hsz hTW hNW hRW hIW hJW hwW ⊢
  have hNW : BX 3 W0 (w1.heap.size + 1) [.int .i64 0] := hNW
  clear hW0e hTV hNV hRV hIV hJV hBV hB0 hR0 hI0 hJ0 hB1 hR1 hbZ hg3 qn fn2 hN2 hT2
  have hKE : Kd.FK kE W0 (okS ok w2.heap.size w2.heap.size) (es 0) cs := Kd.FK_mono (Kd.FK_below HX.out hwW) (fun k hk => ⟨.inl hk, by have := HO.out k hk; omega⟩)
  have HS := Lib.hid (states_seq (9 - 1) (w2.heap.size + 1) w2.heap.size w2.heap.size w es m r ad c HA.out (by omega) (by omega) ok HO.out HST.out W0 hwW (by omega) (Nat.le_refl _) hSV cs hEV hKE)
  have HKE := Lib.hid hKE
  clear hKE
  refine wpIn_rangeFunc_box rfl h1 (gf := 18) (lb := #[.pointer (some ⟨w2.heap.size + 1, 0, none⟩), .pointer (some ⟨w2.heap.size, 0, none⟩)]) rfl trivial (enters_of Tryz.func18 (by kernel_rfl) rfl)
    HS.out (Below.refl _ _) (fun q hq => by subst hq; omega) (fun h k => h.trans k) (Keeps.putObj (by omega)) (fun _ => rfl)
    (fun pre W => ((∃ cz, BX 32 W w1.heap.size cz ∧ Kd.FK kE W (okS ok w2.heap.size w2.heap.size) (es pre.length) cz) ∧ Boxed W (w1.heap.size + 1) 3 (.int .i64 pre.length)) ∧ (BX 32 W (w.heap.size + 1) zEc ∧ BX 3 W (w.heap.size + 2) [.int .i64 0]) ∧ BX 37 W (w.heap.size + 3) [.int .i64 0] ∧ Below w.heap.size w W ∧ W0.heap.size ≤ W.heap.size)
    (OwnFrom.and (OwnFrom.and (ownFK _ _ _ _ _) (Own.from (boxed_own _ _ _) _)) (OwnFrom.and (OwnFrom.and (own_bx _ _ _ _) (own_bx _ _ _ _)) (OwnFrom.and (own_bx _ _ _ _) (OwnFrom.and (ownFrom_below (Nat.le_refl _) (by omega)) (fun s X Y row h hg _ => Nat.le_trans h hg.size)))))
    ?abides (fun pre x => fun s X Y row hs hg hr => ⟨hs.1, Kd.FK_mono (Kd.FK_grown (FK_cells hs.2) hg (fun q hq e => by
      obtain ⟨_, o, ho, hc⟩ := hq
      obtain ⟨_, o', ho', hc'⟩ := hr _ e.symm
      rw [ho] at ho'; cases ho'; rw [hc] at hc'; cases hc')) (fun _ h => h.1)⟩)
    ⟨⟨⟨cs, hTW, HKE.out⟩, hNW⟩, ⟨hRW, hIW⟩, hJW, hwW, Nat.le_refl _⟩
    (fun x a' W => ∃ Bx, (W0.heap.size ≤ Bx ∧ BX 32 W Bx x) ∧ a' = { tmps := #[Value.agg cs.toArray, .slice (some ad) m c, .pointer (some ⟨w.heap.size, 0, none⟩), undef, .pointer (some ⟨w.heap.size + 1, 0, none⟩), .pointer (some ⟨w.heap.size + 1 + 1, 0, none⟩), .pointer (some ⟨w.heap.size + 1 + 1 + 1, 0, none⟩), .pointer (some ⟨w1.heap.size, 0, none⟩), .pointer (some ⟨w1.heap.size + 1, 0, none⟩), .pointer (some ⟨Bx, 0, none⟩), .int .i64 0, .bool false, .agg cs.toArray, .bool true, .bool false, undef, .bool false, .slice (some ad) m c, .int .i64 (m : Nat), .bool false, undef, .agg cs.toArray, .agg cs.toArray, .slice (some ad) m c, .func (.func 18) #[] #[.pointer (some ⟨w2.heap.size + 1, 0, none⟩), .pointer (some ⟨w2.heap.size, 0, none⟩)], .agg x.toArray, .int .i64 0, undef, undef, undef, undef, undef, undef, undef, undef, undef, undef], defers := [] })
    (fun x a' _ X Y row hs hg hr => by obtain ⟨Bx, ⟨h1, h2⟩, h3⟩ := hs; exact ⟨Bx, ⟨h1, own_bx (β := Unit) _ _ _ _ () X Y row h2 hg hr⟩, h3⟩)
    ?assign ?body ?done
  case abides =>
    rintro pre X Y row ⟨⟨⟨cz, h1, h2⟩, h3⟩, ⟨h4, h5⟩, h6, h7, h8⟩ hg hr
    have hne : ∀ g, g < w2.heap.size → some g ≠ row := fun g hlt e => by have := hr _ e.symm; omega
    refine ⟨⟨⟨cz, h1.kept hg (hne _ (by omega)), Kd.FK_grown h2 hg (fun q hq e => hq.2 (hr _ e.symm))⟩, BX.kept (c := [_]) h3 hg (hne _ (by omega))⟩, ⟨h4.kept hg (hne _ (by omega)), h5.kept hg (hne _ (by omega))⟩, h6.kept hg (hne _ (by omega)), ?_, Nat.le_trans h8 hg.size⟩
    exact ⟨hg.os.trans h7.os, hg.tape.trans h7.tape, hg.output.trans h7.output, Nat.le_trans h7.size hg.size, fun k hk => (hg.block k (Nat.lt_of_lt_of_le hk h7.size) (hne _ (by omega))).trans (h7.block k hk)⟩
  case assign =>
    rintro l pre x W K ⟨⟨⟨cz, h1, h2⟩, h3⟩, ⟨h4, h5⟩, h6, h7, h8⟩ hX hK
    have hxl := Lib.hid (kE_len (Kd.FK_now hX.2))
    have hx1 := Lib.hid (kE.K_one (Kd.FK_now hX.2))
    have hs1 := h7.size
    gi_wp2_with ((with_reducible refine store_newIn _ none rfl ?_ 32 _ _ rfl _ x ?_ ?_ ?_ ?_ ?_ ?_); (case _ => rfl); (case _ => rfl); (case _ => rfl); (case _ => rw [hxl.out]; exact size32'); (case _ => rw [hxl.out]; rfl); (case _ => rw [List.all_eq_true]; exact hx1.out))
    have hbw : Below W.heap.size W (W.alloc (.cells x.toArray 32)) := below_alloc (Below.refl _ _) _
    exact hK _ _ (keepsFrom_of_below hbw) (Keeps.of_below hbw hs1) ⟨⟨⟨cz, h1.below hbw, Kd.FK_below h2 hbw⟩, BX.below (c := [_]) h3 hbw⟩, ⟨h4.below hbw, h5.below hbw⟩, h6.below hbw, below_then h7 hs1 hbw, Nat.le_trans h8 hbw.size⟩ ⟨hX.1, Kd.FK_below hX.2 hbw⟩ ⟨W.heap.size, ⟨h8, BX.new W x⟩, rfl⟩
  case body =>
    rintro l pre x a' W hl hr ⟨⟨⟨cz, hZ, hKz⟩, hN⟩, ⟨hR, hI⟩, hJ, hb, hsW⟩ hX ⟨Bx, ⟨hBx, hXb⟩, rfl⟩
    have hxl := Lib.hid (kE_len (Kd.FK_now hX.2))
    have hx1 := Lib.hid (kE.K_one (Kd.FK_now hX.2))
    have hzl := Lib.hid (kE_len (Kd.FK_now hKz))
    have HXX := Lib.hid hX
    have hpl := hX.1
    have hwr : wrap64 ((pre.length : Int) + 1) = (pre.length : Int) + 1 := by unfold wrap64; omega
    have hlen : ((pre ++ [x]).length : Int) = (pre.length : Int) + 1 := by simp
    clear hX hKz
    gi_wp2_with (first
      | ((with_reducible refine load_listIn 32 rfl ?_ 32 _ rfl ⟨Bx, 0, none⟩ ?_ x _ hXb.cells Tryz.underlying32 ?_ ?_ ?_); (case _ => rfl); (case _ => rfl); (case _ => rfl); (case _ => rw [hxl.out]; exact size32'))
      | ((with_reducible refine store_bxIn hZ none rfl ?_ _ _ rfl x ?_ ?_ ?_ ?_ hx1.out ?_); (case _ => rfl); (case _ => rfl); (case _ => rfl); (case _ => rw [hxl.out]; exact size32'); (case _ => rw [hzl.out, hxl.out]); intro w3 hZ3 hg3; have hN3 : BX 3 w3 (w1.heap.size + 1) [.int .i64 pre.length] := BX.kept (c := [_]) hN hg3 (fun e => by injection e; omega); have qn3 := hN3.cell (j := 0) (u := .int .i64 pre.length) rfl; have fn3 := BX.frozen hN3 0))
    have hbs := hb.size
    have hZl := hZ.lt
    have g4 := grown_setCell w3 (w1.heap.size + 1) 0 (.int .i64 ((pre.length : Int) + 1))
    have hN4 := BX.setCell hN3 0 (.int .i64 ((pre.length : Int) + 1))
    have hZ4 := hZ3.kept g4 (fun e => by injection e; omega)
    have hs3 := hg3.size
    have hb3 := hb.trans (below_grown hg3 hbs (by omega))
    refine ⟨(keepsFrom_grown hg3 (by omega)).trans (keepsFrom_grown g4 (by omega)), (keeps_grown hg3 (by omega) (by omega) hbs).trans (keeps_grown g4 (by omega) (by omega) (by omega)), ⟨⟨x, hZ4, ?_⟩, ?_⟩, ⟨(hR.kept hg3 (fun e => by injection e; omega)).kept g4 (fun e => by injection e; omega), (hI.kept hg3 (fun e => by injection e; omega)).kept g4 (fun e => by injection e; omega)⟩, (hJ.kept hg3 (fun e => by injection e; omega)).kept g4 (fun e => by injection e; omega), hb3.trans (below_grown g4 (by omega) (by omega)), by have := g4.size; omega⟩
    · rw [show (pre ++ [x]).length = pre.length + 1 by simp]
      exact Kd.FK_grown (Kd.FK_grown HXX.out.2 hg3 (fun q hq e => by injection e with e; rcases hq.1 with h | h; (have := HO.out q h; omega); omega)) g4 (fun q hq e => by injection e with e; rcases hq.1 with h | h; (have := HO.out q h; omega); omega)
    · rw [hlen]
      exact hN4
  case done =>
    rintro D xs W hD hS ⟨⟨⟨cz, hZ, hKz⟩, hN⟩, ⟨hR, hI⟩, hJ, hb, hsW⟩ hK
    rw [hS] at hKz hN
    have hzl := Lib.hid (kE_len (Kd.FK_now hKz))
    have hz1 := Lib.hid (kE.K_one (Kd.FK_now hKz))
    have HKz := Lib.hid hKz
    clear hKz
    have hN : BX 3 W (w1.heap.size + 1) [.int .i64 (m : Nat)] := hN
    have hbs := hb.size
    gi_wp2
    have hRd := hR.below (below_drew (Below.refl W.heap.size W))
    have hId := hI.below (below_drew (Below.refl W.heap.size W))
    have hJd := hJ.below (below_drew (Below.refl W.heap.size W))
    have hS0 : Below w.heap.size w W.drew ∧ BX 32 W.drew w1.heap.size cz ∧ BX 3 W.drew (w1.heap.size + 1) [.int .i64 (m : Nat)] := ⟨below_drew hb, hZ.below (below_drew (Below.refl _ _)), hN.below (below_drew (Below.refl _ _))⟩
    refine wp_region_heldN (S := fun w' => Below w.heap.size w w' ∧ BX 32 w' w1.heap.size cz ∧ BX 3 w' (w1.heap.size + 1) [.int .i64 (m : Nat)]) (by kernel_rfl) hS0 (fun hS => ?_)
    refine wpAnyH_take (i := 0) rfl (by kernel_rfl) (by kernel_rfl) (by kernel_rfl) (fun _ _ _ h => h) (held_loadS (by rfl) 32 _ rfl ⟨w1.heap.size, 0, none⟩ rfl cz _ (fun w' hS' => hS'.2.1.cells) Tryz.underlying32 rfl (by rw [hzl.out]; exact size32')) hS ?_
    simp only [Act.put, List.getElem_toArray, List.getElem_cons_succ, List.getElem_cons_zero, List.setIfInBounds_toArray, List.set_cons_zero, List.set_cons_succ]
    refine wpAnyH_take (i := 1) (v := ?_) rfl (by kernel_rfl) (by kernel_rfl) (by kernel_rfl) (fun _ _ _ h => h) (Or.inl ⟨by rfl, ?_⟩) hS ?_
    case refine_2 => (intro w' hS'; have hq1 := hS'.2.2.cell (j := 0) (u := .int .i64 (m : Nat)) rfl; go_simp; try with_reducible rfl)
    simp only [Act.put, List.getElem_toArray, List.getElem_cons_succ, List.getElem_cons_zero, List.setIfInBounds_toArray, List.set_cons_zero, List.set_cons_succ]
    refine wpAnyH_ready (rs := [2]) (by kernel_rfl) (by simp) ?_
    refine AllReadyH.cons (o := _) rfl (fun K hK => ?_) AllReadyH.nil
    refine step_store hRd (by rfl) none rfl _ _ rfl cz (by rfl) rfl (by rw [hzl.out]; exact size32') (by rw [hzl.out]; rfl) hz1.out ?_
    intro w4 hR4 hg4
    have hI4 := hId.kept hg4 (fun e => by injection e; omega)
    have hJ4 := hJd.kept hg4 (fun e => by injection e; omega)
    have qi := hI4.cell (j := 0) (u := .int .i64 0) rfl
    have qj := hJ4.cell (j := 0) (u := .int .i64 0) rfl
    have fi := BX.frozen hI4 0
    have fj := BX.frozen hJ4 0
    have hb4 := hS0.1.trans (below_grown hg4 hS0.1.size (by omega))
    refine hK.out _ _ (⟨hb4, hS0.2.1.kept hg4 (fun e => by injection e; omega), hS0.2.2.kept hg4 (fun e => by injection e; omega)⟩) (fun hS => ?_)
    clear hK K
    try simp only [Act.put, List.getElem_toArray, List.getElem_cons_succ, List.getElem_cons_zero, List.setIfInBounds_toArray, List.set_cons_zero, List.set_cons_succ]
    refine wpAnyH_ready (rs := [3]) (by kernel_rfl) (by simp) ?_
    refine AllReadyH.cons (o := _) rfl (fun K hK => ?_) AllReadyH.nil
    go_simp
    have g5 := grown_setCell w4 (w.heap.size + 1 + 1) 0 (.int .i64 (m : Nat))
    have hb5 := hb4.trans (below_grown g5 hb4.size (by omega))
    have hI5 := BX.setCell hI4 0 (.int .i64 (m : Nat))
    have hJ5 := hJ4.kept g5 (fun e => by injection e; omega)
    have hR5 := hR4.kept g5 (fun e => by injection e; omega)
    have qj5 := hJ5.cell (j := 0) (u := .int .i64 0) rfl
    have fj5 := BX.frozen hJ5 0
    refine hK.out _ _ (⟨hb5, (hS0.2.1.kept hg4 (fun e => by injection e; omega)).kept g5 (fun e => by injection e; omega), (hS0.2.2.kept hg4 (fun e => by injection e; omega)).kept g5 (fun e => by injection e; omega)⟩) (fun hS => ?_)
    clear hK K
    try simp only [Act.put, List.getElem_toArray, List.getElem_cons_succ, List.getElem_cons_zero, List.setIfInBounds_toArray, List.set_cons_zero, List.set_cons_succ]
    refine wpAnyH_ready (rs := [4]) (by kernel_rfl) (by simp) ?_
    refine AllReadyH.cons (o := _) rfl (fun K hK => ?_) AllReadyH.nil
    go_simp
    have g6 := grown_setCell (w4.setCell ⟨w.heap.size + 1 + 1, 0, none⟩ (.int .i64 (m : Nat))) (w.heap.size + 1 + 1 + 1) 0 (.int .i64 0)
    have hb6 := hb5.trans (below_grown g6 hb5.size (by omega))
    have hI6 := hI5.kept g6 (fun e => by injection e; omega)
    have hJ6 := BX.setCell hJ5 0 (.int .i64 0)
    have hR6 := hR5.kept g6 (fun e => by injection e; omega)
    refine hK.out _ _ (⟨hb6, ((hS0.2.1.kept hg4 (fun e => by injection e; omega)).kept g5 (fun e => by injection e; omega)).kept g6 (fun e => by injection e; omega), ((hS0.2.2.kept hg4 (fun e => by injection e; omega)).kept g5 (fun e => by injection e; omega)).kept g6 (fun e => by injection e; omega)⟩) (fun hS => ?_)
    clear hK K
    try simp only [Act.put, List.getElem_toArray, List.getElem_cons_succ, List.getElem_cons_zero, List.setIfInBounds_toArray, List.set_cons_zero, List.set_cons_succ]
    refine wpAnyH_done (by kernel_rfl) ?_ _
    simp only [NQ]
    gi_wp2
    have hKd : ((w4.setCell ⟨w.heap.size + 1 + 1, 0, none⟩ (.int .i64 (m : Nat))).setCell ⟨w.heap.size + 1 + 1 + 1, 0, none⟩ (.int .i64 0)).heap[D]? = some (.deferred (some [])) := kept_at g6 (kept_at g5 (kept_at hg4 (show W.drew.heap[D]? = _ from hK) (fun e => by injection e; omega)) (fun e => by injection e; omega)) (fun e => by injection e; omega)
    have HFK := Lib.hid (FK_cells (Kd.FK_grown (Kd.FK_grown (Kd.FK_grown (Kd.FK_below HKz.out (below_drew (Below.refl _ _))) hg4 (fun q hq e => by injection e with e; rcases hq.1 with h | h; (have := HO.out q h; omega); omega)) g5 (fun q hq e => by injection e with e; rcases hq.1 with h | h; (have := HO.out q h; omega); omega)) g6 (fun q hq e => by injection e with e; rcases hq.1 with h | h; (have := HO.out q h; omega); omega)))
    have hI6 : BX 3 ((w4.setCell ⟨w.heap.size + 1 + 1, 0, none⟩ (.int .i64 (m : Nat))).setCell ⟨w.heap.size + 1 + 1 + 1, 0, none⟩ (.int .i64 0)) (w.heap.size + 1 + 1) [.int .i64 (m : Nat)] := hI6
    have hJ6 : BX 37 ((w4.setCell ⟨w.heap.size + 1 + 1, 0, none⟩ (.int .i64 (m : Nat))).setCell ⟨w.heap.size + 1 + 1 + 1, 0, none⟩ (.int .i64 0)) (w.heap.size + 1 + 1 + 1) [.int .i64 0] := hJ6
    obtain ⟨W6, hW6⟩ : ∃ W6, W6 = ((w4.setCell ⟨w.heap.size + 1 + 1, 0, none⟩ (.int .i64 (m : Nat))).setCell ⟨w.heap.size + 1 + 1 + 1, 0, none⟩ (.int .i64 0)) := ⟨_, rfl⟩
    rw [← hW6] at hKd HFK hI6 hJ6 hR6 hb6 ⊢
    clear hW6 g5 g6 hS hI5 hJ5 hR5 qj5 fj5
    refine ⟨by simp, .inl ⟨_, _, rfl, run_takeDeferred hKd, ?_⟩⟩
    have g7 := grownBy_putObj' W6 D (.deferred none)
    have hs6 := hb6.size
    have hR7 := hR6.kept g7 (fun e => by injection e; omega)
    have hI7 := hI6.kept g7 (fun e => by injection e; omega)
    have hJ7 := hJ6.kept g7 (fun e => by injection e; omega)
    have hb7 := hb6.trans (below_grown g7 hs6 (by omega))
    have HFK7 := Kd.FK_mono (ok' := okN ok w.heap.size) (Kd.FK_grown HFK.out g7 (fun q hq e => by
      injection e with e
      subst e
      obtain ⟨_, o, ho, hc⟩ := hq
      rw [hKd] at ho; cases ho; cases hc)) (fun q hq => by rcases hq.1.1 with h | h; exact .inl h; exact .inr (by omega))
    obtain ⟨W7, hW7⟩ : ∃ W7, W7 = W6.putObj D (.deferred none) := ⟨_, rfl⟩
    rw [← hW7] at hR7 hI7 hJ7 hb7 HFK7 ⊢
    have hload := loadE hR7 hzl
    have q5 := hI7.cell (j := 0) (u := .int .i64 (m : Nat)) rfl
    have q6 := hJ7.cell (j := 0) (u := .int .i64 0) rfl
    have hl5 : (loadVar 3 ⟨w.heap.size + 1 + 1, 0, none⟩).run Tryz.prog W7 = .ok (.int .i64 (m : Nat)) W7 := by simp [loadVar, Tryz.underlying3, q5, go_sem]
    have hl6 : (loadVar 37 ⟨w.heap.size + 1 + 1 + 1, 0, none⟩).run Tryz.prog W7 = .ok (.int .i64 0) W7 := by simp [loadVar, Tryz.underlying37, q6, go_sem]
    refine ⟨.tuple #[.agg cz.toArray, .int .i64 (m : Nat), .int .i64 0], ?_, ⟨cz, rfl, HFK7, hb7⟩⟩
    simp [results, Tryz.f5, asAddr, Result.andThen, hload, hl5, hl6]
end Go.Proofs.YtlcofdgaidlldaaGreatDoor
