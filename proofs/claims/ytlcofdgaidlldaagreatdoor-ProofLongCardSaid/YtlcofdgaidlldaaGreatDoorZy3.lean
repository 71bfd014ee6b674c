/- Contract: proof.Check, by what Run answers. The walks' conditions: the parameters' memory; what Run and core.Same answer. Contracts: proof.Run where nothing may be stepped from, and where there are too many steps. The walks' conditions: the parameters' memory; the tables. Contracts: proof.Check at a sum and at towers. The walks' conditions: the parameters' memory; the tables. Parts of ProofLong's walk: a row of steps is made; the cells of a tower and of a let that sets. Without conditions. -/
import Derived.Test.YtlcofdgaidlldaaGreatDoorZo
import Derived.Test.YtlcofdgaidlldaaGreatDoorZx
import Derived.Test.YtlcofdgaidlldaaGreatDoorZy1
import Derived.Test.YtlcofdgaidlldaaGreatDoorZy2
namespace Go.Proofs.YtlcofdgaidlldaaGreatDoor
open Go.RowKit Go.Shelf Go.Proofs.YtlcofdgaidlldaaGreatDoorW.PrintWords
set_option linter.unusedVariables false
set_option linter.unusedSimpArgs false
section
variable {ops : Array Oper} {rest : List Oper} {o : Oper} {a : Act} {Q : Exit → Act → World → Prop} {w : World}
/-- An expression is read wherever it lies, behind a guard. -/
theorem ldXg {cs : List Value} {ad : Addr} (N : Tmp) (hC : Hid (∀ j u, cs[j]? = some u → w.cell? (ad.add j) = some u)) (hl : Hid (cs.length = 13)) (hN : o.dst = some N) (hw : Region.wanted o (yielded ops a.tmps) = true) (x : Operand) (ho : o.op = .load 32 x) (hx : a.eval x = .pointer (some ad))
    (h : wpList Tryz.prog ops Q rest (a.put (some N) (.agg cs.toArray)) w) : wpList Tryz.prog ops Q (o :: rest) a w :=
  wpList_step fun K hK => by
    rw [if_pos hw]
    unfold Oper.wp execOp
    simp only [ho, hx, Instr.loadAt, Instr.sureAddr, Sem.run_bind, Sem.run_pure, Result.andThen_ok, run_load_list w ad 32 cs _ hC.out Tryz.underlying32 rfl (by rw [hl.out]; exact size32')]
    rw [← hN] at h
    exact hK _ _ h
end
/-- What Run answers. -/
def RunPost (w : World) (ok : Nat → Prop) (x : Ex) (k f : Int) : Ending → World → Prop := fun e w' => ∃ cx, e = .returned (.tuple #[.agg cx.toArray, .int .i64 k, .int .i64 f]) ∧ Kd.FK kE w' (okN ok w.heap.size) x cx ∧ Below w.heap.size w w'
set_option maxRecDepth 100000 in
set_option maxHeartbeats 4000000 in
theorem Check_bad (e x : Ex) (ce cl : List Value) (A : Option Addr) (n c : Nat) (k f : Int) (w : World) (ok : Nat → Prop) (hok : ∀ k, ok k → k < w.heap.size) (he : Kd.FK kE w ok e ce) (hcl : cl.length = 13) (hf : (f == 0) = false) 
    (HR : ∀ W, Below w.heap.size w W → Calls Tryz.prog 5 #[.agg ce.toArray, .slice A n c] W (RunPost W ok x k f)) :
    Calls Tryz.prog 6 #[.agg ce.toArray, .agg (.slice A n c :: cl).toArray] w fun en w' => ∃ cr, en = .returned (.tuple #[.agg cr.toArray, .bool false]) ∧ Kd.FK kE w' (okN ok w.heap.size) e cr ∧ Below w.heap.size w w' := by
  have HEl := Lib.hid (kE_len (Kd.FK_now he))
  have HE1 := Lib.hid (kE.K_one (Kd.FK_now he))
  have HE := Lib.hid he
  have HO := Lib.hid hok
  have HCl := Lib.hid hcl
  have HRr := Lib.hid HR
  have hE0 : BX 32 (((w.alloc (.cells ce.toArray 32)).alloc (.cells (.slice A n c :: cl).toArray 41)).alloc (.cells zEc.toArray 32)) w.heap.size ce := ((BX.new w _).alloc _).alloc _
  have hP0 : BX 41 (((w.alloc (.cells ce.toArray 32)).alloc (.cells (.slice A n c :: cl).toArray 41)).alloc (.cells zEc.toArray 32)) (w.heap.size + 1) (.slice A n c :: cl) := by simpa using (BX.new (t := 41) (w.alloc (.cells ce.toArray 32)) (.slice A n c :: cl)).alloc (.cells zEc.toArray 32)
  have hR0 : BX 32 (((w.alloc (.cells ce.toArray 32)).alloc (.cells (.slice A n c :: cl).toArray 41)).alloc (.cells zEc.toArray 32)) (w.heap.size + 2) zEc := by simpa using BX.new (t := 32) ((w.alloc (.cells ce.toArray 32)).alloc (.cells (.slice A n c :: cl).toArray 41)) zEc
  have hW0 : Below w.heap.size w (((w.alloc (.cells ce.toArray 32)).alloc (.cells (.slice A n c :: cl).toArray 41)).alloc (.cells zEc.toArray 32)) := below_alloc (below_alloc (below_alloc (Below.refl _ _) _) _) _
  have hs0 : (((w.alloc (.cells ce.toArray 32)).alloc (.cells (.slice A n c :: cl).toArray 41)).alloc (.cells zEc.toArray 32)).heap.size = w.heap.size + 3 := by simp
  have q0 := hP0.cell (j := 0) (u := .slice A n c) rfl
  have hf1 : (f != 0) = !(f == 0) := rfl
  rw [hf] at hf1
  clear he hok HR hcl
  go_enter Tryz.func6, Tryz.ntmps6
  go_wp2_with (first
    | ((with_reducible refine ldE 10 hE0 HEl rfl ?_ _ rfl ?_ ?_); (case _ => rfl); (case _ => rfl))
    | (go_at_call 5; (with_reducible refine (HRr.out _ hW0).mono ?_); rintro e w1 ⟨cx, rfl, hKx, hb1⟩; have HKx := Lib.hid hKx; have hxl := Lib.hid (kE_len (Kd.FK_now hKx)); have hx1 := Lib.hid (kE.K_one (Kd.FK_now hKx)); have hw1 := below_then hW0 (by omega) hb1; have hs1 : w.heap.size + 3 ≤ w1.heap.size := (by rw [← hs0]; exact hb1.size); have hE1 := hE0.below hb1; have hP1 := hP0.below hb1; have hR1 := hR0.below hb1; clear hKx)
    | ((with_reducible refine stE (BX.new w1 zEc) rfl hxl hx1 none rfl ?_ _ _ rfl ?_ ?_ ?_); (case _ => rfl); (case _ => rfl); (case _ => rfl); intro w2 hX2 hg2; have hb2 : Below w1.heap.size w1 w2 := (below_alloc (Below.refl _ _) _).trans (below_grown hg2 (by simp) (Nat.le_refl _)); have hE2 := hE1.below hb2; have hR2 := hR1.below hb2; have hw2 := below_then hw1 hw1.size hb2; have hs2 := hb2.size; have HC2 := Lib.hid (part1 (hP1.below hb2) (cd := cl) (fun j u h => (by rw [Nat.add_comm]; exact h))); have HK2 := Lib.hid (Kd.FK_below HKx.out hb2))
    | ((with_reducible refine ldEg 20 hX2 hxl rfl ?_ _ rfl ?_ ?_); (case _ => rfl); (case _ => rfl))
    | ((with_reducible refine ldXg 22 HC2 HCl rfl ?_ _ rfl ?_ ?_); (case _ => rfl); (case _ => rfl))
    | (go_at_call 12; (with_reducible refine (HS w2 cx hw2 (Kd.FK_now HK2.out)).mono ?_); rintro e w3 ⟨rfl, hb3⟩; have hE3 := hE2.below hb3; have hR3 := hR2.below hb3; have hX3 := hX2.below hb3; have hw3 := below_then hw2 hw2.size hb3; have hs3 := hb3.size; have HK3 := Lib.hid (Kd.FK_below HK2.out hb3))
    | ((with_reducible refine ldE 25 hX3 hxl rfl ?_ _ rfl ?_ ?_); (case _ => rfl); (case _ => rfl))
    | ((with_reducible refine stE hR3 rfl hxl hx1 none rfl ?_ _ _ rfl ?_ ?_ ?_); (case _ => rfl); (case _ => rfl); (case _ => rfl); intro w4 hR4 hg4)
    | ((with_reducible refine ldE 26 hE3 HEl rfl ?_ _ rfl ?_ ?_); (case _ => rfl); (case _ => rfl))
    | ((with_reducible refine stE hR3 rfl HEl HE1 none rfl ?_ _ _ rfl ?_ ?_ ?_); (case _ => rfl); (case _ => rfl); (case _ => rfl); intro w4 hR4 hg4)
    | ((with_reducible refine ldE 26 hE2 HEl rfl ?_ _ rfl ?_ ?_); (case _ => rfl); (case _ => rfl))
    | ((with_reducible refine stE hR2 rfl HEl HE1 none rfl ?_ _ _ rfl ?_ ?_ ?_); (case _ => rfl); (case _ => rfl); (case _ => rfl); intro w4 hR4 hg4))
  have hload := loadE hR4 HEl
  have hbz : Below w.heap.size w w4 := hw2.trans (below_grown hg4 hw2.size (by omega))
  refine bodyPost_ret (v := .tuple #[.agg ce.toArray, .bool false]) ?_ rfl ⟨ce, rfl, Kd.FK_mono (Kd.FK_below HE.out hbz) (fun _ h => .inl h), hbz⟩
  simp [results, Tryz.f6, asAddr, Result.andThen, Act.put, hload]
set_option maxRecDepth 100000 in
set_option maxHeartbeats 4000000 in
theorem Check_no (e x : Ex) (ce cl : List Value) (A : Option Addr) (n c : Nat) (k f : Int) (w : World) (ok : Nat → Prop) (hok : ∀ k, ok k → k < w.heap.size) (he : Kd.FK kE w ok e ce) (hcl : cl.length = 13) (hf : (f == 0) = true) (HS : ∀ (W : World) (cx : List Value), Below w.heap.size w W → kE.K W x cx → Calls Tryz.prog 12 #[.agg cx.toArray, .agg cl.toArray] W fun e w' => e = .returned (.bool false) ∧ Below W.heap.size W w')
    (HR : ∀ W, Below w.heap.size w W → Calls Tryz.prog 5 #[.agg ce.toArray, .slice A n c] W (RunPost W ok x k f)) :
    Calls Tryz.prog 6 #[.agg ce.toArray, .agg (.slice A n c :: cl).toArray] w fun en w' => ∃ cr, en = .returned (.tuple #[.agg cr.toArray, .bool false]) ∧ Kd.FK kE w' (okN ok w.heap.size) e cr ∧ Below w.heap.size w w' := by
  have HEl := Lib.hid (kE_len (Kd.FK_now he))
  have HE1 := Lib.hid (kE.K_one (Kd.FK_now he))
  have HE := Lib.hid he
  have HO := Lib.hid hok
  have HCl := Lib.hid hcl
  have HRr := Lib.hid HR
  have hE0 : BX 32 (((w.alloc (.cells ce.toArray 32)).alloc (.cells (.slice A n c :: cl).toArray 41)).alloc (.cells zEc.toArray 32)) w.heap.size ce := ((BX.new w _).alloc _).alloc _
  have hP0 : BX 41 (((w.alloc (.cells ce.toArray 32)).alloc (.cells (.slice A n c :: cl).toArray 41)).alloc (.cells zEc.toArray 32)) (w.heap.size + 1) (.slice A n c :: cl) := by simpa using (BX.new (t := 41) (w.alloc (.cells ce.toArray 32)) (.slice A n c :: cl)).alloc (.cells zEc.toArray 32)
  have hR0 : BX 32 (((w.alloc (.cells ce.toArray 32)).alloc (.cells (.slice A n c :: cl).toArray 41)).alloc (.cells zEc.toArray 32)) (w.heap.size + 2) zEc := by simpa using BX.new (t := 32) ((w.alloc (.cells ce.toArray 32)).alloc (.cells (.slice A n c :: cl).toArray 41)) zEc
  have hW0 : Below w.heap.size w (((w.alloc (.cells ce.toArray 32)).alloc (.cells (.slice A n c :: cl).toArray 41)).alloc (.cells zEc.toArray 32)) := below_alloc (below_alloc (below_alloc (Below.refl _ _) _) _) _
  have hs0 : (((w.alloc (.cells ce.toArray 32)).alloc (.cells (.slice A n c :: cl).toArray 41)).alloc (.cells zEc.toArray 32)).heap.size = w.heap.size + 3 := by simp
  have q0 := hP0.cell (j := 0) (u := .slice A n c) rfl
  have hf1 : (f != 0) = !(f == 0) := rfl
  rw [hf] at hf1
  clear he hok HR hcl
  go_enter Tryz.func6, Tryz.ntmps6
  go_wp2_with (first
    | ((with_reducible refine ldE 10 hE0 HEl rfl ?_ _ rfl ?_ ?_); (case _ => rfl); (case _ => rfl))
    | (go_at_call 5; (with_reducible refine (HRr.out _ hW0).mono ?_); rintro e w1 ⟨cx, rfl, hKx, hb1⟩; have HKx := Lib.hid hKx; have hxl := Lib.hid (kE_len (Kd.FK_now hKx)); have hx1 := Lib.hid (kE.K_one (Kd.FK_now hKx)); have hw1 := below_then hW0 (by omega) hb1; have hs1 : w.heap.size + 3 ≤ w1.heap.size := (by rw [← hs0]; exact hb1.size); have hE1 := hE0.below hb1; have hP1 := hP0.below hb1; have hR1 := hR0.below hb1; clear hKx)
    | ((with_reducible refine stE (BX.new w1 zEc) rfl hxl hx1 none rfl ?_ _ _ rfl ?_ ?_ ?_); (case _ => rfl); (case _ => rfl); (case _ => rfl); intro w2 hX2 hg2; have hb2 : Below w1.heap.size w1 w2 := (below_alloc (Below.refl _ _) _).trans (below_grown hg2 (by simp) (Nat.le_refl _)); have hE2 := hE1.below hb2; have hR2 := hR1.below hb2; have hw2 := below_then hw1 hw1.size hb2; have hs2 := hb2.size; have HC2 := Lib.hid (part1 (hP1.below hb2) (cd := cl) (fun j u h => (by rw [Nat.add_comm]; exact h))); have HK2 := Lib.hid (Kd.FK_below HKx.out hb2))
    | ((with_reducible refine ldEg 20 hX2 hxl rfl ?_ _ rfl ?_ ?_); (case _ => rfl); (case _ => rfl))
    | ((with_reducible refine ldXg 22 HC2 HCl rfl ?_ _ rfl ?_ ?_); (case _ => rfl); (case _ => rfl))
    | (go_at_call 12; (with_reducible refine (HS w2 cx hw2 (Kd.FK_now HK2.out)).mono ?_); rintro e w3 ⟨rfl, hb3⟩; have hE3 := hE2.below hb3; have hR3 := hR2.below hb3; have hX3 := hX2.below hb3; have hw3 := below_then hw2 hw2.size hb3; have hs3 := hb3.size; have HK3 := Lib.hid (Kd.FK_below HK2.out hb3))
    | ((with_reducible refine ldE 25 hX3 hxl rfl ?_ _ rfl ?_ ?_); (case _ => rfl); (case _ => rfl))
    | ((with_reducible refine stE hR3 rfl hxl hx1 none rfl ?_ _ _ rfl ?_ ?_ ?_); (case _ => rfl); (case _ => rfl); (case _ => rfl); intro w4 hR4 hg4)
    | ((with_reducible refine ldE 26 hE3 HEl rfl ?_ _ rfl ?_ ?_); (case _ => rfl); (case _ => rfl))
    | ((with_reducible refine stE hR3 rfl HEl HE1 none rfl ?_ _ _ rfl ?_ ?_ ?_); (case _ => rfl); (case _ => rfl); (case _ => rfl); intro w4 hR4 hg4)
    | ((with_reducible refine ldE 26 hE2 HEl rfl ?_ _ rfl ?_ ?_); (case _ => rfl); (case _ => rfl))
    | ((with_reducible refine stE hR2 rfl HEl HE1 none rfl ?_ _ _ rfl ?_ ?_ ?_); (case _ => rfl); (case _ => rfl); (case _ => rfl); intro w4 hR4 hg4))
  have hload := loadE hR4 HEl
  have hbz : Below w.heap.size w w4 := hw3.trans (below_grown hg4 hw3.size (by omega))
  refine bodyPost_ret (v := .tuple #[.agg ce.toArray, .bool false]) ?_ rfl ⟨ce, rfl, Kd.FK_mono (Kd.FK_below HE.out hbz) (fun _ h => .inl h), hbz⟩
  simp [results, Tryz.f6, asAddr, Result.andThen, Act.put, hload]
set_option maxRecDepth 100000 in
set_option maxHeartbeats 4000000 in
theorem Check_yes (e x : Ex) (ce cl : List Value) (A : Option Addr) (n c : Nat) (k f : Int) (w : World) (ok : Nat → Prop) (hok : ∀ k, ok k → k < w.heap.size) (he : Kd.FK kE w ok e ce) (hcl : cl.length = 13) (hf : (f == 0) = true) (HS : ∀ (W : World) (cx : List Value), Below w.heap.size w W → kE.K W x cx → Calls Tryz.prog 12 #[.agg cx.toArray, .agg cl.toArray] W fun e w' => e = .returned (.bool true) ∧ Below W.heap.size W w')
    (HR : ∀ W, Below w.heap.size w W → Calls Tryz.prog 5 #[.agg ce.toArray, .slice A n c] W (RunPost W ok x k f)) :
    Calls Tryz.prog 6 #[.agg ce.toArray, .agg (.slice A n c :: cl).toArray] w fun en w' => ∃ cr, en = .returned (.tuple #[.agg cr.toArray, .bool true]) ∧ Kd.FK kE w' (okN ok w.heap.size) x cr ∧ Below w.heap.size w w' := by
  have HEl := Lib.hid (kE_len (Kd.FK_now he))
  have HE1 := Lib.hid (kE.K_one (Kd.FK_now he))
  have HE := Lib.hid he
  have HO := Lib.hid hok
  have HCl := Lib.hid hcl
  have HRr := Lib.hid HR
  have hE0 : BX 32 (((w.alloc (.cells ce.toArray 32)).alloc (.cells (.slice A n c :: cl).toArray 41)).alloc (.cells zEc.toArray 32)) w.heap.size ce := ((BX.new w _).alloc _).alloc _
  have hP0 : BX 41 (((w.alloc (.cells ce.toArray 32)).alloc (.cells (.slice A n c :: cl).toArray 41)).alloc (.cells zEc.toArray 32)) (w.heap.size + 1) (.slice A n c :: cl) := by simpa using (BX.new (t := 41) (w.alloc (.cells ce.toArray 32)) (.slice A n c :: cl)).alloc (.cells zEc.toArray 32)
  have hR0 : BX 32 (((w.alloc (.cells ce.toArray 32)).alloc (.cells (.slice A n c :: cl).toArray 41)).alloc (.cells zEc.toArray 32)) (w.heap.size + 2) zEc := by simpa using BX.new (t := 32) ((w.alloc (.cells ce.toArray 32)).alloc (.cells (.slice A n c :: cl).toArray 41)) zEc
  have hW0 : Below w.heap.size w (((w.alloc (.cells ce.toArray 32)).alloc (.cells (.slice A n c :: cl).toArray 41)).alloc (.cells zEc.toArray 32)) := below_alloc (below_alloc (below_alloc (Below.refl _ _) _) _) _
  have hs0 : (((w.alloc (.cells ce.toArray 32)).alloc (.cells (.slice A n c :: cl).toArray 41)).alloc (.cells zEc.toArray 32)).heap.size = w.heap.size + 3 := by simp
  have q0 := hP0.cell (j := 0) (u := .slice A n c) rfl
  have hf1 : (f != 0) = !(f == 0) := rfl
  rw [hf] at hf1
  clear he hok HR hcl
  go_enter Tryz.func6, Tryz.ntmps6
  go_wp2_with (first
    | ((with_reducible refine ldE 10 hE0 HEl rfl ?_ _ rfl ?_ ?_); (case _ => rfl); (case _ => rfl))
    | (go_at_call 5; (with_reducible refine (HRr.out _ hW0).mono ?_); rintro e w1 ⟨cx, rfl, hKx, hb1⟩; have HKx := Lib.hid hKx; have hxl := Lib.hid (kE_len (Kd.FK_now hKx)); have hx1 := Lib.hid (kE.K_one (Kd.FK_now hKx)); have hw1 := below_then hW0 (by omega) hb1; have hs1 : w.heap.size + 3 ≤ w1.heap.size := (by rw [← hs0]; exact hb1.size); have hE1 := hE0.below hb1; have hP1 := hP0.below hb1; have hR1 := hR0.below hb1; clear hKx)
    | ((with_reducible refine stE (BX.new w1 zEc) rfl hxl hx1 none rfl ?_ _ _ rfl ?_ ?_ ?_); (case _ => rfl); (case _ => rfl); (case _ => rfl); intro w2 hX2 hg2; have hb2 : Below w1.heap.size w1 w2 := (below_alloc (Below.refl _ _) _).trans (below_grown hg2 (by simp) (Nat.le_refl _)); have hE2 := hE1.below hb2; have hR2 := hR1.below hb2; have hw2 := below_then hw1 hw1.size hb2; have hs2 := hb2.size; have HC2 := Lib.hid (part1 (hP1.below hb2) (cd := cl) (fun j u h => (by rw [Nat.add_comm]; exact h))); have HK2 := Lib.hid (Kd.FK_below HKx.out hb2))
    | ((with_reducible refine ldEg 20 hX2 hxl rfl ?_ _ rfl ?_ ?_); (case _ => rfl); (case _ => rfl))
    | ((with_reducible refine ldXg 22 HC2 HCl rfl ?_ _ rfl ?_ ?_); (case _ => rfl); (case _ => rfl))
    | (go_at_call 12; (with_reducible refine (HS w2 cx hw2 (Kd.FK_now HK2.out)).mono ?_); rintro e w3 ⟨rfl, hb3⟩; have hE3 := hE2.below hb3; have hR3 := hR2.below hb3; have hX3 := hX2.below hb3; have hw3 := below_then hw2 hw2.size hb3; have hs3 := hb3.size; have HK3 := Lib.hid (Kd.FK_below HK2.out hb3))
    | ((with_reducible refine ldE 25 hX3 hxl rfl ?_ _ rfl ?_ ?_); (case _ => rfl); (case _ => rfl))
    | ((with_reducible refine stE hR3 rfl hxl hx1 none rfl ?_ _ _ rfl ?_ ?_ ?_); (case _ => rfl); (case _ => rfl); (case _ => rfl); intro w4 hR4 hg4)
    | ((with_reducible refine ldE 26 hE3 HEl rfl ?_ _ rfl ?_ ?_); (case _ => rfl); (case _ => rfl))
    | ((with_reducible refine stE hR3 rfl HEl HE1 none rfl ?_ _ _ rfl ?_ ?_ ?_); (case _ => rfl); (case _ => rfl); (case _ => rfl); intro w4 hR4 hg4)
    | ((with_reducible refine ldE 26 hE2 HEl rfl ?_ _ rfl ?_ ?_); (case _ => rfl); (case _ => rfl))
    | ((with_reducible refine stE hR2 rfl HEl HE1 none rfl ?_ _ _ rfl ?_ ?_ ?_); (case _ => rfl); (case _ => rfl); (case _ => rfl); intro w4 hR4 hg4))
  have hload := loadE hR4 hxl
  have hbz : Below w.heap.size w w4 := hw3.trans (below_grown hg4 hw3.size (by omega))
  refine bodyPost_ret (v := .tuple #[.agg cx.toArray, .bool true]) ?_ rfl ⟨cx, rfl, Kd.FK_mono (Kd.FK_grown HK3.out hg4 (fun q hq e => by injection e with e; rcases hq with h | h <;> (try rw [hs0] at h) <;> (first | omega | (have := HO.out q h; omega)))) (fun q hq => by rcases hq with h | h <;> (try rw [hs0] at h) <;> first | exact .inl h | exact .inr (by omega)), hbz⟩
  simp [results, Tryz.f6, asAddr, Result.andThen, Act.put, hload]
end Go.Proofs.YtlcofdgaidlldaaGreatDoor
namespace Go.Proofs.YtlcofdgaidlldaaGreatDoor
open Go.RowKit Go.Shelf Go.Proofs.YtlcofdgaidlldaaGreatDoorW.PrintWords
set_option linter.unusedVariables false
set_option linter.unusedSimpArgs false
set_option maxRecDepth 100000 in
set_option maxHeartbeats 8000000 in
theorem Run_may (x : Ex) (cs : List Value) (A : Option Addr) (m c : Nat) (w : World) (ok : Nat → Prop) (hok : ∀ k, ok k → k < w.heap.size) (hx : Kd.FK kE w ok x cs) (hmay : x.may = false) (hL : Laid w) :
    Calls Tryz.prog 5 #[.agg cs.toArray, .slice A m c] w fun e w' => ∃ cs', e = .returned (.tuple #[.agg cs'.toArray, .int .i64 0, .int .i64 2]) ∧ Kd.FK kE w' (okN ok w.heap.size) x cs' ∧ Below w.heap.size w w' := by
  have HXl := Lib.hid (kE_len (Kd.FK_now hx))
  have HX1 := Lib.hid (kE.K_one (Kd.FK_now hx))
  have HX := Lib.hid hx
  have HM : Hid (∀ W, Below w.heap.size w W → Calls Tryz.prog 10 #[.agg cs.toArray] W fun e w' => e = .returned (.bool false) ∧ Below W.heap.size W w') := Lib.hid (fun W hb => by
    have := May_calls x cs W (Kd.FK_now (Kd.FK_below hx hb)) (hL.below hb)
    rwa [hmay] at this)
  have hB0 : BX 32 ((((w.alloc (.cells cs.toArray 32)).alloc (.cells zEc.toArray 32)).alloc (.cells #[.int .i64 0] 3)).alloc (.cells #[.int .i64 0] 37)) w.heap.size cs := (((BX.new w cs).alloc _).alloc _).alloc _
  have hR0 : BX 32 ((((w.alloc (.cells cs.toArray 32)).alloc (.cells zEc.toArray 32)).alloc (.cells #[.int .i64 0] 3)).alloc (.cells #[.int .i64 0] 37)) (w.heap.size + 1) zEc := by simpa using ((BX.new (t := 32) (w.alloc (.cells cs.toArray 32)) zEc).alloc (.cells #[.int .i64 0] 3)).alloc (.cells #[.int .i64 0] 37)
  have hI0 : BX 3 ((((w.alloc (.cells cs.toArray 32)).alloc (.cells zEc.toArray 32)).alloc (.cells #[.int .i64 0] 3)).alloc (.cells #[.int .i64 0] 37)) (w.heap.size + 2) [.int .i64 0] := by simpa using (BX.new (t := 3) ((w.alloc (.cells cs.toArray 32)).alloc (.cells zEc.toArray 32)) [.int .i64 0]).alloc (.cells #[.int .i64 0] 37)
  have hJ0 : BX 37 ((((w.alloc (.cells cs.toArray 32)).alloc (.cells zEc.toArray 32)).alloc (.cells #[.int .i64 0] 3)).alloc (.cells #[.int .i64 0] 37)) (w.heap.size + 3) [.int .i64 0] := by simpa using BX.new (t := 37) (((w.alloc (.cells cs.toArray 32)).alloc (.cells zEc.toArray 32)).alloc (.cells #[.int .i64 0] 3)) [.int .i64 0]
  have hW0 : Below w.heap.size w ((((w.alloc (.cells cs.toArray 32)).alloc (.cells zEc.toArray 32)).alloc (.cells #[.int .i64 0] 3)).alloc (.cells #[.int .i64 0] 37)) := below_alloc (below_alloc (below_alloc (below_alloc (Below.refl _ _) _) _) _) _
  have hs0 : ((((w.alloc (.cells cs.toArray 32)).alloc (.cells zEc.toArray 32)).alloc (.cells #[.int .i64 0] 3)).alloc (.cells #[.int .i64 0] 37)).heap.size = w.heap.size + 4 := by simp
  
  clear hx hL hmay
  go_enter Tryz.func5, Tryz.ntmps5
  go_wp2_with (first
    | ((with_reducible refine ldE 12 hB0 HXl rfl ?_ _ rfl ?_ ?_); (case _ => rfl); (case _ => rfl))
    | (go_at_call 10; (with_reducible refine (HM.out _ hW0).mono ?_); rintro e w1 ⟨rfl, hb1⟩; have hB1 := hB0.below hb1; have hR1 := hR0.below hb1; have hI1 := hI0.below hb1; have hJ1 := hJ0.below hb1; have hw1 := below_then hW0 (by omega) hb1; have hs1 : w.heap.size + 4 ≤ w1.heap.size := (by rw [← hs0]; exact hb1.size))
    | ((with_reducible refine ldE 15 hB1 HXl rfl ?_ _ rfl ?_ ?_); (case _ => rfl); (case _ => rfl))
    | ((with_reducible refine stE hR1 rfl HXl HX1 none rfl ?_ _ _ rfl ?_ ?_ ?_); (case _ => rfl); (case _ => rfl); (case _ => rfl); intro w2 hR2 hg2; have hI2 := hI1.kept hg2 (fun e => by injection e; omega); have hJ2 := hJ1.kept hg2 (fun e => by injection e; omega); have qi := hI2.cell (j := 0) (u := .int .i64 0) rfl; have qj := hJ2.cell (j := 0) (u := .int .i64 0) rfl; have fi := BX.frozen hI2 0; have fj := BX.frozen hJ2 0; have hw2 := hw1.trans (below_grown hg2 hw1.size (by omega))))
  have g3 := grown_setCell w2 (w.heap.size + 1 + 1) 0 (.int .i64 0)
  have g4 := grown_setCell (w2.setCell ⟨w.heap.size + 1 + 1, 0, none⟩ (.int .i64 0)) (w.heap.size + 1 + 1 + 1) 0 (.int .i64 2)
  have hR4 := (hR2.kept g3 (fun e => by injection e; omega)).kept g4 (fun e => by injection e; omega)
  have hI4 := (BX.setCell hI2 0 (.int .i64 0)).kept g4 (fun e => by injection e; omega)
  have hJ4 := BX.setCell (hJ2.kept g3 (fun e => by injection e; omega)) 0 (.int .i64 2)
  have hload := loadE hR4 HXl
  have q5 := hI4.cell (j := 0) (u := .int .i64 0) rfl
  have q6 := hJ4.cell (j := 0) (u := .int .i64 2) rfl
  have hbz : Below w.heap.size w ((w2.setCell ⟨w.heap.size + 1 + 1, 0, none⟩ (.int .i64 0)).setCell ⟨w.heap.size + 1 + 1 + 1, 0, none⟩ (.int .i64 2)) := (hw2.trans (below_grown g3 hw2.size (by omega))).trans (below_grown g4 (by have := g3.size; have := hw2.size; omega) (by omega))
  obtain ⟨W4, hW4⟩ : ∃ W4, W4 = ((w2.setCell ⟨w.heap.size + 1 + 1, 0, none⟩ (.int .i64 0)).setCell ⟨w.heap.size + 1 + 1 + 1, 0, none⟩ (.int .i64 2)) := ⟨_, rfl⟩
  rw [← hW4] at hload q5 q6 hbz ⊢
  have hl5 : (loadVar 3 ⟨w.heap.size + 1 + 1, 0, none⟩).run Tryz.prog W4 = .ok (.int .i64 0) W4 := by
    have q5 : W4.cell? ⟨w.heap.size + 1 + 1, 0, none⟩ = some (.int .i64 0) := q5
    simp [loadVar, Tryz.underlying3, q5, go_sem]
  have hl6 : (loadVar 37 ⟨w.heap.size + 1 + 1 + 1, 0, none⟩).run Tryz.prog W4 = .ok (.int .i64 2) W4 := by
    have q6 : W4.cell? ⟨w.heap.size + 1 + 1 + 1, 0, none⟩ = some (.int .i64 2) := q6
    simp [loadVar, Tryz.underlying37, q6, go_sem]
  refine bodyPost_ret (v := .tuple #[.agg cs.toArray, .int .i64 0, .int .i64 2]) ?_ rfl ⟨cs, rfl, Kd.FK_mono (Kd.FK_below HX.out hbz) (fun _ h => .inl h), hbz⟩
  simp [results, Tryz.f5, asAddr, Result.andThen, Act.put, hload, hl5, hl6]
set_option maxRecDepth 100000 in
set_option maxHeartbeats 8000000 in
theorem Run_long (x : Ex) (cs : List Value) (A : Option Addr) (m c : Nat) (w : World) (ok : Nat → Prop) (hok : ∀ k, ok k → k < w.heap.size) (hx : Kd.FK kE w ok x cs) (hmay : x.may = true) (hm : 500 < m) (hL : Laid w) :
    Calls Tryz.prog 5 #[.agg cs.toArray, .slice A m c] w fun e w' => ∃ cs', e = .returned (.tuple #[.agg cs'.toArray, .int .i64 0, .int .i64 12]) ∧ Kd.FK kE w' (okN ok w.heap.size) x cs' ∧ Below w.heap.size w w' := by
  have HXl := Lib.hid (kE_len (Kd.FK_now hx))
  have HX1 := Lib.hid (kE.K_one (Kd.FK_now hx))
  have HX := Lib.hid hx
  have HM : Hid (∀ W, Below w.heap.size w W → Calls Tryz.prog 10 #[.agg cs.toArray] W fun e w' => e = .returned (.bool true) ∧ Below W.heap.size W w') := Lib.hid (fun W hb => by
    have := May_calls x cs W (Kd.FK_now (Kd.FK_below hx hb)) (hL.below hb)
    rwa [hmay] at this)
  have hB0 : BX 32 ((((w.alloc (.cells cs.toArray 32)).alloc (.cells zEc.toArray 32)).alloc (.cells #[.int .i64 0] 3)).alloc (.cells #[.int .i64 0] 37)) w.heap.size cs := (((BX.new w cs).alloc _).alloc _).alloc _
  have hR0 : BX 32 ((((w.alloc (.cells cs.toArray 32)).alloc (.cells zEc.toArray 32)).alloc (.cells #[.int .i64 0] 3)).alloc (.cells #[.int .i64 0] 37)) (w.heap.size + 1) zEc := by simpa using ((BX.new (t := 32) (w.alloc (.cells cs.toArray 32)) zEc).alloc (.cells #[.int .i64 0] 3)).alloc (.cells #[.int .i64 0] 37)
  have hI0 : BX 3 ((((w.alloc (.cells cs.toArray 32)).alloc (.cells zEc.toArray 32)).alloc (.cells #[.int .i64 0] 3)).alloc (.cells #[.int .i64 0] 37)) (w.heap.size + 2) [.int .i64 0] := by simpa using (BX.new (t := 3) ((w.alloc (.cells cs.toArray 32)).alloc (.cells zEc.toArray 32)) [.int .i64 0]).alloc (.cells #[.int .i64 0] 37)
  have hJ0 : BX 37 ((((w.alloc (.cells cs.toArray 32)).alloc (.cells zEc.toArray 32)).alloc (.cells #[.int .i64 0] 3)).alloc (.cells #[.int .i64 0] 37)) (w.heap.size + 3) [.int .i64 0] := by simpa using BX.new (t := 37) (((w.alloc (.cells cs.toArray 32)).alloc (.cells zEc.toArray 32)).alloc (.cells #[.int .i64 0] 3)) [.int .i64 0]
  have hW0 : Below w.heap.size w ((((w.alloc (.cells cs.toArray 32)).alloc (.cells zEc.toArray 32)).alloc (.cells #[.int .i64 0] 3)).alloc (.cells #[.int .i64 0] 37)) := below_alloc (below_alloc (below_alloc (below_alloc (Below.refl _ _) _) _) _) _
  have hs0 : ((((w.alloc (.cells cs.toArray 32)).alloc (.cells zEc.toArray 32)).alloc (.cells #[.int .i64 0] 3)).alloc (.cells #[.int .i64 0] 37)).heap.size = w.heap.size + 4 := by simp
  have hd1 : decide ((500 : Int) < (m : Int)) = true := by simp; omega
  clear hx hL hmay
  go_enter Tryz.func5, Tryz.ntmps5
  go_wp2_with (first
    | ((with_reducible refine ldE 12 hB0 HXl rfl ?_ _ rfl ?_ ?_); (case _ => rfl); (case _ => rfl))
    | (go_at_call 10; (with_reducible refine (HM.out _ hW0).mono ?_); rintro e w1 ⟨rfl, hb1⟩; have hB1 := hB0.below hb1; have hR1 := hR0.below hb1; have hI1 := hI0.below hb1; have hJ1 := hJ0.below hb1; have hw1 := below_then hW0 (by omega) hb1; have hs1 : w.heap.size + 4 ≤ w1.heap.size := (by rw [← hs0]; exact hb1.size))
    | ((with_reducible refine ldE 20 hB1 HXl rfl ?_ _ rfl ?_ ?_); (case _ => rfl); (case _ => rfl))
    | ((with_reducible refine stE hR1 rfl HXl HX1 none rfl ?_ _ _ rfl ?_ ?_ ?_); (case _ => rfl); (case _ => rfl); (case _ => rfl); intro w2 hR2 hg2; have hI2 := hI1.kept hg2 (fun e => by injection e; omega); have hJ2 := hJ1.kept hg2 (fun e => by injection e; omega); have qi := hI2.cell (j := 0) (u := .int .i64 0) rfl; have qj := hJ2.cell (j := 0) (u := .int .i64 0) rfl; have fi := BX.frozen hI2 0; have fj := BX.frozen hJ2 0; have hw2 := hw1.trans (below_grown hg2 hw1.size (by omega))))
  have g3 := grown_setCell w2 (w.heap.size + 1 + 1) 0 (.int .i64 0)
  have g4 := grown_setCell (w2.setCell ⟨w.heap.size + 1 + 1, 0, none⟩ (.int .i64 0)) (w.heap.size + 1 + 1 + 1) 0 (.int .i64 12)
  have hR4 := (hR2.kept g3 (fun e => by injection e; omega)).kept g4 (fun e => by injection e; omega)
  have hI4 := (BX.setCell hI2 0 (.int .i64 0)).kept g4 (fun e => by injection e; omega)
  have hJ4 := BX.setCell (hJ2.kept g3 (fun e => by injection e; omega)) 0 (.int .i64 12)
  have hload := loadE hR4 HXl
  have q5 := hI4.cell (j := 0) (u := .int .i64 0) rfl
  have q6 := hJ4.cell (j := 0) (u := .int .i64 12) rfl
  have hbz : Below w.heap.size w ((w2.setCell ⟨w.heap.size + 1 + 1, 0, none⟩ (.int .i64 0)).setCell ⟨w.heap.size + 1 + 1 + 1, 0, none⟩ (.int .i64 12)) := (hw2.trans (below_grown g3 hw2.size (by omega))).trans (below_grown g4 (by have := g3.size; have := hw2.size; omega) (by omega))
  obtain ⟨W4, hW4⟩ : ∃ W4, W4 = ((w2.setCell ⟨w.heap.size + 1 + 1, 0, none⟩ (.int .i64 0)).setCell ⟨w.heap.size + 1 + 1 + 1, 0, none⟩ (.int .i64 12)) := ⟨_, rfl⟩
  rw [← hW4] at hload q5 q6 hbz ⊢
  have hl5 : (loadVar 3 ⟨w.heap.size + 1 + 1, 0, none⟩).run Tryz.prog W4 = .ok (.int .i64 0) W4 := by
    have q5 : W4.cell? ⟨w.heap.size + 1 + 1, 0, none⟩ = some (.int .i64 0) := q5
    simp [loadVar, Tryz.underlying3, q5, go_sem]
  have hl6 : (loadVar 37 ⟨w.heap.size + 1 + 1 + 1, 0, none⟩).run Tryz.prog W4 = .ok (.int .i64 12) W4 := by
    have q6 : W4.cell? ⟨w.heap.size + 1 + 1 + 1, 0, none⟩ = some (.int .i64 12) := q6
    simp [loadVar, Tryz.underlying37, q6, go_sem]
  refine bodyPost_ret (v := .tuple #[.agg cs.toArray, .int .i64 0, .int .i64 12]) ?_ rfl ⟨cs, rfl, Kd.FK_mono (Kd.FK_below HX.out hbz) (fun _ h => .inl h), hbz⟩
  simp [results, Tryz.f5, asAddr, Result.andThen, Act.put, hload, hl5, hl6]
end Go.Proofs.YtlcofdgaidlldaaGreatDoor
namespace Go.Proofs.YtlcofdgaidlldaaGreatDoor
open Go.RowKit Go.Shelf Go.Proofs.YtlcofdgaidlldaaGreatDoorW.PrintWords
set_option linter.unusedVariables false
set_option linter.unusedSimpArgs false
/-- The sum, and what Fold makes of it. -/
def sumS (i : Nat) : Ex := if i = 0 then sumE else numE 3
theorem sum_steps (w : World) (hL : Laid w) : Steps sumS 1 1 w := fun i hi W cz ok hb hok hK => by
  obtain rfl : i = 0 := by omega
  exact Apply_sum cz W ok hok hK (hL.below hb)
theorem sum_may : sumE.may = true := by kernel_rfl
theorem sum_run (ce : List Value) (ad : Addr) (c : Nat) (w : World) (ok : Nat → Prop) (hok : ∀ k, ok k → k < w.heap.size) (he : Kd.FK kE w ok sumE ce) (hst : ∀ j u, (stepC 1 none 0 0 0 false)[j]? = some u → w.cell? (ad.add j) = some u) (hL : Laid w) :
    Calls Tryz.prog 5 #[.agg ce.toArray, .slice (some ad) 1 c] w (RunPost w ok (numE 3) 1 0) :=
  Run_steps sumS 1 1 ce ad c w ok hok he (by omega) (by omega) (fun i hi j u h => by
    obtain rfl : i = 0 := by omega
    have := hst j u h
    rw [add_add, Nat.zero_mul, Nat.zero_add]
    exact this) sum_may hL (sum_steps w hL)
theorem check_no (ce cl : List Value) (ad : Addr) (c : Nat) (w : World) (ok : Nat → Prop) (hok : ∀ k, ok k → k < w.heap.size) (he : Kd.FK kE w ok sumE ce) (hcl : kE.K w (numE 4) cl) (hst : ∀ j u, (stepC 1 none 0 0 0 false)[j]? = some u → w.cell? (ad.add j) = some u) (hL : Laid w) :
    Calls Tryz.prog 6 #[.agg ce.toArray, .agg (.slice (some ad) 1 c :: cl).toArray] w fun en w' => ∃ cr, en = .returned (.tuple #[.agg cr.toArray, .bool false]) ∧ Kd.FK kE w' (okN ok w.heap.size) sumE cr ∧ Below w.heap.size w w' :=
  Check_no sumE (numE 3) ce cl (some ad) 1 c 1 0 w ok hok he (kE_len hcl) rfl (fun W cx hb hK => by
    have h := cSame0_calls ⟨false, [3]⟩ ⟨false, [4]⟩ cx cl W hK (kE.K_below hb hcl) (by decide) (by decide) (lim_one (by decide) (by decide)) (lim_one (by decide) (by decide))
    rwa [show (cmpI (BI.num ⟨false, [3]⟩) (BI.num ⟨false, [4]⟩) == 0) = false by decide] at h)
    (fun W hb => sum_run ce ad c W ok (fun k hk => Nat.lt_of_lt_of_le (hok k hk) hb.size) (Kd.FK_below he hb) (fun j u h => pw_cell_below hb (hst j u h)) (hL.below hb))
theorem check_yes (ce cl : List Value) (ad : Addr) (c : Nat) (w : World) (ok : Nat → Prop) (hok : ∀ k, ok k → k < w.heap.size) (he : Kd.FK kE w ok sumE ce) (hcl : kE.K w (numE 3) cl) (hst : ∀ j u, (stepC 1 none 0 0 0 false)[j]? = some u → w.cell? (ad.add j) = some u) (hL : Laid w) :
    Calls Tryz.prog 6 #[.agg ce.toArray, .agg (.slice (some ad) 1 c :: cl).toArray] w fun en w' => ∃ cr, en = .returned (.tuple #[.agg cr.toArray, .bool true]) ∧ Kd.FK kE w' (okN ok w.heap.size) (numE 3) cr ∧ Below w.heap.size w w' :=
  Check_yes sumE (numE 3) ce cl (some ad) 1 c 1 0 w ok hok he (kE_len hcl) rfl (fun W cx hb hK => by
    have h := cSame0_calls ⟨false, [3]⟩ ⟨false, [3]⟩ cx cl W hK (kE.K_below hb hcl) (by decide) (by decide) (lim_one (by decide) (by decide)) (lim_one (by decide) (by decide))
    rwa [show (cmpI (BI.num ⟨false, [3]⟩) (BI.num ⟨false, [3]⟩) == 0) = true by decide] at h)
    (fun W hb => sum_run ce ad c W ok (fun k hk => Nat.lt_of_lt_of_le (hok k hk) hb.size) (Kd.FK_below he hb) (fun j u h => pw_cell_below hb (hst j u h)) (hL.below hb))
/-- A tower, and what Drop makes of it, step by step. -/
def towerS (k i : Nat) : Ex := tower (k - i)
theorem tower_steps (k : Nat) (hk : k ≤ 500) (w : World) (hL : Laid w) : Steps (towerS k) k 3 w := fun i hi W cz ok hb hok hK => by
  have h1 : towerS k i = tower (k - (i + 1) + 1) := by unfold towerS; congr 1; omega
  rw [h1] at hK
  exact Apply_tower (k - (i + 1)) (by omega) cz W ok hok hK (hL.below hb)
theorem tower_run (k : Nat) (hk0 : 0 < k) (hk : k ≤ 500) (ce : List Value) (g : Nat) (w : World) (ok : Nat → Prop) (hok : ∀ q, ok q → q < w.heap.size) (he : Kd.FK kE w ok (tower k) ce) (hst : BX 36 w g (stepsRow k k)) (hL : Laid w) :
    Calls Tryz.prog 5 #[.agg ce.toArray, .slice (some ⟨g, 0, none⟩) k k] w (RunPost w ok (numE 1) k 0) := by
  have h := Run_steps (towerS k) k 3 ce ⟨g, 0, none⟩ k w ok hok he hk0 hk (fun i hi j u hj => by
    have := hst.cells (4 * i + j) u (stepsRow_step hi hj)
    rw [add_add, show i * 4 + j = 4 * i + j by omega]
    exact this) (tower_may k (by omega)) hL (tower_steps k hk w hL)
  rwa [show towerS k k = numE 1 by unfold towerS; rw [Nat.sub_self]; rfl] at h
theorem tower_check (k : Nat) (hk0 : 0 < k) (hk : k ≤ 500) (ce cl : List Value) (g : Nat) (w : World) (ok : Nat → Prop) (hok : ∀ q, ok q → q < w.heap.size) (he : Kd.FK kE w ok (tower k) ce) (hcl : kE.K w (numE 1) cl) (hst : BX 36 w g (stepsRow k k)) (hL : Laid w) :
    Calls Tryz.prog 6 #[.agg ce.toArray, .agg (.slice (some ⟨g, 0, none⟩) k k :: cl).toArray] w fun en w' => ∃ cr, en = .returned (.tuple #[.agg cr.toArray, .bool true]) ∧ Kd.FK kE w' (okN ok w.heap.size) (numE 1) cr ∧ Below w.heap.size w w' :=
  Check_yes (tower k) (numE 1) ce cl (some ⟨g, 0, none⟩) k k k 0 w ok hok he (kE_len hcl) rfl (fun W cx hb hK => by
    have h := cSame0_calls ⟨false, [1]⟩ ⟨false, [1]⟩ cx cl W hK (kE.K_below hb hcl) (by decide) (by decide) (lim_one (by decide) (by decide)) (lim_one (by decide) (by decide))
    rwa [show (cmpI (BI.num ⟨false, [1]⟩) (BI.num ⟨false, [1]⟩) == 0) = true by decide] at h)
    (fun W hb => tower_run k hk0 hk ce g W ok (fun q hq => Nat.lt_of_lt_of_le (hok q hq) hb.size) (Kd.FK_below he hb) (hst.below hb) (hL.below hb))
end Go.Proofs.YtlcofdgaidlldaaGreatDoor
namespace Go.Proofs.YtlcofdgaidlldaaGreatDoor
open Go.RowKit Go.Shelf Go.Proofs.YtlcofdgaidlldaaGreatDoorW.PrintWords
set_option linter.unusedVariables false
set_option linter.unusedSimpArgs false
theorem infoSt : (Tryz.prog.info? 36).map (fun i => (i.zero, i.size, i.bytes)) = some (some (.agg #[.int .i64 0, .slice none 0 0, .int .i64 0, .bool false]), 4, 48) := by kernel_rfl
section
variable {ops : Array Oper} {rest : List Oper} {o : Oper} {a : Act} {Q : Exit → Act → World → Prop}
theorem st_make {W : World} (N : Tmp) (hd : o.dst = some N) (hgd : o.guard = none) (x y : Operand) (ho : o.op = .makeSlice 34 x y) (n : Nat) (hx : a.eval x = .int .i64 n) (hy : a.eval y = .int .i64 n) (hl : n ≤ 1000000)
    (h : ∀ w1, BX 36 w1 W.heap.size (stepsRow n 0) → W.grownBy w1 none → w1.heap.size = W.heap.size + 1 → wpList Tryz.prog ops Q rest (a.put (some N) (.slice (some ⟨W.heap.size, 0, none⟩) n n)) w1) : wpList Tryz.prog ops Q (o :: rest) a W := by
  obtain ⟨i0, hi, hzz⟩ := Option.map_eq_some_iff.1 infoSt
  simp only [Prod.mk.injEq] at hzz
  obtain ⟨hz0, hz1, hz2⟩ := hzz
  have hr := run_make (P := Tryz.prog) W 34 36 i0 (.agg #[.int .i64 0, .slice none 0 0, .int .i64 0, .bool false]) Tryz.underlying34 hi hz0 .i64 .i64 (n : Int) (n : Int) (by omega) (by omega) (by rw [hz2]; omega) (by omega)
  simp only [Int.toNat_natCast] at hr
  rw [hz1, stepsRow_made] at hr
  refine wpList_plain hgd fun K hK => ?_
  unfold Oper.wp execOp
  simp only [ho, hx, hy, Sem.run_bind, hr, Result.andThen_ok, Sem.run_pure]
  have := h (W.alloc (.cells (stepsRow n 0).toArray 36)) (BX.new W _) (World.grownBy_alloc W _ none) (by simp)
  rw [← hd] at this
  exact hK _ _ this
end
abbrev seqC (g : Nat) : List Value := [.int .i64 9, .int .i64 0, .bool false, .slice none 0 0, .bool false, .string ⟨#[]⟩, .slice none 0 0, .slice none 0 0, .int .i64 0, .slice none 0 0, .bool false, .int .i64 0, .slice (some ⟨g, 0, none⟩) 2 2]
theorem seqE_at {W : World} {ok : Nat → Prop} {g : Nat} {x y : Ex} {ca cb : List Value} (hg : ok g) (hB : BX 32 W g (ca ++ cb)) (ha : Kd.FK kE W ok x ca) (hb : Kd.FK kE W ok y cb) (la : ca.length = 13) (lb : cb.length = 13) : Kd.FK kE W ok (seqE x y) (seqC g) :=
  kE_mkF W _ (seqE x y) (A3 := none) (c3 := 0) (Nat.le_refl 0) (Kd.F_nil _ _ _) (A6 := none) (c6 := 0) (Nat.le_refl 0) (Kd.F_nil _ _ _) (A7 := none) (c7 := 0) (Nat.le_refl 0) (Kd.F_nil _ _ _) (A9 := none) (c9 := 0) (Nat.le_refl 0) (Kd.F_nil _ _ _) (A12 := some ⟨g, 0, none⟩) (c12 := 2) (by exact Nat.le_refl 2) (Kd.F_mono (F_block (d := kE) W g 32 [x, y] (ca ++ cb) hB (reps2 ha hb la lb) (by simp)) (fun q hq => by rcases hq with hq | hq; exact hq; subst hq; exact hg))
/-- The cells of a set, and of the let around it. -/
abbrev setC (g : Nat) : List Value := [.int .i64 3, .int .i64 0, .bool false, .slice none 0 0, .bool false, .string ⟨#[]⟩, .slice none 0 0, .slice none 0 0, .int .i64 1, .slice none 0 0, .bool false, .int .i64 0, .slice (some ⟨g, 0, none⟩) 1 1]
abbrev setLetC (g : Nat) : List Value := [.int .i64 8, .int .i64 0, .bool false, .slice none 0 0, .bool false, .string ⟨#[]⟩, .slice none 0 0, .slice none 0 0, .int .i64 1, .slice none 0 0, .bool false, .int .i64 0, .slice (some ⟨g, 0, none⟩) 2 2]
theorem setE_at {W : World} {g h : Nat} {c1 c2 : List Value} (hG : BX 32 W g c2) (hH : BX 32 W h (c1 ++ setC g)) (h1 : kE.K W (numE 1) c1) (h2 : kE.K W (numE 2) c2) (l1 : c1.length = 13) (l2 : c2.length = 13) : kE.K W setE (setLetC h) :=
  have hs : kE.K W { zE with kind := 3, v := 1, kids := [numE 2] } (setC g) :=
    kE_mk W { zE with kind := 3, v := 1, kids := [numE 2] } (A3 := none) (c3 := 0) (Nat.le_refl 0) (Kd_C_nil _ _) (A6 := none) (c6 := 0) (Nat.le_refl 0) (Kd_C_nil _ _) (A7 := none) (c7 := 0) (Nat.le_refl 0) (Kd_C_nil _ _) (A9 := none) (c9 := 0) (Nat.le_refl 0) (Kd_C_nil _ _) (A12 := some ⟨g, 0, none⟩) (c12 := 1) (by exact Nat.le_refl 1) (C_block (d := kE) W g 32 (0, 0) [numE 2] c2 hG (reps1 h2 l2) (by simp))
  kE_mk W setE (A3 := none) (c3 := 0) (Nat.le_refl 0) (Kd_C_nil _ _) (A6 := none) (c6 := 0) (Nat.le_refl 0) (Kd_C_nil _ _) (A7 := none) (c7 := 0) (Nat.le_refl 0) (Kd_C_nil _ _) (A9 := none) (c9 := 0) (Nat.le_refl 0) (Kd_C_nil _ _) (A12 := some ⟨h, 0, none⟩) (c12 := 2) (by exact Nat.le_refl 2) (C_block (d := kE) W h 32 (0, 0) [numE 1, { zE with kind := 3, v := 1, kids := [numE 2] }] (c1 ++ setC g) hH (reps2 h1 hs l1 rfl) (by simp))
/-- Of what may not be stepped from there is no proof. -/
theorem set_check (cs : List Value) (w : World) (hK : kE.K w setE cs) (hL : Laid w) : Calls Tryz.prog 6 #[.agg cs.toArray, .agg (.slice none 0 0 :: cs).toArray] w fun en w' => ∃ cr, en = .returned (.tuple #[.agg cr.toArray, .bool false]) ∧ kE.K w' setE cr ∧ Below w.heap.size w w' :=
  (Check_bad setE setE cs cs none 0 0 0 2 w (fun q => q < w.heap.size) (fun _ h => h) (K_FK hK) (kE_len hK) rfl (fun W hb => Run_may setE cs none 0 0 W (fun q => q < w.heap.size) (fun q hq => Nat.lt_of_lt_of_le hq hb.size) (Kd.FK_below (K_FK hK) hb) set_may (hL.below hb))).mono (fun e w' ⟨cx, he, hK, hb'⟩ => ⟨cx, he, Kd.FK_now hK, hb'⟩)
end Go.Proofs.YtlcofdgaidlldaaGreatDoor
