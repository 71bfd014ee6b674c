/- Contract: pavanelaw12.num at 1, 2, 3 and 5. Contract: pavanelaw11.v. Plain: the law's three examples, reckoned; a path that leads too far; the rules that are none. Without conditions. Plain: what the law holds to be the same, reckoned. Without conditions. Plain: a tower of rows whose first part is a constant; what Drop makes of it. Without conditions. Contracts: rule.Here and rule.Apply by a rule that is none, by a path that leads too far, and at the law's three examples. The walks' conditions: the parameters' memory; the tables; not more than 400 expressions. Contract: rule.Apply at Drop, of a tower. The walk's conditions: the parameters' memory; the tables; not more than a thousand storeys. Plain: a row of steps whose first ones are Drop. Without conditions. -/
import Derived.Test.YtlcofdgaidlldaaGreatDoorZo
import Derived.Test.YtlcofdgaidlldaaGreatDoorZr
import Derived.Test.YtlcofdgaidlldaaGreatDoorZs
import Derived.Test.YtlcofdgaidlldaaGreatDoorZt
import Derived.Test.YtlcofdgaidlldaaGreatDoorZu
import Derived.Test.YtlcofdgaidlldaaGreatDoorZu1
import Derived.Test.YtlcofdgaidlldaaGreatDoorZw
namespace Go.Proofs.YtlcofdgaidlldaaGreatDoor
open Go.RowKit Go.Shelf Go.Proofs.YtlcofdgaidlldaaGreatDoorW.PrintWords
set_option linter.unusedVariables false
set_option linter.unusedSimpArgs false
/-- A constant. -/
def numE (n : Int) : Ex := constE (numD ⟨false, [n]⟩)
abbrev numC (A : Option Addr) (c : Nat) : List Value := [.int .i64 1, .int .i64 1, .bool false, .slice A 1 c, .bool false, .string ⟨#[]⟩, .slice none 0 0, .slice none 0 0, .int .i64 0, .slice none 0 0, .bool false, .int .i64 0, .slice none 0 0]
theorem numE_at (n : Int) (W : World) (ok : Nat → Prop) (A : Option Addr) (c : Nat) (hl : 1 ≤ c) (h : Kd.F (Kd.int .u32) W ok A 1 [n]) : Kd.FK kE W ok (numE n) (numC A c) :=
  kE_mkF W ok (numE n) (A3 := A) (c3 := c) hl h (A6 := none) (c6 := 0) (Nat.le_refl 0) (Kd.F_nil _ _ _) (A7 := none) (c7 := 0) (Nat.le_refl 0) (Kd.F_nil _ _ _) (A9 := none) (c9 := 0) (Nat.le_refl 0) (Kd.F_nil _ _ _) (A12 := none) (c12 := 0) (Nat.le_refl 0) (Kd.F_nil _ _ _)
set_option maxRecDepth 100000 in
set_option maxHeartbeats 2000000 in
theorem num_calls (n : Int) (w : World) (h : n = 1 ∨ n = 2 ∨ n = 3 ∨ n = 4 ∨ n = 5) :
    Calls Tryz.prog 4 #[.int .i64 n] w fun e w' => ∃ cs', e = .returned (.agg cs'.toArray) ∧ Kd.FK kE w' (fun k => w.heap.size ≤ k) (numE n) cs' ∧ Below w.heap.size w w' := by
  have HN := Lib.hid (fun (W : World) => of2_calls n W h)
  have hR0 : BX 32 (w.alloc (.cells zEc.toArray 32)) w.heap.size zEc := BX.new (t := 32) w zEc
  have hW0 : Below w.heap.size w (w.alloc (.cells zEc.toArray 32)) := below_alloc (Below.refl _ _) _
  have hs0 : (w.alloc (.cells zEc.toArray 32)).heap.size = w.heap.size + 1 := by simp
  clear h
  go_enter Tryz.func4, Tryz.ntmps4
  go_wp2_with (first
    | (go_at_call 9; (with_reducible refine (HN.out _).mono ?_); rintro e w1 ⟨cr, rfl, hK1, hb1⟩; have hK1 := Kd.FK_mono (ok' := fun k => w.heap.size + 1 ≤ k) hK1 (fun k hk => by simpa using hk); obtain ⟨A1, c1, rfl, l1, g1⟩ := kI_openF hK1; have hR1 := hR0.below hb1; have HG := Lib.hid g1; have hl1 := Lib.hid l1; clear hK1 l1 g1; have hs1 : w.heap.size + 1 ≤ w1.heap.size := by simpa using hb1.size)
    | ((with_reducible refine store_bx hR1 none rfl ?_ _ _ rfl (numC A1 c1) ?_ ?_ ?_ ?_ ?_ ?_); (case _ => rfl); (case _ => rfl); (case _ => rfl); (case _ => exact size32'); (case _ => rfl); (case _ => simp [Value.oneCell']); intro w2 hR2 hg2))
  have hload := hR2.load (P := Tryz.prog) Tryz.underlying32 (by exact size32')
  have hb1' := below_then hW0 (by omega) hb1
  have hb2 : Below w.heap.size w w2 := hb1'.trans (grown_below hg2 (by omega) (Nat.le_refl _))
  refine bodyPost_ret (v := .agg (numC A1 c1).toArray) ?_ rfl ⟨_, rfl, numE_at n w2 _ A1 c1 hl1.out (Kd.F_mono (Kd.F_grown HG.out hg2 (fun k hk e => by injection e; omega)) (fun k hk => by omega)), hb2⟩
  simp [results, Tryz.f4, asAddr, Result.andThen, Act.put, hload]
end Go.Proofs.YtlcofdgaidlldaaGreatDoor
namespace Go.Proofs.YtlcofdgaidlldaaGreatDoor
open Go.RowKit Go.Shelf Go.Proofs.YtlcofdgaidlldaaGreatDoorW.PrintWords
set_option linter.unusedVariables false
set_option linter.unusedSimpArgs false
end Go.Proofs.YtlcofdgaidlldaaGreatDoor
namespace Go.Proofs.YtlcofdgaidlldaaGreatDoor
open Go.RowKit Go.Shelf Go.Proofs.YtlcofdgaidlldaaGreatDoorW.PrintWords
set_option linter.unusedVariables false
def sumE : Ex := { zE with kind := 7, p := 1, kids := [numE 1, numE 2] }
theorem num_sum : mkI (BI.num ⟨false, [1]⟩ + BI.num ⟨false, [2]⟩) = ⟨false, [3]⟩ := by
  have h : BI.num ⟨false, [1]⟩ + BI.num ⟨false, [2]⟩ = 3 := by decide
  rw [h]
  have h3 : limbs 3 = [3] := by rw [limbs_pos (by decide), show (3 / 4294967296 : Nat) = 0 from rfl, limbs_zero]; rfl
  show (⟨decide ((3 : Int) < 0), limbs 3⟩ : BI) = _
  rw [h3]; rfl
theorem fold_sum : foldE sumE (toldD (mkI (BI.num ⟨false, [1]⟩ + BI.num ⟨false, [2]⟩)) 0) = (numE 3, true) := by
  rw [num_sum]; kernel_rfl
theorem here_sum : hereE sumE (numE 3, true) = (numE 3, true) := by kernel_rfl
theorem apply_sum : applyE sumE [] (fun _ => (numE 3, true)) = (numE 3, 0) := by kernel_rfl
theorem all_sum : sumE.all.length = 3 := by kernel_rfl
end Go.Proofs.YtlcofdgaidlldaaGreatDoor
namespace Go.Proofs.YtlcofdgaidlldaaGreatDoor
open Go.RowKit Go.Shelf Go.Proofs.YtlcofdgaidlldaaGreatDoorW.PrintWords
theorem same_3 : SameX (numE 3) (numE 3) = true := by kernel_rfl
theorem slim_3 : allD slimD (numE 3) = true := by kernel_rfl
end Go.Proofs.YtlcofdgaidlldaaGreatDoor
namespace Go.Proofs.YtlcofdgaidlldaaGreatDoor
open Go.RowKit Go.Shelf Go.Proofs.YtlcofdgaidlldaaGreatDoorW.PrintWords
set_option linter.unusedVariables false
/-- Two in a row. -/
def seqE (a b : Ex) : Ex := { zE with kind := 9, kids := [a, b] }
def tower : Nat → Ex
  | 0 => numE 1
  | k + 1 => seqE (numE 2) (tower k)
theorem num_all (n : Int) : (numE n).all = [numE n] := by rw [Ex.all_eq]; rfl
theorem seq_all (a b : Ex) : (seqE a b).all = seqE a b :: (a.all ++ b.all) := by
  rw [Ex.all_eq]; show _ :: Ex.allL [a, b] = _
  rw [Ex.allL, Ex.allL, Ex.allL, List.append_nil]
theorem tower_all : ∀ k, (tower k).all.length = 2 * k + 1
  | 0 => by rw [tower, num_all]; rfl
  | k + 1 => by
    rw [tower, seq_all, List.length_cons, List.length_append, num_all, tower_all k]
    simp; omega
theorem num_within (n left deep : Int) (hl : 1 ≤ left) (hd : 1 ≤ deep) : (numE n).within left deep = left - 1 := by
  rw [Ex.within_eq, if_neg (by omega)]; show Ex.withinL [] _ _ = _
  rw [Ex.withinL]
theorem tower_within : ∀ (k : Nat) (left deep : Int), 2 * k + 1 ≤ left → k + 1 ≤ deep → (tower k).within left deep = left - (2 * k + 1)
  | 0, left, deep, hl, hd => by rw [tower, num_within _ _ _ (by omega) (by omega)]; omega
  | k + 1, left, deep, hl, hd => by
    rw [tower, Ex.within_eq, if_neg (by omega)]
    show Ex.withinL [numE 2, tower k] _ _ = _
    rw [Ex.withinL, num_within _ _ _ (by omega) (by omega), if_neg (by omega), Ex.withinL, tower_within k _ _ (by omega) (by omega), if_neg (by omega), Ex.withinL]
    omega
theorem num1_plain : (numE 1).plain = true := by kernel_rfl
theorem num2_plain : (numE 2).plain = true := by kernel_rfl
theorem seq_plain (a b : Ex) : (seqE a b).plain = true := by
  rw [Ex.plain, show (seqE a b).d = zD from rfl, show zD.Good = true by kernel_rfl]
  rfl
theorem tower_plain : ∀ k, (tower k).all.all Ex.plain = true
  | 0 => by rw [tower, num_all, List.all_cons, num1_plain]; rfl
  | k + 1 => by rw [tower, seq_all, List.all_cons, List.all_append, num_all, List.all_cons, tower_plain k, seq_plain, num2_plain]; rfl
theorem tower_binds : ∀ k, (tower k).all.flatMap Ex.binds = []
  | 0 => by rw [tower, num_all]; rfl
  | k + 1 => by rw [tower, seq_all, List.flatMap_cons, List.flatMap_append, num_all, tower_binds k]; rfl
theorem tower_good (k : Nat) (hk : k ≤ 1000) : (tower k).Good = true := by
  rw [Ex.Good, okL, tower_plain, tower_binds, tower_within k _ _ (by omega) (by omega)]
  simp; omega
theorem num_fv (n : Int) (B : List Int) : (numE n).fv B = [] := by rw [Ex.fv_eq]; rfl
theorem tower_fv : ∀ k (B : List Int), (tower k).fv B = []
  | 0, B => by rw [tower, num_fv]
  | k + 1, B => by
    rw [tower, Ex.fv_eq]
    show ([] : List Int) ++ Ex.fvL [numE 2, tower k] 9 _ 0 B = []
    rw [Ex.fvL, Ex.fvL, Ex.fvL, num_fv, tower_fv k]; rfl
theorem tower_sets : ∀ k, (tower k).sets = false
  | 0 => by rw [tower, Ex.sets_eq]; rfl
  | k + 1 => by
    rw [tower, Ex.sets_eq]
    show ((9 : Int) == 3 || Ex.setsL [numE 2, tower k]) = false
    rw [Ex.setsL, Ex.setsL, Ex.setsL, tower_sets k, show (numE 2).sets = false by rw [Ex.sets_eq]; rfl]; rfl
theorem tower_may (k : Nat) (hk : k ≤ 1000) : (tower k).may = true := by
  rw [Ex.may, Ex.Closed, tower_good k hk, tower_fv, tower_sets]; rfl
theorem num_idle : (numE 2).idle = true := by rw [Ex.idle_eq]; rfl
theorem here_tower (k : Nat) (hk : k + 1 ≤ 1000) : hereE (tower (k + 1)) (tower k, true) = (tower k, true) := by
  rw [hereE, tower_good _ hk]; rfl
theorem apply_tower (k : Nat) (hk : k + 1 ≤ 1000) : applyE (tower (k + 1)) [] (fun _ => (tower k, true)) = (tower k, 0) := by
  rw [applyE, if_pos (tower_may _ hk)]
  show (if (((tower (k + 1)).put [] (tower k)).getD zE).Good then ((((tower (k + 1)).put [] (tower k)).getD zE, 0) : Ex × Int) else (zE, 12)) = _
  rw [show ((tower (k + 1)).put [] (tower k)).getD zE = tower k from rfl, if_pos (tower_good k (by omega))]
theorem tower_few (k : Nat) (hk : k ≤ 1000) : (tower k).few = true := by
  rw [Ex.few, tower_within k _ _ (by omega) (by omega)]; simp; omega
theorem seq_allD (f : Dt → Bool) (a b : Ex) : allD f (seqE a b) = (f zD && (allD f a && (allD f b && true))) := by
  rw [allD_eq]; show (f zD && allDs f [a, b]) = _
  rw [allDs, allDs, allDs]
theorem tower_allD (f : Dt → Bool) (hz : f zD = true) (h1 : allD f (numE 1) = true) (h2 : allD f (numE 2) = true) : ∀ k, allD f (tower k) = true
  | 0 => h1
  | k + 1 => by rw [tower, seq_allD, hz, h2, tower_allD f hz h1 h2 k]; rfl
theorem tower_slim (k : Nat) : allD slimD (tower k) = true := tower_allD slimD (by kernel_rfl) (by kernel_rfl) (by kernel_rfl) k
theorem tower_same (k : Nat) (hk : k ≤ 1000) : SameX (tower k) (tower k) = true := by
  rw [SameX, tower_few k hk, sameX_refl few3 (tower k) (tower_allD few3 (by kernel_rfl) (by kernel_rfl) (by kernel_rfl) k)]; rfl
theorem same_1 : SameX (numE 1) (numE 1) = true := by kernel_rfl
theorem slim_1 : allD slimD (numE 1) = true := by kernel_rfl
/-- A set. -/
def setE : Ex := letE 1 (numE 1) { zE with kind := 3, v := 1, kids := [numE 2] }
theorem set_may : setE.may = false := by kernel_rfl
end Go.Proofs.YtlcofdgaidlldaaGreatDoor
namespace Go.Proofs.YtlcofdgaidlldaaGreatDoor
open Go.RowKit Go.Shelf Go.Proofs.YtlcofdgaidlldaaGreatDoorW.PrintWords
set_option linter.unusedVariables false
set_option linter.unusedSimpArgs false
theorem K_FK {x : Ex} {cs : List Value} {w : World} (h : kE.K w x cs) : Kd.FK kE w (fun k => k < w.heap.size) x cs := fun _ hW => kE_heap.K (fun k hk => hW k hk hk) h
theorem lim_one {n : Int} (h0 : 0 ≤ n) (h1 : n < 4294967296) : lim [n] := fun x hx => by
  rw [List.mem_singleton] at hx; subst hx; exact ⟨h0, h1⟩
theorem Apply_sum (cs : List Value) (w : World) (ok : Nat → Prop) (hok : ∀ k, ok k → k < w.heap.size) (hx : Kd.FK kE w ok sumE cs) (hL : Laid w) : Calls Tryz.prog 19 #[.agg cs.toArray, .agg (stepC 1 none 0 0 0 false).toArray] w (PostI w ok (numE 3, 0)) := by
  have h := Apply_calls sumE cs 1 [] none 0 0 false w ok hok hx (Kd_C_nil _ _) (Nat.le_refl 0) hL (by rw [all_sum]; omega) (fun _ => (numE 3, true)) (fun z cz W hz hb hK => by
    obtain rfl : sumE = z := Option.some.inj hz
    have hokW : ∀ q, ok q → q < W.heap.size := fun q hq => Nat.lt_of_lt_of_le (hok q hq) hb.size
    have hH := Here_calls sumE cz 1 none 0 0 0 false sumE.top W ok hokW hK (hL.below hb) (numE 3, true) (fun _ W' hb' => by
      refine here_fold sumE cz 1 none 0 0 0 false sumE.top W' ok (fun q hq => Nat.lt_of_lt_of_le (hokW q hq) hb'.size) (Kd.FK_below hK hb') (numE 3, true) rfl (fun W2 hb2 => ?_)
      have hf := fold_calls sumE cz (stepC 1 none 0 0 0 false) W2 ok (fun q hq => Nat.lt_of_lt_of_le (hokW q hq) (Nat.le_trans hb'.size hb2.size)) (Kd.FK_below (Kd.FK_below hK hb') hb2) (by decide) (toldD (mkI (BI.num ⟨false, [1]⟩ + BI.num ⟨false, [2]⟩)) 0) (fun _ _ _ W3 A c hb3 hC =>
        Do_add ⟨false, [1]⟩ ⟨false, [2]⟩ (numD ⟨false, [1]⟩) (numD ⟨false, [2]⟩) ⟨rfl, rfl⟩ ⟨rfl, rfl⟩ A c W3 ((((hL.below hb).below hb').below hb2).below hb3) hC (by decide) (by decide) (lim_one (by decide) (by decide)) (lim_one (by decide) (by decide)))
      rw [fold_sum] at hf
      exact hf)
    rwa [here_sum] at hH)
  rw [apply_sum] at h
  exact h
end Go.Proofs.YtlcofdgaidlldaaGreatDoor
namespace Go.Proofs.YtlcofdgaidlldaaGreatDoor
open Go.RowKit Go.Shelf Go.Proofs.YtlcofdgaidlldaaGreatDoorW.PrintWords
set_option linter.unusedVariables false
set_option linter.unusedSimpArgs false
theorem Apply_tower (m : Nat) (hm : m + 1 ≤ 1000) (cs : List Value) (w : World) (ok : Nat → Prop) (hok : ∀ k, ok k → k < w.heap.size) (hx : Kd.FK kE w ok (tower (m + 1)) cs) (hL : Laid w) : Calls Tryz.prog 19 #[.agg cs.toArray, .agg (stepC 3 none 0 0 0 false).toArray] w (PostI w ok (tower m, 0)) := by
  have h := Apply_calls (tower (m + 1)) cs 3 [] none 0 0 false w ok hok hx (Kd_C_nil _ _) (Nat.le_refl 0) hL (by rw [tower_all]; omega) (fun _ => (tower m, true)) (fun z cz W hz hb hK => by
    obtain rfl : tower (m + 1) = z := Option.some.inj hz
    have hokW : ∀ q, ok q → q < W.heap.size := fun q hq => Nat.lt_of_lt_of_le (hok q hq) hb.size
    have hH := Here_calls (tower (m + 1)) cz 3 none 0 0 0 false (tower (m + 1)).top W ok hokW hK (hL.below hb) (tower m, true) (fun _ W' hb' => by
      have hd := here_drop (tower (m + 1)) cz none 0 0 0 false (tower (m + 1)).top W' ok (fun q hq => Nat.lt_of_lt_of_le (hokW q hq) hb'.size) (Kd.FK_below hK hb') rfl (by show 1 < 2; omega)
      rw [show rdE (tower (m + 1)).kids 1 = tower m from rfl, show rdE (tower (m + 1)).kids 0 = numE 2 from rfl, num_idle] at hd
      exact hd)
    rwa [here_tower m hm] at hH)
  rwa [apply_tower m hm] at h
end Go.Proofs.YtlcofdgaidlldaaGreatDoor
namespace Go.Proofs.YtlcofdgaidlldaaGreatDoor
open Go.RowKit Go.Shelf Go.Proofs.YtlcofdgaidlldaaGreatDoorW.PrintWords
set_option linter.unusedVariables false
/-- The cells of k steps: the first i are Drop, the others none. -/
def stepCell (i j : Nat) : Value := if j % 4 = 0 then .int .i64 (if j / 4 < i then 3 else 0) else if j % 4 = 1 then .slice none 0 0 else if j % 4 = 2 then .int .i64 0 else .bool false
def stepsRow (k i : Nat) : List Value := (List.range (4 * k)).map (stepCell i)
theorem stepsRow_len (k i : Nat) : (stepsRow k i).length = 4 * k := by simp [stepsRow]
theorem stepsRow_at {k i j : Nat} (h : j < 4 * k) : (stepsRow k i)[j]? = some (stepCell i j) := by simp [stepsRow, h]
theorem stepsRow_set {k i : Nat} (h : i < k) : (stepsRow k i).set (4 * i) (.int .i64 3) = stepsRow k (i + 1) := by
  apply List.ext_getElem?
  intro j
  by_cases hj : j < 4 * k
  · rw [stepsRow_at hj, List.getElem?_set]
    split
    · next he =>
      subst he
      rw [if_pos (by rw [stepsRow_len]; exact hj)]
      unfold stepCell
      rw [if_pos (by omega), if_pos (by omega)]
    · next he =>
      rw [stepsRow_at hj]
      unfold stepCell
      split
      · next h4 =>
        congr 2
        by_cases h5 : j / 4 < i
        · rw [if_pos h5, if_pos (by omega)]
        · rw [if_neg h5, if_neg (by omega)]
      · rfl
  · rw [List.getElem?_eq_none (by rw [List.length_set, stepsRow_len]; omega), List.getElem?_eq_none (by rw [stepsRow_len]; omega)]
theorem stepsRow_step {k i j : Nat} {u : Value} (h : i < k) (hj : (stepC 3 none 0 0 0 false)[j]? = some u) : (stepsRow k k)[4 * i + j]? = some u := by
  have hj4 : j < 4 := (List.getElem?_eq_some_iff.1 hj).1
  rw [stepsRow_at (by omega)]
  unfold stepCell
  match j, hj4, hj with
  | 0, _, hj => rw [if_pos (by omega), if_pos (by omega)]; exact hj
  | 1, _, hj => rw [if_neg (by omega), if_pos (by omega)]; exact hj
  | 2, _, hj => rw [if_neg (by omega), if_neg (by omega), if_pos (by omega)]; exact hj
  | 3, _, hj => rw [if_neg (by omega), if_neg (by omega), if_neg (by omega)]; exact hj
theorem stepsRow_made (k : Nat) : madeCells (Value.agg #[.int .i64 0, .slice none 0 0, .int .i64 0, .bool false]).cells (k * 4) = (stepsRow k 0).toArray := by
  apply Array.ext
  · simp [madeCells, stepsRow, Nat.mul_comm]
  · intro j h1 h2
    have hj : j < 4 * k := by simpa [stepsRow] using h2
    have h4 : j % 4 = 0 ∨ j % 4 = 1 ∨ j % 4 = 2 ∨ j % 4 = 3 := by omega
    rcases h4 with h | h | h | h <;> simp [madeCells, stepsRow, stepCell, Value.cells, h]
end Go.Proofs.YtlcofdgaidlldaaGreatDoor
