/- Contract: pavanelaw11.num at 1, 2, 3 and 5. Contract: pavanelaw11.v. Plain: the law's three examples, reckoned; a path that leads too far; the rules that are none. Without conditions. Contracts: rule.Here and rule.Apply by a rule that is none, by a path that leads too far, and at the law's three examples. The walks' conditions: the parameters' memory; the tables; not more than 400 expressions. Plain: what the law holds to be the same, reckoned. Without conditions. Contract: pavanelaw11.light. The walk's condition: the parameters' memory. -/
import Derived.Test.YtegolcblbpeoeaaGreatDoorZn
import Derived.Test.YtegolcblbpeoeaaGreatDoorZo
import Derived.Test.YtegolcblbpeoeaaGreatDoorZr
import Derived.Test.YtegolcblbpeoeaaGreatDoorZt
import Derived.Test.YtegolcblbpeoeaaGreatDoorZu
import Derived.Test.YtegolcblbpeoeaaGreatDoorZw
namespace Go.Proofs.YtegolcblbpeoeaaGreatDoor
open Go.RowKit Go.Shelf Go.Proofs.YtegolcblbpeoeaaGreatDoorW.PrintWords
set_option linter.unusedVariables false
set_option linter.unusedSimpArgs false
/-- A constant. -/
def numE (n : Int) : Ex := constE (numD ⟨false, [n]⟩)
abbrev numC (A : Option Addr) (c : Nat) : List Value := [.int .i64 1, .int .i64 1, .bool false, .slice A 1 c, .bool false, .string ⟨#[]⟩, .slice none 0 0, .slice none 0 0, .int .i64 0, .slice none 0 0, .bool false, .int .i64 0, .slice none 0 0]
theorem numE_at (n : Int) (W : World) (ok : Nat → Prop) (A : Option Addr) (c : Nat) (hl : 1 ≤ c) (h : Kd.F (Kd.int .u32) W ok A 1 [n]) : Kd.FK kE W ok (numE n) (numC A c) :=
  kE_mkF W ok (numE n) (A3 := A) (c3 := c) hl h (A6 := none) (c6 := 0) (Nat.le_refl 0) (Kd.F_nil _ _ _) (A7 := none) (c7 := 0) (Nat.le_refl 0) (Kd.F_nil _ _ _) (A9 := none) (c9 := 0) (Nat.le_refl 0) (Kd.F_nil _ _ _) (A12 := none) (c12 := 0) (Nat.le_refl 0) (Kd.F_nil _ _ _)
set_option maxRecDepth 100000 in
set_option maxHeartbeats 2000000 in
theorem num_calls (n : Int) (w : World) (h : n = 1 ∨ n = 2 ∨ n = 3 ∨ n = 5) :
    Calls Tryz.prog 14 #[.int .i64 n] w fun e w' => ∃ cs', e = .returned (.agg cs'.toArray) ∧ Kd.FK kE w' (fun k => w.heap.size ≤ k) (numE n) cs' ∧ Below w.heap.size w w' := by
  have HN := Lib.hid (fun (W : World) => of2_calls n W h)
  have hR0 : BX 31 (w.alloc (.cells zEc.toArray 31)) w.heap.size zEc := BX.new (t := 31) w zEc
  have hW0 : Below w.heap.size w (w.alloc (.cells zEc.toArray 31)) := below_alloc (Below.refl _ _) _
  have hs0 : (w.alloc (.cells zEc.toArray 31)).heap.size = w.heap.size + 1 := by simp
  clear h
  go_enter Tryz.func14, Tryz.ntmps14
  go_wp2_with (first
    | (go_at_call 27; (with_reducible refine (HN.out _).mono ?_); rintro e w1 ⟨cr, rfl, hK1, hb1⟩; have hK1 := Kd.FK_mono (ok' := fun k => w.heap.size + 1 ≤ k) hK1 (fun k hk => by simpa using hk); obtain ⟨A1, c1, rfl, l1, g1⟩ := kI_openF hK1; have hR1 := hR0.below hb1; have HG := Lib.hid g1; have hl1 := Lib.hid l1; clear hK1 l1 g1; have hs1 : w.heap.size + 1 ≤ w1.heap.size := by simpa using hb1.size)
    | ((with_reducible refine store_bx hR1 none rfl ?_ _ _ rfl (numC A1 c1) ?_ ?_ ?_ ?_ ?_ ?_); (case _ => rfl); (case _ => rfl); (case _ => rfl); (case _ => exact size31'); (case _ => rfl); (case _ => simp [Value.oneCell']); intro w2 hR2 hg2))
  have hload := hR2.load (P := Tryz.prog) Tryz.underlying31 (by exact size31')
  have hb1' := below_then hW0 (by omega) hb1
  have hb2 : Below w.heap.size w w2 := hb1'.trans (grown_below hg2 (by omega) (Nat.le_refl _))
  refine bodyPost_ret (v := .agg (numC A1 c1).toArray) ?_ rfl ⟨_, rfl, numE_at n w2 _ A1 c1 hl1.out (Kd.F_mono (Kd.F_grown HG.out hg2 (fun k hk e => by injection e; omega)) (fun k hk => by omega)), hb2⟩
  simp [results, Tryz.f14, asAddr, Result.andThen, Act.put, hload]
end Go.Proofs.YtegolcblbpeoeaaGreatDoor
namespace Go.Proofs.YtegolcblbpeoeaaGreatDoor
open Go.RowKit Go.Shelf Go.Proofs.YtegolcblbpeoeaaGreatDoorW.PrintWords
set_option linter.unusedVariables false
set_option linter.unusedSimpArgs false
/-- A variable. -/
def varE (n : Int) : Ex := { zE with kind := 2, v := n }
abbrev varC (n : Int) : List Value := [.int .i64 2, .int .i64 0, .bool false, .slice none 0 0, .bool false, .string ⟨#[]⟩, .slice none 0 0, .slice none 0 0, .int .i64 n, .slice none 0 0, .bool false, .int .i64 0, .slice none 0 0]
theorem varE_at (n : Int) (W : World) (ok : Nat → Prop) : Kd.FK kE W ok (varE n) (varC n) := kE_mkF W ok (varE n) (A3 := none) (c3 := 0) (Nat.le_refl 0) (Kd.F_nil _ _ _) (A6 := none) (c6 := 0) (Nat.le_refl 0) (Kd.F_nil _ _ _) (A7 := none) (c7 := 0) (Nat.le_refl 0) (Kd.F_nil _ _ _) (A9 := none) (c9 := 0) (Nat.le_refl 0) (Kd.F_nil _ _ _) (A12 := none) (c12 := 0) (Nat.le_refl 0) (Kd.F_nil _ _ _)
set_option maxRecDepth 100000 in
set_option maxHeartbeats 2000000 in
theorem v_calls (n : Int) (w : World) : Calls Tryz.prog 15 #[.int .i64 n] w fun e w' => e = .returned (.agg (varC n).toArray) ∧ Below w.heap.size w w' := by
  go_enter Tryz.func15, Tryz.ntmps15
  go_wp2
  refine bodyPost_ret (v := .agg (varC n).toArray) ?_ rfl ⟨rfl, by first | exact below_alloc (Below.refl _ _) _ | exact below_new _ (by simp)⟩
  have hload := (BX.new (t := 31) w (varC n)).load (P := Tryz.prog) Tryz.underlying31 size31'
  simp [results, Tryz.f15, asAddr, Result.andThen, Act.put, hload]
end Go.Proofs.YtegolcblbpeoeaaGreatDoor
namespace Go.Proofs.YtegolcblbpeoeaaGreatDoor
open Go.RowKit Go.Shelf Go.Proofs.YtegolcblbpeoeaaGreatDoorW.PrintWords
set_option linter.unusedVariables false
def sumE : Ex := { zE with kind := 7, p := 1, kids := [numE 1, numE 2] }
def lamE : Ex := { zE with kind := 5, vars := [1], kids := [varE 1] }
def callE : Ex := { zE with kind := 6, kids := [lamE, numE 5] }
def letB : Ex := letE 1 (numE 5) (varE 1)
theorem num_sum : mkI (BI.num ⟨false, [1]⟩ + BI.num ⟨false, [2]⟩) = ⟨false, [3]⟩ := by
  have h : BI.num ⟨false, [1]⟩ + BI.num ⟨false, [2]⟩ = 3 := by decide
  rw [h]
  have h3 : limbs 3 = [3] := by rw [limbs_pos (by decide), show (3 / 4294967296 : Nat) = 0 from rfl, limbs_zero]; rfl
  show (⟨decide ((3 : Int) < 0), limbs 3⟩ : BI) = _
  rw [h3]; rfl
theorem fold_sum : foldE sumE (toldD (mkI (BI.num ⟨false, [1]⟩ + BI.num ⟨false, [2]⟩)) 0) = (numE 3, true) := by
  rw [num_sum]; kernel_rfl
theorem here_sum : hereE sumE (numE 3, true) = (numE 3, true) := by kernel_rfl
theorem apply_sum : applyE sumE [] (fun _ => (numE 3, true)) = (numE 3, 0) := by kernel_rfl
theorem all_sum : sumE.all.length = 3 := by kernel_rfl
theorem beta_call : betaL (rdE callE.kids ((0 : Nat) : Int)) callE.kids (List.range (rdE callE.kids ((0 : Nat) : Int)).vars.length).reverse = letB := by kernel_rfl
theorem beta_ok : betaOK callE = true := by kernel_rfl
theorem here_call : hereE callE (letB, true) = (letB, true) := by kernel_rfl
theorem apply_call : applyE callE [] (fun _ => (letB, true)) = (letB, 0) := by kernel_rfl
theorem all_call : callE.all.length = 4 := by kernel_rfl
theorem copy_let : copyE letB 5 = (numE 5, true) := by kernel_rfl
theorem here_letB : hereE letB (numE 5, true) = (numE 5, true) := by kernel_rfl
theorem apply_let : applyE letB [] (fun _ => (numE 5, true)) = (numE 5, 0) := by kernel_rfl
theorem all_let : letB.all.length = 3 := by kernel_rfl
/-- The path leads to a thousandth part, and there are fewer. -/
theorem at_over : ∀ (path : List Int) (x : Ex), x.all.length ≤ 1000 → x.at (path ++ [1000]) = none
  | [], x, h => by
    have := x.kids_all
    show (if (0 : Int) ≤ 1000 ∧ (1000 : Int) < x.kids.length then _ else none) = none
    rw [if_neg (by omega)]
  | i :: p, x, h => by
    show (if 0 ≤ i ∧ i < x.kids.length then (rdE x.kids i).at (p ++ [1000]) else none) = none
    split
    · next hi =>
      obtain ⟨k, rfl⟩ := Int.eq_ofNat_of_zero_le hi.1
      have := x.kid_all (k := k) (by omega)
      exact at_over p _ (by omega)
    · rfl
theorem apply_over (x : Ex) (path : List Int) (hr : Ex → Ex × Bool) (hm : x.may = true) (hl : x.all.length ≤ 1000) : applyE x (path ++ [1000]) hr = (zE, 14) := by
  rw [applyE, if_pos hm, at_over path x hl]
theorem apply_off (x : Ex) (path : List Int) (hm : x.may = true) : applyE x path (fun _ => (zE, false)) = (zE, 14) := by
  rw [applyE, if_pos hm]
  cases x.at path <;> rfl
theorem few_all {x : Ex} (h : 0 ≤ x.within 400 300) : x.all.length ≤ 400 := by
  have := x.within_len 400 300 h
  omega
theorem good_plain {x : Ex} (h : x.Good = true) : x.plain = true := by
  rw [Ex.Good, Bool.and_eq_true, okL, Bool.and_eq_true] at h
  exact List.all_eq_true.1 h.2.1 x (by rw [x.all_eq]; exact List.mem_cons_self ..)
theorem good_kids {x : Ex} (h : x.Good = true) {n : Int} (hn : x.nkids = n) (h2 : n ≠ -2) : n = x.kids.length := by
  have hp := good_plain h
  rw [Ex.plain] at hp
  simp only [Bool.and_eq_true, Bool.not_eq_true', Bool.and_eq_false_iff, bne_eq_false_iff_eq, Bool.or_eq_false_iff] at hp
  rcases hp.1.1.1.1.1.1.1 with hq | hq
  · rw [← hn]; exact hq
  · exact absurd (hn.symm.trans hq.1) h2
theorem good_kids4 {x : Ex} (h : x.Good = true) (hk : (x.kind == 4) = true) : 0 < x.kids.length := by
  have hk : x.kind = 4 := by simpa using hk
  have := good_kids h (n := 3) (by rw [Ex.nkids, if_neg (by omega), if_neg (by omega), if_pos hk]) (by omega)
  omega
theorem good_kids8 {x : Ex} (h : x.Good = true) (hk : (x.kind == 8) = true) : 1 < x.kids.length := by
  have hk : x.kind = 8 := by simpa using hk
  have := good_kids h (n := 2) (by rw [Ex.nkids, if_neg (by omega), if_neg (by omega), if_neg (by omega), if_neg (by omega), if_neg (by omega), if_pos (by omega)]) (by omega)
  omega
theorem copy_off {x : Ex} {r : Int} (h : (r == 5) = false) : copyE x r = (x, false) := by
  rw [copyE, h]; rfl
theorem here_off (x : Ex) : hereE x (x, false) = (zE, false) := by
  rw [hereE]; simp
end Go.Proofs.YtegolcblbpeoeaaGreatDoor
namespace Go.Proofs.YtegolcblbpeoeaaGreatDoor
open Go.RowKit Go.Shelf Go.Proofs.YtegolcblbpeoeaaGreatDoorW.PrintWords
set_option linter.unusedVariables false
set_option linter.unusedSimpArgs false
theorem K_FK {x : Ex} {cs : List Value} {w : World} (h : kE.K w x cs) : Kd.FK kE w (fun k => k < w.heap.size) x cs := fun _ hW => kE_heap.K (fun k hk => hW k hk hk) h
theorem off_ne {r : Int} (h : ¬ (1 ≤ r ∧ r ≤ 13)) {i : Int} (h1 : 1 ≤ i) (h2 : i ≤ 13) : (r == i) = false := by
  rw [beq_eq_false_iff_ne]; omega
theorem Here_off (x : Ex) (cs : List Value) (r : Int) (A : Option Addr) (n c : Nat) (k : Int) (no : Bool) (next : Int) (w : World) (ok : Nat → Prop) (hok : ∀ k, ok k → k < w.heap.size) (hx : Kd.FK kE w ok x cs) (hL : Laid w) (hr : ¬ (1 ≤ r ∧ r ≤ 13)) :
    Calls Tryz.prog 8 #[.agg cs.toArray, .agg (stepC r A n c k no).toArray, .int .i64 next] w (Post w ok (zE, false)) := by
  have hH := Here_calls x cs r A n c k no next w ok hok hx hL (x, false) (fun hg W hb => by
    have hokW : ∀ k, ok k → k < W.heap.size := fun k hk => Nat.lt_of_lt_of_le (hok k hk) hb.size
    have hxW := Kd.FK_below hx hb
    have h1 := off_ne hr (i := 1) (by omega) (by omega)
    have h13 := off_ne hr (i := 13) (by omega) (by omega)
    have h6 := off_ne hr (i := 6) (by omega) (by omega)
    have h3 := off_ne hr (i := 3) (by omega) (by omega)
    cases hk4 : x.kind == 4 with
    | true =>
      refine here_choice x cs r A n c k no next W ok hokW hxW (x, false) h1 h13 h6 h3 hk4 (fun W' hb' => ?_)
      refine (choice_none x cs r A n c k no W' (Kd.FK_now (Kd.FK_below hxW hb')) (good_kids4 hg hk4) (off_ne hr (by omega) (by omega)) (off_ne hr (by omega) (by omega)) (off_ne hr (by omega) (by omega))).mono ?_
      rintro e w' ⟨rfl, hb2⟩
      exact ⟨cs, rfl, Kd.FK_mono (Kd.FK_below (Kd.FK_below hxW hb') hb2) (fun _ h => .inl h), hb2⟩
    | false =>
      cases hk8 : x.kind == 8 with
      | true =>
        refine here_lets x cs r A n c k no next W ok hokW hxW (x, false) h1 h13 h6 h3 hk4 hk8 (fun W' hb' => ?_)
        have hl := lets_copy x cs r A n c k no next W' ok (fun k hk => Nat.lt_of_lt_of_le (hokW k hk) hb'.size) (Kd.FK_below hxW hb') (good_kids8 hg hk8) (off_ne hr (by omega) (by omega)) (off_ne hr (by omega) (by omega)) (off_ne hr (by omega) (by omega)) (off_ne hr (by omega) (by omega)) (off_ne hr (by omega) (by omega))
        rw [copy_off (off_ne hr (by omega) (by omega))] at hl
        exact hl
      | false => exact here_none x cs r A n c k no next W ok hxW h1 h13 h6 h3 hk4 hk8)
  rwa [here_off] at hH
theorem Apply_off (x : Ex) (cs : List Value) (r : Int) (path : List Int) (A : Option Addr) (c : Nat) (k : Int) (no : Bool) (w : World) (hx : kE.K w x cs) (hp : (Kd.int .i64).C w A path.length path) (hpc : path.length ≤ c) (hL : Laid w) (hl : x.all.length ≤ 400) (hm : x.may = true) (hr : ¬ (1 ≤ r ∧ r ≤ 13)) :
    Calls Tryz.prog 7 #[.agg cs.toArray, .agg (stepC r A path.length c k no).toArray] w fun e w' => ∃ cs', e = .returned (.tuple #[.agg cs'.toArray, .int .i64 14]) ∧ kE.K w' zE cs' ∧ Below w.heap.size w w' := by
  have h := Apply_calls x cs r path A c k no w _ (fun _ h => h) (K_FK hx) hp hpc hL (by omega) (fun _ => (zE, false)) (fun z cz W hz hb hK =>
    Here_off z cz r A path.length c k no x.top W _ (fun q hq => Nat.lt_of_lt_of_le hq hb.size) hK (hL.below hb) hr)
  rw [apply_off x path hm] at h
  exact h.mono (fun e w' ⟨cs', he, hk, hb⟩ => ⟨cs', he, Kd.FK_now hk, hb⟩)
theorem Apply_over (x : Ex) (cs : List Value) (r : Int) (path : List Int) (A : Option Addr) (c : Nat) (k : Int) (no : Bool) (w : World) (hx : kE.K w x cs) (hp : (Kd.int .i64).C w A (path ++ [1000]).length (path ++ [1000])) (hpc : (path ++ [1000]).length ≤ c) (hL : Laid w) (hl : x.all.length ≤ 400) (hm : x.may = true) :
    Calls Tryz.prog 7 #[.agg cs.toArray, .agg (stepC r A (path ++ [1000]).length c k no).toArray] w fun e w' => ∃ cs', e = .returned (.tuple #[.agg cs'.toArray, .int .i64 14]) ∧ kE.K w' zE cs' ∧ Below w.heap.size w w' := by
  have h := Apply_calls x cs r (path ++ [1000]) A c k no w _ (fun _ h => h) (K_FK hx) hp hpc hL (by omega) (fun _ => (zE, false)) (fun z cz W hz hb hK => by
    rw [at_over path x (by omega)] at hz; cases hz)
  rw [apply_over x path _ hm (by omega)] at h
  exact h.mono (fun e w' ⟨cs', he, hk, hb⟩ => ⟨cs', he, Kd.FK_now hk, hb⟩)
theorem lim_one {n : Int} (h0 : 0 ≤ n) (h1 : n < 4294967296) : lim [n] := fun x hx => by
  rw [List.mem_singleton] at hx; subst hx; exact ⟨h0, h1⟩
theorem Apply_sum (cs : List Value) (w : World) (ok : Nat → Prop) (hok : ∀ k, ok k → k < w.heap.size) (hx : Kd.FK kE w ok sumE cs) (hL : Laid w) : Calls Tryz.prog 7 #[.agg cs.toArray, .agg (stepC 1 none 0 0 0 false).toArray] w (PostI w ok (numE 3, 0)) := by
  have h := Apply_calls sumE cs 1 [] none 0 0 false w ok hok hx (Kd_C_nil _ _) (Nat.le_refl 0) hL (by rw [all_sum]; omega) (fun _ => (numE 3, true)) (fun z cz W hz hb hK => by
    obtain rfl : sumE = z := Option.some.inj hz
    have hokW : ∀ q, ok q → q < W.heap.size := fun q hq => Nat.lt_of_lt_of_le (hok q hq) hb.size
    have hH := Here_calls sumE cz 1 none 0 0 0 false sumE.top W ok hokW hK (hL.below hb) (numE 3, true) (fun _ W' hb' => by
      refine here_fold sumE cz 1 none 0 0 0 false sumE.top W' ok (fun q hq => Nat.lt_of_lt_of_le (hokW q hq) hb'.size) (Kd.FK_below hK hb') (numE 3, true) rfl (fun W2 hb2 => ?_)
      have hf := fold_calls sumE cz (stepC 1 none 0 0 0 false) W2 ok (fun q hq => Nat.lt_of_lt_of_le (hokW q hq) (Nat.le_trans hb'.size hb2.size)) (Kd.FK_below (Kd.FK_below hK hb') hb2) (by decide) (toldD (mkI (BI.num ⟨false, [1]⟩ + BI.num ⟨false, [2]⟩)) 0) (fun _ _ _ W3 A c hb3 hC =>
        Do_add ⟨false, [1]⟩ ⟨false, [2]⟩ (numD ⟨false, [1]⟩) (numD ⟨false, [2]⟩) ⟨rfl, rfl⟩ ⟨rfl, rfl⟩ A c W3 ((((hL.below hb).below hb').below hb2).below hb3) hC (by decide) (by decide) (lim_one (by decide) (by decide)) (lim_one (by decide) (by decide)))
      rw [fold_sum] at hf
      exact hf)
    rwa [here_sum] at hH)
  rw [apply_sum] at h
  exact h
theorem Apply_call (cs : List Value) (w : World) (ok : Nat → Prop) (hok : ∀ k, ok k → k < w.heap.size) (hx : Kd.FK kE w ok callE cs) (hL : Laid w) : Calls Tryz.prog 7 #[.agg cs.toArray, .agg (stepC 6 none 0 0 0 false).toArray] w (PostI w ok (letB, 0)) := by
  have h := Apply_calls callE cs 6 [] none 0 0 false w ok hok hx (Kd_C_nil _ _) (Nat.le_refl 0) hL (by rw [all_call]; omega) (fun _ => (letB, true)) (fun z cz W hz hb hK => by
    obtain rfl : callE = z := Option.some.inj hz
    have hokW : ∀ q, ok q → q < W.heap.size := fun q hq => Nat.lt_of_lt_of_le (hok q hq) hb.size
    have hH := Here_calls callE cz 6 none 0 0 0 false callE.top W ok hokW hK (hL.below hb) (letB, true) (fun _ W' hb' => by
      refine here_beta callE cz 6 none 0 0 0 false callE.top W' ok (fun q hq => Nat.lt_of_lt_of_le (hokW q hq) hb'.size) (Kd.FK_below hK hb') (letB, true) rfl rfl rfl rfl (fun W2 hb2 => ?_)
      have hf := beta_calls callE cz (stepC 6 none 0 0 0 false) W2 ok (fun q hq => Nat.lt_of_lt_of_le (hokW q hq) (Nat.le_trans hb'.size hb2.size)) (Kd.FK_below (Kd.FK_below hK hb') hb2) (by decide) (fun _ => by decide) beta_ok
      rw [show betaL (rdE callE.kids 0) callE.kids (List.range (rdE callE.kids 0).vars.length).reverse = letB from beta_call] at hf
      exact hf)
    rwa [here_call] at hH)
  rw [apply_call] at h
  exact h
theorem Apply_let (cs : List Value) (w : World) (ok : Nat → Prop) (hok : ∀ k, ok k → k < w.heap.size) (hx : Kd.FK kE w ok letB cs) (hL : Laid w) : Calls Tryz.prog 7 #[.agg cs.toArray, .agg (stepC 5 none 0 0 0 false).toArray] w (PostI w ok (numE 5, 0)) := by
  have h := Apply_calls letB cs 5 [] none 0 0 false w ok hok hx (Kd_C_nil _ _) (Nat.le_refl 0) hL (by rw [all_let]; omega) (fun _ => (numE 5, true)) (fun z cz W hz hb hK => by
    obtain rfl : letB = z := Option.some.inj hz
    have hokW : ∀ q, ok q → q < W.heap.size := fun q hq => Nat.lt_of_lt_of_le (hok q hq) hb.size
    have hH := Here_calls letB cz 5 none 0 0 0 false letB.top W ok hokW hK (hL.below hb) (numE 5, true) (fun _ W' hb' => by
      refine here_lets letB cz 5 none 0 0 0 false letB.top W' ok (fun q hq => Nat.lt_of_lt_of_le (hokW q hq) hb'.size) (Kd.FK_below hK hb') (numE 5, true) rfl rfl rfl rfl rfl rfl (fun W2 hb2 => ?_)
      have hf := lets_copy letB cz 5 none 0 0 0 false letB.top W2 ok (fun q hq => Nat.lt_of_lt_of_le (hokW q hq) (Nat.le_trans hb'.size hb2.size)) (Kd.FK_below (Kd.FK_below hK hb') hb2) (by decide) rfl rfl rfl rfl rfl
      rw [copy_let] at hf
      exact hf)
    rwa [here_letB] at hH)
  rw [apply_let] at h
  exact h
end Go.Proofs.YtegolcblbpeoeaaGreatDoor
namespace Go.Proofs.YtegolcblbpeoeaaGreatDoor
open Go.RowKit Go.Shelf Go.Proofs.YtegolcblbpeoeaaGreatDoorW.PrintWords
theorem same_3 : SameX (numE 3) (numE 3) = true := by kernel_rfl
theorem same_5 : SameX (numE 5) (numE 5) = true := by kernel_rfl
theorem same_0 : SameX zE zE = true := by kernel_rfl
theorem slim_3 : allD slimD (numE 3) = true := by kernel_rfl
theorem slim_5 : allD slimD (numE 5) = true := by kernel_rfl
theorem slim_0 : allD slimD zE = true := by kernel_rfl
end Go.Proofs.YtegolcblbpeoeaaGreatDoor
namespace Go.Proofs.YtegolcblbpeoeaaGreatDoor
open Go.RowKit Go.Shelf Go.Proofs.YtegolcblbpeoeaaGreatDoorW.PrintWords
set_option linter.unusedVariables false
set_option linter.unusedSimpArgs false
/-- Not more than is looked at here. -/
def lightB (x : Ex) (n : Nat) : Bool := decide (0 ≤ x.within 400 300) && x.short && decide ((n : Int) ≤ 50)
set_option maxRecDepth 100000 in
set_option maxHeartbeats 4000000 in
theorem light_calls (x : Ex) (cs : List Value) (r : Int) (A : Option Addr) (n c : Nat) (k : Int) (no : Bool) (w : World) (hx : kE.K w x cs) (hn : n ≤ 9223372036854775807) :
    Calls Tryz.prog 4 #[.agg cs.toArray, .agg (stepC r A n c k no).toArray] w fun e w' => e = .returned (.bool (lightB x n)) ∧ Below w.heap.size w w' := by
  have HXl := Lib.hid (kE_len hx)
  have HS := Lib.hid (fun (W : World) (h : Below w.heap.size w W) => rSmall_calls x cs 400 W (kE.K_below h hx) (by omega) (by omega))
  have HT := Lib.hid (fun (W : World) (h : Below w.heap.size w W) => short_calls (x.big + 1) x cs W (Nat.lt_succ_self _) (kE.K_below h hx))
  have HE := Lib.hid (show lightB x n = (decide (0 ≤ x.within 400 300) && x.short && decide ((n : Int) ≤ 50)) from rfl)
  obtain ⟨q, hq⟩ : ∃ q, q = lightB x n := ⟨_, rfl⟩
  obtain ⟨sm, hsm⟩ : ∃ sm, sm = decide (0 ≤ x.within 400 300) := ⟨_, rfl⟩
  obtain ⟨sh, hsh⟩ : ∃ sh, sh = x.short := ⟨_, rfl⟩
  rw [← hq] at HE ⊢
  rw [← hsm] at HE HS
  rw [← hsh] at HE HT
  have hX0 : BX 31 ((w.alloc (.cells cs.toArray 31)).alloc (.cells (stepC r A n c k no).toArray 33)) w.heap.size cs := (BX.new w _).alloc _
  have hS0 : BX 33 ((w.alloc (.cells cs.toArray 31)).alloc (.cells (stepC r A n c k no).toArray 33)) (w.heap.size + 1) (stepC r A n c k no) := by simpa using BX.new (t := 33) (w.alloc (.cells cs.toArray 31)) (stepC r A n c k no)
  have hW0 : Below w.heap.size w ((w.alloc (.cells cs.toArray 31)).alloc (.cells (stepC r A n c k no).toArray 33)) := below_alloc (below_alloc (Below.refl _ _) _) _
  have hs0 : w.heap.size + 2 = ((w.alloc (.cells cs.toArray 31)).alloc (.cells (stepC r A n c k no).toArray 33)).heap.size := by simp
  clear hx hq hsm hsh
  have hcase : sm = false ∨ sm = true ∧ sh = false ∨ sm = true ∧ sh = true := by cases sm <;> cases sh <;> simp
  rcases hcase with rfl | ⟨rfl, rfl⟩ | ⟨rfl, rfl⟩
  all_goals
    go_enter Tryz.func4, Tryz.ntmps4
    go_wp2_with (first
      | ((with_reducible refine ldE 5 hX0 HXl rfl ?_ _ rfl ?_ ?_); (case _ => rfl); (case _ => rfl))
      | ((with_reducible refine ldEg 8 hX1 HXl rfl ?_ _ rfl ?_ ?_); (case _ => rfl); (case _ => rfl))
      | (go_at_call 10; (with_reducible refine (HS.out _ hW0).mono ?_); rintro e w1 ⟨rfl, hb1⟩; have hw1 := below_then hW0 (by omega) hb1; have hX1 := hX0.below hb1; have hS1 := hS0.below hb1)
      | (go_at_call 11; (with_reducible refine (HT.out _ hw1).mono ?_); rintro e w2 ⟨rfl, hb2⟩; have hw2 := below_then hw1 hw1.size hb2; have q2 := (hS1.below hb2).cell (j := 1) (u := .slice A n c) rfl))
    go_ret
  · exact ⟨by rw [HE.out]; rfl, hw1⟩
  · exact ⟨by rw [HE.out]; rfl, hw2⟩
  · exact ⟨by rw [HE.out]; simp, hw2⟩
end Go.Proofs.YtegolcblbpeoeaaGreatDoor
