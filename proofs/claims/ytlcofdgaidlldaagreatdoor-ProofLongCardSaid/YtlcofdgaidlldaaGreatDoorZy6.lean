/- From a reading of the arguments (DataW.trod) to the kinds: whatever reads as an api.Expr holds a plain expression; likewise rule.Step. Without conditions. Whatever reads as an api.Int, api.Datum, api.Expr, rule.Step holds a plain one. Without conditions. The package-level tables out of the row's premise. Without conditions. The card of ProofLong out of its walk: from a contract of the law to the given statement. The contract is a premise here. -/
import Derived.ChangeArms
import Derived.OpenShut
import Derived.FnData
import Derived.ChangeSame
import Derived.ChangeVars
import Derived.JoinedOf
import Derived.RowKit
import Derived.RowKitTokens
import Derived.LaidLaws
import Derived.LaidHandle
import Derived.Stop.Joined
import Derived.WalkKit
import Derived.ProofKit
import Derived.ShutString
import Derived.ChangeOld
import Derived.Below
import Derived.SevenTiedAt
import Derived.Test.YtlcofdgaidlldaaGreatDoorZc
import Derived.Test.YtlcofdgaidlldaaGreatDoorZd
import Derived.Test.YtlcofdgaidlldaaGreatDoorRows
import Derived.Test.YtlcofdgaidlldaaGreatDoorCards
import Derived.Test.YtlcofdgaidlldaaGreatDoorTie
namespace Go.Proofs.YtlcofdgaidlldaaGreatDoor
open Go.RowKit Go.Proofs.YtlcofdgaidlldaaGreatDoorW.PrintWords
set_option linter.unusedVariables false
set_option linter.unusedSimpArgs false
section
variable {H : Type} {enc : TypeId × Value → H} {w : World} {base : Nat} {spare : Nat → Bool} {held : Bool}
end
end Go.Proofs.YtlcofdgaidlldaaGreatDoor
namespace Go.Proofs.YtlcofdgaidlldaaGreatDoor
open Go.RowKit Go.Proofs.YtlcofdgaidlldaaGreatDoorW.PrintWords
set_option linter.unusedVariables false
set_option linter.unusedSimpArgs false
section
variable {H : Type} {enc : TypeId × Value → H} {w : World} {base : Nat} {spare : Nat → Bool} {held : Bool}
theorem cel3 : Tryz.prog.cellsOf 3 = 1 := by kernel_rfl
theorem cel9 : Tryz.prog.cellsOf 9 = 1 := by kernel_rfl
end
end Go.Proofs.YtlcofdgaidlldaaGreatDoor
namespace Go.Proofs.YtlcofdgaidlldaaGreatDoor
open Go.RowKit Go.Proofs.YtlcofdgaidlldaaGreatDoorW.PrintWords
set_option linter.unusedVariables false
set_option linter.unusedSimpArgs false
section
variable {H : Type} {enc : TypeId × Value → H} {w : World} {base : Nat} {spare : Nat → Bool} {held : Bool} {fuel : Nat} {t : TypeId} {cs : List Value} {p : List MemPlace}
theorem bytes_ext {a b : ByteArray} (h : a.data.toList = b.data.toList) : a = b := by
  cases a; cases b
  simp only at h
  rw [Array.toList_inj] at h
  rw [h]
theorem laid_at {n : Nat} {e : TypeId} (ht : Tryz.prog.underlying t = some (.array n e)) (hc : Tryz.prog.cellsOf e = 1) (hn : Tryz.prog.cellsOf t = n) {ds : List (DataW H)} (h : DataW.trod enc Tryz.prog w base spare held fuel t cs = some (.agg ds, p)) :
    ds.length = n ∧ ∀ i, i < n → ∃ (v : Value) (m : Nat) (q : List MemPlace) (d : DataW H), cs[i]? = some v ∧ ds[i]? = some d ∧ DataW.trod enc Tryz.prog w base spare held m e [v] = some (d, q) := by
  obtain ⟨xs, m, _, hx, hl, hxl, hel⟩ := DataW.trod_array ht h
  injection hx with hx _
  injection hx with hx
  subst hx
  refine ⟨by simpa using hxl, fun i hi => ?_⟩
  have h1 := hel i hi
  rw [hc, Nat.mul_one, List.getElem?_eq_getElem (show i < xs.length by omega)] at h1
  have hil : i < cs.length := by omega
  rw [List.drop_eq_getElem_cons hil, List.take_succ_cons, List.take_zero] at h1
  exact ⟨cs[i], m, (xs[i]'(by omega)).2, (xs[i]'(by omega)).1, List.getElem?_eq_getElem hil, by simp [List.getElem?_map, List.getElem?_eq_getElem (show i < xs.length by omega)], h1⟩
theorem laid_strs {n : Nat} {e : TypeId} (ht : Tryz.prog.underlying t = some (.array n e)) (he : Tryz.prog.underlying e = some .string) (hc : Tryz.prog.cellsOf e = 1) (hn : Tryz.prog.cellsOf t = n) (ss : List ByteArray)
    (h : DataW.trod enc Tryz.prog w base spare held fuel t cs = some (.agg (ss.map fun s => .lit (.string s.data.toList)), p)) : ∀ (j : Nat) u, (ss.map Value.string)[j]? = some u → cs[j]? = some u := by
  obtain ⟨hl, hel⟩ := laid_at ht hc hn h
  intro j u hj
  rw [List.getElem?_map, Option.map_eq_some_iff] at hj
  obtain ⟨s, hs, rfl⟩ := hj
  have hjn : j < n := by
    have := (List.getElem?_eq_some_iff.1 hs).1
    rw [List.length_map] at hl; omega
  obtain ⟨v, m, q, d, h1, h2, h3⟩ := hel j hjn
  obtain ⟨s', e1, e2, _⟩ := DataW.trod_string he h3
  rw [List.getElem?_map, hs] at h2
  have e1 : v = .string s' := List.singleton_inj.1 e1
  have e2 : d = .lit (.string s'.data.toList) := congrArg Prod.fst e2
  have e3 : DataW.lit (H := H) (.string s.data.toList) = .lit (.string s'.data.toList) := (Option.some.inj h2).trans e2
  rw [h1, e1, bytes_ext (Lit.string.inj (DataW.lit.inj e3))]
theorem laid_ints {n : Nat} {e : TypeId} (ht : Tryz.prog.underlying t = some (.array n e)) (he : Tryz.prog.underlying e = some (.int .i64)) (hc : Tryz.prog.cellsOf e = 1) (hn : Tryz.prog.cellsOf t = n) (zs : List Int)
    (h : DataW.trod enc Tryz.prog w base spare held fuel t cs = some (.agg (zs.map fun z => .lit (.int .i64 z)), p)) : ∀ (j : Nat) u, (zs.map (Value.int .i64))[j]? = some u → cs[j]? = some u := by
  obtain ⟨hl, hel⟩ := laid_at ht hc hn h
  intro j u hj
  rw [List.getElem?_map, Option.map_eq_some_iff] at hj
  obtain ⟨z, hz, rfl⟩ := hj
  have hjn : j < n := by
    have := (List.getElem?_eq_some_iff.1 hz).1
    rw [List.length_map] at hl; omega
  obtain ⟨v, m, q, d, h1, h2, h3⟩ := hel j hjn
  obtain ⟨z', e1, e2, _⟩ := DataW.trod_int he h3
  rw [List.getElem?_map, hz] at h2
  have e1 : v = .int .i64 z' := List.singleton_inj.1 e1
  have e2 : d = .lit (.int .i64 z') := congrArg Prod.fst e2
  have e3 : DataW.lit (H := H) (.int .i64 z) = .lit (.int .i64 z') := (Option.some.inj h2).trans e2
  rw [h1, e1, (Lit.int.inj (DataW.lit.inj e3)).2]
end
theorem laid_namesT : (Rows.laid_pavane_expand_names : DataW Unit) = .agg (namesT.map fun s => .lit (.string s.data.toList)) := by kernel_rfl
theorem laid_aritT : (Rows.laid_pavane_expand_arities : DataW Unit) = .agg (aritT.map fun z => .lit (.int .i64 z)) := by kernel_rfl
theorem laid_impT : (Rows.laid_pavane_prim_impure : DataW Unit) = .agg (([24, 26, 27] : List Int).map fun z => .lit (.int .i64 z)) := by kernel_rfl
theorem laid_cell {W : World} {nm : String} {g : Nat} {cs : Array Value} (hg : Tryz.prog.globalNamed nm = some g) (hv : W.var? Tryz.prog nm = some cs) {l : List Value} (h : ∀ (j : Nat) u, l[j]? = some u → cs.toList[j]? = some u) :
    ∀ (j : Nat) u, l[j]? = some u → W.cell? ((⟨g, 0, none⟩ : Addr).add j) = some u := fun j u hj => by
  rw [add_plain, World.var?_cell hg hv, ← Array.getElem?_toList]
  exact h j u hj
theorem laid_of_met {W : World} (h : laidMetH Tryz.prog Rows.proofLongRow.laid W) : Laid W := by
  have h : laidMet Tryz.prog Rows.proofLongRow.laid W := h
  obtain ⟨ps, ⟨g1, t1, c1, f1, p1, q1, a1, b1, v1, d1, ⟨g2, t2, c2, f2, p2, q2, a2, b2, v2, d2, ⟨g3, t3, c3, f3, p3, q3, a3, b3, v3, d3, _⟩, _⟩, _⟩, _⟩ := h
  obtain rfl := Option.some.inj (a1.symm.trans (show Tryz.prog.globalNamed "pavane/expand.names" = some 1 by kernel_rfl))
  obtain rfl := Option.some.inj (a2.symm.trans (show Tryz.prog.globalNamed "pavane/expand.arities" = some 2 by kernel_rfl))
  obtain rfl := Option.some.inj (a3.symm.trans (show Tryz.prog.globalNamed "pavane/prim.impure" = some 0 by kernel_rfl))
  obtain rfl := Option.some.inj (b1.symm.trans (show (Tryz.prog.globals[1]?).map (·.type) = some 147 by kernel_rfl))
  obtain rfl := Option.some.inj (b2.symm.trans (show (Tryz.prog.globals[2]?).map (·.type) = some 148 by kernel_rfl))
  obtain rfl := Option.some.inj (b3.symm.trans (show (Tryz.prog.globals[0]?).map (·.type) = some 143 by kernel_rfl))
  rw [laid_namesT] at d1
  rw [laid_aritT] at d2
  rw [laid_impT] at d3
  exact ⟨laid_cell a1 v1 (laid_strs Tryz.underlying147 Tryz.underlying9 cel9 (by kernel_rfl) namesT d1),
    laid_cell a2 v2 (laid_ints Tryz.underlying148 Tryz.underlying3 cel3 (by kernel_rfl) aritT d2),
    laid_cell a3 v3 (laid_ints Tryz.underlying143 Tryz.underlying3 cel3 (by kernel_rfl) [24, 26, 27] d3)⟩
end Go.Proofs.YtlcofdgaidlldaaGreatDoor
namespace Go.Proofs.YtlcofdgaidlldaaGreatDoor
open Go.ChangeShapes Go.WideShapes Go.ChangeAt Go.RowKit Go.Proofs.YtlcofdgaidlldaaGreatDoorW.PrintWords
set_option linter.unusedVariables false
set_option linter.unusedSimpArgs false
theorem ownKnob0 : ownKnob Tryz.prog.godebug = none := by kernel_rfl
/-- A world that meets the condition: the settled one, the tables laid. -/
noncomputable def laidWorld (os : Os) : World :=
  let w0 := World.holding Tryz.prog os ⟨#[], #[], []⟩
  { w0 with heap := ((w0.heap.modify 1 fun
      | .cells _ t frozen => .cells (namesT.map Value.string).toArray t frozen
      | o => o).modify 2 fun
      | .cells _ t frozen => .cells (aritT.map (Value.int .i64)).toArray t frozen
      | o => o).modify 0 fun
      | .cells _ t frozen => .cells (([24, 26, 27] : List Int).map (Value.int .i64)).toArray t frozen
      | o => o }
theorem laidWorld_met (os : Os) (args : Array Value) : laidMetH Tryz.prog Rows.proofLongRow.laid ((laidWorld os).forCall (fun _ _ => 0) ⟨#[], args, []⟩).memory :=
  show laidMet Tryz.prog Rows.proofLongRow.laid _ from laidMet_of_run' 8 (by kernel_rfl) (by kernel_rfl)
/-- What a contract of the law says. -/
def Walk : Prop := ∀ (n : Int) (W : World), (Lit.int .u64 n).wf = true → Laid W → Calls Tryz.prog 3 #[.int .u64 n] W fun e W' => e = .returned (.bool true) ∧ Below W.heap.size W W'
set_option maxRecDepth 100000 in
theorem lifted (walk : Walk) (os : Os) (started : os.Started) (H : Type) (enc : TypeId × Value → H) :
    ReturnsInHanded {} Tryz.checked os 3 .any (fun w args => (Rows.proofLongSpec.pre enc Tryz.prog Tryz.f3 Rows.proofLongRow.domain false w args ∧ laidMetH Tryz.prog Rows.proofLongRow.laid w) ∧ sizedMet enc Tryz.prog Tryz.f3 (OpenSpec.ofChange Rows.proofLongSpec) false w args)
      (Rows.proofLongSpec.post enc Tryz.prog Tryz.f3 false true false false) := by
  refine returnsInHanded_of_change_and (C := Tryz.checked) (X := fun w _ => laidMetH Tryz.prog Rows.proofLongRow.laid w) (fun _ _ _ hh h => h.of_heap hh) ownKnob0 started (by kernel_rfl) Tryz.func3
    (ChangeSpec.witness_at (enc := enc) (C := Tryz.checked) (os := os) (X := fun w _ => laidMetH Tryz.prog Rows.proofLongRow.laid w) false (laidWorld os) #[.int .u64 0] 8 rfl (by kernel_rfl) (by kernel_rfl) (by kernel_rfl) (by kernel_rfl) (by kernel_rfl) (laidWorld_met os _)) ?_
  intro W base args ds gs before hval0 hW _ _ hL _
  have hval : ∀ (j : Nat) t v, Tryz.f3.params[j]? = some t → args[j]? = some v → Value.okWide Tryz.prog W .any base t v := hval0
  have hW' := hW
  obtain ⟨p, q, hA0, hV, rfl, hfz, hnd⟩ := hW
  have hA : DataW.TrodAll enc Tryz.prog W 0 (fun _ => true) true Tryz.f3.params.toList args.toList ds p := hA0
  rw [Tryz.params3] at hA hval
  obtain ⟨v0, vs0, d0, ds0, p0, q0, hargs, rfl, rfl, h0, r0⟩ := trodAll_cons hA
  obtain ⟨rfl, rfl, rfl⟩ := trodAll_nil r0
  obtain rfl : args = #[v0] := by cases args; simp_all
  obtain ⟨rfl, rfl⟩ := trodVars_none hV
  obtain ⟨n, rfl, rfl, rfl, hwn⟩ := open_int Tryz.underlying22 (hval 0 22 v0 rfl rfl) h0
  have hw := walk n W hwn (laid_of_met hL)
  clear hA0 hval0
  refine hw.mono fun e W' ⟨he, bel⟩ => ?_
  subst he
  exact ⟨_, rfl, _, _, _, [], _, [], hW', trodAll_mk1 (shut_bool Tryz.underlying4 _), trodAll_cons_mk (shut_int Tryz.underlying22 hwn) trodAll_mk0, rfl, bel.frame _, fun h => by cases h⟩
theorem said_of (walk : Walk) : Rows.ProofLongSaid :=
  OpenClaim.holds_of_wide 3 Tryz.f3 rfl rfl rfl rfl rfl rfl rfl ⟨rfl, rfl, rfl, rfl, rfl⟩ rfl rfl rfl rfl rfl (by kernel_rfl) Tryz.func3 (by kernel_rfl)
    (of_decide_eq_true (by kernel_rfl)) (by unfold Func.isWrapper; first | (rw [if_pos (by decide +kernel)]; kernel_rfl) | (rw [if_neg (by decide +kernel)]; exact ⟨rfl, rfl⟩))
    (fun os started H enc _ => lifted walk os started H enc)
theorem card_of (walk : Walk) : Rows.ProofLongCardSaid :=
  Claim7.holds_tied_plain_at .later [] [.data, .data, .data] true (true, "0eb9b8a9781060f9e62a24be4592f305406d387b26a59ae50af4c9635a077673") false
    (said_of walk) (fun _ h => by cases h) (by kernel_rfl) (fun _ h => by cases h) proofLong_row_tie rfl ⟨rfl, rfl⟩ (by kernel_rfl) rfl
    (fun f fn hf hfn => by
      obtain rfl : f = 3 := Option.some.inj ((show Tryz.prog.funcNamed "pavane/pavanelaw12.ProofLong" = some 3 by kernel_rfl).symm.trans hf) |>.symm
      obtain rfl : fn = Tryz.f3 := (Option.some.inj (Tryz.func3.symm.trans hfn)).symm
      exact ⟨by kernel_rfl, fun j t ht => by
        rw [Tryz.params3] at ht
        have h3 : t = 22 := by
          rcases j with _ | j
          · simpa using ht.symm
          · simp at ht
        subst h3
        exact (show Tryz.prog.wantsStandIn 22 = false by kernel_rfl)⟩)
    (by kernel_rfl)
end Go.Proofs.YtlcofdgaidlldaaGreatDoor
