/- A region that draws its order, in a round of a loop over a function: by the law of the held region, unfenced. Contracts: slices.Backward over ints, for every loop body that keeps what lay. What lies in cells hangs on cells alone: a footprint without the blocks that are no cells. Contract: rule.beta. The walk's conditions: the parameters' memory; a callee; a lambda's body. -/
import Derived.Test.YtegolcblbpeoeaaGreatDoorZn
import Derived.Test.YtegolcblbpeoeaaGreatDoorZp
namespace Go.Proofs.YtegolcblbpeoeaaGreatDoor
open Go.RowKit Go.Shelf Go.Proofs.YtegolcblbpeoeaaGreatDoorW.PrintWords
set_option linter.unusedVariables false
/-- It ends, and thus. -/
def NQ (R : Act → World → Prop) : Exit → Act → World → Prop
  | .normal, a, w => R a w
  | _, _, _ => False
/-- No operation is put off. -/
def noDefer (ops : Array Oper) : Bool := ops.all fun o => match o.op with | .defer _ => false | _ => true
theorem noDefer_at {ops : Array Oper} (h : noDefer ops = true) {i : Nat} {o : Oper} (ho : ops[i]? = some o) : ∀ c, o.op ≠ .defer c := fun c hc => by
  have h1 := (Array.all_eq_true_iff_forall_mem.1 h) o (Array.mem_of_getElem? ho)
  rw [hc] at h1
  cases h1
theorem not_letsOut (R : Act → World → Prop) : ¬ LetsOut (NQ R) := fun ⟨_, _, h⟩ => h
theorem uponIn_of_upon {P : Program} {n l : Nat} {o : Oper} {a : Act} {K K' R : Act → World → Prop} {Q : Exit → Act → World → Prop} (hK : ∀ a w, K a w → K' a w) :
    ∀ r : Result Next, o.upon P a K (NQ R) r → o.uponIn (Fence.wide.inRound l) n P a K' Q r := by
  intro r h
  cases r with
  | ok x w' =>
    cases x with
    | value v => exact hK _ _ h
    | skip => exact hK _ _ h
    | defer d => exact hK _ _ h
    | enter f args =>
      refine ⟨fun hh => (by cases hh), CallsIn.inRound l (CallsIn.mono (callsIn_wide.2 h) fun e w'' he => ?_)⟩
      cases e with
      | returned v => exact hK _ _ he
      | panicked c => exact he.elim
      | outgrown => exact absurd he (not_letsOut R)
    | row row args =>
      refine ⟨fun hh => (by cases hh), fun c cs _ => ?_⟩
      obtain ⟨v, w2, hr, hs⟩ := h c cs
      exact ⟨v, w2, hK _ _ hr, stepsIn_wide.2 hs⟩
    | _ => exact absurd h (by simp [Oper.upon])
  | halt x w' =>
    cases x with
    | panic v => exact h.elim
    | _ => exact absurd h (by simp [Oper.upon])
theorem wpOpsIn_of_wpOps {P : Program} {n l : Nat} {ops : Array Oper} {R : Act → World → Prop} {Q : Exit → Act → World → Prop} (hd : noDefer ops = true) (hQ : ∀ a w, R a w → Q .normal a w) :
    ∀ (is : List Nat) (a : Act) (w : World), wpOps P ops (NQ R) is a w → wpOpsIn (Fence.wide.inRound l) n P ops Q is a w
  | [], a, w, h => hQ _ _ h
  | i :: is, a, w, h => by
    unfold wpOps at h
    unfold wpOpsIn
    cases ho : ops[i]? with
    | none => rw [ho] at h; exact wpOpsIn_of_wpOps hd hQ is a w h
    | some o =>
      rw [ho] at h
      dsimp only at h ⊢
      by_cases hw : Region.wanted o (yielded ops a.tmps) = true
      · rw [if_pos hw] at h ⊢
        rcases h with h | h
        · refine ⟨fun _ _ => trivial, ?_⟩
          rw [Oper.semAt_eq _ _ o (noDefer_at hd ho)]
          exact uponIn_of_upon (fun a w => wpOpsIn_of_wpOps hd hQ is a w) _ h
        · exact absurd h.2 (not_letsOut R)
      · rw [if_neg hw] at h ⊢
        exact ⟨fun _ _ => trivial, wpOpsIn_of_wpOps hd hQ is _ _ h⟩
/-- The held region's law, in a round. -/
theorem wpIn_region_held {P : Program} {n l id : Nat} {ops : Array Oper} {S : World → Prop} {Q : Exit → Act → World → Prop} {a : Act} {w : World} (hm : P.follows .mixedOrders = true) (hd : noDefer ops = true) (hS : S w.drew)
    (h : S w.drew → wpAnyH P .any ops (NQ (Q .normal)) S ops.size (Array.replicate ops.size false) a w.drew) : (Code.region id ops true).wpIn (Fence.wide.inRound l) n P Q a w :=
  wpIn_region_draw fun t => by
    simp only [Region.schedule, hm, Bool.true_or, if_true]
    exact wpOpsIn_of_wpOps hd (fun _ _ h => h) _ _ _ (wpAny_sound ops.size t _ a _ (wpAny_of_held _ _ _ _ (h hS)))
end Go.Proofs.YtegolcblbpeoeaaGreatDoor
namespace Go.Proofs.YtegolcblbpeoeaaGreatDoor
open Go.RowKit Go.Shelf Go.Proofs.YtegolcblbpeoeaaGreatDoorW.PrintWords
set_option linter.unusedVariables false
set_option linter.unusedSimpArgs false
attribute [local go_sem] Oper.semAt_some
/-- A place in a row. -/
abbrev BK (vs : List Int) := { k : Nat // k < vs.length }
abbrev BK.encs {vs : List Int} (x : BK vs) : Array Value := #[.int .i64 (x.1 : Nat), .int .i64 (vs.getD x.1 0)]
/-- The places from behind, down to k. -/
def downTo (n k : Nat) : List Nat := ((List.range n).drop k).reverse
theorem downTo_top (n : Nat) : downTo n n = [] := by simp [downTo]
theorem downTo_zero (n : Nat) : downTo n 0 = (List.range n).reverse := by simp [downTo]
theorem downTo_succ {n k : Nat} (h : k < n) : downTo n k = downTo n (k + 1) ++ [k] := by
  unfold downTo
  rw [List.drop_eq_getElem_cons (by simpa using h), List.reverse_cons]
  simp
theorem downTo_len {n k : Nat} : (downTo n k).length = n - k := by simp [downTo]
theorem downTo_prefix (n k : Nat) : downTo n k <+: (List.range n).reverse := by
  rw [downTo, List.reverse_prefix]
  exact List.drop_suffix _ _
set_option maxRecDepth 100000 in
set_option maxHeartbeats 2000000 in
theorem backward1_in (F : Fence) (hd : F.depth = none) (hF : F.fn 100) (hro : F.round = none) (n l Bs : Nat) (w0 : World) (n₁ : Nat) (vs : List Int) (A : Option Addr) (c : Nat) (hA : (Kd.int .i64).C w0 A vs.length vs) (J Jx : List (BK vs) → World → Prop)
    (hY : ∀ pre (x1 : BK vs) W, J pre W → pre.length < vs.length → YieldAt F (n - 1) Tryz.prog l x1.encs W fun e W' =>
      (e = .returned (.bool true) ∧ J (pre ++ [x1]) W' ∧ Keeps w0.heap.size n₁ W W') ∨ (e = .returned (.bool false) ∧ Jx (pre ++ [x1]) W'))
    (W : World) (hb0 : Below w0.heap.size w0 W) (hn : n₁ ≤ Bs) (hBs : W.cell? ⟨Bs, 0, none⟩ = some (.slice A vs.length c)) (h0 : J [] W) :
    CallsIn F n Tryz.prog 100 #[.func (.yield l) #[] #[], .pointer (some ⟨Bs, 0, none⟩)] W fun e W' => (∃ v, e = .returned v) ∧
      ((∃ ys : List (BK vs), ys.map (·.1) = (List.range vs.length).reverse ∧ J ys W') ∨ (∃ pre : List (BK vs), pre.map (·.1) <+: (List.range vs.length).reverse ∧ Jx pre W')) := by
  have hdd : ∀ k : Nat, (F.depth.isSome = true → 1 ≤ k) := fun k h => by rw [hd] at h; cases h
  have HA := Lib.hid hA
  have HY := Lib.hid hY
  have hm := Kd.C_max hA
  clear hA hY
  refine callsIn_of_wp Tryz.func100 rfl hF ?_ hro
  simp only [Tryz.ntmps100, List.size_toArray, List.length_cons, List.length_nil, Nat.reduceAdd, Nat.reduceSub, Array.replicate_succ, Array.replicate_zero, List.push_toArray, List.append_toArray, List.nil_append, List.cons_append]
  gi_wp2
  gi_loopw [3] (fun v3 wr => ∃ k : Nat, k ≤ vs.length ∧ v3 = .int .i64 ((k : Int) - 1) ∧ (∃ pre : List (BK vs), Hid (pre.map (·.1) = downTo vs.length k) ∧ J pre wr) ∧ Keeps w0.heap.size n₁ W wr) (fun v3 _ => (intOf v3 + 1).toNat)
  case atStart => exact ⟨vs.length, Nat.le_refl _, by go_num, ⟨[], Lib.hid (by rw [downTo_top]; rfl), h0⟩, Keeps.refl _ _ _⟩
  case round =>
    obtain ⟨k, hk, rfl, ⟨pre, HP, hJ⟩, hkp⟩ := hrel
    rcases k with _ | k
    · gi_wp2
      go_end0
      exact ⟨⟨_, rfl⟩, .inl ⟨pre, by rw [HP.out, downTo_zero], hJ⟩⟩
    · have hkl : k < vs.length := by omega
      obtain ⟨ad, hAd, hc⟩ := elI HA.out hkl
      subst hAd
      have hc2 := pw_cell_below (hb0.trans hkp.below) hc
      have hBs2 := hkp.cell (p := ⟨Bs, 0, none⟩) hn hBs
      obtain ⟨fn, tmps, assign, body, hy, hR⟩ := HY.out pre ⟨k, hkl⟩ wr hJ (by have := congrArg List.length HP.out; rw [List.length_map, downTo_len] at this; omega)
      have HS1 := Lib.hid (downTo_succ (n := vs.length) (k := k) (by omega))
      have hi0 : (0 : Int) ≤ (k : Int) := by omega
      have hi1 : (k : Int) < (vs.length : Int) := by omega
      obtain ⟨X0, hX0⟩ : ∃ X0 : BK vs, X0 = ⟨k, hkl⟩ := ⟨_, rfl⟩
      have HX0 := Lib.hid (show X0.1 = k by rw [hX0])
      rw [← hX0] at hR
      simp only [BK.encs] at hy
      simp only [show ((k + 1 : Nat) : Int) - 1 = (k : Int) by omega]
      obtain ⟨v, hv⟩ : ∃ v, v = vs.getD k 0 := ⟨_, rfl⟩
      rw [← hv] at hc2 hy
      clear hX0 hc hBs hv
      gi_wp2_with ((try refine ⟨hdd _, ?_⟩); refine hR.mono ?_; clear hR; rintro e W3 (⟨rfl, hJ3, hk3⟩ | ⟨rfl, hJx3⟩))
      · go_roundw
        case rel => exact ⟨k, by omega, by go_num, ⟨pre ++ [X0], Lib.hid (by rw [List.map_append, HP.out, HS1.out]; simp [HX0.out]), hJ3⟩, hkp.trans hk3⟩
        case measure => simp [intOf]
      · refine bodyPost_ret (results_none rfl _ _ _) rfl ?_
        exact ⟨⟨_, rfl⟩, .inr ⟨pre ++ [X0], by rw [List.map_append, HP.out]; simp only [List.map_cons, List.map_nil, HX0.out]; rw [← HS1.out]; exact downTo_prefix _ _, hJx3⟩⟩
set_option maxHeartbeats 1000000 in
theorem Backward_calls (A : Option Addr) (n c : Nat) (w : World) : Calls Tryz.prog 62 #[.slice A n c] w fun e w' => e = .returned (.func (.func 100) #[] #[.pointer (some ⟨w.heap.size, 0, none⟩)]) ∧ w' = w.alloc (.cells #[.slice A n c] 28) := by
  go_enter Tryz.func62, Tryz.ntmps62
  go_wp2
  go_ret
  exact ⟨rfl, rfl⟩
theorem backward_stops (F : Fence) (hd : F.depth = none) (hF : F.fn 100) (hro : F.round = none) (n Bs : Nat) (w0 : World) (n₁ : Nat) (vs : List Int) (A : Option Addr) (c : Nat) (w : World) (hA : (Kd.int .i64).C w0 A vs.length vs) (hb0 : Below w0.heap.size w0 w) (hn : n₁ ≤ Bs) (hBs : Bs < w.heap.size)
    (hc : w.cell? ⟨Bs, 0, none⟩ = some (.slice A vs.length c)) :
    SeqStopsK F n Tryz.prog 100 #[.pointer (some ⟨Bs, 0, none⟩)] (BK.encs (vs := vs)) (Keeps w0.heap.size n₁) (fun ys => ys.map (·.1) = (List.range vs.length).reverse) (fun pre => pre.map (·.1) <+: (List.range vs.length).reverse) vs.length w := fun l J Jx W hW _ _ hY h0 =>
  backward1_in F hd hF hro n l Bs w0 n₁ vs A c hA J Jx hY W (hb0.trans (hW.mono hb0.size)) hn (pw_cell_below hW hc) h0
end Go.Proofs.YtegolcblbpeoeaaGreatDoor
namespace Go.Proofs.YtegolcblbpeoeaaGreatDoor
open Go.RowKit Go.Shelf Go.Proofs.YtegolcblbpeoeaaGreatDoorW.PrintWords
set_option linter.unusedVariables false
theorem C_cells {α : Type} {d : Kd α} {W W' : World} {A : Option Addr} {n : Nat} {xs : List α} (hc : ∀ p v, W.cell? p = some v → W'.cell? p = some v) (hR : ∀ x, x ∈ xs → ∀ c, d.K W x c → d.K W' x c) (h : d.C W A n xs) : d.C W' A n xs :=
  ⟨h.1, h.2.1, fun hn => by
    obtain ⟨ad, e, hj⟩ := h.2.2 hn
    exact ⟨ad, e, fun j p hp => by
      obtain ⟨c, h1, h2, h3⟩ := hj j p hp
      exact ⟨c, h1, hR p (List.mem_of_getElem? hp) c h2, fun i u hu => hc _ _ (h3 i u hu)⟩⟩⟩
theorem kD_cells {W W' : World} (hc : ∀ p v, W.cell? p = some v → W'.cell? p = some v) : ∀ (n : Nat) (x : Dt), SizeOf.sizeOf x < n → ∀ c, kD.K W x c → kD.K W' x c
  | 0, x, h, _, _ => by omega
  | n + 1, x, h, c, hk => by
    obtain ⟨A2, c2, A5, c5, A6, c6, rfl, l2, g2, l5, g5, l6, g6⟩ := kD_open hk
    have hs : ∀ y, y ∈ x.items ∨ y ∈ x.tail → SizeOf.sizeOf y < n := fun y hy => by
      have h1 : y ∈ x.items → SizeOf.sizeOf y < SizeOf.sizeOf x.items := List.sizeOf_lt_of_mem
      have h2 : y ∈ x.tail → SizeOf.sizeOf y < SizeOf.sizeOf x.tail := List.sizeOf_lt_of_mem
      cases x
      simp only [Dt.mk.sizeOf_spec] at *
      rcases hy with hy | hy
      · have := h1 hy; omega
      · have := h2 hy; omega
    exact kD_mk W' x l2 (C_cells hc (fun _ _ _ h => h) g2) l5 (C_cells hc (fun y hy => kD_cells hc n y (hs y (.inl hy))) g5) l6 (C_cells hc (fun y hy => kD_cells hc n y (hs y (.inr hy))) g6)
theorem kE_cells {W W' : World} (hc : ∀ p v, W.cell? p = some v → W'.cell? p = some v) : ∀ (n : Nat) (x : Ex), SizeOf.sizeOf x < n → ∀ c, kE.K W x c → kE.K W' x c
  | 0, x, h, _, _ => by omega
  | n + 1, x, h, c, hk => by
    obtain ⟨A3, c3, A6, c6, A7, c7, A9, c9, A12, c12, rfl, l3, g3, l6, g6, l7, g7, l9, g9, l12, g12⟩ := kE_open hk
    have hs : ∀ y, y ∈ x.kids → SizeOf.sizeOf y < n := fun y hy => by
      have h1 := List.sizeOf_lt_of_mem hy
      cases x
      simp only [Ex.mk.sizeOf_spec] at *
      omega
    have hd : ∀ y : Dt, ∀ c, kD.K W y c → kD.K W' y c := fun y => kD_cells hc (SizeOf.sizeOf y + 1) y (Nat.lt_succ_self _)
    exact kE_mk W' x l3 (C_cells hc (fun _ _ _ h => h) g3) l6 (C_cells hc (fun y _ => hd y) g6) l7 (C_cells hc (fun y _ => hd y) g7) l9 (C_cells hc (fun _ _ _ h => h) g9) l12 (C_cells hc (fun y hy => kE_cells hc n y (hs y hy)) g12)
/-- W', but what is no cells in W lies as there. -/
def mixW (W W' : World) : World := { W' with heap := Array.ofFn (n := max W.heap.size W'.heap.size) fun i =>
  match W.heap[i.1]? with
  | some o => if o.isCells then (W'.heap[i.1]?).getD (.deferred none) else o
  | none => (W'.heap[i.1]?).getD (.deferred none) }
theorem mixW_at {W W' : World} {k : Nat} (hk : k < W.heap.size) : (mixW W W').heap[k]? = some (if (W.heap[k]).isCells then (W'.heap[k]?).getD (.deferred none) else W.heap[k]) := by
  unfold mixW
  simp only [Array.getElem?_ofFn]
  rw [dif_pos (by omega)]
  simp [hk]
theorem mixW_cells {W W' : World} (p : Addr) (v : Value) (h : (mixW W W').cell? p = some v) : W'.cell? p = some v := by
  obtain ⟨o, ho, hc⟩ := isCells_of_cell h
  rw [← h]
  refine World.cell?_of_block ?_
  rw [ho]
  unfold mixW at ho
  simp only [Array.getElem?_ofFn] at ho
  split at ho
  · have ho := Option.some.inj ho
    have key : (W'.heap[p.block]?).getD (.deferred none) = o → W'.heap[p.block]? = some o := fun e => by
      cases hw : W'.heap[p.block]? with
      | none => rw [hw] at e; subst e; cases hc
      | some o' => rw [hw] at e; exact congrArg some e
    split at ho
    · split at ho
      · exact key ho
      · rename_i hn; rw [ho] at hn; exact absurd hc hn
    · exact key ho
  · cases ho
/-- A footprint, without the blocks that are no cells. -/
theorem FK_cells {W : World} {ok : Nat → Prop} {x : Ex} {cs : List Value} (h : Kd.FK kE W ok x cs) : Kd.FK kE W (fun k => ok k ∧ ∃ o : Obj, W.heap[k]? = some o ∧ o.isCells = true) x cs := fun W' hW => by
  refine kE_cells (W := mixW W W') (fun p v => mixW_cells p v) (SizeOf.sizeOf x + 1) x (Nat.lt_succ_self _) cs (h (mixW W W') fun k hk hlt => ?_)
  rw [mixW_at hlt]
  by_cases hc : (W.heap[k]).isCells = true
  · rw [if_pos hc, hW k ⟨hk, _, Array.getElem?_eq_getElem hlt, hc⟩ hlt, Array.getElem?_eq_getElem hlt]; rfl
  · rw [if_neg hc, Array.getElem?_eq_getElem hlt]
/-- What lies in a block of its own, for a loop over a function. -/
theorem ownFK {β : Type} (B g : Nat) (t : TypeId) (ok : Nat → Prop) (f : β → Ex) : OwnFrom B (fun (s : β) W => ∃ cz, BX t W g cz ∧ Kd.FK kE W ok (f s) cz) := fun s X Y row ⟨cz, hz, hk⟩ hg hr => by
  refine ⟨cz, hz.kept hg (fun e => ?_), Kd.FK_mono (Kd.FK_grown (FK_cells hk) hg (fun k hk' e => ?_)) (fun _ h => h.1)⟩
  · obtain ⟨_, o, ho, hc⟩ := hr g e.symm
    rw [show X.heap[g]? = _ from hz] at ho
    cases ho; cases hc
  · obtain ⟨_, o, ho, hc⟩ := hr k e.symm
    obtain ⟨_, o', ho', hc'⟩ := hk'
    rw [ho] at ho'; cases ho'
    rw [hc] at hc'; cases hc'
end Go.Proofs.YtegolcblbpeoeaaGreatDoor
namespace Go.Proofs.YtegolcblbpeoeaaGreatDoor
open Go.RowKit Go.Shelf Go.Proofs.YtegolcblbpeoeaaGreatDoorW.PrintWords
set_option linter.unusedVariables false
set_option linter.unusedSimpArgs false
attribute [local go_sem] Oper.semAt_some
section
variable {P : Program} {ops : Array Oper} {a : Act} {w W : World} {o : Oper} {K : Act → World → Prop} {Q : Exit → Act → World → Prop} {F : Fence} {nF : Nat} {rest : List Oper}
/-- A struct is read in a drawn region, when nothing else may come up. -/
theorem step_ld (hw : Region.wanted o (yielded ops a.tmps) = true) (N : Tmp) (hN : o.dst = some N) (t : TypeId) (x : Operand) (ho : o.op = .load t x) (ad : Addr) (hx : a.eval x = .pointer (some ad)) (cs : List Value) (d : TypeDesc)
    (hc : ∀ j u, cs[j]? = some u → w.cell? (ad.add j) = some u)
    (hu : P.underlying t = some d) (hd : (match d with | .struct _ | .array _ _ => true | _ => false) = true) (hi : (P.info? t).map (·.size) = some cs.length)
    (h : K (a.put (some N) (.agg cs.toArray)) w) : if Region.wanted o (yielded ops a.tmps) = true then Oper.wp P o a w K Q else K (a.put o.dst undef) w := by
  rw [if_pos hw]
  unfold Oper.wp execOp
  simp only [ho, hx, Instr.loadAt, Instr.sureAddr, Sem.run_bind, Sem.run_pure, Result.andThen_ok, run_load_list w ad t cs d hc hu hd hi]
  rw [← hN] at h
  exact h
/-- A struct is stored into a block of its own, inside a fence. -/
theorem store_bxIn {t : TypeId} {w : World} {g : Nat} {c : List Value} (H : BX t w g c) (N : Option Tmp) (hN : o.dst = N) (hgd : o.guard = none) (x y : Operand) (ho : o.op = .store t x y) (cs : List Value) (hx : a.eval x = .pointer (some ⟨g, 0, none⟩)) (hy : a.eval y = .agg cs.toArray)
    (hi : (P.info? t).map (·.size) = some cs.length) (hc : c.length = cs.length) (h1 : ∀ u ∈ cs, u.oneCell' = true)
    (h : ∀ w', BX t w' g cs → w.grownBy w' (some g) → wpListIn F nF P ops Q rest (a.put N undef) w') : wpListIn F nF P ops Q (o :: rest) a w := by
  refine wpListIn_plain hgd fun K hK => ?_
  unfold Oper.wpIn
  refine ⟨by simp [Oper.about, ho], ?_⟩
  rw [Oper.semAt_plain F _ _ (by rw [ho]; intro c hc'; cases hc')]
  unfold execOp
  simp only [ho, hx, hy, Instr.storeAt, Instr.sureAddr, Sem.run_bind, Sem.run_pure, Result.andThen_ok, run_storeVar_row w g t t c.toArray cs.toArray H (by simpa using hi) (by simpa using hc) (by rw [List.all_toArray, List.all_eq_true]; exact h1)]
  have hh := h (w.setRow g cs.toArray) (setRow_heap w g _ _ _ _ H) (grown_setRow w g _)
  rw [← hN] at hh
  exact hK _ _ hh
end
theorem BX.under {t : TypeId} {w w' : World} {g n : Nat} {c : List Value} (h : BX t w g c) (hb : Below n w w') (hg : g < n) : BX t w' g c := (hb.block g hg).trans h
/-- Beta: the callee's variables bound to the arguments, from behind. -/
def betaL (f : Ex) (ks : List Ex) (l : List Nat) : Ex := l.foldl (fun y k => letE (f.vars.getD k 0) (rdE ks (k + 1 : Nat)) y) (rdE f.kids 0)
def betaOK (x : Ex) : Bool := (rdE x.kids 0).kind == 5 && !(rdE x.kids 0).rest && (rdE x.kids 0).vars.length + 1 == x.kids.length
set_option maxRecDepth 100000 in
set_option maxHeartbeats 8000000 in
theorem beta_calls (x : Ex) (cs cp : List Value) (w : World) (ok : Nat → Prop) (hok : ∀ k, ok k → k < w.heap.size) (hx : Kd.FK kE w ok x cs) (hk : 0 < x.kids.length) (hkb : (rdE x.kids 0).kind = 5 → 0 < (rdE x.kids 0).kids.length) (hyes : betaOK x = true) :
    Calls Tryz.prog 35 #[.agg cp.toArray, .agg cs.toArray] w fun e w' => ∃ cs', e = .returned (.tuple #[.agg cs'.toArray, .bool true]) ∧ Kd.FK kE w' (okN ok w.heap.size) (betaL (rdE x.kids 0) x.kids (List.range (rdE x.kids 0).vars.length).reverse) cs' ∧ Below w.heap.size w w' := by
  have HXl := Lib.hid (kE_len (Kd.FK_now hx))
  have HX1 := Lib.hid (kE.K_one (Kd.FK_now hx))
  have HX := Lib.hid hx
  have HO := Lib.hid hok
  obtain ⟨A3, c3, A6, c6, A7, c7, A9, c9, A12, c12, he, l3, g3, l6, g6, l7, g7, l9, g9, l12, g12⟩ := kE_openF hx
  have hc12 : cs[12]? = some (.slice A12 x.kids.length c12) := by rw [he]; rfl
  have hm12 := Kd.F_max g12
  have HG12 := Lib.hid g12
  have hP0 : Below w.heap.size w (((w.alloc (.cells cp.toArray 33)).alloc (.cells cs.toArray 31)).alloc (.cells zEc.toArray 31)) := below_alloc (below_alloc (below_alloc (Below.refl _ _) _) _) _
  have hB0 : BX 31 (((w.alloc (.cells cp.toArray 33)).alloc (.cells cs.toArray 31)).alloc (.cells zEc.toArray 31)) (w.heap.size + 1) cs := by simpa using (BX.new (t := 31) (w.alloc (.cells cp.toArray 33)) cs).alloc (.cells zEc.toArray 31)
  have hR0 : BX 31 (((w.alloc (.cells cp.toArray 33)).alloc (.cells cs.toArray 31)).alloc (.cells zEc.toArray 31)) (w.heap.size + 1 + 1) zEc := by simpa using BX.new (t := 31) ((w.alloc (.cells cp.toArray 33)).alloc (.cells cs.toArray 31)) zEc
  obtain ⟨ad, c0, hA, hK0, hcc0⟩ := elEF g12 hk
  subst hA
  obtain ⟨f, hf⟩ : ∃ f, f = rdE x.kids ((0 : Nat) : Int) := ⟨_, rfl⟩
  have hyes1 : (f.kind == 5) = true ∧ f.rest = false ∧ f.vars.length + 1 = x.kids.length := by
    rw [hf]
    simpa [betaOK, and_assoc] using hyes
  obtain ⟨hf5, hfr, hfn⟩ := hyes1
  have hkb1 : 0 < f.kids.length := by rw [hf]; exact hkb (by rw [hf] at hf5; simpa using hf5)
  have HRES := Lib.hid (show betaL (rdE x.kids 0) x.kids (List.range (rdE x.kids 0).vars.length).reverse = betaL f x.kids (List.range f.vars.length).reverse by rw [hf]; rfl)
  rw [HRES.out]
  rw [← hf] at hK0
  have hq12 := hB0.cell hc12
  have hl0 := Lib.hid (kE_len (Kd.FK_now hK0))
  have ho0 := Lib.hid (kE.K_one (Kd.FK_now hK0))
  have HC0 : Hid (∀ j u, c0[j]? = some u → (((w.alloc (.cells cp.toArray 33)).alloc (.cells cs.toArray 31)).alloc (.cells zEc.toArray 31)).cell? (ad.add j) = some u) := Lib.hid (fun j u h => pw_cell_below hP0 (hcc0 j u h))
  obtain ⟨D3, e3, D6, e6, D7, e7, D9, e9, D12, e12, hce, m3, j3, m6, j6, m7, j7, m9, j9, m12, j12⟩ := kE_openF hK0
  obtain ⟨ad2, cb, hA2, hKb, hccb⟩ := elEF j12 hkb1
  subst hA2
  have hk00 : c0[0]? = some (.int .i64 f.kind) := by rw [hce]; rfl
  have hk09 : c0[9]? = some (.slice D9 f.vars.length e9) := by rw [hce]; rfl
  have hk010 : c0[10]? = some (.bool f.rest) := by rw [hce]; rfl
  have hk012 : c0[12]? = some (.slice (some ad2) f.kids.length e12) := by rw [hce]; rfl
  have hF1 : BX 31 ((((w.alloc (.cells cp.toArray 33)).alloc (.cells cs.toArray 31)).alloc (.cells zEc.toArray 31)).alloc (.cells c0.toArray 31)) (w.heap.size + 1 + 1 + 1) c0 := by simpa using BX.new (t := 31) (((w.alloc (.cells cp.toArray 33)).alloc (.cells cs.toArray 31)).alloc (.cells zEc.toArray 31)) c0
  have hF2 := hF1.alloc (.cells cb.toArray 31)
  have qf0 := hF1.cell hk00
  have qf9 := hF1.cell hk09
  have qf10 := hF1.cell hk010
  have qf12 := hF1.cell hk012
  have pf9 := hF2.cell hk09
  have hq121 := (hB0.alloc (.cells c0.toArray 31)).cell hc12
  have hlb := Lib.hid (kE_len (Kd.FK_now hKb))
  have hob := Lib.hid (kE.K_one (Kd.FK_now hKb))
  have HKb := Lib.hid hKb
  have HCb : Hid (∀ j u, cb[j]? = some u → ((((w.alloc (.cells cp.toArray 33)).alloc (.cells cs.toArray 31)).alloc (.cells zEc.toArray 31)).alloc (.cells c0.toArray 31)).cell? (ad2.add j) = some u) := Lib.hid (fun j u h => pw_cell_below (below_alloc hP0 _) (hccb j u h))
  have HV := Lib.hid j9
  have hmv := Kd.F_max j9
  have hn0 := hk
  have hi0 : (0 : Int) < (x.kids.length : Int) := by omega
  have hi1 : (0 : Int) < (f.kids.length : Int) := by omega
  have hf5n : (f.kind != 5) = false := by simp [bne, hf5]
  have hnn : (f.vars.length : Int) = (x.kids.length : Int) - 1 := by omega
  clear he hx hok hyes hkb g3 g6 g7 g9 g12 l3 l6 l7 l9 hf hK0 hce m3 j3 m6 j6 m7 j7 m9 j9 m12 j12 hKb hcc0 hccb
  rw [hfr] at qf10
  refine (callsIn_wide (n := 9)).1 ?_
  have h1 : (1 : Nat) ≤ 9 := by decide
  refine callsIn_of_wp_marks Tryz.func35 rfl trivial ?_ rfl
  simp only [Tryz.ntmps35, List.size_toArray, List.length_cons, List.length_nil, Nat.reduceAdd, Nat.reduceSub, Array.replicate_succ, Array.replicate_zero, List.push_toArray, List.append_toArray, List.nil_append, List.cons_append]
  gi_wp2_with (first
    | ((with_reducible refine load_listIn 13 rfl ?_ 31 _ rfl ad ?_ c0 _ HC0.out Tryz.underlying31 ?_ ?_ ?_); (case _ => rfl); (case _ => rfl); (case _ => rfl); (case _ => rw [hl0.out]; exact size31'))
    | ((with_reducible refine store_newIn _ none rfl ?_ 31 _ _ rfl _ c0 ?_ ?_ ?_ ?_ ?_ ?_); (case _ => rfl); (case _ => simp only [World.size_alloc]; rfl); (case _ => rfl); (case _ => rw [hl0.out]; exact size31'); (case _ => rw [hl0.out]; rfl); (case _ => rw [List.all_eq_true]; exact ho0.out))
    | ((with_reducible refine load_listIn 35 rfl ?_ 31 _ rfl ad2 ?_ cb _ HCb.out Tryz.underlying31 ?_ ?_ ?_); (case _ => rfl); (case _ => rfl); (case _ => rfl); (case _ => rw [hlb.out]; exact size31'))
    | ((with_reducible refine store_newIn _ none rfl ?_ 31 _ _ rfl _ cb ?_ ?_ ?_ ?_ ?_ ?_); (case _ => rfl); (case _ => simp only [World.size_alloc]; rfl); (case _ => rfl); (case _ => rw [hlb.out]; exact size31'); (case _ => rw [hlb.out]; rfl); (case _ => rw [List.all_eq_true]; exact hob.out))
    | (refine ⟨trivial, ?_⟩; gi_at_call 62; refine (callsIn_wide.2 (Backward_calls _ _ _ _)).mono ?_; rintro e w' ⟨rfl, rfl⟩))
  have hB3 := ((hB0.alloc (.cells c0.toArray 31)).alloc (.cells cb.toArray 31)).alloc (.cells #[.slice D9 f.vars.length e9] 28)
  have hR3 := ((hR0.alloc (.cells c0.toArray 31)).alloc (.cells cb.toArray 31)).alloc (.cells #[.slice D9 f.vars.length e9] 28)
  have hT3 : BX 31 ((((((w.alloc (.cells cp.toArray 33)).alloc (.cells cs.toArray 31)).alloc (.cells zEc.toArray 31)).alloc (.cells c0.toArray 31)).alloc (.cells cb.toArray 31)).alloc (.cells #[.slice D9 f.vars.length e9] 28)) (w.heap.size + 1 + 1 + 1 + 1) cb := by simpa using (BX.new (t := 31) ((((w.alloc (.cells cp.toArray 33)).alloc (.cells cs.toArray 31)).alloc (.cells zEc.toArray 31)).alloc (.cells c0.toArray 31)) cb).alloc (.cells #[.slice D9 f.vars.length e9] 28)
  have hs3 : ((((((w.alloc (.cells cp.toArray 33)).alloc (.cells cs.toArray 31)).alloc (.cells zEc.toArray 31)).alloc (.cells c0.toArray 31)).alloc (.cells cb.toArray 31)).alloc (.cells #[.slice D9 f.vars.length e9] 28)).heap.size = w.heap.size + 6 := by simp
  have hW3 : Below w.heap.size w ((((((w.alloc (.cells cp.toArray 33)).alloc (.cells cs.toArray 31)).alloc (.cells zEc.toArray 31)).alloc (.cells c0.toArray 31)).alloc (.cells cb.toArray 31)).alloc (.cells #[.slice D9 f.vars.length e9] 28)) := below_alloc (below_alloc (below_alloc hP0 _) _) _
  have hS3 : ((((((w.alloc (.cells cp.toArray 33)).alloc (.cells cs.toArray 31)).alloc (.cells zEc.toArray 31)).alloc (.cells c0.toArray 31)).alloc (.cells cb.toArray 31)).alloc (.cells #[.slice D9 f.vars.length e9] 28)).cell? ⟨w.heap.size + 1 + 1 + 1 + 1 + 1, 0, none⟩ = some (.slice D9 f.vars.length e9) := by
    have := new_cells (((((w.alloc (.cells cp.toArray 33)).alloc (.cells cs.toArray 31)).alloc (.cells zEc.toArray 31)).alloc (.cells c0.toArray 31)).alloc (.cells cb.toArray 31)) [.slice D9 f.vars.length e9] 28 0 _ rfl
    simp only [World.size_alloc] at this
    exact this
  obtain ⟨W0, hW0e⟩ : ∃ W0, W0 = ((((((w.alloc (.cells cp.toArray 33)).alloc (.cells cs.toArray 31)).alloc (.cells zEc.toArray 31)).alloc (.cells c0.toArray 31)).alloc (.cells cb.toArray 31)).alloc (.cells #[.slice D9 f.vars.length e9] 28)) := ⟨_, rfl⟩
  rw [← hW0e] at hB3 hR3 hT3 hs3 hW3 hS3 ⊢
  clear hW0e hq12 hq121 qf0 qf9 qf10 qf12 pf9 hF1 hF2 HC0 HCb hP0 hB0 hR0
  have HS := Lib.hid (backward_stops Fence.wide rfl trivial rfl (9 - 1) (w.heap.size + 1 + 1 + 1 + 1 + 1) w (w.heap.size + 5) f.vars D9 e9 W0 (Kd.F_now HV.out) hW3 (by omega) (by omega) hS3)
  refine wpIn_rangeFunc_ownH rfl h1 (gf := 100) (lb := #[.pointer (some ⟨w.heap.size + 1 + 1 + 1 + 1 + 1, 0, none⟩)]) rfl trivial (enters_of Tryz.func100 (by kernel_rfl) rfl)
    HS.out (fun h k => h.trans k) (Keeps.putObj (by omega)) (Below.refl _ _) (fun _ => rfl)
    (fun pre W => (∃ cz, BX 31 W (w.heap.size + 1 + 1 + 1 + 1) cz ∧ Kd.FK kE W (fun k => okN ok (w.heap.size + 1 + 1 + 1 + 1) k ∧ k ≠ w.heap.size + 1 + 1 + 1 + 1) (betaL f x.kids (pre.map (·.1))) cz) ∧ Below (w.heap.size + 1 + 1 + 1 + 1) W0 W)
    (fun c pre W => False)
    (OwnFrom.and (ownFK _ _ _ _ _) (ownFrom_below (by omega) (by omega)))
    (fun c => ownFrom_pure _ _)
    ⟨⟨cb, hT3, Kd.FK_mono (Kd.FK_below HKb.out hW3) (fun q hq => ⟨.inl hq, fun e => by have := HO.out q hq; omega⟩)⟩, Below.refl _ _⟩
    (fun x1 a' W => a' = { tmps := #[Value.agg cp.toArray, .agg cs.toArray, .pointer (some ⟨w.heap.size, 0, none⟩), .pointer (some ⟨w.heap.size + 1, 0, none⟩), .pointer (some ⟨w.heap.size + 1 + 1, 0, none⟩), .bool false, .pointer (some ⟨w.heap.size + 1 + 1 + 1, 0, none⟩), .pointer (some ⟨w.heap.size + 1 + 1 + 1 + 1, 0, none⟩), .int .i64 (x1.1 : Nat), .int .i64 (f.vars.getD x1.1 0), .pointer (some ⟨w.heap.size + 1, 12, none⟩), .slice (some ad) x.kids.length c12, .pointer (some ad), .agg c0.toArray, .pointer (some ⟨w.heap.size + 1 + 1 + 1, 0, none⟩), .int .i64 f.kind, .bool false, .bool false, .pointer (some ⟨w.heap.size + 1 + 1 + 1, 10, none⟩), .bool false, .bool false, .bool false, .pointer (some ⟨w.heap.size + 1 + 1 + 1, 9, none⟩), .slice D9 f.vars.length e9, .int .i64 ((x.kids.length : Int) - 1), .pointer (some ⟨w.heap.size + 1, 12, none⟩), .slice (some ad) x.kids.length c12, .int .i64 (x.kids.length : Int), .int .i64 ((x.kids.length : Int) - 1), .bool false, .bool false, undef, .pointer (some ⟨w.heap.size + 1 + 1 + 1, 12, none⟩), .slice (some ad2) f.kids.length e12, .pointer (some ad2), .agg cb.toArray, .pointer (some ⟨w.heap.size + 1 + 1 + 1, 9, none⟩), .slice D9 f.vars.length e9, .func (.func 100) #[] #[.pointer (some ⟨w.heap.size + 1 + 1 + 1 + 1 + 1, 0, none⟩)], .int .i64 (x1.1 : Nat), .int .i64 (f.vars.getD x1.1 0), undef, undef, undef, undef, undef, undef, undef, undef, undef, undef], defers := [] })
    (fun x1 a' _ X Y row hs hg hr => hs)
    ?assign ?body ?done ?stop
  case assign =>
    rintro l pre x1 W K hI hK
    gi_wp2
    exact hK _ _ (KeepsFrom.refl _ _) (Keeps.refl _ _ _) hI rfl
  case body =>
    rintro l pre x1 a' W hl hr ⟨⟨cz, hZ, hKz⟩, hbW⟩ rfl hlt
    obtain ⟨k, hkv⟩ := x1
    dsimp only
    refine wpIn_block ?_
    have hk1 : k + 1 < x.kids.length := by omega
    obtain ⟨adk, ck, hAk, hKk, hcck⟩ := elEF HG12.out hk1
    obtain rfl : ad = adk := by injection hAk
    have hlk := Lib.hid (kE_len (Kd.FK_now hKk))
    have hlz := Lib.hid (kE_len (Kd.FK_now hKz))
    have HCk := Lib.hid hcck
    obtain ⟨y, hy⟩ : ∃ y, y = rdE x.kids ((k + 1 : Nat) : Int) := ⟨_, rfl⟩
    obtain ⟨z, hz⟩ : ∃ z, z = betaL f x.kids (pre.map (·.1)) := ⟨_, rfl⟩
    obtain ⟨v, hv⟩ : ∃ v, v = f.vars.getD k 0 := ⟨_, rfl⟩
    have HSN := Lib.hid (show betaL f x.kids ((pre ++ [(⟨k, hkv⟩ : BK f.vars)]).map (fun q : BK f.vars => q.1)) = letE v y z by rw [hy, hz, hv, List.map_append, betaL, List.foldl_append]; rfl)
    rw [← hy] at hKk
    rw [← hz] at hKz
    have hsW := hbW.size
    have hbw : Below w.heap.size w W := hW3.trans (hbW.mono (by omega))
    have HLET := Lib.hid (let_callsF v y z ck cz W.drew (fun k => okN ok (w.heap.size + 1 + 1 + 1 + 1) k ∧ k ≠ w.heap.size + 1 + 1 + 1 + 1) (Kd.FK_mono (Kd.FK_below hKk (hbw.trans (below_drew (Below.refl _ _)))) (fun q hq => ⟨.inl hq, fun e => by have := HO.out q hq; omega⟩)) (Kd.FK_below hKz (below_drew (Below.refl _ _))))
    have q12 := (hB3.under hbW (by omega)).cell hc12
    have hk0 : (0 : Int) ≤ ((k : Nat) : Int) + 1 := by omega
    have hk2 : ((k : Nat) : Int) + 1 < (x.kids.length : Int) := by omega
    have hwr : IntKind.i64.wrap (((k : Nat) : Int) + 1) = ((k : Nat) : Int) + 1 := by rw [IntKind.wrap_i64]; omega
    simp only [← hv]
    clear hy hz hv hKk hKz hAk hcck
    refine wpIn_region_held (S := fun w' => W.grownBy w' (some (w.heap.size + 1 + 1 + 1 + 1))) (by kernel_rfl) (by kernel_rfl) (grown_drew _ _) (fun hS => ?_)
    refine wpAnyH_take (i := 0) (v := ?_) rfl (by kernel_rfl) (by kernel_rfl) (by kernel_rfl) (fun _ _ _ h => h) (Or.inl ⟨by rfl, ?_⟩) hS ?_
    case refine_2 => (intro w' hS'; go_simp; try with_reducible rfl)
    simp only [Act.put, List.getElem_toArray, List.getElem_cons_succ, List.getElem_cons_zero, List.setIfInBounds_toArray, List.set_cons_zero, List.set_cons_succ]
    refine wpAnyH_take (i := 1) (v := ?_) rfl (by kernel_rfl) (by kernel_rfl) (by kernel_rfl) (fun _ _ _ h => h) (Or.inl ⟨by rfl, ?_⟩) hS ?_
    case refine_2 => (intro w' hS'; go_simp; try with_reducible rfl)
    simp only [Act.put, List.getElem_toArray, List.getElem_cons_succ, List.getElem_cons_zero, List.setIfInBounds_toArray, List.set_cons_zero, List.set_cons_succ]
    refine wpAnyH_take (i := 2) (v := ?_) rfl (by kernel_rfl) (by kernel_rfl) (by kernel_rfl) (fun _ _ _ h => h) (Or.inl ⟨by rfl, ?_⟩) hS ?_
    case refine_2 => (intro w' hS'; have h12 := cell_grown hS' q12 (fun e => by have e := Option.some.inj e; change w.heap.size + 1 = w.heap.size + 1 + 1 + 1 + 1 at e; omega); go_simp; try with_reducible rfl)
    simp only [Act.put, List.getElem_toArray, List.getElem_cons_succ, List.getElem_cons_zero, List.setIfInBounds_toArray, List.set_cons_zero, List.set_cons_succ]
    refine wpAnyH_take (i := 3) (v := ?_) rfl (by kernel_rfl) (by kernel_rfl) (by kernel_rfl) (fun _ _ _ h => h) (Or.inl ⟨by rfl, ?_⟩) hS ?_
    case refine_2 => (intro w' hS'; go_simp; try with_reducible rfl)
    simp only [Act.put, List.getElem_toArray, List.getElem_cons_succ, List.getElem_cons_zero, List.setIfInBounds_toArray, List.set_cons_zero, List.set_cons_succ]
    refine wpAnyH_take (i := 4) (v := ?_) rfl (by kernel_rfl) (by kernel_rfl) (by kernel_rfl) (fun _ _ _ h => h) (Or.inl ⟨by rfl, ?_⟩) hS ?_
    case refine_2 => (intro w' hS'; go_simp; try with_reducible rfl)
    simp only [Act.put, List.getElem_toArray, List.getElem_cons_succ, List.getElem_cons_zero, List.setIfInBounds_toArray, List.set_cons_zero, List.set_cons_succ]
    refine wpAnyH_take (i := 5) (v := ?_) rfl (by kernel_rfl) (by kernel_rfl) (by kernel_rfl) (fun _ _ _ h => h) (Or.inl ⟨by rfl, ?_⟩) hS ?_
    case refine_2 => (intro w' hS'; go_simp; try with_reducible rfl)
    simp only [Act.put, List.getElem_toArray, List.getElem_cons_succ, List.getElem_cons_zero, List.setIfInBounds_toArray, List.set_cons_zero, List.set_cons_succ]
    refine wpAnyH_take (i := 6) rfl (by kernel_rfl) (by kernel_rfl) (by kernel_rfl) (fun _ _ _ h => h) (held_loadS (by rfl) 31 _ rfl (ad.add ((k + 1) * 13)) rfl ck _ (fun w' hS' j u h => pw_cell_below (hbw.trans (below_grown hS' (by omega) (by omega))) (HCk.out j u h)) Tryz.underlying31 rfl (by rw [hlk.out]; exact size31')) hS ?_
    simp only [Act.put, List.getElem_toArray, List.getElem_cons_succ, List.getElem_cons_zero, List.setIfInBounds_toArray, List.set_cons_zero, List.set_cons_succ]
    refine wpAnyH_ready (rs := [7]) (by kernel_rfl) (by simp) ?_
    refine AllReadyH.cons (o := _) rfl (fun K hK => ?_) AllReadyH.nil
    refine step_ld (by rfl) 48 rfl 31 _ rfl ⟨w.heap.size + 1 + 1 + 1 + 1, 0, none⟩ rfl cz _ (hZ.below (below_drew (Below.refl _ _))).cells Tryz.underlying31 rfl (by rw [hlz.out]; exact size31') ?_
    refine hK.out _ _ (hS) (fun hS => ?_)
    clear hK K
    try simp only [Act.put, List.getElem_toArray, List.getElem_cons_succ, List.getElem_cons_zero, List.setIfInBounds_toArray, List.set_cons_zero, List.set_cons_succ]
    refine wpAnyH_ready (rs := [8]) (by kernel_rfl) (by simp) ?_
    refine AllReadyH.cons (o := _) rfl (fun K hK => ?_) AllReadyH.nil
    go_simp
    refine HLET.out.mono ?_
    rintro e w1 ⟨cl, rfl, hKl, hb1⟩
    have hb1' : Below W.heap.size W w1 := below_then (below_drew (Below.refl _ _)) (Nat.le_refl _) hb1
    have hll := Lib.hid (kE_len (Kd.FK_now hKl))
    have hol := Lib.hid (kE.K_one (Kd.FK_now hKl))
    have HKl := Lib.hid hKl
    clear hKl
    refine hK.out _ _ ((grown_then hS hb1)) (fun hS => ?_)
    clear hK K
    try simp only [Act.put, List.getElem_toArray, List.getElem_cons_succ, List.getElem_cons_zero, List.setIfInBounds_toArray, List.set_cons_zero, List.set_cons_succ]
    refine wpAnyH_ready (rs := [9]) (by kernel_rfl) (by simp) ?_
    refine AllReadyH.cons (o := _) rfl (fun K hK => ?_) AllReadyH.nil
    refine step_store (hZ.below hb1') (by rfl) none rfl _ _ rfl cl rfl rfl (by rw [hll.out]; exact size31') (by rw [hll.out, hlz.out]) hol.out ?_
    intro w2 hZ2 hg2
    refine hK.out _ _ ((grown_row hS hg2)) (fun hS => ?_)
    clear hK K
    try simp only [Act.put, List.getElem_toArray, List.getElem_cons_succ, List.getElem_cons_zero, List.setIfInBounds_toArray, List.set_cons_zero, List.set_cons_succ]
    refine wpAnyH_done (by kernel_rfl) ?_ _
    have hs1 := hb1'.size
    refine ⟨(keepsFrom_of_below hb1').trans (keepsFrom_grown hg2 (by omega)), (Keeps.of_below hb1' (by omega)).trans ⟨below_grown hg2 (by omega) (by omega), fun q o hq ho _ => (hg2.block q (Array.getElem?_eq_some_iff.1 ho).1 (fun e => by injection e with e; omega)).trans ho⟩, ⟨cl, hZ2, ?_⟩, hbW.trans ((hb1'.mono (by omega)).trans (below_grown hg2 (by omega) (Nat.le_refl _)))⟩
    rw [HSN.out]
    exact Kd.FK_mono (Kd.FK_grown HKl.out hg2 (fun q hq e => by injection e with e; rcases hq with hq | hq; exact hq.2 e; (simp at hq; omega))) (fun q hq => by rcases hq with hq | hq; exact hq; (simp at hq; exact ⟨.inr (by omega), by omega⟩))
  case done =>
    rintro D ys W hD hS ⟨⟨cz, hZ, hKz⟩, hbW⟩ hK
    have hlz := Lib.hid (kE_len (Kd.FK_now hKz))
    have hoz := Lib.hid (kE.K_one (Kd.FK_now hKz))
    rw [hS] at hKz
    have HKz := Lib.hid hKz
    have hsW := hbW.size
    have hR4 := hR3.under hbW (by omega)
    clear hKz
    gi_wp2_with (first
      | ((with_reducible refine load_listIn 50 rfl ?_ 31 _ rfl ⟨w.heap.size + 1 + 1 + 1 + 1, 0, none⟩ ?_ cz _ hZ.cells Tryz.underlying31 ?_ ?_ ?_); (case _ => rfl); (case _ => rfl); (case _ => rfl); (case _ => rw [hlz.out]; exact size31'))
      | ((with_reducible refine store_bxIn hR4 none rfl ?_ _ _ rfl cz ?_ ?_ ?_ ?_ hoz.out ?_); (case _ => rfl); (case _ => rfl); (case _ => rfl); (case _ => rw [hlz.out]; exact size31'); (case _ => rw [hlz.out]; rfl); intro w2 hR5 hg2))
    have hsz2 := hg2.size
    have hK2 : w2.heap[D]? = some (.deferred (some [])) := (hg2.block D (Array.getElem?_eq_some_iff.1 hK).1 (fun e => by injection e with e; omega)).trans hK
    refine ⟨by simp, .inl ⟨_, _, rfl, run_takeDeferred hK2, ?_⟩⟩
    have hg3 := grownBy_putObj' w2 D (.deferred none)
    have hR6 := hR5.kept hg3 (fun e => by injection e with e; omega)
    have hload := loadE hR6 hlz
    have hb3 : Below w.heap.size w w2 := (hW3.trans (hbW.mono (by omega))).trans (below_grown hg2 (by omega) (by omega))
    have hFK := Kd.FK_grown HKz.out hg2 (fun q hq e => by injection e with e; rcases hq.1 with hq | hq; (have := HO.out q hq; omega); omega)
    have hFK2 := Kd.FK_mono (ok' := okN ok w.heap.size) (Kd.FK_grown (FK_cells hFK) hg3 (fun q hq e => by
      injection e with e
      subst e
      obtain ⟨_, o, ho, hc⟩ := hq
      rw [hK2] at ho; cases ho; cases hc)) (fun q hq => by rcases hq.1.1 with hq | hq; exact .inl hq; exact .inr (by omega))
    refine ⟨.tuple #[.agg cz.toArray, .bool true], ?_, ⟨cz, rfl, hFK2, hb3.trans (below_grown hg3 (by have := hb3.size; omega) (by omega))⟩⟩
    simp [results, Tryz.f35, asAddr, Result.andThen, hload]
  case stop =>
    rintro D c pre W hD hSp h hK
    exact h.elim
end Go.Proofs.YtegolcblbpeoeaaGreatDoor
