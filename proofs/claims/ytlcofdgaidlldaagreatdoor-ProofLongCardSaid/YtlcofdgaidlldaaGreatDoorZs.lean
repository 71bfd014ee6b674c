/- A region that draws its order, in a round of a loop over a function: by the law of the held region, unfenced. Contracts: slices.Backward over ints, for every loop body that keeps what lay. What lies in cells hangs on cells alone: a footprint without the blocks that are no cells. Contract: rule.beta. The walk's conditions: the parameters' memory; a callee; a lambda's body. The statement 'for .. := range g' where the iterator may write blocks of its own between two rounds, and every round goes on: a law over the kit's own (wpIn_rangeFunc). Without conditions. -/
import Derived.Test.YtlcofdgaidlldaaGreatDoorZn
import Derived.Test.YtlcofdgaidlldaaGreatDoorZp
namespace Go.Proofs.YtlcofdgaidlldaaGreatDoor
open Go.RowKit Go.Shelf Go.Proofs.YtlcofdgaidlldaaGreatDoorW.PrintWords
set_option linter.unusedVariables false
/-- It ends, and thus. -/
def NQ (R : Act → World → Prop) : Exit → Act → World → Prop
  | .normal, a, w => R a w
  | _, _, _ => False
end Go.Proofs.YtlcofdgaidlldaaGreatDoor
namespace Go.Proofs.YtlcofdgaidlldaaGreatDoor
open Go.RowKit Go.Shelf Go.Proofs.YtlcofdgaidlldaaGreatDoorW.PrintWords
set_option linter.unusedVariables false
set_option linter.unusedSimpArgs false
attribute [local go_sem] Oper.semAt_some
/-- A place in a row. -/
abbrev BK (vs : List Int) := { k : Nat // k < vs.length }
abbrev BK.encs {vs : List Int} (x : BK vs) : Array Value := #[.int .i64 (x.1 : Nat), .int .i64 (vs.getD x.1 0)]
end Go.Proofs.YtlcofdgaidlldaaGreatDoor
namespace Go.Proofs.YtlcofdgaidlldaaGreatDoor
open Go.RowKit Go.Shelf Go.Proofs.YtlcofdgaidlldaaGreatDoorW.PrintWords
set_option linter.unusedVariables false
theorem C_cells {α : Type} {d : Kd α} {W W' : World} {A : Option Addr} {n : Nat} {xs : List α} (hc : ∀ p v, W.cell? p = some v → W'.cell? p = some v) (hR : ∀ x, x ∈ xs → ∀ c, d.K W x c → d.K W' x c) (h : d.C W A n xs) : d.C W' A n xs :=
  ⟨h.1, h.2.1, fun hn => by
    obtain ⟨ad, e, hj⟩ := h.2.2 hn
    exact ⟨ad, e, fun j p hp => by
      obtain ⟨c, h1, h2, h3⟩ := hj j p hp
      exact ⟨c, h1, hR p (List.mem_of_getElem? hp) c h2, fun i u hu => hc _ _ (h3 i u hu)⟩⟩⟩
theorem kD_cells {W W' : World} (hc : ∀ p v, W.cell? p = some v → W'.cell? p = some v) : ∀ (n : Nat) (x : Dt), SizeOf.sizeOf x < n → ∀ c, kD.K W x c → kD.K W' x c
  | 0, x, h, _, _ => by omega
  | n + 1, x, h, c, hk => by
    obtain ⟨A2, c2, A5, c5, A6, c6, rfl, l2, g2, l5, g5, l6, g6⟩ := kD_open hk
    have hs : ∀ y, y ∈ x.items ∨ y ∈ x.tail → SizeOf.sizeOf y < n := fun y hy => by
      have h1 : y ∈ x.items → SizeOf.sizeOf y < SizeOf.sizeOf x.items := List.sizeOf_lt_of_mem
      have h2 : y ∈ x.tail → SizeOf.sizeOf y < SizeOf.sizeOf x.tail := List.sizeOf_lt_of_mem
      cases x
      simp only [Dt.mk.sizeOf_spec] at *
      rcases hy with hy | hy
      · have := h1 hy; omega
      · have := h2 hy; omega
    exact kD_mk W' x l2 (C_cells hc (fun _ _ _ h => h) g2) l5 (C_cells hc (fun y hy => kD_cells hc n y (hs y (.inl hy))) g5) l6 (C_cells hc (fun y hy => kD_cells hc n y (hs y (.inr hy))) g6)
theorem kE_cells {W W' : World} (hc : ∀ p v, W.cell? p = some v → W'.cell? p = some v) : ∀ (n : Nat) (x : Ex), SizeOf.sizeOf x < n → ∀ c, kE.K W x c → kE.K W' x c
  | 0, x, h, _, _ => by omega
  | n + 1, x, h, c, hk => by
    obtain ⟨A3, c3, A6, c6, A7, c7, A9, c9, A12, c12, rfl, l3, g3, l6, g6, l7, g7, l9, g9, l12, g12⟩ := kE_open hk
    have hs : ∀ y, y ∈ x.kids → SizeOf.sizeOf y < n := fun y hy => by
      have h1 := List.sizeOf_lt_of_mem hy
      cases x
      simp only [Ex.mk.sizeOf_spec] at *
      omega
    have hd : ∀ y : Dt, ∀ c, kD.K W y c → kD.K W' y c := fun y => kD_cells hc (SizeOf.sizeOf y + 1) y (Nat.lt_succ_self _)
    exact kE_mk W' x l3 (C_cells hc (fun _ _ _ h => h) g3) l6 (C_cells hc (fun y _ => hd y) g6) l7 (C_cells hc (fun y _ => hd y) g7) l9 (C_cells hc (fun _ _ _ h => h) g9) l12 (C_cells hc (fun y hy => kE_cells hc n y (hs y hy)) g12)
/-- W', but what is no cells in W lies as there. -/
def mixW (W W' : World) : World := { W' with heap := Array.ofFn (n := max W.heap.size W'.heap.size) fun i =>
  match W.heap[i.1]? with
  | some o => if o.isCells then (W'.heap[i.1]?).getD (.deferred none) else o
  | none => (W'.heap[i.1]?).getD (.deferred none) }
theorem mixW_at {W W' : World} {k : Nat} (hk : k < W.heap.size) : (mixW W W').heap[k]? = some (if (W.heap[k]).isCells then (W'.heap[k]?).getD (.deferred none) else W.heap[k]) := by
  unfold mixW
  simp only [Array.getElem?_ofFn]
  rw [dif_pos (by omega)]
  simp [hk]
theorem mixW_cells {W W' : World} (p : Addr) (v : Value) (h : (mixW W W').cell? p = some v) : W'.cell? p = some v := by
  obtain ⟨o, ho, hc⟩ := isCells_of_cell h
  rw [← h]
  refine World.cell?_of_block ?_
  rw [ho]
  unfold mixW at ho
  simp only [Array.getElem?_ofFn] at ho
  split at ho
  · have ho := Option.some.inj ho
    have key : (W'.heap[p.block]?).getD (.deferred none) = o → W'.heap[p.block]? = some o := fun e => by
      cases hw : W'.heap[p.block]? with
      | none => rw [hw] at e; subst e; cases hc
      | some o' => rw [hw] at e; exact congrArg some e
    split at ho
    · split at ho
      · exact key ho
      · rename_i hn; rw [ho] at hn; exact absurd hc hn
    · exact key ho
  · cases ho
/-- A footprint, without the blocks that are no cells. -/
theorem FK_cells {W : World} {ok : Nat → Prop} {x : Ex} {cs : List Value} (h : Kd.FK kE W ok x cs) : Kd.FK kE W (fun k => ok k ∧ ∃ o : Obj, W.heap[k]? = some o ∧ o.isCells = true) x cs := fun W' hW => by
  refine kE_cells (W := mixW W W') (fun p v => mixW_cells p v) (SizeOf.sizeOf x + 1) x (Nat.lt_succ_self _) cs (h (mixW W W') fun k hk hlt => ?_)
  rw [mixW_at hlt]
  by_cases hc : (W.heap[k]).isCells = true
  · rw [if_pos hc, hW k ⟨hk, _, Array.getElem?_eq_getElem hlt, hc⟩ hlt, Array.getElem?_eq_getElem hlt]; rfl
  · rw [if_neg hc, Array.getElem?_eq_getElem hlt]
/-- What lies in a block of its own, for a loop over a function. -/
theorem ownFK {β : Type} (B g : Nat) (t : TypeId) (ok : Nat → Prop) (f : β → Ex) : OwnFrom B (fun (s : β) W => ∃ cz, BX t W g cz ∧ Kd.FK kE W ok (f s) cz) := fun s X Y row ⟨cz, hz, hk⟩ hg hr => by
  refine ⟨cz, hz.kept hg (fun e => ?_), Kd.FK_mono (Kd.FK_grown (FK_cells hk) hg (fun k hk' e => ?_)) (fun _ h => h.1)⟩
  · obtain ⟨_, o, ho, hc⟩ := hr g e.symm
    rw [show X.heap[g]? = _ from hz] at ho
    cases ho; cases hc
  · obtain ⟨_, o, ho, hc⟩ := hr k e.symm
    obtain ⟨_, o', ho', hc'⟩ := hk'
    rw [ho] at ho'; cases ho'
    rw [hc] at hc'; cases hc'
end Go.Proofs.YtlcofdgaidlldaaGreatDoor
namespace Go.Proofs.YtlcofdgaidlldaaGreatDoor
open Go.RowKit Go.Shelf Go.Proofs.YtlcofdgaidlldaaGreatDoorW.PrintWords
set_option linter.unusedVariables false
set_option linter.unusedSimpArgs false
attribute [local go_sem] Oper.semAt_some
section
variable {P : Program} {ops : Array Oper} {a : Act} {w W : World} {o : Oper} {K : Act → World → Prop} {Q : Exit → Act → World → Prop} {F : Fence} {nF : Nat} {rest : List Oper}
/-- A struct is read in a drawn region, when nothing else may come up. -/
theorem step_ld (hw : Region.wanted o (yielded ops a.tmps) = true) (N : Tmp) (hN : o.dst = some N) (t : TypeId) (x : Operand) (ho : o.op = .load t x) (ad : Addr) (hx : a.eval x = .pointer (some ad)) (cs : List Value) (d : TypeDesc)
    (hc : ∀ j u, cs[j]? = some u → w.cell? (ad.add j) = some u)
    (hu : P.underlying t = some d) (hd : (match d with | .struct _ | .array _ _ => true | _ => false) = true) (hi : (P.info? t).map (·.size) = some cs.length)
    (h : K (a.put (some N) (.agg cs.toArray)) w) : if Region.wanted o (yielded ops a.tmps) = true then Oper.wp P o a w K Q else K (a.put o.dst undef) w := by
  rw [if_pos hw]
  unfold Oper.wp execOp
  simp only [ho, hx, Instr.loadAt, Instr.sureAddr, Sem.run_bind, Sem.run_pure, Result.andThen_ok, run_load_list w ad t cs d hc hu hd hi]
  rw [← hN] at h
  exact h
/-- A struct is stored into a block of its own, inside a fence. -/
theorem store_bxIn {t : TypeId} {w : World} {g : Nat} {c : List Value} (H : BX t w g c) (N : Option Tmp) (hN : o.dst = N) (hgd : o.guard = none) (x y : Operand) (ho : o.op = .store t x y) (cs : List Value) (hx : a.eval x = .pointer (some ⟨g, 0, none⟩)) (hy : a.eval y = .agg cs.toArray)
    (hi : (P.info? t).map (·.size) = some cs.length) (hc : c.length = cs.length) (h1 : ∀ u ∈ cs, u.oneCell' = true)
    (h : ∀ w', BX t w' g cs → w.grownBy w' (some g) → wpListIn F nF P ops Q rest (a.put N undef) w') : wpListIn F nF P ops Q (o :: rest) a w := by
  refine wpListIn_plain hgd fun K hK => ?_
  unfold Oper.wpIn
  refine ⟨by simp [Oper.about, ho], ?_⟩
  rw [Oper.semAt_plain F _ _ (by rw [ho]; intro c hc'; cases hc')]
  unfold execOp
  simp only [ho, hx, hy, Instr.storeAt, Instr.sureAddr, Sem.run_bind, Sem.run_pure, Result.andThen_ok, run_storeVar_row w g t t c.toArray cs.toArray H (by simpa using hi) (by simpa using hc) (by rw [List.all_toArray, List.all_eq_true]; exact h1)]
  have hh := h (w.setRow g cs.toArray) (setRow_heap w g _ _ _ _ H) (grown_setRow w g _)
  rw [← hN] at hh
  exact hK _ _ hh
end
end Go.Proofs.YtlcofdgaidlldaaGreatDoor
namespace Go.Proofs.YtlcofdgaidlldaaGreatDoor
open Go.RowKit Go.Shelf Go.Proofs.YtlcofdgaidlldaaGreatDoorW.PrintWords
set_option linter.unusedVariables false
set_option linter.unusedSimpArgs false
/-- An invariant that abides what is new, and whatever the iterator writes in its own blocks. -/
def AbidesIn {β : Type} (Bk : Nat → Prop) (J : β → World → Prop) : Prop := ∀ s A B row, J s A → A.grownBy B row → (∀ r, row = some r → Bk r) → J s B
/-- An iterator that yields to its end; X is what it tells of the element that comes; Kp is what a round keeps. -/
def SeqBox {α : Type} (F : Fence) (n : Nat) (P : Program) (gf : Nat) (lb : Array Value) (encs : α → Array Value) (X : List α → α → World → Prop) (Kp : World → World → Prop) (Bk : Nat → Prop) (S : List α → Prop) (w : World) : Prop :=
  ∀ (l : Nat) (J : List α → World → Prop) (W : World), Below w.heap.size w W → AbidesIn Bk J →
    (∀ pre x W1, J pre W1 → X pre x W1 → YieldAt F (n - 1) P l (encs x) W1 fun e W' => e = .returned (.bool true) ∧ J (pre ++ [x]) W' ∧ Kp W1 W') →
    J [] W → CallsIn F n P gf (#[.func (.yield l) #[] #[]] ++ lb) W fun e W' => (∃ v, e = .returned v) ∧ ∃ xs, S xs ∧ J xs W'
/-- How a round's body ends. -/
def boxPost {α : Type} (B : Nat) (Kp : World → World → Prop) (I : List α → World → Prop) (xs : List α) (W : World) : Exit → Act → World → Prop
  | .normal, _, W' => KeepsFrom B W W' ∧ Kp W W' ∧ I xs W'
  | _, _, _ => False
theorem kept_at {A B : World} {row : Option Nat} {r : Nat} {o : Obj} (hg : A.grownBy B row) (h : A.heap[r]? = some o) (hne : some r ≠ row) : B.heap[r]? = some o :=
  (hg.block r (Array.getElem?_eq_some_iff.1 h).1 hne).trans h
theorem wpIn_rangeFunc_box {α : Type} {F : Fence} {n : Nat} {P : Program} {g : Operand} {ps : Array Tmp} {assign body : Code} {Q : Exit → Act → World → Prop} {a : Act} {w : World}
    (hro : F.round = none) (h1 : 1 ≤ n) {gf : Nat} {lb : Array Value} (hg : a.eval g = .func (.func gf) #[] lb) (hFg : F.fn gf) (eg : ∀ args w, (callFunc gf args).run P w = .ok (.enter gf args) w)
    {encs : α → Array Value} {X : List α → α → World → Prop} {Kp : World → World → Prop} {Bk : Nat → Prop} {S : List α → Prop} {w0 : World} (hseq : SeqBox F (n - 1) P gf lb encs X Kp Bk S w0) (hb0 : Below w0.heap.size w0 w) (hBk : ∀ r, Bk r → r < w.heap.size)
    (hKt : ∀ {A B C : World}, Kp A B → Kp B C → Kp A C) (hKb : ∀ (W : World) (l : Nat) (o o' : Obj), w.heap.size ≤ l → W.heap[l]? = some o → o.isCells = false → o.isWalk = false → Kp W (W.putObj l o')) (hps : ∀ x, (encs x).size = ps.size)
    (I : List α → World → Prop) (hI : OwnFrom w.heap.size I) (hIB : AbidesIn Bk I) (hX : ∀ pre x, OwnFrom w.heap.size (fun (_ : Unit) W => X pre x W)) (h0 : I [] w)
    (Ax : α → Act → World → Prop) (hAx : ∀ x a', OwnFrom w.heap.size (fun (_ : Unit) W => Ax x a' W))
    (hassign : ∀ (l : Nat) (pre : List α) (x : α) (W : World) (K : Act → World → Prop), I pre W → X pre x W → (∀ a' W', KeepsFrom w.heap.size W W' → Kp W W' → I pre W' → X pre x W' → Ax x a' W' → K a' W') →
      assign.wpIn (F.inRound l) (n - 1 - 1) P (Exit.then K (fun _ _ _ => False)) { tmps := (ps.zip (encs x)).foldl (fun t (p, v) => t.setIfInBounds p v) a.tmps, defers := [] } W)
    (hbody : ∀ (l : Nat) (pre : List α) (x : α) (a' : Act) (W : World), w.heap.size ≤ l → (∃ r, W.heap[l]? = some (.loop r)) → I pre W → X pre x W → Ax x a' W → body.wpIn (F.inRound l) (n - 1 - 1) P (boxPost w.heap.size Kp I (pre ++ [x]) W) a' W)
    (hdone : ∀ (D : Nat) (xs : List α) (W : World), w.heap.size ≤ D → S xs → I xs W → W.heap[D]? = some (.deferred (some [])) → Q .normal { a with defers := { target := .collected D, args := #[] } :: a.defers } W) :
    (Code.rangeFunc g ps assign body).wpIn F n P Q a w := by
  refine wpIn_rangeFunc fun fn hfn => ?_
  rw [hro]
  obtain ⟨lp, hlp⟩ : ∃ lp : LoopState → Loop, lp = fun st => { state := st, pending := none, fn, tmps := a.tmps, params := ps, assign, body, defers := w.heap.size } := ⟨_, rfl⟩
  obtain ⟨V, hV⟩ : ∃ V, V = (w.alloc (.deferred (some []))).alloc (.loop (lp .ready)) := ⟨_, rfl⟩
  have vL : V.heap[w.heap.size + 1]? = some (.loop (lp .ready)) := by
    have := World.alloc_heap_new (w.alloc (.deferred (some []))) (.loop (lp .ready))
    rw [World.size_alloc] at this
    rw [hV]; exact this
  have vD : V.heap[w.heap.size]? = some (.deferred (some [])) := by
    rw [hV]; exact (Below.heap_alloc _ _ _ (by simp)).trans (World.alloc_heap_new w _)
  have vI : I [] V := by rw [hV]; exact hI.alloc _ (hI.alloc _ h0)
  have vB : Below w0.heap.size w0 V := by
    rw [hV]; exact hb0.trans ((below_alloc (below_alloc (Below.refl _ w) _) _).mono hb0.size)
  refine ⟨w.heap.size + 1, [{ target := .collected w.heap.size, args := #[] }], V, { target := .fn (.func gf) lb, args := #[.func (.yield (w.heap.size + 1)) #[] #[]] }, V, gf,
    #[.func (.yield (w.heap.size + 1)) #[] #[]] ++ lb, V, ?_, ?_, ?_, ?_, fun _ => h1, ?_⟩
  · rw [hV, hlp]; exact run_enterLoop_outer _ _ _ _ _
  · simp only [resolve, hg]
    simp [go_sem]
  · intro f' hf'; simp [Target.leads] at hf'; subst hf'; exact hFg
  · simp [invoke, go_sem, eg]
  refine (hseq (w.heap.size + 1) (fun pre W => I pre W ∧ W.heap[w.heap.size + 1]? = some (.loop (lp .ready)) ∧ W.heap[w.heap.size]? = some (.deferred (some []))) V vB
    (fun s A B row hs hgr hr => ⟨hIB s A B row hs.1 hgr hr, kept_at hgr hs.2.1 (fun e => by have := hBk _ (hr _ e.symm); omega), kept_at hgr hs.2.2 (fun e => by have := hBk _ (hr _ e.symm); omega)⟩) ?_ ⟨vI, vL, vD⟩).mono ?_
  · rintro pre x W ⟨hi, hl, hk⟩ hx
    have hy := run_yield (P := P) (args := encs x) hl (by rw [hlp]; exact hps x)
    rw [hlp] at hy
    refine ⟨fn, _, assign, body, hy, roundIn_of_wpIn hfn (hassign _ pre x W _ hi hx ?_)⟩
    clear hy
    intro a' Wa hkf hkp hia hxa hax
    have hla := hkf.same _ _ (by omega) hl rfl
    have hka := hkf.same _ _ (Nat.le_refl _) hk rfl
    have hlt : w.heap.size + 1 < Wa.heap.size := (Array.getElem?_eq_some_iff.1 hla).1
    refine ⟨_, run_beginRound hla (by rw [hlp]), ?_⟩
    obtain ⟨Wb, hWb⟩ : ∃ Wb, Wb = Wa.putObj (w.heap.size + 1) (.loop { lp .ready with state := .busy }) := ⟨_, rfl⟩
    rw [← hWb]
    have hlb : Wb.heap[w.heap.size + 1]? = some (.loop { lp .ready with state := .busy }) := by rw [hWb]; exact World.putObj_heap_same hlt
    have hkb : Wb.heap[w.heap.size]? = some (.deferred (some [])) := by rw [hWb]; exact (World.putObj_heap_other (by omega)).trans hka
    have hkpb : Kp Wa Wb := by rw [hWb]; exact hKb _ _ _ _ (by omega) hla rfl rfl
    have hib : I pre Wb := by rw [hWb]; exact hI.putObj _ hia (by omega) hla rfl
    have hxb : X pre x Wb := by rw [hWb]; exact (hX pre x).putObj (s := ()) _ hxa (by omega) hla rfl
    have haxb : Ax x a' Wb := by rw [hWb]; exact (hAx x a').putObj (s := ()) _ hax (by omega) hla rfl
    clear hWb
    refine wpIn_mono (hbody _ pre x a' Wb (by omega) ⟨_, hlb⟩ hib hxb haxb) ?_
    rintro e a3 W3 hp
    cases e with
    | normal =>
      obtain ⟨hk3, hkp3, hi3⟩ := hp
      have hl3 := hk3.same _ _ (by omega) hlb rfl
      have hd3 := hk3.same _ _ (Nat.le_refl _) hkb rfl
      have hr := run_endRound (P := P) none hl3
      rw [hlp] at hr
      refine ⟨_, _, hr, rfl, ⟨hI.putObj _ hi3 (by omega) hl3 rfl, ?_, (World.putObj_heap_other (by omega)).trans hd3⟩, hKt hkp (hKt (hKt hkpb hkp3) (hKb _ _ _ _ (by omega) hl3 rfl rfl))⟩
      rw [hlp]
      exact World.putObj_heap_same (Array.getElem?_eq_some_iff.1 hl3).1
    | ret => exact hp.elim
    | exit id => exact hp.elim
    | goto t => exact hp.elim
    | panic ch => exact hp.elim
    | outgrown => exact hp.elim
  · rintro e W2 ⟨⟨v, rfl⟩, xs, hS, hi, hl, hk⟩
    have hr := run_endLoop (P := P) hl (by rw [hlp]; simp)
    rw [hlp] at hr
    exact ⟨none, _, hr, hdone _ xs _ (Nat.le_refl _) hS (hI.putObj _ hi (by omega) hl rfl) ((World.putObj_heap_other (by omega)).trans hk)⟩
end Go.Proofs.YtlcofdgaidlldaaGreatDoor
