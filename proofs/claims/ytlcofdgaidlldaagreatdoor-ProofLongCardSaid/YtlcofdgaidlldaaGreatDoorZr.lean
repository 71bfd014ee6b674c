/- Contract: rule.fold, by what prim.Do answers. The walk's conditions: the parameters' memory; not more than a million Kids. Contract: rule.lets at a rule that is none of ExLet's, or at Copy. The walk's conditions: the parameters' memory; two Kids. -/
import Derived.Test.YtlcofdgaidlldaaGreatDoorZn
import Derived.Test.YtlcofdgaidlldaaGreatDoorZp
import Derived.Test.YtlcofdgaidlldaaGreatDoorZq
namespace Go.Proofs.YtlcofdgaidlldaaGreatDoor
open Go.RowKit Go.Shelf Go.Proofs.YtlcofdgaidlldaaGreatDoorW.PrintWords
set_option linter.unusedVariables false
set_option linter.unusedSimpArgs false
/-- A constant. -/
def constE (d : Dt) : Ex := { zE with kind := 1, d := d }
/-- Fold, where prim.Do answers so. -/
def foldE (x : Ex) (dr : Dt × Int) : Ex × Bool := if x.kind == 7 && plainB x.p && x.kids.all Ex.atom then (constE dr.1, dr.2 == 0) else (x, false)
theorem all_atom_take {l : List Ex} {k : Nat} (h : k < l.length) : (l.take (k + 1)).all Ex.atom = ((l.take k).all Ex.atom && (rdE l k).atom) := by
  rw [take_rdE h, List.all_append]; simp
theorem all_atom_no {l : List Ex} {k : Nat} (h : k < l.length) (ha : (rdE l k).atom = false) : l.all Ex.atom = false := by
  rw [List.all_eq_false]
  exact ⟨rdE l k, by rw [rdE_get h]; exact List.getElem_mem h, by simp [ha]⟩
theorem map_take_d {l : List Ex} {k : Nat} (h : k < l.length) : (l.take (k + 1)).map Ex.d = (l.take k).map Ex.d ++ [(rdE l k).d] := by
  rw [take_rdE h, List.map_append]; rfl
theorem infoD' : (Tryz.prog.info? 28).map (fun i => (i.zero, i.size, i.bytes)) = some (some (.agg zDc.toArray), kD.sz, 112) := infoD
section
variable {ops : Array Oper} {rest : List Oper} {o : Oper} {a : Act} {Q : Exit → Act → World → Prop} {w : World}
/-- The datum of an expression in a block of its own. -/
theorem ldDx {cs cd : List Value} {gb : Nat} (N : Tmp) (hB : BX 32 w gb cs) (hs : Hid (∀ j u, cd[j]? = some u → cs[1 + j]? = some u)) (hl : cd.length = 7) (hN : o.dst = some N) (hgd : o.guard = none) (x : Operand) (ho : o.op = .load 28 x) (hx : a.eval x = .pointer (some ⟨gb, 1, none⟩))
    (h : wpList Tryz.prog ops Q rest (a.put (some N) (.agg cd.toArray)) w) : wpList Tryz.prog ops Q (o :: rest) a w :=
  load_list N hN hgd 28 x ho ⟨gb, 1, none⟩ hx cd _ (fun j u hj => by have := hB.cell (hs.out j u hj); rcases j with _ | j <;> simpa [Addr.add] using this) Tryz.underlying28 rfl (by rw [hl]; exact size28') h
end
set_option maxRecDepth 100000 in
set_option maxHeartbeats 8000000 in
theorem fold_calls (x : Ex) (cs cp : List Value) (w : World) (ok : Nat → Prop) (hok : ∀ k, ok k → k < w.heap.size) (hx : Kd.FK kE w ok x cs) (hl : x.kids.length ≤ 1000000) (dr : Dt × Int)
    (hdo : x.kind = 7 → plainB x.p = true → x.kids.all Ex.atom = true → ∀ (W : World) (A : Option Addr) (c : Nat), Below w.heap.size w W → kD.C W A x.kids.length (x.kids.map Ex.d) →
      Calls Tryz.prog 78 #[.int .i64 x.p, .slice A x.kids.length c] W fun e w' => ∃ cd, e = .returned (.tuple #[.agg cd.toArray, .int .i64 dr.2]) ∧ Kd.FK kD w' (fun k => W.heap.size ≤ k) dr.1 cd ∧ Below W.heap.size W w') :
    Calls Tryz.prog 61 #[.agg cp.toArray, .agg cs.toArray] w fun e w' => ∃ cs', e = .returned (.tuple #[.agg cs'.toArray, .bool (foldE x dr).2]) ∧ Kd.FK kE w' (okN ok w.heap.size) (foldE x dr).1 cs' ∧ Below w.heap.size w w' := by
  have HXl := Lib.hid (kE_len (Kd.FK_now hx))
  have HX1 := Lib.hid (kE.K_one (Kd.FK_now hx))
  have HX := Lib.hid hx
  have HO := Lib.hid hok
  have HDO := Lib.hid hdo
  have hW0 : Below w.heap.size w (((w.alloc (.cells cp.toArray 36)).alloc (.cells cs.toArray 32)).alloc (.cells zEc.toArray 32)) := below_alloc (below_alloc (below_alloc (Below.refl _ _) _) _) _
  have hB0 : BX 32 (((w.alloc (.cells cp.toArray 36)).alloc (.cells cs.toArray 32)).alloc (.cells zEc.toArray 32)) (w.heap.size + 1) cs := by simpa using (BX.new (t := 32) (w.alloc (.cells cp.toArray 36)) cs).alloc (.cells zEc.toArray 32)
  have hR0 : BX 32 (((w.alloc (.cells cp.toArray 36)).alloc (.cells cs.toArray 32)).alloc (.cells zEc.toArray 32)) (w.heap.size + 1 + 1) zEc := by simpa using BX.new (t := 32) ((w.alloc (.cells cp.toArray 36)).alloc (.cells cs.toArray 32)) zEc
  have hs0 : (((w.alloc (.cells cp.toArray 36)).alloc (.cells cs.toArray 32)).alloc (.cells zEc.toArray 32)).heap.size = w.heap.size + 3 := by simp
  obtain ⟨A3, c3, A6, c6, A7, c7, A9, c9, A12, c12, he, l3, g3, l6, g6, l7, g7, l9, g9, l12, g12⟩ := kE_openF hx
  have q0 := hB0.cell (j := 0) (u := .int .i64 x.kind) (by rw [he]; rfl)
  have q11 := hB0.cell (j := 11) (u := .int .i64 x.p) (by rw [he]; rfl)
  have hc11 : cs[11]? = some (.int .i64 x.p) := by rw [he]; rfl
  have hc12 : cs[12]? = some (.slice A12 x.kids.length c12) := by rw [he]; rfl
  have q12 := hB0.cell hc12
  have HX12 := Lib.hid g12
  have hm12 := Kd.F_max g12
  have HPL := Lib.hid (fun (W : World) => Plain_calls x.p W)
  clear he hx hok hdo g3 g6 g7 g9 g12 l3 l6 l7 l9
  have HNO : Hid (x.kind == 7 && plainB x.p && x.kids.all Ex.atom = true ∨ (x.kind == 7 && plainB x.p && x.kids.all Ex.atom) = false → True) := Lib.hid (fun _ => trivial)
  clear HNO
  cases k7 : x.kind == 7
  · have HR := Lib.hid (show foldE x dr = (x, false) by rw [foldE, k7]; rfl)
    have k7n : (x.kind != 7) = true := by simp [bne, k7]
    rw [HR.out]
    go_enter Tryz.func61, Tryz.ntmps61
    go_wp2_with (first
      | ((with_reducible refine ldE 20 hB0 HXl rfl ?_ _ rfl ?_ ?_); (case _ => rfl); (case _ => rfl))
      | ((with_reducible refine stE hR0 rfl HXl HX1 none rfl ?_ _ _ rfl ?_ ?_ ?_); (case _ => rfl); (case _ => rfl); (case _ => rfl); intro w2 hR2 hg2))
    have hload := loadE hR2 HXl
    have hb2 : Below w.heap.size w w2 := hW0.trans (below_grown hg2 (by omega) (by omega))
    refine bodyPost_ret (v := .tuple #[.agg cs.toArray, .bool false]) ?_ rfl ⟨cs, rfl, Kd.FK_mono (Kd.FK_below HX.out hb2) (fun _ h => .inl h), hb2⟩
    simp [results, Tryz.f61, asAddr, Result.andThen, Act.put, hload]
  have k7n : (x.kind != 7) = false := by simp [bne, k7]
  have HK7 := Lib.hid (show x.kind = 7 by simpa using k7)
  obtain ⟨pl, hpl⟩ : ∃ pl, pl = plainB x.p := ⟨_, rfl⟩
  rw [← hpl] at HPL HDO
  have HPLe := Lib.hid hpl
  clear hpl
  cases pl
  · have HR := Lib.hid (show foldE x dr = (x, false) by rw [foldE, k7, ← HPLe.out]; rfl)
    rw [HR.out]
    go_enter Tryz.func61, Tryz.ntmps61
    go_wp2_with (first
      | (go_at_call 76; (with_reducible refine (HPL.out _).mono ?_); rintro e w' ⟨rfl, rfl⟩)
      | ((with_reducible refine ldE 20 hB0 HXl rfl ?_ _ rfl ?_ ?_); (case _ => rfl); (case _ => rfl))
      | ((with_reducible refine stE hR0 rfl HXl HX1 none rfl ?_ _ _ rfl ?_ ?_ ?_); (case _ => rfl); (case _ => rfl); (case _ => rfl); intro w2 hR2 hg2))
    have hload := loadE hR2 HXl
    have hb2 : Below w.heap.size w w2 := hW0.trans (below_grown hg2 (by omega) (by omega))
    refine bodyPost_ret (v := .tuple #[.agg cs.toArray, .bool false]) ?_ rfl ⟨cs, rfl, Kd.FK_mono (Kd.FK_below HX.out hb2) (fun _ h => .inl h), hb2⟩
    simp [results, Tryz.f61, asAddr, Result.andThen, Act.put, hload]
  have HF := Lib.hid (show foldE x dr = if x.kids.all Ex.atom then (constE dr.1, dr.2 == 0) else (x, false) by rw [foldE, k7, ← HPLe.out]; rfl)
  obtain ⟨r, hr⟩ : ∃ r, r = foldE x dr := ⟨_, rfl⟩
  rw [← hr] at HF ⊢
  clear hr
  go_enter Tryz.func61, Tryz.ntmps61
  go_wp2_with (go_at_call 76; (with_reducible refine (HPL.out _).mono ?_); rintro e w' ⟨rfl, rfl⟩)
  obtain ⟨W0, hWe⟩ : ∃ W0, W0 = (((w.alloc (.cells cp.toArray 36)).alloc (.cells cs.toArray 32)).alloc (.cells zEc.toArray 32)) := ⟨_, rfl⟩
  rw [← hWe] at hB0 hR0 hs0 hW0 ⊢
  clear hWe q0 q11 q12
  go_loopw [6, 24] (fun v6 v24 wr => ∃ k : Nat, k ≤ x.kids.length ∧ v24 = .int .i64 k ∧ Hid (Kd.N kD 28 wr W0.heap.size (okN ok W0.heap.size) v6 ((x.kids.take k).map Ex.d)) ∧ Hid ((x.kids.take k).all Ex.atom = true) ∧ Below W0.heap.size W0 wr) (fun _ v24 _ => x.kids.length - (intOf v24).toNat)
  case atStart => exact ⟨0, Nat.zero_le _, rfl, Lib.hid (by simpa using Kd.N_nil _ _ _ _ _), Lib.hid rfl, Below.refl _ _⟩
  case round =>
    obtain ⟨k, hk, rfl, HN, HA, hbr⟩ := hrel
    have hB := hB0.below hbr
    have hR := hR0.below hbr
    have hsr := hbr.size
    have hb := below_then hW0 (by omega) hbr
    by_cases hlt : k < x.kids.length
    · obtain ⟨ad, cc, hA, hKc, hcc⟩ := elEF HX12.out hlt
      subst hA
      have HC : Hid (∀ j u, cc[j]? = some u → wr.cell? ((ad.add (k * 13)).add j) = some u) := Lib.hid (fun j u h => pw_cell_below hb (hcc j u h))
      have hcl := Lib.hid (kE_len (Kd.FK_now hKc))
      have hc1 := Lib.hid (kE.K_one (Kd.FK_now hKc))
      obtain ⟨D3, e3, D6, e6, D7, e7, D9, e9, D12, e12, hce, m3, j3, m6, j6, m7, j7, m9, j9, m12, j12⟩ := kE_openF hKc
      have HAT := Lib.hid (fun (W : World) (h : Below w.heap.size w W) => atom_calls (rdE x.kids k) cc W (Kd.FK_now (Kd.FK_below hKc h)))
      obtain ⟨y, hy⟩ : ∃ y, y = rdE x.kids k := ⟨_, rfl⟩
      have HYA := Lib.hid (show (x.kids.take (k + 1)).all Ex.atom = ((x.kids.take k).all Ex.atom && y.atom) by rw [hy]; exact all_atom_take hlt)
      have HYD := Lib.hid (show (x.kids.take (k + 1)).map Ex.d = (x.kids.take k).map Ex.d ++ [y.d] by rw [hy]; exact map_take_d hlt)
      have HYN := Lib.hid (fun h : y.atom = false => all_atom_no hlt (by rw [← hy]; exact h))
      rw [← hy] at HAT hce m3 j3 m6 j6 m7 j7
      have HYK := Lib.hid (fun (W : World) (h : Below w.heap.size w W) => kD_mkF W ok y.d m3 (Kd.F_below j3 h) m6 (Kd.F_below j6 h) m7 (Kd.F_below j7 h))
      have HCD : Hid (∀ j u, ([.int .i64 y.d.kind, .bool y.d.i.neg, .slice D3 y.d.i.l.length e3, .bool y.d.b, .string y.d.s, .slice D6 y.d.items.length e6, .slice D7 y.d.tail.length e7] : List Value)[j]? = some u → cc[1 + j]? = some u) := Lib.hid (by
        rw [hce]; intro j u h
        match j, h with
        | 0, h => exact h
        | 1, h => exact h
        | 2, h => exact h
        | 3, h => exact h
        | 4, h => exact h
        | 5, h => exact h
        | 6, h => exact h
        | (j + 7), h => exact absurd h (by simp))
      obtain ⟨at_, hat⟩ : ∃ b, b = y.atom := ⟨_, rfl⟩
      rw [← hat] at HAT HYA HYN
      clear hcc hKc hy j3 j6 j7 j9 j12 m3 m6 m7 m9 m12 hat hce hB0 hR0
      cases at_
      · have HYN2 := Lib.hid (HYN.out rfl)
        clear HYN
        go_wp2_with (first
          | ((with_reducible refine ldR 27 HC hcl rfl ?_ _ rfl ?_ ?_); (case _ => rfl); (case _ => rfl))
          | ((with_reducible refine stE (BX.new wr zEc) rfl hcl hc1 none rfl ?_ _ _ rfl ?_ ?_ ?_); (case _ => rfl); (case _ => rfl); (case _ => rfl); intro w5 hK5 hg5; have hb6 : Below wr.heap.size wr w5 := (below_alloc (Below.refl _ _) _).trans (below_grown hg5 (by simp) (Nat.le_refl _)); have hs6 := hb6.size; have hb8 := below_then hb hb.size hb6; have hB5 := hB.below hb6; have hR5 := hR.below hb6)
          | ((with_reducible refine ldE 28 hK5 hcl rfl ?_ _ rfl ?_ ?_); (case _ => rfl); (case _ => rfl))
          | (go_at_call 77; (with_reducible refine (HAT.out _ hb8).mono ?_); rintro e w6 ⟨rfl, hb7⟩; have hs7 := hb7.size; have hB6 := hB5.below hb7; have hR6 := hR5.below hb7)
          | ((with_reducible refine ldE 31 hB6 HXl rfl ?_ _ rfl ?_ ?_); (case _ => rfl); (case _ => rfl))
          | ((with_reducible refine stE hR6 rfl HXl HX1 none rfl ?_ _ _ rfl ?_ ?_ ?_); (case _ => rfl); (case _ => rfl); (case _ => rfl); intro w7 hR7 hg7))
        have HR := Lib.hid (show r = (x, false) by rw [HF.out, HYN2.out]; rfl)
        have hload := loadE hR7 HXl
        have hb9 : Below w.heap.size w w7 := (below_then hb8 hb8.size hb7).trans (below_grown hg7 (by omega) (by omega))
        refine bodyPost_ret (v := .tuple #[.agg cs.toArray, .bool false]) ?_ rfl ⟨cs, by rw [HR.out], by rw [HR.out]; exact Kd.FK_mono (Kd.FK_below HX.out hb9) (fun _ h => .inl h), hb9⟩
        simp [results, Tryz.f61, asAddr, Result.andThen, Act.put, hload]
      · clear HYN
        go_wp2_with (first
          | ((with_reducible refine ldR 27 HC hcl rfl ?_ _ rfl ?_ ?_); (case _ => rfl); (case _ => rfl))
          | ((with_reducible refine stE (BX.new wr zEc) rfl hcl hc1 none rfl ?_ _ _ rfl ?_ ?_ ?_); (case _ => rfl); (case _ => rfl); (case _ => rfl); intro w5 hK5 hg5; have hb6 : Below wr.heap.size wr w5 := (below_alloc (Below.refl _ _) _).trans (below_grown hg5 (by simp) (Nat.le_refl _)); have hs6 := hb6.size; have hb8 := below_then hb hb.size hb6)
          | ((with_reducible refine ldE 28 hK5 hcl rfl ?_ _ rfl ?_ ?_); (case _ => rfl); (case _ => rfl))
          | (go_at_call 77; (with_reducible refine (HAT.out _ hb8).mono ?_); rintro e w6 ⟨rfl, hb7⟩; have hs7 := hb7.size; have hK6 := hK5.below hb7; have hb9 := below_then hb8 hb8.size hb7; have hb10 := below_then hbr hbr.size (below_then (Below.refl _ _) (Nat.le_refl _) (hb6.trans (hb7.mono hb6.size))); have HN6 := Lib.hid (Kd.N_below HN.out (hb6.trans (hb7.mono hb6.size))))
          | ((with_reducible refine ldDx 34 hK6 HCD rfl rfl ?_ _ rfl ?_ ?_); (case _ => rfl); (case _ => rfl))
          | ((with_reducible refine gate_dst (N := 36) rfl ?_); refine Kd.N_append kD (w0 := W0) W0.heap.size rfl _ _ 26 28 _ 112 rfl Tryz.underlying26 infoD' rfl (by decide) (by decide) _ ((x.kids.take k).map Ex.d) y.d [.int .i64 y.d.kind, .bool y.d.i.neg, .slice D3 y.d.i.l.length e3, .bool y.d.b, .string y.d.s, .slice D6 y.d.items.length e6, .slice D7 y.d.tail.length e7] (okN ok W0.heap.size) ok ?_ ?_ (HYK.out _ hb9) (fun q hq => ⟨.inl hq, fun he => by have h1 := Kd.N_base HN6.out q he.symm; have h2 := HO.out q hq; omega⟩) (fun q hq => .inr (Nat.le_trans hb10.size hq)) HN6.out hb10 hb10.size ?_ ?_; (case _ => rfl); (case _ => rfl); (case _ => simp; omega); intro v2 w2 hN2 hB2 _ _; have HN2 := Lib.hid hN2; clear hN2))
        go_roundw
        case rel => exact ⟨k + 1, by omega, by go_num, by rw [HYD.out]; exact HN2, Lib.hid (by rw [HYA.out, HA.out]; rfl), hB2⟩
        case measure => simp [intOf]; omega
    · have hkn : x.kids.take k = x.kids := List.take_of_length_le (by omega)
      rw [hkn] at HN HA
      obtain ⟨A, c, hv⟩ := Kd.N_slice HN.out
      rw [List.length_map] at hv
      subst hv
      have hrd := Kd.N_reads' HN.out
      have hle := hrd.2.1
      have HD2 := Lib.hid (HDO.out HK7.out trivial HA.out wr A c hb (by simpa using hrd.2.2))
      have HR := Lib.hid (show r = (constE dr.1, dr.2 == 0) by rw [HF.out, HA.out]; rfl)
      have q11 := hB.cell hc11
      clear hrd HDO HPL
      obtain ⟨d1, d2⟩ := dr
      go_wp2_with (first
        | (go_at_call 78; (with_reducible refine HD2.out.mono ?_); rintro e w2 ⟨cd, rfl, hKd, hb2⟩; obtain ⟨B2, b2, B5, b5, B6, b6, rfl, l2, g2, l5, g5, l6, g6⟩ := kD_openF hKd; have G2 := Lib.hid g2; have G5 := Lib.hid g5; have G6 := Lib.hid g6; clear g2 g5 g6 hKd)
        | ((with_reducible refine stE (cs := [.int .i64 1, .int .i64 d1.kind, .bool d1.i.neg, .slice B2 d1.i.l.length b2, .bool d1.b, .string d1.s, .slice B5 d1.items.length b5, .slice B6 d1.tail.length b6, .int .i64 0, .slice none 0 0, .bool false, .int .i64 0, .slice none 0 0]) ((hR.below hb2).alloc _) rfl (Lib.hid rfl) (Lib.hid ?_) none rfl ?_ _ _ rfl ?_ ?_ ?_); (case _ => simp [Value.oneCell']); (case _ => rfl); (case _ => rfl); (case _ => rfl); intro w7 hR7 hg7))
      have hload := loadE hR7 (Lib.hid rfl)
      have hb4 := below_then hb hb.size (below_alloc hb2 (.cells #[.int .i64 d1.kind, .bool d1.i.neg, .slice B2 d1.i.l.length b2, .bool d1.b, .string d1.s, .slice B5 d1.items.length b5, .slice B6 d1.tail.length b6] 28))
      have hb5 : Below w.heap.size w w7 := hb4.trans (below_grown hg7 hb4.size (by omega))
      have hrow : ∀ q, wr.heap.size ≤ q → some q ≠ some (w.heap.size + 1 + 1) := fun q hq he => by injection he with he; omega
      have hnew : ∀ q, wr.heap.size ≤ q → okN ok w.heap.size q := fun q hq => .inr (by omega)
      have hK := kE_mkF w7 (okN ok w.heap.size) (constE d1) l2 (Kd.F_mono (Kd.F_grown (Kd.F_alloc G2.out _) hg7 hrow) hnew) l5 (Kd.F_mono (Kd.F_grown (Kd.F_alloc G5.out _) hg7 hrow) hnew) l6 (Kd.F_mono (Kd.F_grown (Kd.F_alloc G6.out _) hg7 hrow) hnew) (A9 := none) (c9 := 0) (Nat.le_refl 0) (Kd.F_nil _ _ _) (A12 := none) (c12 := 0) (Nat.le_refl 0) (Kd.F_nil _ _ _)
      refine bodyPost_ret (v := .tuple #[.agg _, .bool (d2 == 0)]) ?_ rfl ⟨_, by rw [HR.out], by rw [HR.out]; exact hK, hb5⟩
      simp [results, Tryz.f61, asAddr, Result.andThen, Act.put, hload, constE, zE]
end Go.Proofs.YtlcofdgaidlldaaGreatDoor
namespace Go.Proofs.YtlcofdgaidlldaaGreatDoor
open Go.RowKit Go.Shelf Go.Proofs.YtlcofdgaidlldaaGreatDoorW.PrintWords
set_option linter.unusedVariables false
set_option linter.unusedSimpArgs false
end Go.Proofs.YtlcofdgaidlldaaGreatDoor
