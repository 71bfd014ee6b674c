/- Contract: pavanelaw11.lives. The walk's condition: the tables. -/
import Derived.Test.YtegolcblbpeoeaaGreatDoorZx
namespace Go.Proofs.YtegolcblbpeoeaaGreatDoor
open Go.RowKit Go.Shelf Go.Proofs.YtegolcblbpeoeaaGreatDoorW.PrintWords
set_option linter.unusedVariables false
set_option linter.unusedSimpArgs false
theorem v_callsF (n : Int) (w : World) : Calls Tryz.prog 15 #[.int .i64 n] w fun e w' => ∃ cs', e = .returned (.agg cs'.toArray) ∧ Kd.FK kE w' (fun _ => False) (varE n) cs' ∧ Below w.heap.size w w' :=
  (v_calls n w).mono (fun e w' ⟨he, hb⟩ => ⟨_, he, varE_at n w' _, hb⟩)
theorem fill1 (ca : List Value) (ha : ca.length = 13) :
    Instr.fill (fun i => some (i * 13, 13)) ((Array.range (1 * 13)).map (zEc.toArray[· % zEc.toArray.size]!)) [(0, .agg ca.toArray)] = some ca.toArray := by
  obtain ⟨a0, a1, a2, a3, a4, a5, a6, a7, a8, a9, a10, a11, a12, rfl⟩ := list13 ha
  kernel_rfl
theorem reps1 {R : Ex → List Value → Prop} {x : Ex} {ca : List Value} (ha : R x ca) (la : ca.length = 13) : Reps R 13 [x] ca := by
  have h1 := (Reps.none R 13).snoc ha la
  simpa using h1
section
variable {ops : Array Oper} {rest : List Oper} {o : Oper} {a : Act} {Q : Exit → Act → World → Prop}
theorem build1_E {w : World} (N : Tmp) (hN : o.dst = some N) (hgd : o.guard = none) (x : Operand) (ho : o.op = .buildSlice 29 1 #[(0, x)]) (ca : List Value) (ha : ca.length = 13) (hx : a.eval x = .agg ca.toArray)
    (h : wpList Tryz.prog ops Q rest (a.put (some N) (.slice (some ⟨w.heap.size, 0, none⟩) 1 1)) (w.alloc (.cells ca.toArray 31))) : wpList Tryz.prog ops Q (o :: rest) a w := by
  obtain ⟨ie, hie, hz, hs, _⟩ := info_parts infoE
  rw [← hN] at h
  have hs' : ie.size = 13 := hs
  refine wpList_buildSlice hgd 29 31 1 _ ho ca.toArray ie _ Tryz.underlying29 hie hz (by rw [hs']; decide) (by rw [hs']; decide) ?_ h
  rw [hs']
  have := fill1 ca ha
  simpa [hx, Value.cells] using this
end
section
variable {ops : Array Oper} {a : Act} {w : World} {o : Oper} {K : Act → World → Prop} {Q : Exit → Act → World → Prop}
/-- A row of two, in a drawn region. -/
theorem step_build2_E (hw : Region.wanted o (yielded ops a.tmps) = true) (N : Tmp) (hN : o.dst = some N) (x y : Operand) (ho : o.op = .buildSlice 29 2 #[(0, x), (1, y)]) (ca cb : List Value) (ha : ca.length = 13) (hb : cb.length = 13) (hx : a.eval x = .agg ca.toArray) (hy : a.eval y = .agg cb.toArray)
    (h : K (a.put (some N) (.slice (some ⟨w.heap.size, 0, none⟩) 2 2)) (w.alloc (.cells (ca ++ cb).toArray 31))) : if Region.wanted o (yielded ops a.tmps) = true then Oper.wp Tryz.prog o a w K Q else K (a.put o.dst undef) w := by
  rw [if_pos hw]
  obtain ⟨ie, hie, hz, hs, _⟩ := info_parts infoE
  rw [← hN] at h
  have hs' : ie.size = 13 := hs
  refine wp_buildSlice 29 31 2 _ ho (ca ++ cb).toArray ie _ Tryz.underlying29 hie hz (by rw [hs']; decide) (by rw [hs']; decide) ?_ h
  rw [hs']
  have := fill2 ca cb ha hb
  simpa [hx, hy, Value.cells] using this
end
abbrev sumC (g : Nat) : List Value := [.int .i64 7, .int .i64 0, .bool false, .slice none 0 0, .bool false, .string ⟨#[]⟩, .slice none 0 0, .slice none 0 0, .int .i64 0, .slice none 0 0, .bool false, .int .i64 1, .slice (some ⟨g, 0, none⟩) 2 2]
abbrev callC (g : Nat) : List Value := [.int .i64 6, .int .i64 0, .bool false, .slice none 0 0, .bool false, .string ⟨#[]⟩, .slice none 0 0, .slice none 0 0, .int .i64 0, .slice none 0 0, .bool false, .int .i64 0, .slice (some ⟨g, 0, none⟩) 2 2]
abbrev lamC (gv g : Nat) : List Value := [.int .i64 5, .int .i64 0, .bool false, .slice none 0 0, .bool false, .string ⟨#[]⟩, .slice none 0 0, .slice none 0 0, .int .i64 0, .slice (some ⟨gv, 0, none⟩) 1 1, .bool false, .int .i64 0, .slice (some ⟨g, 0, none⟩) 1 1]
theorem sumE_at {W : World} {ok : Nat → Prop} {g : Nat} {ca cb : List Value} (hB : BX 31 W g (ca ++ cb)) (ha : Kd.FK kE W ok (numE 1) ca) (hb : Kd.FK kE W ok (numE 2) cb) (la : ca.length = 13) (lb : cb.length = 13) : Kd.FK kE W (fun k => ok k ∨ k = g) sumE (sumC g) :=
  kE_mkF W _ sumE (A3 := none) (c3 := 0) (Nat.le_refl 0) (Kd.F_nil _ _ _) (A6 := none) (c6 := 0) (Nat.le_refl 0) (Kd.F_nil _ _ _) (A7 := none) (c7 := 0) (Nat.le_refl 0) (Kd.F_nil _ _ _) (A9 := none) (c9 := 0) (Nat.le_refl 0) (Kd.F_nil _ _ _) (A12 := some ⟨g, 0, none⟩) (c12 := 2) (by exact Nat.le_refl 2) (F_block (d := kE) W g 31 [numE 1, numE 2] (ca ++ cb) hB (reps2 ha hb la lb) (by simp))
theorem callE_at {W : World} {ok : Nat → Prop} {g : Nat} {ca cb : List Value} (hB : BX 31 W g (ca ++ cb)) (ha : Kd.FK kE W ok lamE ca) (hb : Kd.FK kE W ok (numE 5) cb) (la : ca.length = 13) (lb : cb.length = 13) : Kd.FK kE W (fun k => ok k ∨ k = g) callE (callC g) :=
  kE_mkF W _ callE (A3 := none) (c3 := 0) (Nat.le_refl 0) (Kd.F_nil _ _ _) (A6 := none) (c6 := 0) (Nat.le_refl 0) (Kd.F_nil _ _ _) (A7 := none) (c7 := 0) (Nat.le_refl 0) (Kd.F_nil _ _ _) (A9 := none) (c9 := 0) (Nat.le_refl 0) (Kd.F_nil _ _ _) (A12 := some ⟨g, 0, none⟩) (c12 := 2) (by exact Nat.le_refl 2) (F_block (d := kE) W g 31 [lamE, numE 5] (ca ++ cb) hB (reps2 ha hb la lb) (by simp))
theorem lamE_at {W : World} {ok : Nat → Prop} {gv g : Nat} {ca : List Value} (hV : BX 3 W gv [.int .i64 1]) (hB : BX 31 W g ca) (ha : Kd.FK kE W ok (varE 1) ca) (la : ca.length = 13) : kE.K W lamE (lamC gv g) :=
  kE_mk W lamE (A3 := none) (c3 := 0) (Nat.le_refl 0) (Kd_C_nil _ _) (A6 := none) (c6 := 0) (Nat.le_refl 0) (Kd_C_nil _ _) (A7 := none) (c7 := 0) (Nat.le_refl 0) (Kd_C_nil _ _)
    (A9 := some ⟨gv, 0, none⟩) (c9 := 1) (by exact Nat.le_refl 1) (C_block (d := Kd.int .i64) W gv 3 (0, 0) [1] [.int .i64 1] hV (reps_nums W .i64 [1]) (by simp))
    (A12 := some ⟨g, 0, none⟩) (c12 := 1) (by exact Nat.le_refl 1) (C_block (d := kE) W g 31 (0, 0) [varE 1] ca hB (reps1 (Kd.FK_now ha) la) (by simp))
set_option maxRecDepth 100000 in
set_option maxHeartbeats 8000000 in
theorem lives_calls (w : World) (hL : Laid w) : Calls Tryz.prog 6 #[] w fun e w' => e = .returned (.bool true) ∧ Below w.heap.size w w' := by
  have HN1 := Lib.hid (fun (W : World) => num_calls 1 W (by decide))
  have HN2 := Lib.hid (fun (W : World) => num_calls 2 W (by decide))
  have HN3 := Lib.hid (fun (W : World) => num_calls 3 W (by decide))
  have HN5 := Lib.hid (fun (W : World) => num_calls 5 W (by decide))
  have HV := Lib.hid (fun (W : World) => v_callsF 1 W)
  have HLW := Lib.hid (fun (W : World) (h : Below w.heap.size w W) => hL.below h)
  go_enter Tryz.func6, Tryz.ntmps6
  go_upto_region 3 with (first
    | (go_at_call 14; (with_reducible refine (HN1.out w).mono ?_); rintro e w1 ⟨c1, rfl, hK1, hb1⟩; have H1l := Lib.hid (kE_len (Kd.FK_now hK1)); have HK1 := Lib.hid hK1; have hs1 := hb1.size; clear hK1)
    | (go_at_call 14; (with_reducible refine (HN2.out w1).mono ?_); rintro e w2 ⟨c2, rfl, hK2, hb2⟩; have H2l := Lib.hid (kE_len (Kd.FK_now hK2)); have HK2 := Lib.hid hK2; have hs2 := hb2.size; clear hK2)
    | ((with_reducible refine build2_E 11 rfl ?_ _ _ rfl c1 c2 H1l.out H2l.out ?_ ?_ ?_); (case _ => rfl); (case _ => rfl); (case _ => rfl))
    | (go_at_call 7; (with_reducible refine (Apply_sum (sumC w2.heap.size) (w2.alloc (.cells (c1 ++ c2).toArray 31)) (fun k => k < (w2.alloc (.cells (c1 ++ c2).toArray 31)).heap.size) (fun _ h => h) (K_FK (Kd.FK_now (sumE_at (ok := fun _ => True) (BX.new w2 _) (Kd.FK_mono (Kd.FK_below (Kd.FK_below HK1.out hb2) (below_alloc (Below.refl _ _) _)) (fun _ _ => trivial)) (Kd.FK_mono (Kd.FK_below HK2.out (below_alloc (Below.refl _ _) _)) (fun _ _ => trivial)) H1l.out H2l.out))) (HLW.out _ (below_alloc ((below_then hb1 hb1.size hb2)) _))).mono ?_); rintro e w3 ⟨c3, rfl, hK3, hb3⟩; have hK3 : kE.K w3 (numE 3) c3 := Kd.FK_now hK3; have H3l := Lib.hid (kE_len hK3); have H31 := Lib.hid (kE.K_one hK3); have HK3 := Lib.hid hK3; have hs3 : w2.heap.size + 1 ≤ w3.heap.size := (by simpa using hb3.size); have hw3 : Below w.heap.size w w3 := below_then (below_alloc ((below_then hb1 hb1.size hb2)) _) (by simp; omega) hb3; clear hK3)
    | ((with_reducible refine stE (BX.new w3 zEc) rfl H3l H31 none rfl ?_ _ _ rfl ?_ ?_ ?_); (case _ => rfl); (case _ => rfl); (case _ => rfl); intro w4 hT1 hg4; have hb4 : Below w3.heap.size w3 w4 := (below_alloc (Below.refl _ _) _).trans (below_grown hg4 (by simp) (Nat.le_refl _)); have hs4 : w3.heap.size + 1 ≤ w4.heap.size := hT1.lt; have HK4 := Lib.hid (kE.K_below hb4 HK3.out); have hw4 := below_then hw3 hw3.size hb4)
    | (go_at_call 15; (with_reducible refine (HV.out _).mono ?_); rintro e w5 ⟨c5, rfl, hK5, hb5⟩; have H5l := Lib.hid (kE_len (Kd.FK_now hK5)); have HK5 := Lib.hid hK5; have hs5 : w4.heap.size + 1 ≤ w5.heap.size := (by simpa using hb5.size); clear hK5)
    | ((with_reducible refine build1_E 19 rfl ?_ _ rfl c5 H5l.out ?_ ?_); (case _ => rfl); (case _ => rfl)))
  obtain ⟨cl, hcl⟩ : ∃ cl, cl = lamC w4.heap.size w5.heap.size := ⟨_, rfl⟩
  have hL0 : BX 31 ((w5.alloc (.cells c5.toArray 31)).alloc (.cells (lamC w4.heap.size w5.heap.size).toArray 31)) (w5.heap.size + 1) (lamC w4.heap.size w5.heap.size) := by simpa using BX.new (t := 31) (w5.alloc (.cells c5.toArray 31)) (lamC w4.heap.size w5.heap.size)
  have hV0 : BX 3 ((w5.alloc (.cells c5.toArray 31)).alloc (.cells (lamC w4.heap.size w5.heap.size).toArray 31)) w4.heap.size [.int .i64 1] := (((BX.new w4 _).below hb5).alloc _).alloc _
  have hR0 : BX 31 ((w5.alloc (.cells c5.toArray 31)).alloc (.cells (lamC w4.heap.size w5.heap.size).toArray 31)) w5.heap.size c5 := (BX.new w5 _).alloc _
  have hbW : Below w4.heap.size w4 ((w5.alloc (.cells c5.toArray 31)).alloc (.cells (lamC w4.heap.size w5.heap.size).toArray 31)) := below_alloc (below_alloc (below_then (below_alloc (Below.refl _ _) _) (by simp) hb5) _) _
  have hT0 := hT1.below hbW
  have hw0 : Below w.heap.size w ((w5.alloc (.cells c5.toArray 31)).alloc (.cells (lamC w4.heap.size w5.heap.size).toArray 31)) := below_then hw4 hw4.size hbW
  have HK30 := Lib.hid (kE.K_below hbW HK4.out)
  have HLam := Lib.hid (lamE_at hV0 hR0 (Kd.FK_below HK5.out (below_alloc (below_alloc (Below.refl _ _) _) _)) H5l.out)
  have hsz : ((w5.alloc (.cells c5.toArray 31)).alloc (.cells (lamC w4.heap.size w5.heap.size).toArray 31)).heap.size = w5.heap.size + 2 := by simp
  rw [← hcl] at hL0 hT0 hw0 HK30 HLam hsz
  obtain ⟨W0, hW0e⟩ : ∃ W0, W0 = ((w5.alloc (.cells c5.toArray 31)).alloc (.cells (lamC w4.heap.size w5.heap.size).toArray 31)) := ⟨_, rfl⟩
  have hW0c := hW0e
  rw [← hcl] at hW0c
  rw [← hW0e]
  rw [← hW0c] at hL0 hT0 hw0 HK30 HLam hsz
  have hll := Lib.hid (kE_len HLam.out)
  have HSZ := Lib.hid hsz
  have hwl : w.heap.size ≤ W0.heap.size := hw0.size
  clear hV0 hR0 hbW hW0e hW0c hcl hsz HK1 HK2 HK3 HK4 HK5 HN1 HN2 HV hT1 hb1 hb2 hb3 hb4 hb5 hw3 hw4 hg4
  go_cut [4, 5] (fun v4 v5 wx => ∃ (g : Nat) (ch : List Value), v4 = .pointer (some ⟨g, 0, none⟩) ∧ v5 = .int .i64 0 ∧ W0.heap.size ≤ g ∧ BX 31 wx g ch ∧ Hid (kE.K wx letB ch) ∧ Below W0.heap.size W0 wx)
  case first =>
    refine wp_region_held_drew (S := Stood W0) (by kernel_rfl) (below_drew (Below.refl _ _)) (fun hS => ?_)
    refine wpAnyH_take (i := 0) rfl (by kernel_rfl) (by kernel_rfl) (by kernel_rfl) (fun _ _ _ h => h) (held_load (by rfl) 31 _ rfl ⟨w5.heap.size + 1, 0, none⟩ rfl cl _ hL0.cells Tryz.underlying31 rfl (by rw [hll.out]; exact size31')) hS ?_
    simp only [Act.put, List.getElem_toArray, List.getElem_cons_succ, List.getElem_cons_zero, List.setIfInBounds_toArray, List.set_cons_zero, List.set_cons_succ]
    refine wpAnyH_take (i := 4) (v := ?_) rfl (by kernel_rfl) (by kernel_rfl) (by kernel_rfl) (fun _ _ _ h => h) (Or.inl ⟨by rfl, ?_⟩) hS ?_
    case refine_2 => (intro w' hS'; go_simp; try with_reducible rfl)
    simp only [Act.put, List.getElem_toArray, List.getElem_cons_succ, List.getElem_cons_zero, List.setIfInBounds_toArray, List.set_cons_zero, List.set_cons_succ]
    refine wpAnyH_ready (rs := [1, 9]) (by kernel_rfl) (by simp) ?_
    refine AllReadyH.cons (o := _) rfl (fun K hK => ?_) (AllReadyH.cons (o := _) rfl (fun K hK => ?_) AllReadyH.nil)
    · go_simp
      refine (HN5.out _).mono ?_
      rintro e w6 ⟨c6, rfl, hK6, hb6⟩
      have H6l := Lib.hid (kE_len (Kd.FK_now hK6))
      have HK6 := Lib.hid (Kd.FK_mono (ok' := fun k => W0.heap.size ≤ k) hK6 (fun k hk => hk))
      have hb6' : Below W0.heap.size W0 w6 := below_then (below_drew (Below.refl _ _)) (Nat.le_refl _) hb6
      have hs6 := hb6'.size
      clear hK6
      refine hK.out _ _ ((hS.call hb6)) (fun hS => ?_)
      clear hK K
      try simp only [Act.put, List.getElem_toArray, List.getElem_cons_succ, List.getElem_cons_zero, List.setIfInBounds_toArray, List.set_cons_zero, List.set_cons_succ]
      refine wpAnyH_ready (rs := [2, 9]) (by kernel_rfl) (by simp) ?_
      refine AllReadyH.cons (o := _) rfl (fun K hK => ?_) (AllReadyH.cons (o := _) rfl (fun K hK => ?_) AllReadyH.nil)
      ·
        refine step_build2_E (by rfl) 24 rfl _ _ rfl cl c6 hll.out H6l.out rfl rfl ?_
        refine hK.out _ _ ((hS.alloc _)) (fun hS => ?_)
        clear hK K
        try simp only [Act.put, List.getElem_toArray, List.getElem_cons_succ, List.getElem_cons_zero, List.setIfInBounds_toArray, List.set_cons_zero, List.set_cons_succ]
        refine wpAnyH_take (i := 3) (v := ?_) rfl (by kernel_rfl) (by kernel_rfl) (by kernel_rfl) (fun _ _ _ h => h) (Or.inl ⟨by rfl, ?_⟩) hS ?_
        case refine_2 => (intro w' hS'; go_simp; try with_reducible rfl)
        simp only [Act.put, List.getElem_toArray, List.getElem_cons_succ, List.getElem_cons_zero, List.setIfInBounds_toArray, List.set_cons_zero, List.set_cons_succ]
        refine wpAnyH_ready (rs := [5, 9]) (by kernel_rfl) (by simp) ?_
        refine AllReadyH.cons (o := _) rfl (fun K hK => ?_) (AllReadyH.cons (o := _) rfl (fun K hK => ?_) AllReadyH.nil)
        ·
          have hbX : Below W0.heap.size W0 (w6.alloc (.cells (cl ++ c6).toArray 31)) := below_alloc hb6' _
          go_simp
          refine (Apply_call (callC w6.heap.size) (w6.alloc (.cells (cl ++ c6).toArray 31)) (fun k => k < (w6.alloc (.cells (cl ++ c6).toArray 31)).heap.size) (fun _ h => h) (K_FK (Kd.FK_now (callE_at (ok := fun _ => True) (BX.new w6 _) (Kd.FK_mono (Kd.FK_below (Kd.FK_below (K_FK HLam.out) hb6') (below_alloc (Below.refl _ _) _)) (fun _ _ => trivial)) (Kd.FK_mono (Kd.FK_below HK6.out (below_alloc (Below.refl _ _) _)) (fun _ _ => trivial)) hll.out H6l.out))) (HLW.out _ (below_then hw0 hwl hbX))).mono ?_
          rintro e w7 ⟨c7, rfl, hK7, hb7⟩
          have hK7 : Kd.FK kE w7 (okN (fun k => k < (w6.alloc (.cells (cl ++ c6).toArray 31)).heap.size) ((w6.alloc (.cells (cl ++ c6).toArray 31))).heap.size) letB c7 := hK7
          have H7l := Lib.hid (kE_len (Kd.FK_now hK7))
          have H71 := Lib.hid (kE.K_one (Kd.FK_now hK7))
          have HK7 := Lib.hid hK7
          have hs7 := hb7.size
          have hsX := hbX.size
          clear hK7
          refine hK.out _ _ ((hS.call hb7)) (fun hS => ?_)
          clear hK K
          try simp only [Act.put, List.getElem_toArray, List.getElem_cons_succ, List.getElem_cons_zero, List.setIfInBounds_toArray, List.set_cons_zero, List.set_cons_succ]
          refine wpAnyH_take (i := 6) (v := ?_) rfl (by kernel_rfl) (by kernel_rfl) (by kernel_rfl) (fun _ _ _ h => h) (Or.inl ⟨by rfl, ?_⟩) hS ?_
          case refine_2 => (intro w' hS'; go_simp; try with_reducible rfl)
          simp only [Act.put, List.getElem_toArray, List.getElem_cons_succ, List.getElem_cons_zero, List.setIfInBounds_toArray, List.set_cons_zero, List.set_cons_succ]
          refine wpAnyH_take (i := 7) (v := ?_) rfl (by kernel_rfl) (by kernel_rfl) (by kernel_rfl) (fun _ _ _ h => h) (Or.inl ⟨by rfl, ?_⟩) hS ?_
          case refine_2 => (intro w' hS'; go_simp; try with_reducible rfl)
          simp only [Act.put, List.getElem_toArray, List.getElem_cons_succ, List.getElem_cons_zero, List.setIfInBounds_toArray, List.set_cons_zero, List.set_cons_succ]
          refine wpAnyH_take (i := 8) (v := ?_) rfl (by kernel_rfl) (by kernel_rfl) (by kernel_rfl) (fun _ _ _ h => h) (Or.inl ⟨by rfl, ?_⟩) hS ?_
          case refine_2 => (intro w' hS'; go_simp; try with_reducible rfl)
          simp only [Act.put, List.getElem_toArray, List.getElem_cons_succ, List.getElem_cons_zero, List.setIfInBounds_toArray, List.set_cons_zero, List.set_cons_succ]
          refine wpAnyH_ready (rs := [9]) (by kernel_rfl) (by simp) ?_
          refine AllReadyH.cons (o := _) rfl (fun K hK => ?_) AllReadyH.nil
          go_simp
          refine hK.out _ _ ((hS.alloc _)) (fun hS => ?_)
          clear hK K
          try simp only [Act.put, List.getElem_toArray, List.getElem_cons_succ, List.getElem_cons_zero, List.setIfInBounds_toArray, List.set_cons_zero, List.set_cons_succ]
          refine wpAnyH_ready (rs := [10]) (by kernel_rfl) (by simp) ?_
          refine AllReadyH.cons (o := _) rfl (fun K hK => ?_) AllReadyH.nil
          refine step_store (g := w7.heap.size) (BX.new w7 zEc) (by rfl) none rfl _ _ rfl c7 (by rfl) rfl (by rw [H7l.out]; exact size31') (by rw [H7l.out]; rfl) H71.out ?_
          intro w8 hZ8 hg8
          refine hK.out _ _ ((hS.grown hg8 (by simp at hs7 hsX; omega))) (fun hS => ?_)
          clear hK K
          try simp only [Act.put, List.getElem_toArray, List.getElem_cons_succ, List.getElem_cons_zero, List.setIfInBounds_toArray, List.set_cons_zero, List.set_cons_succ]
          refine wpAnyH_take (i := 11) (v := ?_) rfl (by kernel_rfl) (by kernel_rfl) (by kernel_rfl) (fun _ _ _ h => h) (Or.inl ⟨by rfl, ?_⟩) hS ?_
          case refine_2 => (intro w' hS'; go_simp; try with_reducible rfl)
          simp only [Act.put, List.getElem_toArray, List.getElem_cons_succ, List.getElem_cons_zero, List.setIfInBounds_toArray, List.set_cons_zero, List.set_cons_succ]
          refine wpAnyH_done (by kernel_rfl) ?_ _
          go_wp2_with fail
          go_meet
          exact ⟨w7.heap.size, c7, rfl, rfl, by simp at hs7 hsX; omega, hZ8, Lib.hid (Kd.FK_now (Kd.FK_grown (Kd.FK_below (K_FK (Kd.FK_now HK7.out)) (below_alloc (Below.refl _ _) _)) hg8 (fun q hq e => by injection e; omega))), hS⟩
        · go_simp
          refine hK.out _ _ ((hS.alloc _)) (fun hS => ?_)
          clear hK K
          try simp only [Act.put, List.getElem_toArray, List.getElem_cons_succ, List.getElem_cons_zero, List.setIfInBounds_toArray, List.set_cons_zero, List.set_cons_succ]
          refine wpAnyH_ready (rs := [5]) (by kernel_rfl) (by simp) ?_
          refine AllReadyH.cons (o := _) rfl (fun K hK => ?_) AllReadyH.nil
          have hbX : Below W0.heap.size W0 ((w6.alloc (.cells (cl ++ c6).toArray 31)).alloc (.cells zEc.toArray 31)) := below_alloc (below_alloc hb6' _) _
          go_simp
          refine (Apply_call (callC w6.heap.size) ((w6.alloc (.cells (cl ++ c6).toArray 31)).alloc (.cells zEc.toArray 31)) (fun k => k < w6.heap.size + 1) (fun k hk => by simp; omega) (Kd.FK_mono (Kd.FK_below (K_FK (Kd.FK_now (callE_at (ok := fun _ => True) (BX.new w6 _) (Kd.FK_mono (Kd.FK_below (Kd.FK_below (K_FK HLam.out) hb6') (below_alloc (Below.refl _ _) _)) (fun _ _ => trivial)) (Kd.FK_mono (Kd.FK_below HK6.out (below_alloc (Below.refl _ _) _)) (fun _ _ => trivial)) hll.out H6l.out))) (below_alloc (Below.refl _ _) _)) (fun k hk => by simpa using hk)) (HLW.out _ (below_then hw0 hwl hbX))).mono ?_
          rintro e w7 ⟨c7, rfl, hK7, hb7⟩
          have hK7 : Kd.FK kE w7 (okN (fun k => k < w6.heap.size + 1) (((w6.alloc (.cells (cl ++ c6).toArray 31)).alloc (.cells zEc.toArray 31))).heap.size) letB c7 := hK7
          have H7l := Lib.hid (kE_len (Kd.FK_now hK7))
          have H71 := Lib.hid (kE.K_one (Kd.FK_now hK7))
          have HK7 := Lib.hid hK7
          have hs7 := hb7.size
          have hsX := hbX.size
          clear hK7
          refine hK.out _ _ ((hS.call hb7)) (fun hS => ?_)
          clear hK K
          try simp only [Act.put, List.getElem_toArray, List.getElem_cons_succ, List.getElem_cons_zero, List.setIfInBounds_toArray, List.set_cons_zero, List.set_cons_succ]
          refine wpAnyH_take (i := 6) (v := ?_) rfl (by kernel_rfl) (by kernel_rfl) (by kernel_rfl) (fun _ _ _ h => h) (Or.inl ⟨by rfl, ?_⟩) hS ?_
          case refine_2 => (intro w' hS'; go_simp; try with_reducible rfl)
          simp only [Act.put, List.getElem_toArray, List.getElem_cons_succ, List.getElem_cons_zero, List.setIfInBounds_toArray, List.set_cons_zero, List.set_cons_succ]
          refine wpAnyH_take (i := 7) (v := ?_) rfl (by kernel_rfl) (by kernel_rfl) (by kernel_rfl) (fun _ _ _ h => h) (Or.inl ⟨by rfl, ?_⟩) hS ?_
          case refine_2 => (intro w' hS'; go_simp; try with_reducible rfl)
          simp only [Act.put, List.getElem_toArray, List.getElem_cons_succ, List.getElem_cons_zero, List.setIfInBounds_toArray, List.set_cons_zero, List.set_cons_succ]
          refine wpAnyH_take (i := 8) (v := ?_) rfl (by kernel_rfl) (by kernel_rfl) (by kernel_rfl) (fun _ _ _ h => h) (Or.inl ⟨by rfl, ?_⟩) hS ?_
          case refine_2 => (intro w' hS'; go_simp; try with_reducible rfl)
          simp only [Act.put, List.getElem_toArray, List.getElem_cons_succ, List.getElem_cons_zero, List.setIfInBounds_toArray, List.set_cons_zero, List.set_cons_succ]
          refine wpAnyH_ready (rs := [10]) (by kernel_rfl) (by simp) ?_
          refine AllReadyH.cons (o := _) rfl (fun K hK => ?_) AllReadyH.nil
          refine step_store (g := (w6.heap.size + 1)) ((by simpa using BX.new (t := 31) (w6.alloc (.cells (cl ++ c6).toArray 31)) zEc : BX 31 ((w6.alloc (.cells (cl ++ c6).toArray 31)).alloc (.cells zEc.toArray 31)) (w6.heap.size + 1) zEc).below hb7) (by rfl) none rfl _ _ rfl c7 (by rfl) rfl (by rw [H7l.out]; exact size31') (by rw [H7l.out]; rfl) H71.out ?_
          intro w8 hZ8 hg8
          refine hK.out _ _ ((hS.grown hg8 (by simp at hs7 hsX; omega))) (fun hS => ?_)
          clear hK K
          try simp only [Act.put, List.getElem_toArray, List.getElem_cons_succ, List.getElem_cons_zero, List.setIfInBounds_toArray, List.set_cons_zero, List.set_cons_succ]
          refine wpAnyH_take (i := 11) (v := ?_) rfl (by kernel_rfl) (by kernel_rfl) (by kernel_rfl) (fun _ _ _ h => h) (Or.inl ⟨by rfl, ?_⟩) hS ?_
          case refine_2 => (intro w' hS'; go_simp; try with_reducible rfl)
          simp only [Act.put, List.getElem_toArray, List.getElem_cons_succ, List.getElem_cons_zero, List.setIfInBounds_toArray, List.set_cons_zero, List.set_cons_succ]
          refine wpAnyH_done (by kernel_rfl) ?_ _
          go_wp2_with fail
          go_meet
          exact ⟨(w6.heap.size + 1), c7, rfl, rfl, by simp at hs7 hsX; omega, hZ8, Lib.hid (Kd.FK_now (Kd.FK_grown HK7.out hg8 (fun q hq e => by injection e with e; rcases hq with hq | hq <;> (try simp at hq) <;> omega))), hS⟩
      · go_simp
        refine hK.out _ _ ((hS.alloc _)) (fun hS => ?_)
        clear hK K
        try simp only [Act.put, List.getElem_toArray, List.getElem_cons_succ, List.getElem_cons_zero, List.setIfInBounds_toArray, List.set_cons_zero, List.set_cons_succ]
        refine wpAnyH_ready (rs := [2]) (by kernel_rfl) (by simp) ?_
        refine AllReadyH.cons (o := _) rfl (fun K hK => ?_) AllReadyH.nil
        refine step_build2_E (by rfl) 24 rfl _ _ rfl cl c6 hll.out H6l.out rfl rfl ?_
        refine hK.out _ _ ((hS.alloc _)) (fun hS => ?_)
        clear hK K
        try simp only [Act.put, List.getElem_toArray, List.getElem_cons_succ, List.getElem_cons_zero, List.setIfInBounds_toArray, List.set_cons_zero, List.set_cons_succ]
        refine wpAnyH_take (i := 3) (v := ?_) rfl (by kernel_rfl) (by kernel_rfl) (by kernel_rfl) (fun _ _ _ h => h) (Or.inl ⟨by rfl, ?_⟩) hS ?_
        case refine_2 => (intro w' hS'; go_simp; try with_reducible rfl)
        simp only [Act.put, List.getElem_toArray, List.getElem_cons_succ, List.getElem_cons_zero, List.setIfInBounds_toArray, List.set_cons_zero, List.set_cons_succ]
        refine wpAnyH_ready (rs := [5]) (by kernel_rfl) (by simp) ?_
        refine AllReadyH.cons (o := _) rfl (fun K hK => ?_) AllReadyH.nil
        have hbX : Below W0.heap.size W0 ((w6.alloc (.cells zEc.toArray 31)).alloc (.cells (cl ++ c6).toArray 31)) := below_alloc (below_alloc hb6' _) _
        go_simp
        refine (Apply_call (callC (w6.heap.size + 1)) ((w6.alloc (.cells zEc.toArray 31)).alloc (.cells (cl ++ c6).toArray 31)) (fun k => k < w6.heap.size ∨ k = w6.heap.size + 1) (fun k hk => by simp; omega) (callE_at (ok := fun k => k < w6.heap.size) (by simpa using BX.new (t := 31) (w6.alloc (.cells zEc.toArray 31)) (cl ++ c6)) (Kd.FK_mono (Kd.FK_below (Kd.FK_below (K_FK HLam.out) hb6') (below_alloc (below_alloc (Below.refl _ _) _) _)) (fun k hk => Nat.lt_of_lt_of_le hk hs6)) (Kd.FK_mono (Kd.FK_below (Kd.FK_bound HK6.out) (below_alloc (below_alloc (Below.refl _ _) _) _)) (fun k hk => hk.2)) hll.out H6l.out) (HLW.out _ (below_then hw0 hwl hbX))).mono ?_
        rintro e w7 ⟨c7, rfl, hK7, hb7⟩
        have hK7 : Kd.FK kE w7 (okN (fun k => k < w6.heap.size ∨ k = w6.heap.size + 1) (((w6.alloc (.cells zEc.toArray 31)).alloc (.cells (cl ++ c6).toArray 31))).heap.size) letB c7 := hK7
        have H7l := Lib.hid (kE_len (Kd.FK_now hK7))
        have H71 := Lib.hid (kE.K_one (Kd.FK_now hK7))
        have HK7 := Lib.hid hK7
        have hs7 := hb7.size
        have hsX := hbX.size
        clear hK7
        refine hK.out _ _ ((hS.call hb7)) (fun hS => ?_)
        clear hK K
        try simp only [Act.put, List.getElem_toArray, List.getElem_cons_succ, List.getElem_cons_zero, List.setIfInBounds_toArray, List.set_cons_zero, List.set_cons_succ]
        refine wpAnyH_take (i := 6) (v := ?_) rfl (by kernel_rfl) (by kernel_rfl) (by kernel_rfl) (fun _ _ _ h => h) (Or.inl ⟨by rfl, ?_⟩) hS ?_
        case refine_2 => (intro w' hS'; go_simp; try with_reducible rfl)
        simp only [Act.put, List.getElem_toArray, List.getElem_cons_succ, List.getElem_cons_zero, List.setIfInBounds_toArray, List.set_cons_zero, List.set_cons_succ]
        refine wpAnyH_take (i := 7) (v := ?_) rfl (by kernel_rfl) (by kernel_rfl) (by kernel_rfl) (fun _ _ _ h => h) (Or.inl ⟨by rfl, ?_⟩) hS ?_
        case refine_2 => (intro w' hS'; go_simp; try with_reducible rfl)
        simp only [Act.put, List.getElem_toArray, List.getElem_cons_succ, List.getElem_cons_zero, List.setIfInBounds_toArray, List.set_cons_zero, List.set_cons_succ]
        refine wpAnyH_take (i := 8) (v := ?_) rfl (by kernel_rfl) (by kernel_rfl) (by kernel_rfl) (fun _ _ _ h => h) (Or.inl ⟨by rfl, ?_⟩) hS ?_
        case refine_2 => (intro w' hS'; go_simp; try with_reducible rfl)
        simp only [Act.put, List.getElem_toArray, List.getElem_cons_succ, List.getElem_cons_zero, List.setIfInBounds_toArray, List.set_cons_zero, List.set_cons_succ]
        refine wpAnyH_ready (rs := [10]) (by kernel_rfl) (by simp) ?_
        refine AllReadyH.cons (o := _) rfl (fun K hK => ?_) AllReadyH.nil
        refine step_store (g := w6.heap.size) (((BX.new w6 zEc).alloc _).below hb7) (by rfl) none rfl _ _ rfl c7 (by rfl) rfl (by rw [H7l.out]; exact size31') (by rw [H7l.out]; rfl) H71.out ?_
        intro w8 hZ8 hg8
        refine hK.out _ _ ((hS.grown hg8 (by simp at hs7 hsX; omega))) (fun hS => ?_)
        clear hK K
        try simp only [Act.put, List.getElem_toArray, List.getElem_cons_succ, List.getElem_cons_zero, List.setIfInBounds_toArray, List.set_cons_zero, List.set_cons_succ]
        refine wpAnyH_take (i := 11) (v := ?_) rfl (by kernel_rfl) (by kernel_rfl) (by kernel_rfl) (fun _ _ _ h => h) (Or.inl ⟨by rfl, ?_⟩) hS ?_
        case refine_2 => (intro w' hS'; go_simp; try with_reducible rfl)
        simp only [Act.put, List.getElem_toArray, List.getElem_cons_succ, List.getElem_cons_zero, List.setIfInBounds_toArray, List.set_cons_zero, List.set_cons_succ]
        refine wpAnyH_done (by kernel_rfl) ?_ _
        go_wp2_with fail
        go_meet
        exact ⟨w6.heap.size, c7, rfl, rfl, by simp at hs7 hsX; omega, hZ8, Lib.hid (Kd.FK_now (Kd.FK_grown HK7.out hg8 (fun q hq e => by injection e with e; rcases hq with hq | hq <;> (try simp at hq) <;> omega))), hS⟩
    · go_simp
      have hS1 : Stood W0 (W0.alloc (.cells zEc.toArray 31)).drew := below_drew (below_alloc (Below.refl _ _) _)
      refine hK.out _ _ (hS1) (fun hS => ?_)
      clear hK K
      try simp only [Act.put, List.getElem_toArray, List.getElem_cons_succ, List.getElem_cons_zero, List.setIfInBounds_toArray, List.set_cons_zero, List.set_cons_succ]
      refine wpAnyH_ready (rs := [1]) (by kernel_rfl) (by simp) ?_
      refine AllReadyH.cons (o := _) rfl (fun K hK => ?_) AllReadyH.nil
      go_simp
      refine (HN5.out _).mono ?_
      rintro e w6 ⟨c6, rfl, hK6, hb6⟩
      have H6l := Lib.hid (kE_len (Kd.FK_now hK6))
      have HK6 := Lib.hid (Kd.FK_mono (ok' := fun k => W0.heap.size + 1 ≤ k) hK6 (fun k hk => by simpa using hk))
      have hb6' : Below W0.heap.size W0 w6 := below_then hS1 hS1.size hb6
      have hs6 : W0.heap.size + 1 ≤ w6.heap.size := by simpa using hb6.size
      have hY6 := BX.below (w := (W0.alloc (.cells zEc.toArray 31)).drew) (BX.new W0 zEc) hb6
      clear hK6
      refine hK.out _ _ ((hS.call hb6)) (fun hS => ?_)
      clear hK K
      try simp only [Act.put, List.getElem_toArray, List.getElem_cons_succ, List.getElem_cons_zero, List.setIfInBounds_toArray, List.set_cons_zero, List.set_cons_succ]
      refine wpAnyH_ready (rs := [2]) (by kernel_rfl) (by simp) ?_
      refine AllReadyH.cons (o := _) rfl (fun K hK => ?_) AllReadyH.nil
      refine step_build2_E (by rfl) 24 rfl _ _ rfl cl c6 hll.out H6l.out rfl rfl ?_
      refine hK.out _ _ ((hS.alloc _)) (fun hS => ?_)
      clear hK K
      try simp only [Act.put, List.getElem_toArray, List.getElem_cons_succ, List.getElem_cons_zero, List.setIfInBounds_toArray, List.set_cons_zero, List.set_cons_succ]
      refine wpAnyH_take (i := 3) (v := ?_) rfl (by kernel_rfl) (by kernel_rfl) (by kernel_rfl) (fun _ _ _ h => h) (Or.inl ⟨by rfl, ?_⟩) hS ?_
      case refine_2 => (intro w' hS'; go_simp; try with_reducible rfl)
      simp only [Act.put, List.getElem_toArray, List.getElem_cons_succ, List.getElem_cons_zero, List.setIfInBounds_toArray, List.set_cons_zero, List.set_cons_succ]
      refine wpAnyH_ready (rs := [5]) (by kernel_rfl) (by simp) ?_
      refine AllReadyH.cons (o := _) rfl (fun K hK => ?_) AllReadyH.nil
      have hbX : Below W0.heap.size W0 (w6.alloc (.cells (cl ++ c6).toArray 31)) := below_alloc hb6' _
      go_simp
      refine (Apply_call (callC w6.heap.size) (w6.alloc (.cells (cl ++ c6).toArray 31)) (fun k => (k < W0.heap.size ∨ W0.heap.size + 1 ≤ k ∧ k < w6.heap.size) ∨ k = w6.heap.size) (fun k hk => by simp; omega) (callE_at (ok := fun k => k < W0.heap.size ∨ W0.heap.size + 1 ≤ k ∧ k < w6.heap.size) (BX.new w6 _) (Kd.FK_mono (Kd.FK_below (Kd.FK_below (K_FK HLam.out) hb6') (below_alloc (Below.refl _ _) _)) (fun k hk => .inl hk)) (Kd.FK_mono (Kd.FK_below (Kd.FK_bound HK6.out) (below_alloc (Below.refl _ _) _)) (fun k hk => .inr hk)) hll.out H6l.out) (HLW.out _ (below_then hw0 hwl hbX))).mono ?_
      rintro e w7 ⟨c7, rfl, hK7, hb7⟩
      have hK7 : Kd.FK kE w7 (okN (fun k => (k < W0.heap.size ∨ W0.heap.size + 1 ≤ k ∧ k < w6.heap.size) ∨ k = w6.heap.size) ((w6.alloc (.cells (cl ++ c6).toArray 31))).heap.size) letB c7 := hK7
      have H7l := Lib.hid (kE_len (Kd.FK_now hK7))
      have H71 := Lib.hid (kE.K_one (Kd.FK_now hK7))
      have HK7 := Lib.hid hK7
      have hs7 := hb7.size
      have hsX := hbX.size
      clear hK7
      refine hK.out _ _ ((hS.call hb7)) (fun hS => ?_)
      clear hK K
      try simp only [Act.put, List.getElem_toArray, List.getElem_cons_succ, List.getElem_cons_zero, List.setIfInBounds_toArray, List.set_cons_zero, List.set_cons_succ]
      refine wpAnyH_take (i := 6) (v := ?_) rfl (by kernel_rfl) (by kernel_rfl) (by kernel_rfl) (fun _ _ _ h => h) (Or.inl ⟨by rfl, ?_⟩) hS ?_
      case refine_2 => (intro w' hS'; go_simp; try with_reducible rfl)
      simp only [Act.put, List.getElem_toArray, List.getElem_cons_succ, List.getElem_cons_zero, List.setIfInBounds_toArray, List.set_cons_zero, List.set_cons_succ]
      refine wpAnyH_take (i := 7) (v := ?_) rfl (by kernel_rfl) (by kernel_rfl) (by kernel_rfl) (fun _ _ _ h => h) (Or.inl ⟨by rfl, ?_⟩) hS ?_
      case refine_2 => (intro w' hS'; go_simp; try with_reducible rfl)
      simp only [Act.put, List.getElem_toArray, List.getElem_cons_succ, List.getElem_cons_zero, List.setIfInBounds_toArray, List.set_cons_zero, List.set_cons_succ]
      refine wpAnyH_take (i := 8) (v := ?_) rfl (by kernel_rfl) (by kernel_rfl) (by kernel_rfl) (fun _ _ _ h => h) (Or.inl ⟨by rfl, ?_⟩) hS ?_
      case refine_2 => (intro w' hS'; go_simp; try with_reducible rfl)
      simp only [Act.put, List.getElem_toArray, List.getElem_cons_succ, List.getElem_cons_zero, List.setIfInBounds_toArray, List.set_cons_zero, List.set_cons_succ]
      refine wpAnyH_ready (rs := [10]) (by kernel_rfl) (by simp) ?_
      refine AllReadyH.cons (o := _) rfl (fun K hK => ?_) AllReadyH.nil
      refine step_store (g := W0.heap.size) ((hY6.alloc _).below hb7) (by rfl) none rfl _ _ rfl c7 (by rfl) rfl (by rw [H7l.out]; exact size31') (by rw [H7l.out]; rfl) H71.out ?_
      intro w8 hZ8 hg8
      refine hK.out _ _ ((hS.grown hg8 (by simp at hs7 hsX; omega))) (fun hS => ?_)
      clear hK K
      try simp only [Act.put, List.getElem_toArray, List.getElem_cons_succ, List.getElem_cons_zero, List.setIfInBounds_toArray, List.set_cons_zero, List.set_cons_succ]
      refine wpAnyH_take (i := 11) (v := ?_) rfl (by kernel_rfl) (by kernel_rfl) (by kernel_rfl) (fun _ _ _ h => h) (Or.inl ⟨by rfl, ?_⟩) hS ?_
      case refine_2 => (intro w' hS'; go_simp; try with_reducible rfl)
      simp only [Act.put, List.getElem_toArray, List.getElem_cons_succ, List.getElem_cons_zero, List.setIfInBounds_toArray, List.set_cons_zero, List.set_cons_succ]
      refine wpAnyH_done (by kernel_rfl) ?_ _
      go_wp2_with fail
      go_meet
      exact ⟨W0.heap.size, c7, rfl, rfl, by simp at hs7 hsX; omega, hZ8, Lib.hid (Kd.FK_now (Kd.FK_grown HK7.out hg8 (fun q hq e => by injection e with e; rcases hq with hq | hq <;> (try simp at hq) <;> omega))), hS⟩
  case rest =>
    obtain ⟨g, ch, rfl, rfl, hgW, hZ, HZ, hbc⟩ := hcut
    have hsc := hbc.size
    have hchl := Lib.hid (kE_len HZ.out)
    have hTc := hT0.below hbc
    have HK3c := Lib.hid (kE.K_below hbc HK30.out)
    have hwc := below_then hw0 hwl hbc
    clear hT0 hL0 HLam HK30
    have hwlc : w.heap.size ≤ wc.heap.size := hwc.size
    go_upto_region 5 with (first
      | ((with_reducible refine ldE 31 hZ hchl rfl ?_ _ rfl ?_ ?_); (case _ => rfl); (case _ => rfl))
      | (go_at_call 7; (with_reducible refine (Apply_let ch wc (fun k => k < wc.heap.size) (fun _ h => h) (K_FK HZ.out) (HLW.out _ hwc)).mono ?_); rintro e w9 ⟨c9, rfl, hK9, hb9⟩; have hK9 : kE.K w9 (numE 5) c9 := Kd.FK_now hK9; have H9l := Lib.hid (kE_len hK9); have H91 := Lib.hid (kE.K_one hK9); have HK9 := Lib.hid hK9; have hs9 := hb9.size; clear hK9)
      | ((with_reducible refine stE (BX.new w9 zEc) rfl H9l H91 none rfl ?_ _ _ rfl ?_ ?_ ?_); (case _ => rfl); (case _ => rfl); (case _ => rfl); intro wd hTd hgd; have hbd : Below w9.heap.size w9 wd := (below_alloc (Below.refl _ _) _).trans (below_grown hgd (by simp) (Nat.le_refl _)); have HK9d := Lib.hid (kE.K_below hbd HK9.out)))
    have hcd : Below wc.heap.size wc wd := below_then hb9 hb9.size hbd
    have hwd : Below w.heap.size w wd := below_then hwc hwlc hcd
    have hZd := hZ.below hcd
    have hT1d := hTc.below hcd
    have HK3d := Lib.hid (kE.K_below hcd HK3c.out)
    obtain ⟨A3, a3, A6, a6, A7, a7, A9, a9, A12, a12, hche, _⟩ := kE_open HZ.out
    have q0 := hZd.cell (j := 0) (u := .int .i64 8) (by rw [hche]; rfl)
    clear hche hZ hTc HK3c HZ
    have hwld : w.heap.size ≤ wd.heap.size := hwd.size
    refine wp_region_held_drew (S := Stood wd) (by kernel_rfl) (below_drew (Below.refl _ _)) (fun hS => ?_)
    refine wpAnyH_take (i := 0) (v := ?_) rfl (by kernel_rfl) (by kernel_rfl) (by kernel_rfl) (fun _ _ _ h => h) (Or.inl ⟨by rfl, ?_⟩) hS ?_
    case refine_2 => (intro w' hS'; go_simp; try with_reducible rfl)
    simp only [Act.put, List.getElem_toArray, List.getElem_cons_succ, List.getElem_cons_zero, List.setIfInBounds_toArray, List.set_cons_zero, List.set_cons_succ]
    refine wpAnyH_take (i := 1) (v := ?_) rfl (by kernel_rfl) (by kernel_rfl) (by kernel_rfl) (fun _ _ _ h => h) (Or.inl ⟨by rfl, ?_⟩) hS ?_
    case refine_2 => (intro w' hS'; go_simp; try with_reducible rfl)
    simp only [Act.put, List.getElem_toArray, List.getElem_cons_succ, List.getElem_cons_zero, List.setIfInBounds_toArray, List.set_cons_zero, List.set_cons_succ]
    refine wpAnyH_take (i := 2) (v := ?_) rfl (by kernel_rfl) (by kernel_rfl) (by kernel_rfl) (fun _ _ _ h => h) (Or.inl ⟨by rfl, ?_⟩) hS ?_
    case refine_2 => (intro w' hS'; go_simp; try with_reducible rfl)
    simp only [Act.put, List.getElem_toArray, List.getElem_cons_succ, List.getElem_cons_zero, List.setIfInBounds_toArray, List.set_cons_zero, List.set_cons_succ]
    refine wpAnyH_take (i := 3) rfl (by kernel_rfl) (by kernel_rfl) (by kernel_rfl) (fun _ _ _ h => h) (held_load (by rfl) 31 _ rfl ⟨w3.heap.size, 0, none⟩ rfl c3 _ hT1d.cells Tryz.underlying31 rfl (by rw [H3l.out]; exact size31')) hS ?_
    simp only [Act.put, List.getElem_toArray, List.getElem_cons_succ, List.getElem_cons_zero, List.setIfInBounds_toArray, List.set_cons_zero, List.set_cons_succ]
    refine wpAnyH_ready (rs := [4]) (by kernel_rfl) (by simp) ?_
    refine AllReadyH.cons (o := _) rfl (fun K hK => ?_) AllReadyH.nil
    go_simp
    refine (HN3.out _).mono ?_
    rintro e we ⟨ce, rfl, hKe, hbe⟩
    have HKe := Lib.hid (Kd.FK_now hKe)
    have hbe' : Below wd.heap.size wd we := below_then (below_drew (Below.refl _ _)) (Nat.le_refl _) hbe
    clear hKe
    refine hK.out _ _ ((hS.call hbe)) (fun hS => ?_)
    clear hK K
    try simp only [Act.put, List.getElem_toArray, List.getElem_cons_succ, List.getElem_cons_zero, List.setIfInBounds_toArray, List.set_cons_zero, List.set_cons_succ]
    refine wpAnyH_ready (rs := [5]) (by kernel_rfl) (by simp) ?_
    refine AllReadyH.cons (o := _) rfl (fun K hK => ?_) AllReadyH.nil
    go_simp
    refine (rSame8_calls (numE 3) (numE 3) c3 ce we (kE.K_below hbe' HK3d.out) HKe.out slim_3 slim_3).mono ?_
    rintro e wf ⟨rfl, hbf⟩
    rw [same_3]
    have hbf' : Below wd.heap.size wd wf := below_then hbe' hbe'.size hbf
    refine hK.out _ _ ((hS.call hbf)) (fun hS => ?_)
    clear hK K
    try simp only [Act.put, List.getElem_toArray, List.getElem_cons_succ, List.getElem_cons_zero, List.setIfInBounds_toArray, List.set_cons_zero, List.set_cons_succ]
    refine wpAnyH_take (i := 6) (v := ?_) rfl (by kernel_rfl) (by kernel_rfl) (by kernel_rfl) (fun _ _ _ h => h) (Or.inl ⟨by rfl, ?_⟩) hS ?_
    case refine_2 => (intro w' hS'; go_simp; try with_reducible rfl)
    simp only [Act.put, List.getElem_toArray, List.getElem_cons_succ, List.getElem_cons_zero, List.setIfInBounds_toArray, List.set_cons_zero, List.set_cons_succ]
    refine wpAnyH_take (i := 7) (v := ?_) rfl (by kernel_rfl) (by kernel_rfl) (by kernel_rfl) (fun _ _ _ h => h) (Or.inl ⟨by rfl, ?_⟩) hS ?_
    case refine_2 => (intro w' hS'; go_simp; try with_reducible rfl)
    simp only [Act.put, List.getElem_toArray, List.getElem_cons_succ, List.getElem_cons_zero, List.setIfInBounds_toArray, List.set_cons_zero, List.set_cons_succ]
    refine wpAnyH_take (i := 8) (v := ?_) rfl (by kernel_rfl) (by kernel_rfl) (by kernel_rfl) (fun _ _ _ h => h) (Or.inl ⟨by rfl, ?_⟩) hS ?_
    case refine_2 => (intro w' hS'; go_simp; try with_reducible rfl)
    simp only [Act.put, List.getElem_toArray, List.getElem_cons_succ, List.getElem_cons_zero, List.setIfInBounds_toArray, List.set_cons_zero, List.set_cons_succ]
    refine wpAnyH_take (i := 9) (v := ?_) rfl (by kernel_rfl) (by kernel_rfl) (by kernel_rfl) (fun _ _ _ h => h) (Or.inl ⟨by rfl, ?_⟩) hS ?_
    case refine_2 => (intro w' hS'; go_simp; try with_reducible rfl)
    simp only [Act.put, List.getElem_toArray, List.getElem_cons_succ, List.getElem_cons_zero, List.setIfInBounds_toArray, List.set_cons_zero, List.set_cons_succ]
    refine wpAnyH_take (i := 10) (v := ?_) rfl (by kernel_rfl) (by kernel_rfl) (by kernel_rfl) (fun _ _ _ h => h) (Or.inl ⟨by rfl, ?_⟩) hS ?_
    case refine_2 => (intro w' hS'; go_simp; try with_reducible rfl)
    simp only [Act.put, List.getElem_toArray, List.getElem_cons_succ, List.getElem_cons_zero, List.setIfInBounds_toArray, List.set_cons_zero, List.set_cons_succ]
    refine wpAnyH_take (i := 11) (v := ?_) rfl (by kernel_rfl) (by kernel_rfl) (by kernel_rfl) (fun _ _ _ h => h) (Or.inl ⟨by rfl, ?_⟩) hS ?_
    case refine_2 => (intro w' hS'; go_simp; try with_reducible rfl)
    simp only [Act.put, List.getElem_toArray, List.getElem_cons_succ, List.getElem_cons_zero, List.setIfInBounds_toArray, List.set_cons_zero, List.set_cons_succ]
    refine wpAnyH_take (i := 12) (v := ?_) rfl (by kernel_rfl) (by kernel_rfl) (by kernel_rfl) (fun _ _ _ h => h) (Or.inl ⟨by rfl, ?_⟩) hS ?_
    case refine_2 => (intro w' hS'; go_simp; try with_reducible rfl)
    simp only [Act.put, List.getElem_toArray, List.getElem_cons_succ, List.getElem_cons_zero, List.setIfInBounds_toArray, List.set_cons_zero, List.set_cons_succ]
    refine wpAnyH_take (i := 13) (v := ?_) rfl (by kernel_rfl) (by kernel_rfl) (by kernel_rfl) (fun _ _ _ h => h) (Or.inl ⟨by rfl, ?_⟩) hS ?_
    case refine_2 => (intro w' hS'; have h13 := pw_cell_below hS' q0; go_simp; try with_reducible rfl)
    simp only [Act.put, List.getElem_toArray, List.getElem_cons_succ, List.getElem_cons_zero, List.setIfInBounds_toArray, List.set_cons_zero, List.set_cons_succ]
    refine wpAnyH_take (i := 14) (v := ?_) rfl (by kernel_rfl) (by kernel_rfl) (by kernel_rfl) (fun _ _ _ h => h) (Or.inl ⟨by rfl, ?_⟩) hS ?_
    case refine_2 => (intro w' hS'; go_simp; try with_reducible rfl)
    simp only [Act.put, List.getElem_toArray, List.getElem_cons_succ, List.getElem_cons_zero, List.setIfInBounds_toArray, List.set_cons_zero, List.set_cons_succ]
    refine wpAnyH_take (i := 15) (v := ?_) rfl (by kernel_rfl) (by kernel_rfl) (by kernel_rfl) (fun _ _ _ h => h) (Or.inl ⟨by rfl, ?_⟩) hS ?_
    case refine_2 => (intro w' hS'; go_simp; try with_reducible rfl)
    simp only [Act.put, List.getElem_toArray, List.getElem_cons_succ, List.getElem_cons_zero, List.setIfInBounds_toArray, List.set_cons_zero, List.set_cons_succ]
    refine wpAnyH_take (i := 16) (v := ?_) rfl (by kernel_rfl) (by kernel_rfl) (by kernel_rfl) (fun _ _ _ h => h) (Or.inl ⟨by rfl, ?_⟩) hS ?_
    case refine_2 => (intro w' hS'; go_simp; try with_reducible rfl)
    simp only [Act.put, List.getElem_toArray, List.getElem_cons_succ, List.getElem_cons_zero, List.setIfInBounds_toArray, List.set_cons_zero, List.set_cons_succ]
    refine wpAnyH_take (i := 17) (v := ?_) rfl (by kernel_rfl) (by kernel_rfl) (by kernel_rfl) (fun _ _ _ h => h) (Or.inl ⟨by rfl, ?_⟩) hS ?_
    case refine_2 => (intro w' hS'; go_simp; try with_reducible rfl)
    simp only [Act.put, List.getElem_toArray, List.getElem_cons_succ, List.getElem_cons_zero, List.setIfInBounds_toArray, List.set_cons_zero, List.set_cons_succ]
    refine wpAnyH_take (i := 18) (v := ?_) rfl (by kernel_rfl) (by kernel_rfl) (by kernel_rfl) (fun _ _ _ h => h) (Or.inl ⟨by rfl, ?_⟩) hS ?_
    case refine_2 => (intro w' hS'; go_simp; try with_reducible rfl)
    simp only [Act.put, List.getElem_toArray, List.getElem_cons_succ, List.getElem_cons_zero, List.setIfInBounds_toArray, List.set_cons_zero, List.set_cons_succ]
    refine wpAnyH_take (i := 19) (v := ?_) rfl (by kernel_rfl) (by kernel_rfl) (by kernel_rfl) (fun _ _ _ h => h) (Or.inl ⟨by rfl, ?_⟩) hS ?_
    case refine_2 => (intro w' hS'; go_simp; try with_reducible rfl)
    simp only [Act.put, List.getElem_toArray, List.getElem_cons_succ, List.getElem_cons_zero, List.setIfInBounds_toArray, List.set_cons_zero, List.set_cons_succ]
    refine wpAnyH_take (i := 20) (v := ?_) rfl (by kernel_rfl) (by kernel_rfl) (by kernel_rfl) (fun _ _ _ h => h) (Or.inl ⟨by rfl, ?_⟩) hS ?_
    case refine_2 => (intro w' hS'; go_simp; try with_reducible rfl)
    simp only [Act.put, List.getElem_toArray, List.getElem_cons_succ, List.getElem_cons_zero, List.setIfInBounds_toArray, List.set_cons_zero, List.set_cons_succ]
    refine wpAnyH_take (i := 21) rfl (by kernel_rfl) (by kernel_rfl) (by kernel_rfl) (fun _ _ _ h => h) (held_load (by rfl) 31 _ rfl ⟨w9.heap.size, 0, none⟩ rfl c9 _ hTd.cells Tryz.underlying31 rfl (by rw [H9l.out]; exact size31')) hS ?_
    simp only [Act.put, List.getElem_toArray, List.getElem_cons_succ, List.getElem_cons_zero, List.setIfInBounds_toArray, List.set_cons_zero, List.set_cons_succ]
    refine wpAnyH_ready (rs := [22]) (by kernel_rfl) (by simp) ?_
    refine AllReadyH.cons (o := _) rfl (fun K hK => ?_) AllReadyH.nil
    go_simp
    refine (HN5.out _).mono ?_
    rintro e wg ⟨cg, rfl, hKg, hbg⟩
    have HKg := Lib.hid (Kd.FK_now hKg)
    have hbg' : Below wd.heap.size wd wg := below_then hbf' hbf'.size hbg
    clear hKg
    refine hK.out _ _ ((hS.call hbg)) (fun hS => ?_)
    clear hK K
    try simp only [Act.put, List.getElem_toArray, List.getElem_cons_succ, List.getElem_cons_zero, List.setIfInBounds_toArray, List.set_cons_zero, List.set_cons_succ]
    refine wpAnyH_ready (rs := [23]) (by kernel_rfl) (by simp) ?_
    refine AllReadyH.cons (o := _) rfl (fun K hK => ?_) AllReadyH.nil
    go_simp
    refine (rSame8_calls (numE 5) (numE 5) c9 cg wg (kE.K_below hbg' HK9d.out) HKg.out slim_5 slim_5).mono ?_
    rintro e wh ⟨rfl, hbh⟩
    rw [same_5]
    have hbh' : Below wd.heap.size wd wh := below_then hbg' hbg'.size hbh
    refine hK.out _ _ ((hS.call hbh)) (fun hS => ?_)
    clear hK K
    try simp only [Act.put, List.getElem_toArray, List.getElem_cons_succ, List.getElem_cons_zero, List.setIfInBounds_toArray, List.set_cons_zero, List.set_cons_succ]
    refine wpAnyH_take (i := 24) (v := ?_) rfl (by kernel_rfl) (by kernel_rfl) (by kernel_rfl) (fun _ _ _ h => h) (Or.inl ⟨by rfl, ?_⟩) hS ?_
    case refine_2 => (intro w' hS'; go_simp; try with_reducible rfl)
    simp only [Act.put, List.getElem_toArray, List.getElem_cons_succ, List.getElem_cons_zero, List.setIfInBounds_toArray, List.set_cons_zero, List.set_cons_succ]
    refine wpAnyH_take (i := 25) (v := ?_) rfl (by kernel_rfl) (by kernel_rfl) (by kernel_rfl) (fun _ _ _ h => h) (Or.inl ⟨by rfl, ?_⟩) hS ?_
    case refine_2 => (intro w' hS'; go_simp; try with_reducible rfl)
    simp only [Act.put, List.getElem_toArray, List.getElem_cons_succ, List.getElem_cons_zero, List.setIfInBounds_toArray, List.set_cons_zero, List.set_cons_succ]
    refine wpAnyH_done (by kernel_rfl) ?_ _
    go_wp2_with fail
    go_ret
    exact ⟨rfl, below_then hwd hwld hS⟩
end Go.Proofs.YtegolcblbpeoeaaGreatDoor
