/- Contract: pavanelaw12.lives. The walk's condition: the tables. -/
import Derived.Test.YtlcofdgaidlldaaGreatDoorZx
import Derived.Test.YtlcofdgaidlldaaGreatDoorZy3
namespace Go.Proofs.YtlcofdgaidlldaaGreatDoor
open Go.RowKit Go.Shelf Go.Proofs.YtlcofdgaidlldaaGreatDoorW.PrintWords
set_option linter.unusedVariables false
set_option linter.unusedSimpArgs false
abbrev sumC2 (g : Nat) : List Value := [.int .i64 7, .int .i64 0, .bool false, .slice none 0 0, .bool false, .string ⟨#[]⟩, .slice none 0 0, .slice none 0 0, .int .i64 0, .slice none 0 0, .bool false, .int .i64 1, .slice (some ⟨g, 0, none⟩) 2 2]
theorem sumE_K {W : World} {g : Nat} {ca cb : List Value} (hB : BX 32 W g (ca ++ cb)) (ha : kE.K W (numE 1) ca) (hb : kE.K W (numE 2) cb) (la : ca.length = 13) (lb : cb.length = 13) : kE.K W sumE (sumC2 g) :=
  kE_mk W sumE (A3 := none) (c3 := 0) (Nat.le_refl 0) (Kd_C_nil _ _) (A6 := none) (c6 := 0) (Nat.le_refl 0) (Kd_C_nil _ _) (A7 := none) (c7 := 0) (Nat.le_refl 0) (Kd_C_nil _ _) (A9 := none) (c9 := 0) (Nat.le_refl 0) (Kd_C_nil _ _) (A12 := some ⟨g, 0, none⟩) (c12 := 2) (by exact Nat.le_refl 2) (C_block (d := kE) W g 32 (0, 0) [numE 1, numE 2] (ca ++ cb) hB (reps2 ha hb la lb) (by simp))
set_option maxRecDepth 100000 in
set_option maxHeartbeats 8000000 in
theorem lives12_calls (w : World) (hL : Laid w) : Calls Tryz.prog 8 #[] w fun e w' => e = .returned (.bool true) ∧ Below w.heap.size w w' := by
  have HN1 := Lib.hid (fun (W : World) => num_calls 1 W (by decide))
  have HN2 := Lib.hid (fun (W : World) => num_calls 2 W (by decide))
  have HN3 := Lib.hid (fun (W : World) => num_calls 3 W (by decide))
  have HN4 := Lib.hid (fun (W : World) => num_calls 4 W (by decide))
  have HLW := Lib.hid (fun (W : World) (h : Below w.heap.size w W) => hL.below h)
  go_enter Tryz.func8, Tryz.ntmps8
  go_upto_region 3 with (first
    | (go_at_call 4; (with_reducible refine (HN1.out w).mono ?_); rintro e w1 ⟨c1, rfl, hK1, hb1⟩; have H1l := Lib.hid (kE_len (Kd.FK_now hK1)); have HK1 := Lib.hid hK1; have hs1 := hb1.size; clear hK1)
    | (go_at_call 4; (with_reducible refine (HN2.out w1).mono ?_); rintro e w2 ⟨c2, rfl, hK2, hb2⟩; have H2l := Lib.hid (kE_len (Kd.FK_now hK2)); have HK2 := Lib.hid hK2; have hs2 := hb2.size; clear hK2)
    | ((with_reducible refine build2_E 9 rfl ?_ _ _ rfl c1 c2 H1l.out H2l.out ?_ ?_ ?_); (case _ => rfl); (case _ => rfl); (case _ => rfl)))
  obtain ⟨cl, hcl⟩ : ∃ cl, cl = sumC2 w2.heap.size := ⟨_, rfl⟩
  have hT0 : BX 32 (((w2.alloc (.cells (c1 ++ c2).toArray 32)).alloc (.cells (sumC2 w2.heap.size).toArray 32)).alloc (.cells (stepC 1 none 0 0 0 false).toArray 36)) (w2.heap.size + 1) (sumC2 w2.heap.size) := by simpa using (BX.new (t := 32) (w2.alloc (.cells (c1 ++ c2).toArray 32)) (sumC2 w2.heap.size)).alloc (.cells (stepC 1 none 0 0 0 false).toArray 36)
  have hS0 : BX 36 (((w2.alloc (.cells (c1 ++ c2).toArray 32)).alloc (.cells (sumC2 w2.heap.size).toArray 32)).alloc (.cells (stepC 1 none 0 0 0 false).toArray 36)) (w2.heap.size + 1 + 1) (stepC 1 none 0 0 0 false) := by simpa using BX.new (t := 36) ((w2.alloc (.cells (c1 ++ c2).toArray 32)).alloc (.cells (sumC2 w2.heap.size).toArray 32)) (stepC 1 none 0 0 0 false)
  have hR0 : BX 32 (((w2.alloc (.cells (c1 ++ c2).toArray 32)).alloc (.cells (sumC2 w2.heap.size).toArray 32)).alloc (.cells (stepC 1 none 0 0 0 false).toArray 36)) w2.heap.size (c1 ++ c2) := ((BX.new w2 _).alloc _).alloc _
  have hbW : Below w2.heap.size w2 (((w2.alloc (.cells (c1 ++ c2).toArray 32)).alloc (.cells (sumC2 w2.heap.size).toArray 32)).alloc (.cells (stepC 1 none 0 0 0 false).toArray 36)) := below_alloc (below_alloc (below_alloc (Below.refl _ _) _) _) _
  have hw0 : Below w.heap.size w (((w2.alloc (.cells (c1 ++ c2).toArray 32)).alloc (.cells (sumC2 w2.heap.size).toArray 32)).alloc (.cells (stepC 1 none 0 0 0 false).toArray 36)) := below_then (below_then hb1 hb1.size hb2) (by omega) hbW
  have HSum := Lib.hid (sumE_K hR0 (kE.K_below hbW (kE.K_below hb2 (Kd.FK_now HK1.out))) (kE.K_below hbW (Kd.FK_now HK2.out)) H1l.out H2l.out)
  have hsz : ((((w2.alloc (.cells (c1 ++ c2).toArray 32)).alloc (.cells (sumC2 w2.heap.size).toArray 32)).alloc (.cells (stepC 1 none 0 0 0 false).toArray 36))).heap.size = w2.heap.size + 3 := by simp
  rw [← hcl] at hT0 hS0 hR0 hbW hw0 HSum hsz
  obtain ⟨W0, hW0e⟩ : ∃ W0, W0 = (((w2.alloc (.cells (c1 ++ c2).toArray 32)).alloc (.cells (sumC2 w2.heap.size).toArray 32)).alloc (.cells (stepC 1 none 0 0 0 false).toArray 36)) := ⟨_, rfl⟩
  have hW0c := hW0e
  rw [← hcl] at hW0c
  rw [← hW0e]
  rw [← hW0c] at hT0 hS0 hw0 HSum hsz
  have hll := Lib.hid (kE_len HSum.out)
  have HSZ := Lib.hid hsz
  have hwl : w.heap.size ≤ W0.heap.size := hw0.size
  clear hR0 hbW hW0e hW0c hcl hsz HK1 HK2 HN1 HN2 hb1 hb2
  go_cut [3, 4] (fun v3 v4 wx => ∃ (g : Nat) (ch : List Value), v3 = .pointer (some ⟨g, 0, none⟩) ∧ v4 = .bool false ∧ W0.heap.size ≤ g ∧ BX 32 wx g ch ∧ Hid (kE.K wx sumE ch) ∧ Below W0.heap.size W0 wx)
  case first =>
    refine wp_region_held_drew (S := Stood W0) (by kernel_rfl) (below_drew (Below.refl _ _)) (fun hS => ?_)
    refine wpAnyH_take (i := 0) rfl (by kernel_rfl) (by kernel_rfl) (by kernel_rfl) (fun _ _ _ h => h) (held_load (by rfl) 32 _ rfl ⟨w2.heap.size + 1, 0, none⟩ rfl cl _ hT0.cells Tryz.underlying32 rfl (by rw [hll.out]; exact size32')) hS ?_
    simp only [Act.put, List.getElem_toArray, List.getElem_cons_succ, List.getElem_cons_zero, List.setIfInBounds_toArray, List.set_cons_zero, List.set_cons_succ]
    refine wpAnyH_take (i := 1) (v := ?_) rfl (by kernel_rfl) (by kernel_rfl) (by kernel_rfl) (fun _ _ _ h => h) (Or.inl ⟨by rfl, ?_⟩) hS ?_
    case refine_2 => (intro w' hS'; go_simp; try with_reducible rfl)
    simp only [Act.put, List.getElem_toArray, List.getElem_cons_succ, List.getElem_cons_zero, List.setIfInBounds_toArray, List.set_cons_zero, List.set_cons_succ]
    refine wpAnyH_ready (rs := [2, 8]) (by kernel_rfl) (by simp) ?_
    refine AllReadyH.cons (o := _) rfl (fun K hK => ?_) (AllReadyH.cons (o := _) rfl (fun K hK => ?_) AllReadyH.nil)
    · go_simp
      refine (HN4.out _).mono ?_
      rintro e w4 ⟨c4, rfl, hK4, hb4⟩
      have HK4 := Lib.hid (Kd.FK_now hK4)
      obtain ⟨A3, a3, A6, a6, A7, a7, A9, a9, A12, a12, rfl, _⟩ := kE_open (Kd.FK_now hK4)
      clear hK4
      have hb4' : Below W0.heap.size W0 w4 := below_then (below_drew (Below.refl _ _)) (Nat.le_refl _) hb4
      have hs4 := hb4'.size
      refine hK.out _ _ ((hS.call hb4)) (fun hS => ?_)
      clear hK K
      try simp only [Act.put, List.getElem_toArray, List.getElem_cons_succ, List.getElem_cons_zero, List.setIfInBounds_toArray, List.set_cons_zero, List.set_cons_succ]
      refine wpAnyH_take (i := 3) (v := ?_) rfl (by kernel_rfl) (by kernel_rfl) (by kernel_rfl) (fun _ _ _ h => h) (Or.inl ⟨by rfl, ?_⟩) hS ?_
      case refine_2 => (intro w' hS'; go_simp; try with_reducible rfl)
      simp only [Act.put, List.getElem_toArray, List.getElem_cons_succ, List.getElem_cons_zero, List.setIfInBounds_toArray, List.set_cons_zero, List.set_cons_succ]
      refine wpAnyH_ready (rs := [4, 8]) (by kernel_rfl) (by simp) ?_
      refine AllReadyH.cons (o := _) rfl (fun K hK => ?_) (AllReadyH.cons (o := _) rfl (fun K hK => ?_) AllReadyH.nil)
      · have hbX : Below W0.heap.size W0 w4 := hb4'
        have hsX := hbX.size
        have hbX0 : Below W0.heap.size W0 w4 := hbX
        go_simp
        refine (check_no cl _ ⟨w2.heap.size + 1 + 1, 0, none⟩ 1 w4 (fun k => k < W0.heap.size) (fun k hk => Nat.lt_of_lt_of_le hk hbX0.size) (Kd.FK_below (K_FK HSum.out) hbX0) (kE.K_below (Below.refl _ _) HK4.out) (hS0.below hbX0).cells (HLW.out _ (below_then hw0 hwl hbX0))).mono ?_
        rintro e w7 ⟨c7, rfl, hK7, hb7⟩
        have hK7 : Kd.FK kE w7 (okN (fun k => k < W0.heap.size) (w4).heap.size) sumE c7 := hK7
        have H7l := Lib.hid (kE_len (Kd.FK_now hK7))
        have H71 := Lib.hid (kE.K_one (Kd.FK_now hK7))
        have HK7 := Lib.hid hK7
        have hs7 := hb7.size
        clear hK7
        refine hK.out _ _ ((hS.call hb7)) (fun hS => ?_)
        clear hK K
        try simp only [Act.put, List.getElem_toArray, List.getElem_cons_succ, List.getElem_cons_zero, List.setIfInBounds_toArray, List.set_cons_zero, List.set_cons_succ]
        refine wpAnyH_take (i := 5) (v := ?_) rfl (by kernel_rfl) (by kernel_rfl) (by kernel_rfl) (fun _ _ _ h => h) (Or.inl ⟨by rfl, ?_⟩) hS ?_
        case refine_2 => (intro w' hS'; go_simp; try with_reducible rfl)
        simp only [Act.put, List.getElem_toArray, List.getElem_cons_succ, List.getElem_cons_zero, List.setIfInBounds_toArray, List.set_cons_zero, List.set_cons_succ]
        refine wpAnyH_take (i := 6) (v := ?_) rfl (by kernel_rfl) (by kernel_rfl) (by kernel_rfl) (fun _ _ _ h => h) (Or.inl ⟨by rfl, ?_⟩) hS ?_
        case refine_2 => (intro w' hS'; go_simp; try with_reducible rfl)
        simp only [Act.put, List.getElem_toArray, List.getElem_cons_succ, List.getElem_cons_zero, List.setIfInBounds_toArray, List.set_cons_zero, List.set_cons_succ]
        refine wpAnyH_take (i := 7) (v := ?_) rfl (by kernel_rfl) (by kernel_rfl) (by kernel_rfl) (fun _ _ _ h => h) (Or.inl ⟨by rfl, ?_⟩) hS ?_
        case refine_2 => (intro w' hS'; go_simp; try with_reducible rfl)
        simp only [Act.put, List.getElem_toArray, List.getElem_cons_succ, List.getElem_cons_zero, List.setIfInBounds_toArray, List.set_cons_zero, List.set_cons_succ]
        refine wpAnyH_ready (rs := [8]) (by kernel_rfl) (by simp) ?_
        refine AllReadyH.cons (o := _) rfl (fun K hK => ?_) AllReadyH.nil
        go_simp
        refine hK.out _ _ ((hS.alloc _)) (fun hS => ?_)
        clear hK K
        try simp only [Act.put, List.getElem_toArray, List.getElem_cons_succ, List.getElem_cons_zero, List.setIfInBounds_toArray, List.set_cons_zero, List.set_cons_succ]
        refine wpAnyH_ready (rs := [9]) (by kernel_rfl) (by simp) ?_
        refine AllReadyH.cons (o := _) rfl (fun K hK => ?_) AllReadyH.nil
        refine step_store (g := w7.heap.size) (BX.new w7 zEc) (by rfl) none rfl _ _ rfl c7 (by rfl) rfl (by rw [H7l.out]; exact size32') (by rw [H7l.out]; rfl) H71.out ?_
        intro w8 hZ8 hg8
        refine hK.out _ _ ((hS.grown hg8 (by (try simp at hs7 hsX); omega))) (fun hS => ?_)
        clear hK K
        try simp only [Act.put, List.getElem_toArray, List.getElem_cons_succ, List.getElem_cons_zero, List.setIfInBounds_toArray, List.set_cons_zero, List.set_cons_succ]
        refine wpAnyH_take (i := 10) (v := ?_) rfl (by kernel_rfl) (by kernel_rfl) (by kernel_rfl) (fun _ _ _ h => h) (Or.inl ⟨by rfl, ?_⟩) hS ?_
        case refine_2 => (intro w' hS'; go_simp; try with_reducible rfl)
        simp only [Act.put, List.getElem_toArray, List.getElem_cons_succ, List.getElem_cons_zero, List.setIfInBounds_toArray, List.set_cons_zero, List.set_cons_succ]
        refine wpAnyH_done (by kernel_rfl) ?_ _
        go_wp2_with fail
        go_meet
        exact ⟨w7.heap.size, c7, rfl, rfl, by (try simp at hs7 hsX); omega, hZ8, Lib.hid (Kd.FK_now (Kd.FK_grown (Kd.FK_below (K_FK (Kd.FK_now HK7.out)) (below_alloc (Below.refl _ _) _)) hg8 (fun q hq e => by injection e; omega))), hS⟩
      · go_simp
        refine hK.out _ _ ((hS.alloc _)) (fun hS => ?_)
        clear hK K
        try simp only [Act.put, List.getElem_toArray, List.getElem_cons_succ, List.getElem_cons_zero, List.setIfInBounds_toArray, List.set_cons_zero, List.set_cons_succ]
        refine wpAnyH_ready (rs := [4]) (by kernel_rfl) (by simp) ?_
        refine AllReadyH.cons (o := _) rfl (fun K hK => ?_) AllReadyH.nil
        have hbX : Below W0.heap.size W0 (w4.alloc (.cells zEc.toArray 32)) := below_alloc hb4' _
        have hsX := hbX.size
        have hbX0 : Below W0.heap.size W0 (w4.alloc (.cells zEc.toArray 32)) := hbX
        go_simp
        refine (check_no cl _ ⟨w2.heap.size + 1 + 1, 0, none⟩ 1 (w4.alloc (.cells zEc.toArray 32)) (fun k => k < W0.heap.size) (fun k hk => Nat.lt_of_lt_of_le hk hbX0.size) (Kd.FK_below (K_FK HSum.out) hbX0) (kE.K_below (below_alloc (Below.refl _ _) _) HK4.out) (hS0.below hbX0).cells (HLW.out _ (below_then hw0 hwl hbX0))).mono ?_
        rintro e w7 ⟨c7, rfl, hK7, hb7⟩
        have hK7 : Kd.FK kE w7 (okN (fun k => k < W0.heap.size) ((w4.alloc (.cells zEc.toArray 32))).heap.size) sumE c7 := hK7
        have H7l := Lib.hid (kE_len (Kd.FK_now hK7))
        have H71 := Lib.hid (kE.K_one (Kd.FK_now hK7))
        have HK7 := Lib.hid hK7
        have hs7 := hb7.size
        clear hK7
        refine hK.out _ _ ((hS.call hb7)) (fun hS => ?_)
        clear hK K
        try simp only [Act.put, List.getElem_toArray, List.getElem_cons_succ, List.getElem_cons_zero, List.setIfInBounds_toArray, List.set_cons_zero, List.set_cons_succ]
        refine wpAnyH_take (i := 5) (v := ?_) rfl (by kernel_rfl) (by kernel_rfl) (by kernel_rfl) (fun _ _ _ h => h) (Or.inl ⟨by rfl, ?_⟩) hS ?_
        case refine_2 => (intro w' hS'; go_simp; try with_reducible rfl)
        simp only [Act.put, List.getElem_toArray, List.getElem_cons_succ, List.getElem_cons_zero, List.setIfInBounds_toArray, List.set_cons_zero, List.set_cons_succ]
        refine wpAnyH_take (i := 6) (v := ?_) rfl (by kernel_rfl) (by kernel_rfl) (by kernel_rfl) (fun _ _ _ h => h) (Or.inl ⟨by rfl, ?_⟩) hS ?_
        case refine_2 => (intro w' hS'; go_simp; try with_reducible rfl)
        simp only [Act.put, List.getElem_toArray, List.getElem_cons_succ, List.getElem_cons_zero, List.setIfInBounds_toArray, List.set_cons_zero, List.set_cons_succ]
        refine wpAnyH_take (i := 7) (v := ?_) rfl (by kernel_rfl) (by kernel_rfl) (by kernel_rfl) (fun _ _ _ h => h) (Or.inl ⟨by rfl, ?_⟩) hS ?_
        case refine_2 => (intro w' hS'; go_simp; try with_reducible rfl)
        simp only [Act.put, List.getElem_toArray, List.getElem_cons_succ, List.getElem_cons_zero, List.setIfInBounds_toArray, List.set_cons_zero, List.set_cons_succ]
        refine wpAnyH_ready (rs := [9]) (by kernel_rfl) (by simp) ?_
        refine AllReadyH.cons (o := _) rfl (fun K hK => ?_) AllReadyH.nil
        refine step_store (g := w4.heap.size) ((BX.new w4 zEc).below hb7) (by rfl) none rfl _ _ rfl c7 (by rfl) rfl (by rw [H7l.out]; exact size32') (by rw [H7l.out]; rfl) H71.out ?_
        intro w8 hZ8 hg8
        refine hK.out _ _ ((hS.grown hg8 (by (try simp at hs7 hsX); omega))) (fun hS => ?_)
        clear hK K
        try simp only [Act.put, List.getElem_toArray, List.getElem_cons_succ, List.getElem_cons_zero, List.setIfInBounds_toArray, List.set_cons_zero, List.set_cons_succ]
        refine wpAnyH_take (i := 10) (v := ?_) rfl (by kernel_rfl) (by kernel_rfl) (by kernel_rfl) (fun _ _ _ h => h) (Or.inl ⟨by rfl, ?_⟩) hS ?_
        case refine_2 => (intro w' hS'; go_simp; try with_reducible rfl)
        simp only [Act.put, List.getElem_toArray, List.getElem_cons_succ, List.getElem_cons_zero, List.setIfInBounds_toArray, List.set_cons_zero, List.set_cons_succ]
        refine wpAnyH_done (by kernel_rfl) ?_ _
        go_wp2_with fail
        go_meet
        exact ⟨w4.heap.size, c7, rfl, rfl, by (try simp at hs7 hsX); omega, hZ8, Lib.hid (Kd.FK_now (Kd.FK_grown HK7.out hg8 (fun q hq e => by injection e with e; rcases hq with hq | hq <;> (try simp at hq) <;> omega))), hS⟩
    · go_simp
      have hS1 : Stood W0 (W0.alloc (.cells zEc.toArray 32)).drew := below_drew (below_alloc (Below.refl _ _) _)
      refine hK.out _ _ (hS1) (fun hS => ?_)
      clear hK K
      try simp only [Act.put, List.getElem_toArray, List.getElem_cons_succ, List.getElem_cons_zero, List.setIfInBounds_toArray, List.set_cons_zero, List.set_cons_succ]
      refine wpAnyH_ready (rs := [2]) (by kernel_rfl) (by simp) ?_
      refine AllReadyH.cons (o := _) rfl (fun K hK => ?_) AllReadyH.nil
      go_simp
      refine (HN4.out _).mono ?_
      rintro e w4 ⟨c4, rfl, hK4, hb4⟩
      have HK4 := Lib.hid (Kd.FK_now hK4)
      obtain ⟨A3, a3, A6, a6, A7, a7, A9, a9, A12, a12, rfl, _⟩ := kE_open (Kd.FK_now hK4)
      clear hK4
      have hb4' : Below W0.heap.size W0 w4 := below_then hS1 hS1.size hb4
      have hs4 : W0.heap.size + 1 ≤ w4.heap.size := by simpa using hb4.size
      have hY4 := BX.below (w := (W0.alloc (.cells zEc.toArray 32)).drew) (BX.new W0 zEc) hb4
      refine hK.out _ _ ((hS.call hb4)) (fun hS => ?_)
      clear hK K
      try simp only [Act.put, List.getElem_toArray, List.getElem_cons_succ, List.getElem_cons_zero, List.setIfInBounds_toArray, List.set_cons_zero, List.set_cons_succ]
      refine wpAnyH_take (i := 3) (v := ?_) rfl (by kernel_rfl) (by kernel_rfl) (by kernel_rfl) (fun _ _ _ h => h) (Or.inl ⟨by rfl, ?_⟩) hS ?_
      case refine_2 => (intro w' hS'; go_simp; try with_reducible rfl)
      simp only [Act.put, List.getElem_toArray, List.getElem_cons_succ, List.getElem_cons_zero, List.setIfInBounds_toArray, List.set_cons_zero, List.set_cons_succ]
      refine wpAnyH_ready (rs := [4]) (by kernel_rfl) (by simp) ?_
      refine AllReadyH.cons (o := _) rfl (fun K hK => ?_) AllReadyH.nil
      have hbX : Below W0.heap.size W0 w4 := hb4'
      have hsX := hbX.size
      have hbX0 : Below W0.heap.size W0 w4 := hbX
      go_simp
      refine (check_no cl _ ⟨w2.heap.size + 1 + 1, 0, none⟩ 1 w4 (fun k => k < W0.heap.size) (fun k hk => Nat.lt_of_lt_of_le hk hbX0.size) (Kd.FK_below (K_FK HSum.out) hbX0) (kE.K_below (Below.refl _ _) HK4.out) (hS0.below hbX0).cells (HLW.out _ (below_then hw0 hwl hbX0))).mono ?_
      rintro e w7 ⟨c7, rfl, hK7, hb7⟩
      have hK7 : Kd.FK kE w7 (okN (fun k => k < W0.heap.size) (w4).heap.size) sumE c7 := hK7
      have H7l := Lib.hid (kE_len (Kd.FK_now hK7))
      have H71 := Lib.hid (kE.K_one (Kd.FK_now hK7))
      have HK7 := Lib.hid hK7
      have hs7 := hb7.size
      clear hK7
      refine hK.out _ _ ((hS.call hb7)) (fun hS => ?_)
      clear hK K
      try simp only [Act.put, List.getElem_toArray, List.getElem_cons_succ, List.getElem_cons_zero, List.setIfInBounds_toArray, List.set_cons_zero, List.set_cons_succ]
      refine wpAnyH_take (i := 5) (v := ?_) rfl (by kernel_rfl) (by kernel_rfl) (by kernel_rfl) (fun _ _ _ h => h) (Or.inl ⟨by rfl, ?_⟩) hS ?_
      case refine_2 => (intro w' hS'; go_simp; try with_reducible rfl)
      simp only [Act.put, List.getElem_toArray, List.getElem_cons_succ, List.getElem_cons_zero, List.setIfInBounds_toArray, List.set_cons_zero, List.set_cons_succ]
      refine wpAnyH_take (i := 6) (v := ?_) rfl (by kernel_rfl) (by kernel_rfl) (by kernel_rfl) (fun _ _ _ h => h) (Or.inl ⟨by rfl, ?_⟩) hS ?_
      case refine_2 => (intro w' hS'; go_simp; try with_reducible rfl)
      simp only [Act.put, List.getElem_toArray, List.getElem_cons_succ, List.getElem_cons_zero, List.setIfInBounds_toArray, List.set_cons_zero, List.set_cons_succ]
      refine wpAnyH_take (i := 7) (v := ?_) rfl (by kernel_rfl) (by kernel_rfl) (by kernel_rfl) (fun _ _ _ h => h) (Or.inl ⟨by rfl, ?_⟩) hS ?_
      case refine_2 => (intro w' hS'; go_simp; try with_reducible rfl)
      simp only [Act.put, List.getElem_toArray, List.getElem_cons_succ, List.getElem_cons_zero, List.setIfInBounds_toArray, List.set_cons_zero, List.set_cons_succ]
      refine wpAnyH_ready (rs := [9]) (by kernel_rfl) (by simp) ?_
      refine AllReadyH.cons (o := _) rfl (fun K hK => ?_) AllReadyH.nil
      refine step_store (g := W0.heap.size) (hY4.below hb7) (by rfl) none rfl _ _ rfl c7 (by rfl) rfl (by rw [H7l.out]; exact size32') (by rw [H7l.out]; rfl) H71.out ?_
      intro w8 hZ8 hg8
      refine hK.out _ _ ((hS.grown hg8 (by (try simp at hs7 hsX); omega))) (fun hS => ?_)
      clear hK K
      try simp only [Act.put, List.getElem_toArray, List.getElem_cons_succ, List.getElem_cons_zero, List.setIfInBounds_toArray, List.set_cons_zero, List.set_cons_succ]
      refine wpAnyH_take (i := 10) (v := ?_) rfl (by kernel_rfl) (by kernel_rfl) (by kernel_rfl) (fun _ _ _ h => h) (Or.inl ⟨by rfl, ?_⟩) hS ?_
      case refine_2 => (intro w' hS'; go_simp; try with_reducible rfl)
      simp only [Act.put, List.getElem_toArray, List.getElem_cons_succ, List.getElem_cons_zero, List.setIfInBounds_toArray, List.set_cons_zero, List.set_cons_succ]
      refine wpAnyH_done (by kernel_rfl) ?_ _
      go_wp2_with fail
      go_meet
      exact ⟨W0.heap.size, c7, rfl, rfl, by (try simp at hs7 hsX); omega, hZ8, Lib.hid (Kd.FK_now (Kd.FK_grown HK7.out hg8 (fun q hq e => by injection e with e; rcases hq with hq | hq <;> (try simp at hq) <;> omega))), hS⟩
  case rest =>
    obtain ⟨g1, ch1, rfl, rfl, hg1, _, _, hb01⟩ := hcut
    have hs01 := hb01.size
    obtain ⟨W1, hW1⟩ : ∃ W1, W1 = wc := ⟨_, rfl⟩
    rw [← hW1] at hb01 hs01
    have hT1 := hT0.below hb01
    go_upto_region 4 with fail
    rw [← hW1]
    clear hW1
    go_cut [5, 6] (fun v5 v6 wx => ∃ (g : Nat) (ch : List Value), v5 = .pointer (some ⟨g, 0, none⟩) ∧ v6 = .bool true ∧ W1.heap.size ≤ g ∧ BX 32 wx g ch ∧ Hid (kE.K wx (numE 3) ch) ∧ Below W1.heap.size W1 wx)
    case first =>
      refine wp_region_held_drew (S := Stood W1) (by kernel_rfl) (below_drew (Below.refl _ _)) (fun hS => ?_)
      refine wpAnyH_take (i := 0) rfl (by kernel_rfl) (by kernel_rfl) (by kernel_rfl) (fun _ _ _ h => h) (held_load (by rfl) 32 _ rfl ⟨w2.heap.size + 1, 0, none⟩ rfl cl _ hT1.cells Tryz.underlying32 rfl (by rw [hll.out]; exact size32')) hS ?_
      simp only [Act.put, List.getElem_toArray, List.getElem_cons_succ, List.getElem_cons_zero, List.setIfInBounds_toArray, List.set_cons_zero, List.set_cons_succ]
      refine wpAnyH_take (i := 1) (v := ?_) rfl (by kernel_rfl) (by kernel_rfl) (by kernel_rfl) (fun _ _ _ h => h) (Or.inl ⟨by rfl, ?_⟩) hS ?_
      case refine_2 => (intro w' hS'; go_simp; try with_reducible rfl)
      simp only [Act.put, List.getElem_toArray, List.getElem_cons_succ, List.getElem_cons_zero, List.setIfInBounds_toArray, List.set_cons_zero, List.set_cons_succ]
      refine wpAnyH_ready (rs := [2, 8]) (by kernel_rfl) (by simp) ?_
      refine AllReadyH.cons (o := _) rfl (fun K hK => ?_) (AllReadyH.cons (o := _) rfl (fun K hK => ?_) AllReadyH.nil)
      · go_simp
        refine (HN3.out _).mono ?_
        rintro e w4 ⟨c4, rfl, hK4, hb4⟩
        have HK4 := Lib.hid (Kd.FK_now hK4)
        obtain ⟨A3, a3, A6, a6, A7, a7, A9, a9, A12, a12, rfl, _⟩ := kE_open (Kd.FK_now hK4)
        clear hK4
        have hb4' : Below W1.heap.size W1 w4 := below_then (below_drew (Below.refl _ _)) (Nat.le_refl _) hb4
        have hs4 := hb4'.size
        refine hK.out _ _ ((hS.call hb4)) (fun hS => ?_)
        clear hK K
        try simp only [Act.put, List.getElem_toArray, List.getElem_cons_succ, List.getElem_cons_zero, List.setIfInBounds_toArray, List.set_cons_zero, List.set_cons_succ]
        refine wpAnyH_take (i := 3) (v := ?_) rfl (by kernel_rfl) (by kernel_rfl) (by kernel_rfl) (fun _ _ _ h => h) (Or.inl ⟨by rfl, ?_⟩) hS ?_
        case refine_2 => (intro w' hS'; go_simp; try with_reducible rfl)
        simp only [Act.put, List.getElem_toArray, List.getElem_cons_succ, List.getElem_cons_zero, List.setIfInBounds_toArray, List.set_cons_zero, List.set_cons_succ]
        refine wpAnyH_ready (rs := [4, 8]) (by kernel_rfl) (by simp) ?_
        refine AllReadyH.cons (o := _) rfl (fun K hK => ?_) (AllReadyH.cons (o := _) rfl (fun K hK => ?_) AllReadyH.nil)
        · have hbX : Below W1.heap.size W1 w4 := hb4'
          have hsX := hbX.size
          have hbX0 : Below W0.heap.size W0 w4 := below_then hb01 hb01.size hbX
          go_simp
          refine (check_yes cl _ ⟨w2.heap.size + 1 + 1, 0, none⟩ 1 w4 (fun k => k < W0.heap.size) (fun k hk => Nat.lt_of_lt_of_le hk hbX0.size) (Kd.FK_below (K_FK HSum.out) hbX0) (kE.K_below (Below.refl _ _) HK4.out) (hS0.below hbX0).cells (HLW.out _ (below_then hw0 hwl hbX0))).mono ?_
          rintro e w7 ⟨c7, rfl, hK7, hb7⟩
          have hK7 : Kd.FK kE w7 (okN (fun k => k < W0.heap.size) (w4).heap.size) (numE 3) c7 := hK7
          have H7l := Lib.hid (kE_len (Kd.FK_now hK7))
          have H71 := Lib.hid (kE.K_one (Kd.FK_now hK7))
          have HK7 := Lib.hid hK7
          have hs7 := hb7.size
          clear hK7
          refine hK.out _ _ ((hS.call hb7)) (fun hS => ?_)
          clear hK K
          try simp only [Act.put, List.getElem_toArray, List.getElem_cons_succ, List.getElem_cons_zero, List.setIfInBounds_toArray, List.set_cons_zero, List.set_cons_succ]
          refine wpAnyH_take (i := 5) (v := ?_) rfl (by kernel_rfl) (by kernel_rfl) (by kernel_rfl) (fun _ _ _ h => h) (Or.inl ⟨by rfl, ?_⟩) hS ?_
          case refine_2 => (intro w' hS'; go_simp; try with_reducible rfl)
          simp only [Act.put, List.getElem_toArray, List.getElem_cons_succ, List.getElem_cons_zero, List.setIfInBounds_toArray, List.set_cons_zero, List.set_cons_succ]
          refine wpAnyH_take (i := 6) (v := ?_) rfl (by kernel_rfl) (by kernel_rfl) (by kernel_rfl) (fun _ _ _ h => h) (Or.inl ⟨by rfl, ?_⟩) hS ?_
          case refine_2 => (intro w' hS'; go_simp; try with_reducible rfl)
          simp only [Act.put, List.getElem_toArray, List.getElem_cons_succ, List.getElem_cons_zero, List.setIfInBounds_toArray, List.set_cons_zero, List.set_cons_succ]
          refine wpAnyH_take (i := 7) (v := ?_) rfl (by kernel_rfl) (by kernel_rfl) (by kernel_rfl) (fun _ _ _ h => h) (Or.inl ⟨by rfl, ?_⟩) hS ?_
          case refine_2 => (intro w' hS'; go_simp; try with_reducible rfl)
          simp only [Act.put, List.getElem_toArray, List.getElem_cons_succ, List.getElem_cons_zero, List.setIfInBounds_toArray, List.set_cons_zero, List.set_cons_succ]
          refine wpAnyH_ready (rs := [8]) (by kernel_rfl) (by simp) ?_
          refine AllReadyH.cons (o := _) rfl (fun K hK => ?_) AllReadyH.nil
          go_simp
          refine hK.out _ _ ((hS.alloc _)) (fun hS => ?_)
          clear hK K
          try simp only [Act.put, List.getElem_toArray, List.getElem_cons_succ, List.getElem_cons_zero, List.setIfInBounds_toArray, List.set_cons_zero, List.set_cons_succ]
          refine wpAnyH_ready (rs := [9]) (by kernel_rfl) (by simp) ?_
          refine AllReadyH.cons (o := _) rfl (fun K hK => ?_) AllReadyH.nil
          refine step_store (g := w7.heap.size) (BX.new w7 zEc) (by rfl) none rfl _ _ rfl c7 (by rfl) rfl (by rw [H7l.out]; exact size32') (by rw [H7l.out]; rfl) H71.out ?_
          intro w8 hZ8 hg8
          refine hK.out _ _ ((hS.grown hg8 (by (try simp at hs7 hsX); omega))) (fun hS => ?_)
          clear hK K
          try simp only [Act.put, List.getElem_toArray, List.getElem_cons_succ, List.getElem_cons_zero, List.setIfInBounds_toArray, List.set_cons_zero, List.set_cons_succ]
          refine wpAnyH_take (i := 10) (v := ?_) rfl (by kernel_rfl) (by kernel_rfl) (by kernel_rfl) (fun _ _ _ h => h) (Or.inl ⟨by rfl, ?_⟩) hS ?_
          case refine_2 => (intro w' hS'; go_simp; try with_reducible rfl)
          simp only [Act.put, List.getElem_toArray, List.getElem_cons_succ, List.getElem_cons_zero, List.setIfInBounds_toArray, List.set_cons_zero, List.set_cons_succ]
          refine wpAnyH_done (by kernel_rfl) ?_ _
          go_wp2_with fail
          go_meet
          exact ⟨w7.heap.size, c7, rfl, rfl, by (try simp at hs7 hsX); omega, hZ8, Lib.hid (Kd.FK_now (Kd.FK_grown (Kd.FK_below (K_FK (Kd.FK_now HK7.out)) (below_alloc (Below.refl _ _) _)) hg8 (fun q hq e => by injection e; omega))), hS⟩
        · go_simp
          refine hK.out _ _ ((hS.alloc _)) (fun hS => ?_)
          clear hK K
          try simp only [Act.put, List.getElem_toArray, List.getElem_cons_succ, List.getElem_cons_zero, List.setIfInBounds_toArray, List.set_cons_zero, List.set_cons_succ]
          refine wpAnyH_ready (rs := [4]) (by kernel_rfl) (by simp) ?_
          refine AllReadyH.cons (o := _) rfl (fun K hK => ?_) AllReadyH.nil
          have hbX : Below W1.heap.size W1 (w4.alloc (.cells zEc.toArray 32)) := below_alloc hb4' _
          have hsX := hbX.size
          have hbX0 : Below W0.heap.size W0 (w4.alloc (.cells zEc.toArray 32)) := below_then hb01 hb01.size hbX
          go_simp
          refine (check_yes cl _ ⟨w2.heap.size + 1 + 1, 0, none⟩ 1 (w4.alloc (.cells zEc.toArray 32)) (fun k => k < W0.heap.size) (fun k hk => Nat.lt_of_lt_of_le hk hbX0.size) (Kd.FK_below (K_FK HSum.out) hbX0) (kE.K_below (below_alloc (Below.refl _ _) _) HK4.out) (hS0.below hbX0).cells (HLW.out _ (below_then hw0 hwl hbX0))).mono ?_
          rintro e w7 ⟨c7, rfl, hK7, hb7⟩
          have hK7 : Kd.FK kE w7 (okN (fun k => k < W0.heap.size) ((w4.alloc (.cells zEc.toArray 32))).heap.size) (numE 3) c7 := hK7
          have H7l := Lib.hid (kE_len (Kd.FK_now hK7))
          have H71 := Lib.hid (kE.K_one (Kd.FK_now hK7))
          have HK7 := Lib.hid hK7
          have hs7 := hb7.size
          clear hK7
          refine hK.out _ _ ((hS.call hb7)) (fun hS => ?_)
          clear hK K
          try simp only [Act.put, List.getElem_toArray, List.getElem_cons_succ, List.getElem_cons_zero, List.setIfInBounds_toArray, List.set_cons_zero, List.set_cons_succ]
          refine wpAnyH_take (i := 5) (v := ?_) rfl (by kernel_rfl) (by kernel_rfl) (by kernel_rfl) (fun _ _ _ h => h) (Or.inl ⟨by rfl, ?_⟩) hS ?_
          case refine_2 => (intro w' hS'; go_simp; try with_reducible rfl)
          simp only [Act.put, List.getElem_toArray, List.getElem_cons_succ, List.getElem_cons_zero, List.setIfInBounds_toArray, List.set_cons_zero, List.set_cons_succ]
          refine wpAnyH_take (i := 6) (v := ?_) rfl (by kernel_rfl) (by kernel_rfl) (by kernel_rfl) (fun _ _ _ h => h) (Or.inl ⟨by rfl, ?_⟩) hS ?_
          case refine_2 => (intro w' hS'; go_simp; try with_reducible rfl)
          simp only [Act.put, List.getElem_toArray, List.getElem_cons_succ, List.getElem_cons_zero, List.setIfInBounds_toArray, List.set_cons_zero, List.set_cons_succ]
          refine wpAnyH_take (i := 7) (v := ?_) rfl (by kernel_rfl) (by kernel_rfl) (by kernel_rfl) (fun _ _ _ h => h) (Or.inl ⟨by rfl, ?_⟩) hS ?_
          case refine_2 => (intro w' hS'; go_simp; try with_reducible rfl)
          simp only [Act.put, List.getElem_toArray, List.getElem_cons_succ, List.getElem_cons_zero, List.setIfInBounds_toArray, List.set_cons_zero, List.set_cons_succ]
          refine wpAnyH_ready (rs := [9]) (by kernel_rfl) (by simp) ?_
          refine AllReadyH.cons (o := _) rfl (fun K hK => ?_) AllReadyH.nil
          refine step_store (g := w4.heap.size) ((BX.new w4 zEc).below hb7) (by rfl) none rfl _ _ rfl c7 (by rfl) rfl (by rw [H7l.out]; exact size32') (by rw [H7l.out]; rfl) H71.out ?_
          intro w8 hZ8 hg8
          refine hK.out _ _ ((hS.grown hg8 (by (try simp at hs7 hsX); omega))) (fun hS => ?_)
          clear hK K
          try simp only [Act.put, List.getElem_toArray, List.getElem_cons_succ, List.getElem_cons_zero, List.setIfInBounds_toArray, List.set_cons_zero, List.set_cons_succ]
          refine wpAnyH_take (i := 10) (v := ?_) rfl (by kernel_rfl) (by kernel_rfl) (by kernel_rfl) (fun _ _ _ h => h) (Or.inl ⟨by rfl, ?_⟩) hS ?_
          case refine_2 => (intro w' hS'; go_simp; try with_reducible rfl)
          simp only [Act.put, List.getElem_toArray, List.getElem_cons_succ, List.getElem_cons_zero, List.setIfInBounds_toArray, List.set_cons_zero, List.set_cons_succ]
          refine wpAnyH_done (by kernel_rfl) ?_ _
          go_wp2_with fail
          go_meet
          exact ⟨w4.heap.size, c7, rfl, rfl, by (try simp at hs7 hsX); omega, hZ8, Lib.hid (Kd.FK_now (Kd.FK_grown HK7.out hg8 (fun q hq e => by injection e with e; rcases hq with hq | hq <;> (try simp at hq) <;> omega))), hS⟩
      · go_simp
        have hS1 : Stood W1 (W1.alloc (.cells zEc.toArray 32)).drew := below_drew (below_alloc (Below.refl _ _) _)
        refine hK.out _ _ (hS1) (fun hS => ?_)
        clear hK K
        try simp only [Act.put, List.getElem_toArray, List.getElem_cons_succ, List.getElem_cons_zero, List.setIfInBounds_toArray, List.set_cons_zero, List.set_cons_succ]
        refine wpAnyH_ready (rs := [2]) (by kernel_rfl) (by simp) ?_
        refine AllReadyH.cons (o := _) rfl (fun K hK => ?_) AllReadyH.nil
        go_simp
        refine (HN3.out _).mono ?_
        rintro e w4 ⟨c4, rfl, hK4, hb4⟩
        have HK4 := Lib.hid (Kd.FK_now hK4)
        obtain ⟨A3, a3, A6, a6, A7, a7, A9, a9, A12, a12, rfl, _⟩ := kE_open (Kd.FK_now hK4)
        clear hK4
        have hb4' : Below W1.heap.size W1 w4 := below_then hS1 hS1.size hb4
        have hs4 : W1.heap.size + 1 ≤ w4.heap.size := by simpa using hb4.size
        have hY4 := BX.below (w := (W1.alloc (.cells zEc.toArray 32)).drew) (BX.new W1 zEc) hb4
        refine hK.out _ _ ((hS.call hb4)) (fun hS => ?_)
        clear hK K
        try simp only [Act.put, List.getElem_toArray, List.getElem_cons_succ, List.getElem_cons_zero, List.setIfInBounds_toArray, List.set_cons_zero, List.set_cons_succ]
        refine wpAnyH_take (i := 3) (v := ?_) rfl (by kernel_rfl) (by kernel_rfl) (by kernel_rfl) (fun _ _ _ h => h) (Or.inl ⟨by rfl, ?_⟩) hS ?_
        case refine_2 => (intro w' hS'; go_simp; try with_reducible rfl)
        simp only [Act.put, List.getElem_toArray, List.getElem_cons_succ, List.getElem_cons_zero, List.setIfInBounds_toArray, List.set_cons_zero, List.set_cons_succ]
        refine wpAnyH_ready (rs := [4]) (by kernel_rfl) (by simp) ?_
        refine AllReadyH.cons (o := _) rfl (fun K hK => ?_) AllReadyH.nil
        have hbX : Below W1.heap.size W1 w4 := hb4'
        have hsX := hbX.size
        have hbX0 : Below W0.heap.size W0 w4 := below_then hb01 hb01.size hbX
        go_simp
        refine (check_yes cl _ ⟨w2.heap.size + 1 + 1, 0, none⟩ 1 w4 (fun k => k < W0.heap.size) (fun k hk => Nat.lt_of_lt_of_le hk hbX0.size) (Kd.FK_below (K_FK HSum.out) hbX0) (kE.K_below (Below.refl _ _) HK4.out) (hS0.below hbX0).cells (HLW.out _ (below_then hw0 hwl hbX0))).mono ?_
        rintro e w7 ⟨c7, rfl, hK7, hb7⟩
        have hK7 : Kd.FK kE w7 (okN (fun k => k < W0.heap.size) (w4).heap.size) (numE 3) c7 := hK7
        have H7l := Lib.hid (kE_len (Kd.FK_now hK7))
        have H71 := Lib.hid (kE.K_one (Kd.FK_now hK7))
        have HK7 := Lib.hid hK7
        have hs7 := hb7.size
        clear hK7
        refine hK.out _ _ ((hS.call hb7)) (fun hS => ?_)
        clear hK K
        try simp only [Act.put, List.getElem_toArray, List.getElem_cons_succ, List.getElem_cons_zero, List.setIfInBounds_toArray, List.set_cons_zero, List.set_cons_succ]
        refine wpAnyH_take (i := 5) (v := ?_) rfl (by kernel_rfl) (by kernel_rfl) (by kernel_rfl) (fun _ _ _ h => h) (Or.inl ⟨by rfl, ?_⟩) hS ?_
        case refine_2 => (intro w' hS'; go_simp; try with_reducible rfl)
        simp only [Act.put, List.getElem_toArray, List.getElem_cons_succ, List.getElem_cons_zero, List.setIfInBounds_toArray, List.set_cons_zero, List.set_cons_succ]
        refine wpAnyH_take (i := 6) (v := ?_) rfl (by kernel_rfl) (by kernel_rfl) (by kernel_rfl) (fun _ _ _ h => h) (Or.inl ⟨by rfl, ?_⟩) hS ?_
        case refine_2 => (intro w' hS'; go_simp; try with_reducible rfl)
        simp only [Act.put, List.getElem_toArray, List.getElem_cons_succ, List.getElem_cons_zero, List.setIfInBounds_toArray, List.set_cons_zero, List.set_cons_succ]
        refine wpAnyH_take (i := 7) (v := ?_) rfl (by kernel_rfl) (by kernel_rfl) (by kernel_rfl) (fun _ _ _ h => h) (Or.inl ⟨by rfl, ?_⟩) hS ?_
        case refine_2 => (intro w' hS'; go_simp; try with_reducible rfl)
        simp only [Act.put, List.getElem_toArray, List.getElem_cons_succ, List.getElem_cons_zero, List.setIfInBounds_toArray, List.set_cons_zero, List.set_cons_succ]
        refine wpAnyH_ready (rs := [9]) (by kernel_rfl) (by simp) ?_
        refine AllReadyH.cons (o := _) rfl (fun K hK => ?_) AllReadyH.nil
        refine step_store (g := W1.heap.size) (hY4.below hb7) (by rfl) none rfl _ _ rfl c7 (by rfl) rfl (by rw [H7l.out]; exact size32') (by rw [H7l.out]; rfl) H71.out ?_
        intro w8 hZ8 hg8
        refine hK.out _ _ ((hS.grown hg8 (by (try simp at hs7 hsX); omega))) (fun hS => ?_)
        clear hK K
        try simp only [Act.put, List.getElem_toArray, List.getElem_cons_succ, List.getElem_cons_zero, List.setIfInBounds_toArray, List.set_cons_zero, List.set_cons_succ]
        refine wpAnyH_take (i := 10) (v := ?_) rfl (by kernel_rfl) (by kernel_rfl) (by kernel_rfl) (fun _ _ _ h => h) (Or.inl ⟨by rfl, ?_⟩) hS ?_
        case refine_2 => (intro w' hS'; go_simp; try with_reducible rfl)
        simp only [Act.put, List.getElem_toArray, List.getElem_cons_succ, List.getElem_cons_zero, List.setIfInBounds_toArray, List.set_cons_zero, List.set_cons_succ]
        refine wpAnyH_done (by kernel_rfl) ?_ _
        go_wp2_with fail
        go_meet
        exact ⟨W1.heap.size, c7, rfl, rfl, by (try simp at hs7 hsX); omega, hZ8, Lib.hid (Kd.FK_now (Kd.FK_grown HK7.out hg8 (fun q hq e => by injection e with e; rcases hq with hq | hq <;> (try simp at hq) <;> omega))), hS⟩
    case rest =>
      obtain ⟨g2, ch2, rfl, rfl, hg2, hZ, HZ, hb12⟩ := hcut
      have hs12 := hb12.size
      have hchl := Lib.hid (kE_len HZ.out)
      obtain ⟨W2, hW2⟩ : ∃ W2, W2 = wc := ⟨_, rfl⟩
      rw [← hW2] at hb12 hs12 hZ HZ
      have hw2 : Below w.heap.size w W2 := below_then (below_then hw0 hwl hb01) (by omega) hb12
      go_upto_region 5 with fail
      rw [← hW2]
      clear hW2
      refine wp_region_held_drew (S := Stood W2) (by kernel_rfl) (below_drew (Below.refl _ _)) (fun hS => ?_)
      refine wpAnyH_take (i := 0) (v := ?_) rfl (by kernel_rfl) (by kernel_rfl) (by kernel_rfl) (fun _ _ _ h => h) (Or.inl ⟨by rfl, ?_⟩) hS ?_
      case refine_2 => (intro w' hS'; go_simp; try with_reducible rfl)
      simp only [Act.put, List.getElem_toArray, List.getElem_cons_succ, List.getElem_cons_zero, List.setIfInBounds_toArray, List.set_cons_zero, List.set_cons_succ]
      refine wpAnyH_take (i := 1) (v := ?_) rfl (by kernel_rfl) (by kernel_rfl) (by kernel_rfl) (fun _ _ _ h => h) (Or.inl ⟨by rfl, ?_⟩) hS ?_
      case refine_2 => (intro w' hS'; go_simp; try with_reducible rfl)
      simp only [Act.put, List.getElem_toArray, List.getElem_cons_succ, List.getElem_cons_zero, List.setIfInBounds_toArray, List.set_cons_zero, List.set_cons_succ]
      refine wpAnyH_take (i := 2) (v := ?_) rfl (by kernel_rfl) (by kernel_rfl) (by kernel_rfl) (fun _ _ _ h => h) (Or.inl ⟨by rfl, ?_⟩) hS ?_
      case refine_2 => (intro w' hS'; go_simp; try with_reducible rfl)
      simp only [Act.put, List.getElem_toArray, List.getElem_cons_succ, List.getElem_cons_zero, List.setIfInBounds_toArray, List.set_cons_zero, List.set_cons_succ]
      refine wpAnyH_take (i := 3) (v := ?_) rfl (by kernel_rfl) (by kernel_rfl) (by kernel_rfl) (fun _ _ _ h => h) (Or.inl ⟨by rfl, ?_⟩) hS ?_
      case refine_2 => (intro w' hS'; go_simp; try with_reducible rfl)
      simp only [Act.put, List.getElem_toArray, List.getElem_cons_succ, List.getElem_cons_zero, List.setIfInBounds_toArray, List.set_cons_zero, List.set_cons_succ]
      refine wpAnyH_take (i := 4) (v := ?_) rfl (by kernel_rfl) (by kernel_rfl) (by kernel_rfl) (fun _ _ _ h => h) (Or.inl ⟨by rfl, ?_⟩) hS ?_
      case refine_2 => (intro w' hS'; go_simp; try with_reducible rfl)
      simp only [Act.put, List.getElem_toArray, List.getElem_cons_succ, List.getElem_cons_zero, List.setIfInBounds_toArray, List.set_cons_zero, List.set_cons_succ]
      refine wpAnyH_take (i := 5) (v := ?_) rfl (by kernel_rfl) (by kernel_rfl) (by kernel_rfl) (fun _ _ _ h => h) (Or.inl ⟨by rfl, ?_⟩) hS ?_
      case refine_2 => (intro w' hS'; go_simp; try with_reducible rfl)
      simp only [Act.put, List.getElem_toArray, List.getElem_cons_succ, List.getElem_cons_zero, List.setIfInBounds_toArray, List.set_cons_zero, List.set_cons_succ]
      refine wpAnyH_take (i := 6) rfl (by kernel_rfl) (by kernel_rfl) (by kernel_rfl) (fun _ _ _ h => h) (held_load (by rfl) 32 _ rfl ⟨g2, 0, none⟩ rfl ch2 _ hZ.cells Tryz.underlying32 rfl (by rw [hchl.out]; exact size32')) hS ?_
      simp only [Act.put, List.getElem_toArray, List.getElem_cons_succ, List.getElem_cons_zero, List.setIfInBounds_toArray, List.set_cons_zero, List.set_cons_succ]
      refine wpAnyH_ready (rs := [7]) (by kernel_rfl) (by simp) ?_
      refine AllReadyH.cons (o := _) rfl (fun K hK => ?_) AllReadyH.nil
      go_simp
      refine (HN3.out _).mono ?_
      rintro e we ⟨ce, rfl, hKe, hbe⟩
      have HKe := Lib.hid (Kd.FK_now hKe)
      have hbe' : Below W2.heap.size W2 we := below_then (below_drew (Below.refl _ _)) (Nat.le_refl _) hbe
      clear hKe
      refine hK.out _ _ ((hS.call hbe)) (fun hS => ?_)
      clear hK K
      try simp only [Act.put, List.getElem_toArray, List.getElem_cons_succ, List.getElem_cons_zero, List.setIfInBounds_toArray, List.set_cons_zero, List.set_cons_succ]
      refine wpAnyH_ready (rs := [8]) (by kernel_rfl) (by simp) ?_
      refine AllReadyH.cons (o := _) rfl (fun K hK => ?_) AllReadyH.nil
      go_simp
      refine (rSame8_calls (numE 3) (numE 3) ch2 ce we (kE.K_below hbe' HZ.out) HKe.out slim_3 slim_3).mono ?_
      rintro e wf ⟨rfl, hbf⟩
      rw [same_3]
      have hbf' : Below W2.heap.size W2 wf := below_then hbe' hbe'.size hbf
      refine hK.out _ _ ((hS.call hbf)) (fun hS => ?_)
      clear hK K
      try simp only [Act.put, List.getElem_toArray, List.getElem_cons_succ, List.getElem_cons_zero, List.setIfInBounds_toArray, List.set_cons_zero, List.set_cons_succ]
      refine wpAnyH_take (i := 9) (v := ?_) rfl (by kernel_rfl) (by kernel_rfl) (by kernel_rfl) (fun _ _ _ h => h) (Or.inl ⟨by rfl, ?_⟩) hS ?_
      case refine_2 => (intro w' hS'; go_simp; try with_reducible rfl)
      simp only [Act.put, List.getElem_toArray, List.getElem_cons_succ, List.getElem_cons_zero, List.setIfInBounds_toArray, List.set_cons_zero, List.set_cons_succ]
      refine wpAnyH_take (i := 10) (v := ?_) rfl (by kernel_rfl) (by kernel_rfl) (by kernel_rfl) (fun _ _ _ h => h) (Or.inl ⟨by rfl, ?_⟩) hS ?_
      case refine_2 => (intro w' hS'; go_simp; try with_reducible rfl)
      simp only [Act.put, List.getElem_toArray, List.getElem_cons_succ, List.getElem_cons_zero, List.setIfInBounds_toArray, List.set_cons_zero, List.set_cons_succ]
      refine wpAnyH_done (by kernel_rfl) ?_ _
      go_wp2_with fail
      go_ret
      exact ⟨rfl, below_then hw2 hw2.size hS⟩
end Go.Proofs.YtlcofdgaidlldaaGreatDoor
