/- Contract: pavanelaw12.ProofLong. The walk's condition: the tables. -/
import Derived.Test.YtlcofdgaidlldaaGreatDoorZy3
import Derived.Test.YtlcofdgaidlldaaGreatDoorZy4
namespace Go.Proofs.YtlcofdgaidlldaaGreatDoor
open Go.RowKit Go.Shelf Go.Proofs.YtlcofdgaidlldaaGreatDoorW.PrintWords
set_option linter.unusedVariables false
set_option linter.unusedSimpArgs false
set_option maxRecDepth 100000 in
set_option maxHeartbeats 8000000 in
theorem ProofLong_calls (n : Int) (w : World) (hn0 : 0 ≤ n) (hn1 : n ≤ 18446744073709551615) (hL : Laid w) : Calls Tryz.prog 3 #[.int .u64 n] w fun e w' => e = .returned (.bool true) ∧ Below w.heap.size w w' := by
  have HN1 := Lib.hid (fun (W : World) => num_calls 1 W (by decide))
  have HN2 := Lib.hid (fun (W : World) => num_calls 2 W (by decide))
  have HLW := Lib.hid (fun (W : World) (h : Below w.heap.size w W) => hL.below h)
  have HLv := Lib.hid (fun (W : World) (h : Below w.heap.size w W) => lives12_calls W (hL.below h))
  obtain ⟨k, hk0, hk1, hkn⟩ : ∃ k : Nat, 498 ≤ k ∧ k ≤ 502 ∧ 498 + n % 5 = (k : Int) := ⟨(498 + n % 5).toNat, by omega, by omega, by omega⟩
  have HK := Lib.hid hkn
  clear hL
  go_enter Tryz.func3, Tryz.ntmps3
  go_upto_region 2 with fail
  go_wp2_with (first
    | (go_at_call 4; (with_reducible refine (HN1.out w).mono ?_); rintro e w1 ⟨c1, rfl, hK1, hb1⟩; have H1l := Lib.hid (kE_len (Kd.FK_now hK1)); have H11 := Lib.hid (kE.K_one (Kd.FK_now hK1)); have HK1 := Lib.hid hK1; have hs1 := hb1.size; clear hK1)
    | ((with_reducible refine stE (BX.new w1 zEc) rfl H1l H11 none rfl ?_ _ _ rfl ?_ ?_ ?_); (case _ => rfl); (case _ => rfl); (case _ => rfl); intro w2 hE2 hg2; have hb2 : Below w1.heap.size w1 w2 := (below_alloc (Below.refl _ _) _).trans (below_grown hg2 (by simp) (Nat.le_refl _)); have hs2 : w1.heap.size + 1 ≤ w2.heap.size := hE2.lt; have HK2 := Lib.hid (Kd.FK_below (Kd.FK_bound HK1.out) hb2); have hw2 := below_then hb1 hb1.size hb2))
  obtain ⟨Be, hBe⟩ : ∃ Be, Be = w1.heap.size := ⟨_, rfl⟩
  rw [← hBe] at hE2 HK2 hs2 ⊢
  have hwB : w.heap.size ≤ Be := by omega
  clear hkn hBe hg2 hb2
  go_loopw [5] (fun v5 wr => ∃ (i : Nat) (ce : List Value), i ≤ k ∧ v5 = .int .i64 i ∧ BX 32 wr Be ce ∧ Hid (Kd.FK kE wr (fun q => q ≠ Be) (tower i) ce) ∧ Below w.heap.size w wr) (fun v5 _ => k - (intOf v5).toNat)
  case atStart => exact ⟨0, c1, Nat.zero_le _, rfl, hE2, Lib.hid (Kd.FK_mono HK2.out (fun q hq => by omega)), hw2⟩
  case round =>
    obtain ⟨i, ce, hi, rfl, hE, HT, hb⟩ := hrel
    have hel := Lib.hid (kE_len (Kd.FK_now HT.out))
    by_cases hlt : i < k
    · have hi1 : (i : Int) < (k : Int) := by omega
      go_upto_region 6 with fail
      refine wp_region_held_drew (S := fun w' => wr.grownBy w' (some Be)) (by kernel_rfl) (grown_drew _ _) (fun hS => ?_)
      refine wpAnyH_ready (rs := [0, 1]) (by kernel_rfl) (by simp) ?_
      refine AllReadyH.cons (o := _) rfl (fun K hK => ?_) (AllReadyH.cons (o := _) rfl (fun K hK => ?_) AllReadyH.nil)
      · go_simp
        refine (HN2.out _).mono ?_
        rintro e w4 ⟨c4, rfl, hK4, hb4⟩
        have HK4 : Hid (Kd.FK kE w4 (fun q => wr.heap.size ≤ q) (numE 2) c4) := Lib.hid hK4
        have h4l := Lib.hid (kE_len (Kd.FK_now hK4))
        have hb4' : Below wr.heap.size wr w4 := below_then (below_drew (Below.refl _ _)) (Nat.le_refl _) hb4
        have hs4 := hb4'.size
        have hlE := hE.lt
        have hE4 := hE.below hb4'
        clear hK4
        refine hK.out _ _ ((grown_then hS hb4)) (fun hS => ?_)
        clear hK K
        try simp only [Act.put, List.getElem_toArray, List.getElem_cons_succ, List.getElem_cons_zero, List.setIfInBounds_toArray, List.set_cons_zero, List.set_cons_succ]
        refine wpAnyH_ready (rs := [1]) (by kernel_rfl) (by simp) ?_
        refine AllReadyH.cons (o := _) rfl (fun K hK => ?_) AllReadyH.nil
        refine step_ld (by rfl) 28 rfl 32 _ rfl ⟨Be, 0, none⟩ rfl ce _ hE4.cells Tryz.underlying32 rfl (by rw [hel.out]; exact size32') ?_
        refine hK.out _ _ (hS) (fun hS => ?_)
        clear hK K
        try simp only [Act.put, List.getElem_toArray, List.getElem_cons_succ, List.getElem_cons_zero, List.setIfInBounds_toArray, List.set_cons_zero, List.set_cons_succ]
        refine wpAnyH_ready (rs := [2]) (by kernel_rfl) (by simp) ?_
        refine AllReadyH.cons (o := _) rfl (fun K hK => ?_) AllReadyH.nil
        refine step_build2_E (by rfl) 29 rfl _ _ rfl c4 ce h4l.out hel.out rfl rfl ?_
        refine hK.out _ _ ((grown_then hS (below_alloc (Below.refl _ _) _))) (fun hS => ?_)
        clear hK K
        try simp only [Act.put, List.getElem_toArray, List.getElem_cons_succ, List.getElem_cons_zero, List.setIfInBounds_toArray, List.set_cons_zero, List.set_cons_succ]
        refine wpAnyH_take (i := 3) (v := ?_) rfl (by kernel_rfl) (by kernel_rfl) (by kernel_rfl) (fun _ _ _ h => h) (Or.inl ⟨by rfl, ?_⟩) hS ?_
        case refine_2 => (intro w' hS'; go_simp; try with_reducible rfl)
        simp only [Act.put, List.getElem_toArray, List.getElem_cons_succ, List.getElem_cons_zero, List.setIfInBounds_toArray, List.set_cons_zero, List.set_cons_succ]
        refine wpAnyH_ready (rs := [4]) (by kernel_rfl) (by simp) ?_
        refine AllReadyH.cons (o := _) rfl (fun K hK => ?_) AllReadyH.nil
        refine step_store (g := Be) (hE4.alloc _) (by rfl) none rfl _ _ rfl (seqC w4.heap.size) rfl rfl size32' (by rw [hel.out]; rfl) (fun u hu => List.all_eq_true.1 (show (seqC w4.heap.size).all (·.oneCell') = true from rfl) u hu) ?_
        intro w8 hE8 hg8
        refine hK.out _ _ ((grown_row hS hg8)) (fun hS => ?_)
        clear hK K
        try simp only [Act.put, List.getElem_toArray, List.getElem_cons_succ, List.getElem_cons_zero, List.setIfInBounds_toArray, List.set_cons_zero, List.set_cons_succ]
        refine wpAnyH_done (by kernel_rfl) ?_ _
        have hA4 : Below w4.heap.size w4 (w4.alloc (.cells (c4 ++ ce).toArray 32)) := below_alloc (Below.refl _ _) _
        have HT8 : Hid (Kd.FK kE w8 (fun q => q ≠ Be) (tower (i + 1)) (seqC w4.heap.size)) := Lib.hid (Kd.FK_grown (seqE_at (x := numE 2) (y := tower i) (by omega) (BX.new w4 (c4 ++ ce)) (Kd.FK_mono (Kd.FK_below HK4.out hA4) (fun q hq => by omega)) (Kd.FK_below (Kd.FK_below HT.out hb4') hA4) h4l.out hel.out) hg8 (fun q hq e => hq (by injection e)))
        have hb8 := hb.trans (below_grown hS hb.size (by omega))
        go_wp2
        go_roundw
        case rel => exact ⟨i + 1, seqC w4.heap.size, by omega, by go_num, hE8, HT8, hb8⟩
        case measure => simp [intOf]; omega
      · have hE0 : BX 32 wr.drew Be ce := hE
        refine step_ld (by rfl) 28 rfl 32 _ rfl ⟨Be, 0, none⟩ rfl ce _ hE0.cells Tryz.underlying32 rfl (by rw [hel.out]; exact size32') ?_
        refine hK.out _ _ (hS) (fun hS => ?_)
        clear hK K
        try simp only [Act.put, List.getElem_toArray, List.getElem_cons_succ, List.getElem_cons_zero, List.setIfInBounds_toArray, List.set_cons_zero, List.set_cons_succ]
        refine wpAnyH_ready (rs := [0]) (by kernel_rfl) (by simp) ?_
        refine AllReadyH.cons (o := _) rfl (fun K hK => ?_) AllReadyH.nil
        go_simp
        refine (HN2.out _).mono ?_
        rintro e w4 ⟨c4, rfl, hK4, hb4⟩
        have HK4 : Hid (Kd.FK kE w4 (fun q => wr.heap.size ≤ q) (numE 2) c4) := Lib.hid hK4
        have h4l := Lib.hid (kE_len (Kd.FK_now hK4))
        have hb4' : Below wr.heap.size wr w4 := below_then (below_drew (Below.refl _ _)) (Nat.le_refl _) hb4
        have hs4 := hb4'.size
        have hlE := hE.lt
        have hE4 := hE.below hb4'
        clear hK4
        refine hK.out _ _ ((grown_then hS hb4)) (fun hS => ?_)
        clear hK K
        try simp only [Act.put, List.getElem_toArray, List.getElem_cons_succ, List.getElem_cons_zero, List.setIfInBounds_toArray, List.set_cons_zero, List.set_cons_succ]
        refine wpAnyH_ready (rs := [2]) (by kernel_rfl) (by simp) ?_
        refine AllReadyH.cons (o := _) rfl (fun K hK => ?_) AllReadyH.nil
        refine step_build2_E (by rfl) 29 rfl _ _ rfl c4 ce h4l.out hel.out rfl rfl ?_
        refine hK.out _ _ ((grown_then hS (below_alloc (Below.refl _ _) _))) (fun hS => ?_)
        clear hK K
        try simp only [Act.put, List.getElem_toArray, List.getElem_cons_succ, List.getElem_cons_zero, List.setIfInBounds_toArray, List.set_cons_zero, List.set_cons_succ]
        refine wpAnyH_take (i := 3) (v := ?_) rfl (by kernel_rfl) (by kernel_rfl) (by kernel_rfl) (fun _ _ _ h => h) (Or.inl ⟨by rfl, ?_⟩) hS ?_
        case refine_2 => (intro w' hS'; go_simp; try with_reducible rfl)
        simp only [Act.put, List.getElem_toArray, List.getElem_cons_succ, List.getElem_cons_zero, List.setIfInBounds_toArray, List.set_cons_zero, List.set_cons_succ]
        refine wpAnyH_ready (rs := [4]) (by kernel_rfl) (by simp) ?_
        refine AllReadyH.cons (o := _) rfl (fun K hK => ?_) AllReadyH.nil
        refine step_store (g := Be) (hE4.alloc _) (by rfl) none rfl _ _ rfl (seqC w4.heap.size) rfl rfl size32' (by rw [hel.out]; rfl) (fun u hu => List.all_eq_true.1 (show (seqC w4.heap.size).all (·.oneCell') = true from rfl) u hu) ?_
        intro w8 hE8 hg8
        refine hK.out _ _ ((grown_row hS hg8)) (fun hS => ?_)
        clear hK K
        try simp only [Act.put, List.getElem_toArray, List.getElem_cons_succ, List.getElem_cons_zero, List.setIfInBounds_toArray, List.set_cons_zero, List.set_cons_succ]
        refine wpAnyH_done (by kernel_rfl) ?_ _
        have hA4 : Below w4.heap.size w4 (w4.alloc (.cells (c4 ++ ce).toArray 32)) := below_alloc (Below.refl _ _) _
        have HT8 : Hid (Kd.FK kE w8 (fun q => q ≠ Be) (tower (i + 1)) (seqC w4.heap.size)) := Lib.hid (Kd.FK_grown (seqE_at (x := numE 2) (y := tower i) (by omega) (BX.new w4 (c4 ++ ce)) (Kd.FK_mono (Kd.FK_below HK4.out hA4) (fun q hq => by omega)) (Kd.FK_below (Kd.FK_below HT.out hb4') hA4) h4l.out hel.out) hg8 (fun q hq e => hq (by injection e)))
        have hb8 := hb.trans (below_grown hS hb.size (by omega))
        go_wp2
        go_roundw
        case rel => exact ⟨i + 1, seqC w4.heap.size, by omega, by go_num, hE8, HT8, hb8⟩
        case measure => simp [intOf]; omega
    · have hik : i = k := by omega
      subst hik
      have hsE := hE.lt
      go_wp2_with (first
        | ((with_reducible refine st_make 32 rfl ?_ _ _ rfl i ?_ ?_ (by omega) ?_); (case _ => rfl); (case _ => rfl); (case _ => rfl); intro w3 hS3 hg3 hs3; have hb3 : Below wr.heap.size wr w3 := (Below.refl _ wr).grown hg3 (Nat.le_refl _) (fun k e => by cases e)))
      obtain ⟨W1, hW1⟩ : ∃ W1, W1 = wr := ⟨_, rfl⟩
      rw [← hW1] at hS3 hb3 hs3 hE HT hb hsE ⊢
      clear hW1 hg3
      go_loopw [35] (fun v35 wq => ∃ j : Nat, j ≤ i ∧ v35 = .int .i64 j ∧ BX 36 wq W1.heap.size (stepsRow i j) ∧ Below W1.heap.size W1 wq) (fun v35 _ => i - (intOf v35).toNat)
      case atStart => exact ⟨0, Nat.zero_le _, rfl, hS3, hb3⟩
      case round =>
        obtain ⟨j, hj, rfl, hS, hbq⟩ := hrel
        by_cases hlt : j < i
        · have hj0 : (0 : Int) ≤ (j : Int) := by omega
          have hj1 : (j : Int) < (i : Int) := by omega
          have q4 := hS.cell (j := j * 4) (stepsRow_at (by omega))
          have f4 := BX.frozen hS (j * 4)
          go_wp2
          go_roundw
          case rel =>
            have hS2 := BX.setCell hS (j * 4) (.int .i64 3)
            rw [Nat.mul_comm j 4, stepsRow_set hlt, Nat.mul_comm 4 j] at hS2
            exact ⟨j + 1, by omega, by go_num, hS2, hbq.trans (below_grown (grown_setCell wr W1.heap.size (j * 4) _) hbq.size (Nat.le_refl _))⟩
          case measure => simp [intOf]; omega
        · have hij : j = i := by omega
          subst hij
          obtain ⟨W2, hW2⟩ : ∃ W2, W2 = wr := ⟨_, rfl⟩
          have hE2 := hE.below hbq
          have hT2 := Kd.FK_below HT.out hbq
          have hb2 : Below w.heap.size w W2 := by rw [hW2]; exact below_then hb hb.size hbq
          rw [← hW2] at hS hE2 hT2 ⊢
          obtain ⟨mm, ff, b, xr, hcase, hR, hC⟩ : ∃ (mm ff : Int) (b : Bool) (xr : Ex), (j ≤ 500 ∧ mm = j ∧ ff = 0 ∧ b = true ∧ xr = numE 1 ∨ 500 < j ∧ mm = 0 ∧ ff = 12 ∧ b = false ∧ xr = tower j) ∧
              (Calls Tryz.prog 5 #[.agg ce.toArray, .slice (some ⟨W1.heap.size, 0, none⟩) j j] W2 fun e w' => ∃ cx, e = .returned (.tuple #[.agg cx.toArray, .int .i64 mm, .int .i64 ff]) ∧ (∃ x, kE.K w' x cx) ∧ Below W2.heap.size W2 w') ∧
              (∀ (W : World) (cl : List Value), Below W2.heap.size W2 W → kE.K W (numE 1) cl → Calls Tryz.prog 6 #[.agg ce.toArray, .agg (.slice (some ⟨W1.heap.size, 0, none⟩) j j :: cl).toArray] W fun en w' => ∃ cr, en = .returned (.tuple #[.agg cr.toArray, .bool b]) ∧ kE.K w' xr cr ∧ Below W.heap.size W w') := by
            have hTK := Kd.FK_now hT2
            by_cases hk : j ≤ 500
            · exact ⟨j, 0, true, numE 1, .inl ⟨hk, rfl, rfl, rfl, rfl⟩,
                (tower_run j (by omega) hk ce W1.heap.size W2 (fun q => q < W2.heap.size) (fun _ h => h) (K_FK hTK) hS (HLW.out _ hb2)).mono (fun e w' ⟨cx, he, hK, hb'⟩ => ⟨cx, he, ⟨_, Kd.FK_now hK⟩, hb'⟩),
                fun W cl hbW hcl => (tower_check j (by omega) hk ce cl W1.heap.size W (fun q => q < W.heap.size) (fun _ h => h) (K_FK (kE.K_below hbW hTK)) hcl (hS.below hbW) (HLW.out _ (below_then hb2 hb2.size hbW))).mono (fun e w' ⟨cx, he, hK, hb'⟩ => ⟨cx, he, Kd.FK_now hK, hb'⟩)⟩
            · have hrun : ∀ W W', Below W2.heap.size W2 W → Below W.heap.size W W' → Calls Tryz.prog 5 #[.agg ce.toArray, .slice (some ⟨W1.heap.size, 0, none⟩) j j] W' (RunPost W' (fun q => q < W.heap.size) (tower j) 0 12) := fun W W' hbW hbW' =>
                Run_long (tower j) ce (some ⟨W1.heap.size, 0, none⟩) j j W' (fun q => q < W.heap.size) (fun _ h => Nat.lt_of_lt_of_le h hbW'.size) (Kd.FK_below (K_FK (kE.K_below hbW hTK)) hbW') (tower_may j (by omega)) (by omega) (HLW.out _ (below_then hb2 hb2.size (below_then hbW hbW.size hbW')))
              exact ⟨0, 12, false, tower j, .inr ⟨by omega, rfl, rfl, rfl, rfl⟩,
                (hrun W2 W2 (Below.refl _ _) (Below.refl _ _)).mono (fun e w' ⟨cx, he, hK, hb'⟩ => ⟨cx, he, ⟨_, Kd.FK_now hK⟩, hb'⟩),
                fun W cl hbW hcl => (Check_bad (tower j) (tower j) ce cl (some ⟨W1.heap.size, 0, none⟩) j j 0 12 W (fun q => q < W.heap.size) (fun _ h => h) (K_FK (kE.K_below hbW hTK)) (kE_len hcl) rfl (fun W' hbW' => hrun W W' hbW hbW')).mono (fun e w' ⟨cx, he, hK, hb'⟩ => ⟨cx, he, Kd.FK_now hK, hb'⟩)⟩
          have HR := Lib.hid hR
          have HC := Lib.hid hC
          have HCA := Lib.hid hcase
          have HT2 := Lib.hid (Kd.FK_now hT2)
          clear hR hC hcase hT2 hS3 HT hE hW2
          go_upto_region 20 with (first
            | ((with_reducible refine ldE 44 hE2 hel rfl ?_ _ rfl ?_ ?_); (case _ => rfl); (case _ => rfl))
            | (go_at_call 5; (with_reducible refine HR.out.mono ?_); rintro e w5 ⟨c5, rfl, ⟨x5, hK5⟩, hb5⟩; have H5l := Lib.hid (kE_len hK5); have H51 := Lib.hid (kE.K_one hK5); clear hK5)
            | ((with_reducible refine stE (BX.new w5 zEc) rfl H5l H51 none rfl ?_ _ _ rfl ?_ ?_ ?_); (case _ => rfl); (case _ => rfl); (case _ => rfl); intro w6 hX6 hg6; have hb6 : Below W2.heap.size W2 w6 := below_then hb5 hb5.size ((below_alloc (Below.refl _ _) _).trans (below_grown hg6 (by simp) (Nat.le_refl _))); clear hX6 hg6)
            | (go_at_call 4; (with_reducible refine (HN1.out w6).mono ?_); rintro e w7 ⟨c7, rfl, hK7, hb7⟩; have HK7 := Lib.hid (Kd.FK_now hK7); obtain ⟨A3, a3, A6, a6, A7, a7, A9, a9, A12, a12, rfl, _⟩ := kE_open HK7.out; have hb7' := below_then hb6 hb6.size hb7; have hE7 := (fun o : Obj => (hE2.below hb7').alloc o); have hB7 := (fun o : Obj => below_then hb7' hb7'.size (below_alloc (Below.refl _ _) o)); have hK7' := (fun o : Obj => kE.K_below (below_alloc (Below.refl w7.heap.size w7) o) HK7.out); clear hK7)
            | ((with_reducible refine ldE 54 (hE7 _) hel rfl ?_ _ rfl ?_ ?_); (case _ => rfl); (case _ => rfl))
            | (go_at_call 6; (with_reducible refine (HC.out _ _ (hB7 _) (hK7' _)).mono ?_); rintro e w8 ⟨c8, rfl, hK8, hb8⟩; have H8l := Lib.hid (kE_len hK8); have H81 := Lib.hid (kE.K_one hK8); have HK8 := Lib.hid hK8; have hE8 := (hE7 _).below hb8; have hbb8 := below_then (hB7 _) (hB7 _).size hb8; clear hK8 hb8 hE7 hB7 hK7')
            | ((with_reducible refine stE (BX.new w8 zEc) rfl H8l H81 none rfl ?_ _ _ rfl ?_ ?_ ?_); (case _ => rfl); (case _ => rfl); (case _ => rfl); intro w9 hX9 hg9; have hb9 : Below w8.heap.size w8 w9 := (below_alloc (Below.refl _ _) _).trans (below_grown hg9 (by simp) (Nat.le_refl _)); have hE9 := hE8.below hb9; have HK9 := Lib.hid (kE.K_below hb9 HK8.out); have hbb9 := below_then hbb8 hbb8.size hb9; clear hg9 hb9)
            | (go_at_call 4; (with_reducible refine (HN1.out w9).mono ?_); rintro e w10 ⟨c10, rfl, hK10, hb10⟩; have HK10 := Lib.hid (Kd.FK_now hK10); have H10l := Lib.hid (kE_len HK10.out); clear hK10)
            | (go_at_call 4; (with_reducible refine (HN2.out w10).mono ?_); rintro e w11 ⟨c11, rfl, hK11, hb11⟩; have HK11 := Lib.hid (Kd.FK_now hK11); have H11l := Lib.hid (kE_len HK11.out); have hb11' := below_then hb10 hb10.size hb11; have hbb11 := below_then hbb9 hbb9.size hb11'; have hBw := (fun o : Obj => (below_alloc (below_alloc (below_alloc (Below.refl w11.heap.size w11) (.cells c11.toArray 32)) (.cells (c10 ++ setC w11.heap.size).toArray 32)) o : Below w11.heap.size w11 (((w11.alloc (.cells c11.toArray 32)).alloc (.cells (c10 ++ setC w11.heap.size).toArray 32)).alloc o))); have hHx : BX 32 ((w11.alloc (.cells c11.toArray 32)).alloc (.cells (c10 ++ setC w11.heap.size).toArray 32)) (w11.heap.size + 1) (c10 ++ setC w11.heap.size) := (by simpa using BX.new (t := 32) (w11.alloc (.cells c11.toArray 32)) (c10 ++ setC w11.heap.size)); have hSE := (fun o : Obj => setE_at (((BX.new w11 c11).alloc _).alloc o) (hHx.alloc o) (kE.K_below (hBw o) (kE.K_below hb11 HK10.out)) (kE.K_below (hBw o) HK11.out) H10l.out H11l.out); have hLw := (fun o : Obj => HLW.out _ (below_then hb2 hb2.size (below_then hbb11 hbb11.size (hBw o)))); have hE11 := (fun o : Obj => (hE9.below hb11').below (hBw o)); have hX11 := (fun o : Obj => (hX9.below hb11').below (hBw o)); have hK11 := (fun o : Obj => kE.K_below (hBw o) (kE.K_below hb11' HK9.out)); have hbc11 := (fun o : Obj => below_then hbb11 hbb11.size (hBw o)); clear hHx hBw)
            | ((with_reducible refine build1_E 61 rfl ?_ _ rfl c11 H11l.out ?_ ?_); (case _ => rfl); (case _ => rfl))
            | ((with_reducible refine build2_E 63 rfl ?_ _ _ rfl c10 (setC w11.heap.size) H10l.out rfl ?_ ?_ ?_); (case _ => rfl); (case _ => rfl); (case _ => rfl))
            | (go_at_call 6; (with_reducible refine (set_check (setLetC (w11.heap.size + 1)) _ (hSE _) (hLw _)).mono ?_); rintro e w12 ⟨c12, rfl, hK12, hb12⟩; have H12l := Lib.hid (kE_len hK12); have H121 := Lib.hid (kE.K_one hK12); have hE12 := (hE11 _).below hb12; have hX12 := (hX11 _).below hb12; have HK12 := Lib.hid (kE.K_below hb12 (hK11 _)); have hbc12 := below_then (hbc11 _) (hbc11 _).size hb12; clear hK12 hb12 hE11 hX11 hK11 hbc11 hSE hLw)
            | ((with_reducible refine stE (BX.new w12 zEc) rfl H12l H121 none rfl ?_ _ _ rfl ?_ ?_ ?_); (case _ => rfl); (case _ => rfl); (case _ => rfl); intro w13 hY13 hg13; have hb13 : Below w12.heap.size w12 w13 := (below_alloc (Below.refl _ _) _).trans (below_grown hg13 (by simp) (Nat.le_refl _)); have hE13 := hE12.below hb13; have hX13 := hX12.below hb13; have HK13 := Lib.hid (kE.K_below hb13 HK12.out); have hbc13 := below_then hbc12 hbc12.size hb13; clear hY13 hg13 hb13))
          have HX := Lib.hid (below_then hb2 hb2.size hbc13)
          have hc8 := H8l
          clear hE2 hS hbq hb HR HC HN2 hb3 hs3
          rcases HCA.out with ⟨hk, rfl, rfl, rfl, rfl⟩ | ⟨hk, rfl, rfl, rfl, rfl⟩
          · have hd : decide ((500 : Int) < (j : Int)) = false := by simp; omega
            go_upto_region 22 with fail
            refine wp_region_held_drew (S := Stood w13) (by kernel_rfl) (below_drew (Below.refl _ _)) (fun hS => ?_)
            refine wpAnyH_take (i := 0) (v := ?_) rfl (by kernel_rfl) (by kernel_rfl) (by kernel_rfl) (fun _ _ _ h => h) (Or.inl ⟨by rfl, ?_⟩) hS ?_
            case refine_2 => (intro w' hS'; go_simp; try with_reducible rfl)
            simp only [Act.put, List.getElem_toArray, List.getElem_cons_succ, List.getElem_cons_zero, List.setIfInBounds_toArray, List.set_cons_zero, List.set_cons_succ]
            refine wpAnyH_take (i := 1) (v := ?_) rfl (by kernel_rfl) (by kernel_rfl) (by kernel_rfl) (fun _ _ _ h => h) (Or.inl ⟨by rfl, ?_⟩) hS ?_
            case refine_2 => (intro w' hS'; go_simp; try with_reducible rfl)
            simp only [Act.put, List.getElem_toArray, List.getElem_cons_succ, List.getElem_cons_zero, List.setIfInBounds_toArray, List.set_cons_zero, List.set_cons_succ]
            refine wpAnyH_take (i := 2) (v := ?_) rfl (by kernel_rfl) (by kernel_rfl) (by kernel_rfl) (fun _ _ _ h => h) (Or.inl ⟨by rfl, ?_⟩) hS ?_
            case refine_2 => (intro w' hS'; go_simp; try with_reducible rfl)
            simp only [Act.put, List.getElem_toArray, List.getElem_cons_succ, List.getElem_cons_zero, List.setIfInBounds_toArray, List.set_cons_zero, List.set_cons_succ]
            refine wpAnyH_take (i := 3) (v := ?_) rfl (by kernel_rfl) (by kernel_rfl) (by kernel_rfl) (fun _ _ _ h => h) (Or.inl ⟨by rfl, ?_⟩) hS ?_
            case refine_2 => (intro w' hS'; go_simp; try with_reducible rfl)
            simp only [Act.put, List.getElem_toArray, List.getElem_cons_succ, List.getElem_cons_zero, List.setIfInBounds_toArray, List.set_cons_zero, List.set_cons_succ]
            refine wpAnyH_take (i := 4) (v := ?_) rfl (by kernel_rfl) (by kernel_rfl) (by kernel_rfl) (fun _ _ _ h => h) (Or.inl ⟨by rfl, ?_⟩) hS ?_
            case refine_2 => (intro w' hS'; go_simp; try with_reducible rfl)
            simp only [Act.put, List.getElem_toArray, List.getElem_cons_succ, List.getElem_cons_zero, List.setIfInBounds_toArray, List.set_cons_zero, List.set_cons_succ]
            refine wpAnyH_take (i := 5) (v := ?_) rfl (by kernel_rfl) (by kernel_rfl) (by kernel_rfl) (fun _ _ _ h => h) (Or.inl ⟨by rfl, ?_⟩) hS ?_
            case refine_2 => (intro w' hS'; go_simp; try with_reducible rfl)
            simp only [Act.put, List.getElem_toArray, List.getElem_cons_succ, List.getElem_cons_zero, List.setIfInBounds_toArray, List.set_cons_zero, List.set_cons_succ]
            refine wpAnyH_take (i := 6) (v := ?_) rfl (by kernel_rfl) (by kernel_rfl) (by kernel_rfl) (fun _ _ _ h => h) (Or.inl ⟨by rfl, ?_⟩) hS ?_
            case refine_2 => (intro w' hS'; go_simp; try with_reducible rfl)
            simp only [Act.put, List.getElem_toArray, List.getElem_cons_succ, List.getElem_cons_zero, List.setIfInBounds_toArray, List.set_cons_zero, List.set_cons_succ]
            refine wpAnyH_take (i := 7) (v := ?_) rfl (by kernel_rfl) (by kernel_rfl) (by kernel_rfl) (fun _ _ _ h => h) (Or.inl ⟨by rfl, ?_⟩) hS ?_
            case refine_2 => (intro w' hS'; go_simp; try with_reducible rfl)
            simp only [Act.put, List.getElem_toArray, List.getElem_cons_succ, List.getElem_cons_zero, List.setIfInBounds_toArray, List.set_cons_zero, List.set_cons_succ]
            refine wpAnyH_take (i := 8) (v := ?_) rfl (by kernel_rfl) (by kernel_rfl) (by kernel_rfl) (fun _ _ _ h => h) (Or.inl ⟨by rfl, ?_⟩) hS ?_
            case refine_2 => (intro w' hS'; go_simp; try with_reducible rfl)
            simp only [Act.put, List.getElem_toArray, List.getElem_cons_succ, List.getElem_cons_zero, List.setIfInBounds_toArray, List.set_cons_zero, List.set_cons_succ]
            refine wpAnyH_take (i := 9) (v := ?_) rfl (by kernel_rfl) (by kernel_rfl) (by kernel_rfl) (fun _ _ _ h => h) (Or.inl ⟨by rfl, ?_⟩) hS ?_
            case refine_2 => (intro w' hS'; go_simp; try with_reducible rfl)
            simp only [Act.put, List.getElem_toArray, List.getElem_cons_succ, List.getElem_cons_zero, List.setIfInBounds_toArray, List.set_cons_zero, List.set_cons_succ]
            refine wpAnyH_take (i := 10) (v := ?_) rfl (by kernel_rfl) (by kernel_rfl) (by kernel_rfl) (fun _ _ _ h => h) (Or.inl ⟨by rfl, ?_⟩) hS ?_
            case refine_2 => (intro w' hS'; go_simp; try with_reducible rfl)
            simp only [Act.put, List.getElem_toArray, List.getElem_cons_succ, List.getElem_cons_zero, List.setIfInBounds_toArray, List.set_cons_zero, List.set_cons_succ]
            refine wpAnyH_take (i := 11) rfl (by kernel_rfl) (by kernel_rfl) (by kernel_rfl) (fun _ _ _ h => h) (held_load (by rfl) 32 _ rfl ⟨w8.heap.size, 0, none⟩ rfl c8 _ hX13.cells Tryz.underlying32 rfl (by rw [H8l.out]; exact size32')) hS ?_
            simp only [Act.put, List.getElem_toArray, List.getElem_cons_succ, List.getElem_cons_zero, List.setIfInBounds_toArray, List.set_cons_zero, List.set_cons_succ]
            refine wpAnyH_ready (rs := [12]) (by kernel_rfl) (by simp) ?_
            refine AllReadyH.cons (o := _) rfl (fun K hK => ?_) AllReadyH.nil
            go_simp
            refine (HN1.out _).mono ?_
            rintro e we ⟨cf, rfl, hKe, hbe⟩
            have HKe := Lib.hid (Kd.FK_now hKe)
            have hbe' : Below w13.heap.size w13 we := below_then (below_drew (Below.refl _ _)) (Nat.le_refl _) hbe
            clear hKe
            refine hK.out _ _ ((hS.call hbe)) (fun hS => ?_)
            clear hK K
            try simp only [Act.put, List.getElem_toArray, List.getElem_cons_succ, List.getElem_cons_zero, List.setIfInBounds_toArray, List.set_cons_zero, List.set_cons_succ]
            refine wpAnyH_ready (rs := [13]) (by kernel_rfl) (by simp) ?_
            refine AllReadyH.cons (o := _) rfl (fun K hK => ?_) AllReadyH.nil
            go_simp
            refine (rSame8_calls (numE 1) (numE 1) c8 cf we (kE.K_below hbe' HK13.out) HKe.out slim_1 slim_1).mono ?_
            rintro e wf ⟨rfl, hbf⟩
            rw [same_1]
            have hbf' : Below w13.heap.size w13 wf := below_then hbe' hbe'.size hbf
            refine hK.out _ _ ((hS.call hbf)) (fun hS => ?_)
            clear hK K
            try simp only [Act.put, List.getElem_toArray, List.getElem_cons_succ, List.getElem_cons_zero, List.setIfInBounds_toArray, List.set_cons_zero, List.set_cons_succ]
            refine wpAnyH_take (i := 14) (v := ?_) rfl (by kernel_rfl) (by kernel_rfl) (by kernel_rfl) (fun _ _ _ h => h) (Or.inl ⟨by rfl, ?_⟩) hS ?_
            case refine_2 => (intro w' hS'; go_simp; try with_reducible rfl)
            simp only [Act.put, List.getElem_toArray, List.getElem_cons_succ, List.getElem_cons_zero, List.setIfInBounds_toArray, List.set_cons_zero, List.set_cons_succ]
            refine wpAnyH_take (i := 15) (v := ?_) rfl (by kernel_rfl) (by kernel_rfl) (by kernel_rfl) (fun _ _ _ h => h) (Or.inl ⟨by rfl, ?_⟩) hS ?_
            case refine_2 => (intro w' hS'; go_simp; try with_reducible rfl)
            simp only [Act.put, List.getElem_toArray, List.getElem_cons_succ, List.getElem_cons_zero, List.setIfInBounds_toArray, List.set_cons_zero, List.set_cons_succ]
            refine wpAnyH_ready (rs := [16]) (by kernel_rfl) (by simp) ?_
            refine AllReadyH.cons (o := _) rfl (fun K hK => ?_) AllReadyH.nil
            go_simp
            refine (HLv.out _ (below_then HX.out HX.out.size hbf')).mono ?_
            rintro e wg ⟨rfl, hbg⟩
            refine hK.out _ _ ((hS.call hbg)) (fun hS => ?_)
            clear hK K
            try simp only [Act.put, List.getElem_toArray, List.getElem_cons_succ, List.getElem_cons_zero, List.setIfInBounds_toArray, List.set_cons_zero, List.set_cons_succ]
            refine wpAnyH_take (i := 17) (v := ?_) rfl (by kernel_rfl) (by kernel_rfl) (by kernel_rfl) (fun _ _ _ h => h) (Or.inl ⟨by rfl, ?_⟩) hS ?_
            case refine_2 => (intro w' hS'; go_simp; try with_reducible rfl)
            simp only [Act.put, List.getElem_toArray, List.getElem_cons_succ, List.getElem_cons_zero, List.setIfInBounds_toArray, List.set_cons_zero, List.set_cons_succ]
            refine wpAnyH_take (i := 18) (v := ?_) rfl (by kernel_rfl) (by kernel_rfl) (by kernel_rfl) (fun _ _ _ h => h) (Or.inl ⟨by rfl, ?_⟩) hS ?_
            case refine_2 => (intro w' hS'; go_simp; try with_reducible rfl)
            simp only [Act.put, List.getElem_toArray, List.getElem_cons_succ, List.getElem_cons_zero, List.setIfInBounds_toArray, List.set_cons_zero, List.set_cons_succ]
            refine wpAnyH_done (by kernel_rfl) ?_ _
            go_wp2_with fail
            go_ret
            exact ⟨rfl, below_then HX.out HX.out.size hS⟩
          · have hd : decide ((500 : Int) < (j : Int)) = true := by simp; omega
            have HT13 := Lib.hid (kE.K_below hbc13 HT2.out)
            go_wp2_with (first
              | ((with_reducible refine ldEg 86 hX13 H8l rfl ?_ _ rfl ?_ ?_); (case _ => rfl); (case _ => rfl))
              | ((with_reducible refine ldEg 87 hE13 hel rfl ?_ _ rfl ?_ ?_); (case _ => rfl); (case _ => rfl))
              | (go_at_call 7; (with_reducible refine (rSame8_calls (tower j) (tower j) c8 ce w13 HK13.out HT13.out (tower_slim j) (tower_slim j)).mono ?_); rintro e we ⟨rfl, hbe⟩; rw [tower_same j (by omega)])
              | (go_at_call 8; (with_reducible refine (HLv.out _ (below_then HX.out HX.out.size hbe)).mono ?_); rintro e wf ⟨rfl, hbf⟩))
            go_ret
            exact ⟨rfl, below_then (below_then HX.out HX.out.size hbe) (by have := HX.out.size; have := hbe.size; omega) hbf⟩
end Go.Proofs.YtlcofdgaidlldaaGreatDoor
