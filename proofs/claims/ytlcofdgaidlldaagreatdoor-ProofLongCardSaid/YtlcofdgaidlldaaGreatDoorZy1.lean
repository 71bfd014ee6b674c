/- Contract: whole.Cmp. The walk's conditions: the parameters' memory; limbs in their range; not more than 200,000 limbs. Contracts at constants that are numbers: slices.Equal and EqualFunc of nothing, datum.few, datum.same, datum.Same, core.same, core.Same. The walks' conditions: the parameters' memory; limbs in their range; not more than 200,000 limbs. -/
import Derived.Test.YtlcofdgaidlldaaGreatDoorZq
import Derived.Test.YtlcofdgaidlldaaGreatDoorZr
import Derived.Test.YtlcofdgaidlldaaGreatDoorZs
namespace Go.Proofs.YtlcofdgaidlldaaGreatDoor
open Go.RowKit Go.Shelf Go.Proofs.YtlcofdgaidlldaaGreatDoorW.PrintWords
set_option linter.unusedVariables false
set_option linter.unusedSimpArgs false
theorem val_mkI (n : Int) : val (mkI n).l = (n.natAbs : Int) := by
  show val (limbs n.natAbs) = _
  exact val_limbs _
theorem cmp_pp {m n : Int} (hm : ¬ m < 0) (hn : ¬ n < 0) : cmpI m n = cmpI (val (mkI m).l) (val (mkI n).l) := by
  rw [val_mkI, val_mkI]; congr 1 <;> omega
theorem cmp_nn {m n : Int} (hm : m < 0) (hn : n < 0) : cmpI m n = cmpI (val (mkI n).l) (val (mkI m).l) := by
  rw [val_mkI, val_mkI]
  simp only [cmpI]
  repeat' split
  all_goals omega
theorem cmp_np {m n : Int} (hm : m < 0) (hn : ¬ n < 0) : cmpI m n = -1 := by
  simp only [cmpI]
  repeat' split
  all_goals omega
theorem cmp_pn {m n : Int} (hm : ¬ m < 0) (hn : n < 0) : cmpI m n = 1 := by
  simp only [cmpI]
  repeat' split
  all_goals omega
set_option maxRecDepth 100000 in
set_option maxHeartbeats 4000000 in
theorem wCmp_calls (a b : BI) (ca cb : List Value) (w : World) (ha : kI.K w a ca) (hb : kI.K w b cb) (hla : a.l.length ≤ 200000) (hlb : b.l.length ≤ 200000) (hna : lim a.l) (hnb : lim b.l) :
    Calls Tryz.prog 68 #[.agg ca.toArray, .agg cb.toArray] w fun e w' => e = .returned (.int .i64 (cmpI a.num b.num)) ∧ Below w.heap.size w w' := by
  have HAl := Lib.hid (kI_len ha)
  have HBl := Lib.hid (kI_len hb)
  have HNA := Lib.hid (fun (W : World) (h : Below w.heap.size w W) => wNorm_calls a ca W (kI.K_below h ha) hla hna)
  have HNB := Lib.hid (fun (W : World) (h : Below w.heap.size w W) => wNorm_calls b cb W (kI.K_below h hb) hlb hnb)
  have hA0 : BX 25 ((w.alloc (.cells ca.toArray 25)).alloc (.cells cb.toArray 25)) w.heap.size ca := (BX.new w _).alloc _
  have hB0 : BX 25 ((w.alloc (.cells ca.toArray 25)).alloc (.cells cb.toArray 25)) (w.heap.size + 1) cb := by simpa using BX.new (t := 25) (w.alloc (.cells ca.toArray 25)) cb
  have hW0 : Below w.heap.size w ((w.alloc (.cells ca.toArray 25)).alloc (.cells cb.toArray 25)) := below_alloc (below_alloc (Below.refl _ _) _) _
  have hsz : ((w.alloc (.cells ca.toArray 25)).alloc (.cells cb.toArray 25)).heap.size = w.heap.size + 2 := by simp
  obtain ⟨m, hm⟩ : ∃ m, m = a.num := ⟨_, rfl⟩
  obtain ⟨n, hn⟩ : ∃ n, n = b.num := ⟨_, rfl⟩
  rw [← hm] at HNA ⊢
  rw [← hn] at HNB ⊢
  clear ha hb hm hn
  go_enter Tryz.func68, Tryz.ntmps68
  go_upto_region 1 with fail
  obtain ⟨W0, hW0e⟩ : ∃ W0, W0 = ((w.alloc (.cells ca.toArray 25)).alloc (.cells cb.toArray 25)) := ⟨_, rfl⟩
  rw [← hW0e] at hA0 hB0 hW0 hsz ⊢
  have HSZ := Lib.hid hsz
  clear hW0e hsz
  have hwl := hW0.size
  have hAd : BX 25 W0.drew w.heap.size ca := hA0.below (below_drew (Below.refl _ _))
  have hBd : BX 25 W0.drew (w.heap.size + 1) cb := hB0.below (below_drew (Below.refl _ _))
  have hWd : Below w.heap.size w W0.drew := below_drew hW0
  have hsd : W0.drew.heap.size = w.heap.size + 2 := HSZ.out
  go_cut [5] (fun v5 wx => ∃ na nb : List Value, BX 25 wx w.heap.size na ∧ BX 25 wx (w.heap.size + 1) nb ∧ Hid (kI.K wx (mkI m) na) ∧ Hid (kI.K wx (mkI n) nb) ∧ Below w.heap.size w wx ∧ w.heap.size + 2 ≤ wx.heap.size)
  case first =>
    refine wp_region_held_drew (S := Stood w) (by kernel_rfl) hWd (fun hS => ?_)
    refine wpAnyH_ready (rs := [0, 2]) (by kernel_rfl) (by simp) ?_
    refine AllReadyH.cons (o := _) rfl (fun K hK => ?_) (AllReadyH.cons (o := _) rfl (fun K hK => ?_) AllReadyH.nil)
    · refine step_ld (by rfl) 5 rfl 25 _ rfl ⟨w.heap.size, 0, none⟩ rfl ca _ hAd.cells Tryz.underlying25 rfl (by rw [HAl.out]; exact size25') ?_
      refine hK.out _ _ (hS) (fun hS => ?_)
      clear hK K
      try simp only [Act.put, List.getElem_toArray, List.getElem_cons_succ, List.getElem_cons_zero, List.setIfInBounds_toArray, List.set_cons_zero, List.set_cons_succ]
      refine wpAnyH_ready (rs := [1, 2]) (by kernel_rfl) (by simp) ?_
      refine AllReadyH.cons (o := _) rfl (fun K hK => ?_) (AllReadyH.cons (o := _) rfl (fun K hK => ?_) AllReadyH.nil)
      · go_simp
        refine (HNA.out _ hWd).mono ?_
        rintro e w1 ⟨na, rfl, hKa, hb1⟩
        have hNl := Lib.hid (kI_len (Kd.FK_now hKa))
        have hN1 := Lib.hid (kI.K_one (Kd.FK_now hKa))
        have HKa := Lib.hid (Kd.FK_mono (ok' := fun k => w.heap.size + 2 ≤ k) hKa (fun k hk => by rw [← hsd]; exact hk))
        have hs1 : w.heap.size + 2 ≤ w1.heap.size := by rw [← hsd]; exact hb1.size
        have hA1 := hAd.below hb1
        have hB1 := hBd.below hb1
        have hw1 := below_then hWd (by omega) hb1
        clear hKa
        refine hK.out _ _ (hw1) (fun hS => ?_)
        clear hK K
        try simp only [Act.put, List.getElem_toArray, List.getElem_cons_succ, List.getElem_cons_zero, List.setIfInBounds_toArray, List.set_cons_zero, List.set_cons_succ]
        refine wpAnyH_ready (rs := [2]) (by kernel_rfl) (by simp) ?_
        refine AllReadyH.cons (o := _) rfl (fun K hK => ?_) AllReadyH.nil
        refine step_ld (by rfl) 7 rfl 25 _ rfl ⟨w.heap.size + 1, 0, none⟩ rfl cb _ hB1.cells Tryz.underlying25 rfl (by rw [HBl.out]; exact size25') ?_
        refine hK.out _ _ (hS) (fun hS => ?_)
        clear hK K
        try simp only [Act.put, List.getElem_toArray, List.getElem_cons_succ, List.getElem_cons_zero, List.setIfInBounds_toArray, List.set_cons_zero, List.set_cons_succ]
        refine wpAnyH_ready (rs := [3]) (by kernel_rfl) (by simp) ?_
        refine AllReadyH.cons (o := _) rfl (fun K hK => ?_) AllReadyH.nil
        go_simp
        refine (HNB.out _ hw1).mono ?_
        rintro e w2 ⟨nb, rfl, hKb, hb2⟩
        have hMl := Lib.hid (kI_len (Kd.FK_now hKb))
        have hM1 := Lib.hid (kI.K_one (Kd.FK_now hKb))
        have HKb := Lib.hid (Kd.FK_mono (ok' := fun k => w.heap.size + 2 ≤ k) hKb (fun k hk => by omega))
        have HKa2 := Lib.hid (Kd.FK_below HKa.out hb2)
        have hs2 := hb2.size
        have hA2 := hA1.below hb2
        have hB2 := hB1.below hb2
        have hw2 := below_then hw1 hw1.size hb2
        clear hKb
        refine hK.out _ _ (hw2) (fun hS => ?_)
        clear hK K
        try simp only [Act.put, List.getElem_toArray, List.getElem_cons_succ, List.getElem_cons_zero, List.setIfInBounds_toArray, List.set_cons_zero, List.set_cons_succ]
        refine wpAnyH_ready (rs := [4]) (by kernel_rfl) (by simp) ?_
        refine AllReadyH.cons (o := _) rfl (fun K hK => ?_) AllReadyH.nil
        refine step_store hA2 (by rfl) none rfl _ _ rfl na (by rfl) rfl (by rw [hNl.out]; exact size25') (by rw [hNl.out, HAl.out]) hN1.out ?_
        intro w3 hA3 hg3
        have hw3 := hw2.trans (below_grown hg3 hw2.size (Nat.le_refl _))
        refine hK.out _ _ (hw3) (fun hS => ?_)
        clear hK K
        try simp only [Act.put, List.getElem_toArray, List.getElem_cons_succ, List.getElem_cons_zero, List.setIfInBounds_toArray, List.set_cons_zero, List.set_cons_succ]
        refine wpAnyH_ready (rs := [5]) (by kernel_rfl) (by simp) ?_
        refine AllReadyH.cons (o := _) rfl (fun K hK => ?_) AllReadyH.nil
        refine step_store (hB2.kept hg3 (fun e => by injection e; omega)) (by rfl) none rfl _ _ rfl nb (by rfl) rfl (by rw [hMl.out]; exact size25') (by rw [hMl.out, HBl.out]) hM1.out ?_
        intro w4 hB4 hg4
        have hw4 := hw3.trans (below_grown hg4 hw3.size (by omega))
        refine hK.out _ _ (hw4) (fun hS => ?_)
        clear hK K
        try simp only [Act.put, List.getElem_toArray, List.getElem_cons_succ, List.getElem_cons_zero, List.setIfInBounds_toArray, List.set_cons_zero, List.set_cons_succ]
        refine wpAnyH_done (by kernel_rfl) ?_ _
        go_wp2_with fail
        go_meet
        exact ⟨na, nb, hA3.kept hg4 (fun e => by injection e; omega), hB4, Lib.hid (Kd.FK_now (Kd.FK_grown (Kd.FK_grown HKa2.out hg3 (fun q hq e => by injection e; omega)) hg4 (fun q hq e => by injection e; omega))), Lib.hid (Kd.FK_now (Kd.FK_grown (Kd.FK_grown HKb.out hg3 (fun q hq e => by injection e; omega)) hg4 (fun q hq e => by injection e; omega))), hS, by have := hg3.size; have := hg4.size; omega⟩
      · refine step_ld (by rfl) 7 rfl 25 _ rfl ⟨w.heap.size + 1, 0, none⟩ rfl cb _ hBd.cells Tryz.underlying25 rfl (by rw [HBl.out]; exact size25') ?_
        refine hK.out _ _ (hS) (fun hS => ?_)
        clear hK K
        try simp only [Act.put, List.getElem_toArray, List.getElem_cons_succ, List.getElem_cons_zero, List.setIfInBounds_toArray, List.set_cons_zero, List.set_cons_succ]
        refine wpAnyH_ready (rs := [1]) (by kernel_rfl) (by simp) ?_
        refine AllReadyH.cons (o := _) rfl (fun K hK => ?_) AllReadyH.nil
        go_simp
        refine (HNA.out _ hWd).mono ?_
        rintro e w1 ⟨na, rfl, hKa, hb1⟩
        have hNl := Lib.hid (kI_len (Kd.FK_now hKa))
        have hN1 := Lib.hid (kI.K_one (Kd.FK_now hKa))
        have HKa := Lib.hid (Kd.FK_mono (ok' := fun k => w.heap.size + 2 ≤ k) hKa (fun k hk => by rw [← hsd]; exact hk))
        have hs1 : w.heap.size + 2 ≤ w1.heap.size := by rw [← hsd]; exact hb1.size
        have hA1 := hAd.below hb1
        have hB1 := hBd.below hb1
        have hw1 := below_then hWd (by omega) hb1
        clear hKa
        refine hK.out _ _ (hw1) (fun hS => ?_)
        clear hK K
        try simp only [Act.put, List.getElem_toArray, List.getElem_cons_succ, List.getElem_cons_zero, List.setIfInBounds_toArray, List.set_cons_zero, List.set_cons_succ]
        refine wpAnyH_ready (rs := [3]) (by kernel_rfl) (by simp) ?_
        refine AllReadyH.cons (o := _) rfl (fun K hK => ?_) AllReadyH.nil
        go_simp
        refine (HNB.out _ hw1).mono ?_
        rintro e w2 ⟨nb, rfl, hKb, hb2⟩
        have hMl := Lib.hid (kI_len (Kd.FK_now hKb))
        have hM1 := Lib.hid (kI.K_one (Kd.FK_now hKb))
        have HKb := Lib.hid (Kd.FK_mono (ok' := fun k => w.heap.size + 2 ≤ k) hKb (fun k hk => by omega))
        have HKa2 := Lib.hid (Kd.FK_below HKa.out hb2)
        have hs2 := hb2.size
        have hA2 := hA1.below hb2
        have hB2 := hB1.below hb2
        have hw2 := below_then hw1 hw1.size hb2
        clear hKb
        refine hK.out _ _ (hw2) (fun hS => ?_)
        clear hK K
        try simp only [Act.put, List.getElem_toArray, List.getElem_cons_succ, List.getElem_cons_zero, List.setIfInBounds_toArray, List.set_cons_zero, List.set_cons_succ]
        refine wpAnyH_ready (rs := [4]) (by kernel_rfl) (by simp) ?_
        refine AllReadyH.cons (o := _) rfl (fun K hK => ?_) AllReadyH.nil
        refine step_store hA2 (by rfl) none rfl _ _ rfl na (by rfl) rfl (by rw [hNl.out]; exact size25') (by rw [hNl.out, HAl.out]) hN1.out ?_
        intro w3 hA3 hg3
        have hw3 := hw2.trans (below_grown hg3 hw2.size (Nat.le_refl _))
        refine hK.out _ _ (hw3) (fun hS => ?_)
        clear hK K
        try simp only [Act.put, List.getElem_toArray, List.getElem_cons_succ, List.getElem_cons_zero, List.setIfInBounds_toArray, List.set_cons_zero, List.set_cons_succ]
        refine wpAnyH_ready (rs := [5]) (by kernel_rfl) (by simp) ?_
        refine AllReadyH.cons (o := _) rfl (fun K hK => ?_) AllReadyH.nil
        refine step_store (hB2.kept hg3 (fun e => by injection e; omega)) (by rfl) none rfl _ _ rfl nb (by rfl) rfl (by rw [hMl.out]; exact size25') (by rw [hMl.out, HBl.out]) hM1.out ?_
        intro w4 hB4 hg4
        have hw4 := hw3.trans (below_grown hg4 hw3.size (by omega))
        refine hK.out _ _ (hw4) (fun hS => ?_)
        clear hK K
        try simp only [Act.put, List.getElem_toArray, List.getElem_cons_succ, List.getElem_cons_zero, List.setIfInBounds_toArray, List.set_cons_zero, List.set_cons_succ]
        refine wpAnyH_done (by kernel_rfl) ?_ _
        go_wp2_with fail
        go_meet
        exact ⟨na, nb, hA3.kept hg4 (fun e => by injection e; omega), hB4, Lib.hid (Kd.FK_now (Kd.FK_grown (Kd.FK_grown HKa2.out hg3 (fun q hq e => by injection e; omega)) hg4 (fun q hq e => by injection e; omega))), Lib.hid (Kd.FK_now (Kd.FK_grown (Kd.FK_grown HKb.out hg3 (fun q hq e => by injection e; omega)) hg4 (fun q hq e => by injection e; omega))), hS, by have := hg3.size; have := hg4.size; omega⟩
    · refine step_ld (by rfl) 7 rfl 25 _ rfl ⟨w.heap.size + 1, 0, none⟩ rfl cb _ hBd.cells Tryz.underlying25 rfl (by rw [HBl.out]; exact size25') ?_
      refine hK.out _ _ (hS) (fun hS => ?_)
      clear hK K
      try simp only [Act.put, List.getElem_toArray, List.getElem_cons_succ, List.getElem_cons_zero, List.setIfInBounds_toArray, List.set_cons_zero, List.set_cons_succ]
      refine wpAnyH_ready (rs := [0]) (by kernel_rfl) (by simp) ?_
      refine AllReadyH.cons (o := _) rfl (fun K hK => ?_) AllReadyH.nil
      refine step_ld (by rfl) 5 rfl 25 _ rfl ⟨w.heap.size, 0, none⟩ rfl ca _ hAd.cells Tryz.underlying25 rfl (by rw [HAl.out]; exact size25') ?_
      refine hK.out _ _ (hS) (fun hS => ?_)
      clear hK K
      try simp only [Act.put, List.getElem_toArray, List.getElem_cons_succ, List.getElem_cons_zero, List.setIfInBounds_toArray, List.set_cons_zero, List.set_cons_succ]
      refine wpAnyH_ready (rs := [1]) (by kernel_rfl) (by simp) ?_
      refine AllReadyH.cons (o := _) rfl (fun K hK => ?_) AllReadyH.nil
      go_simp
      refine (HNA.out _ hWd).mono ?_
      rintro e w1 ⟨na, rfl, hKa, hb1⟩
      have hNl := Lib.hid (kI_len (Kd.FK_now hKa))
      have hN1 := Lib.hid (kI.K_one (Kd.FK_now hKa))
      have HKa := Lib.hid (Kd.FK_mono (ok' := fun k => w.heap.size + 2 ≤ k) hKa (fun k hk => by rw [← hsd]; exact hk))
      have hs1 : w.heap.size + 2 ≤ w1.heap.size := by rw [← hsd]; exact hb1.size
      have hA1 := hAd.below hb1
      have hB1 := hBd.below hb1
      have hw1 := below_then hWd (by omega) hb1
      clear hKa
      refine hK.out _ _ (hw1) (fun hS => ?_)
      clear hK K
      try simp only [Act.put, List.getElem_toArray, List.getElem_cons_succ, List.getElem_cons_zero, List.setIfInBounds_toArray, List.set_cons_zero, List.set_cons_succ]
      refine wpAnyH_ready (rs := [3]) (by kernel_rfl) (by simp) ?_
      refine AllReadyH.cons (o := _) rfl (fun K hK => ?_) AllReadyH.nil
      go_simp
      refine (HNB.out _ hw1).mono ?_
      rintro e w2 ⟨nb, rfl, hKb, hb2⟩
      have hMl := Lib.hid (kI_len (Kd.FK_now hKb))
      have hM1 := Lib.hid (kI.K_one (Kd.FK_now hKb))
      have HKb := Lib.hid (Kd.FK_mono (ok' := fun k => w.heap.size + 2 ≤ k) hKb (fun k hk => by omega))
      have HKa2 := Lib.hid (Kd.FK_below HKa.out hb2)
      have hs2 := hb2.size
      have hA2 := hA1.below hb2
      have hB2 := hB1.below hb2
      have hw2 := below_then hw1 hw1.size hb2
      clear hKb
      refine hK.out _ _ (hw2) (fun hS => ?_)
      clear hK K
      try simp only [Act.put, List.getElem_toArray, List.getElem_cons_succ, List.getElem_cons_zero, List.setIfInBounds_toArray, List.set_cons_zero, List.set_cons_succ]
      refine wpAnyH_ready (rs := [4]) (by kernel_rfl) (by simp) ?_
      refine AllReadyH.cons (o := _) rfl (fun K hK => ?_) AllReadyH.nil
      refine step_store hA2 (by rfl) none rfl _ _ rfl na (by rfl) rfl (by rw [hNl.out]; exact size25') (by rw [hNl.out, HAl.out]) hN1.out ?_
      intro w3 hA3 hg3
      have hw3 := hw2.trans (below_grown hg3 hw2.size (Nat.le_refl _))
      refine hK.out _ _ (hw3) (fun hS => ?_)
      clear hK K
      try simp only [Act.put, List.getElem_toArray, List.getElem_cons_succ, List.getElem_cons_zero, List.setIfInBounds_toArray, List.set_cons_zero, List.set_cons_succ]
      refine wpAnyH_ready (rs := [5]) (by kernel_rfl) (by simp) ?_
      refine AllReadyH.cons (o := _) rfl (fun K hK => ?_) AllReadyH.nil
      refine step_store (hB2.kept hg3 (fun e => by injection e; omega)) (by rfl) none rfl _ _ rfl nb (by rfl) rfl (by rw [hMl.out]; exact size25') (by rw [hMl.out, HBl.out]) hM1.out ?_
      intro w4 hB4 hg4
      have hw4 := hw3.trans (below_grown hg4 hw3.size (by omega))
      refine hK.out _ _ (hw4) (fun hS => ?_)
      clear hK K
      try simp only [Act.put, List.getElem_toArray, List.getElem_cons_succ, List.getElem_cons_zero, List.setIfInBounds_toArray, List.set_cons_zero, List.set_cons_succ]
      refine wpAnyH_done (by kernel_rfl) ?_ _
      go_wp2_with fail
      go_meet
      exact ⟨na, nb, hA3.kept hg4 (fun e => by injection e; omega), hB4, Lib.hid (Kd.FK_now (Kd.FK_grown (Kd.FK_grown HKa2.out hg3 (fun q hq e => by injection e; omega)) hg4 (fun q hq e => by injection e; omega))), Lib.hid (Kd.FK_now (Kd.FK_grown (Kd.FK_grown HKb.out hg3 (fun q hq e => by injection e; omega)) hg4 (fun q hq e => by injection e; omega))), hS, by have := hg3.size; have := hg4.size; omega⟩
  case rest =>
    obtain ⟨na, nb, hA, hB, HKa, HKb, hwc, hsc⟩ := hcut
    obtain ⟨A1, c1, rfl, l1, g1⟩ := kI_open HKa.out
    obtain ⟨B1, d1, rfl, m1, j1⟩ := kI_open HKb.out
    have HC1 := Lib.hid (fun (W : World) (h : Below wc.heap.size wc W) => nCmp_calls _ _ A1 B1 c1 d1 W (Kd.C_below g1 h) (Kd.C_below j1 h) l1 m1 (lim_mkI m) (lim_mkI n))
    have HC2 := Lib.hid (fun (W : World) (h : Below wc.heap.size wc W) => nCmp_calls _ _ B1 A1 d1 c1 W (Kd.C_below j1 h) (Kd.C_below g1 h) m1 l1 (lim_mkI n) (lim_mkI m))
    have qa0 := hA.cell (j := 0) (u := .bool (mkI m).neg) rfl
    have qa1 := hA.cell (j := 1) (u := .slice A1 (mkI m).l.length c1) rfl
    have qb0 := hB.cell (j := 0) (u := .bool (mkI n).neg) rfl
    have qb1 := hB.cell (j := 1) (u := .slice B1 (mkI n).l.length d1) rfl
    have hnm : (mkI m).neg = decide (m < 0) := rfl
    have hnn : (mkI n).neg = decide (n < 0) := rfl
    rw [hnm] at qa0
    rw [hnn] at qb0
    clear hnm hnn HKa HKb g1 j1 l1 m1 hA0 hB0 hA hB hAd hBd
    have hcase : m < 0 ∧ n < 0 ∨ m < 0 ∧ ¬ n < 0 ∨ ¬ m < 0 ∧ n < 0 ∨ ¬ m < 0 ∧ ¬ n < 0 := by omega
    rcases hcase with ⟨h1, h2⟩ | ⟨h1, h2⟩ | ⟨h1, h2⟩ | ⟨h1, h2⟩
    · rw [decide_eq_true h1] at qa0
      rw [decide_eq_true h2] at qb0
      have HR := Lib.hid (cmp_nn h1 h2)
      clear HC1 h1 h2
      go_wp2_with (go_at_call 101; (with_reducible refine (HC2.out _ (Below.refl _ _)).mono ?_); rintro e w1 ⟨rfl, hb1⟩)
      go_ret
      exact ⟨by (rw [HR.out]; first | done | rfl), below_then hwc (by omega) hb1⟩
    · rw [decide_eq_true h1] at qa0
      rw [decide_eq_false h2] at qb0
      have HR := Lib.hid (cmp_np h1 h2)
      clear HC1 HC2 h1 h2
      go_wp2
      go_ret
      exact ⟨by (rw [HR.out]; first | done | rfl), hwc⟩
    · rw [decide_eq_false h1] at qa0
      rw [decide_eq_true h2] at qb0
      have HR := Lib.hid (cmp_pn h1 h2)
      clear HC1 HC2 h1 h2
      go_wp2
      go_ret
      exact ⟨by (rw [HR.out]; first | done | rfl), hwc⟩
    · rw [decide_eq_false h1] at qa0
      rw [decide_eq_false h2] at qb0
      have HR := Lib.hid (cmp_pp h1 h2)
      clear HC2 h1 h2
      go_wp2_with (go_at_call 101; (with_reducible refine (HC1.out _ (Below.refl _ _)).mono ?_); rintro e w1 ⟨rfl, hb1⟩)
      go_ret
      exact ⟨by (rw [HR.out]; first | done | rfl), below_then hwc (by omega) hb1⟩
end Go.Proofs.YtlcofdgaidlldaaGreatDoor
namespace Go.Proofs.YtlcofdgaidlldaaGreatDoor
open Go.RowKit Go.Shelf Go.Proofs.YtlcofdgaidlldaaGreatDoorW.PrintWords
set_option linter.unusedVariables false
set_option linter.unusedSimpArgs false
section
variable {ops : Array Oper} {rest : List Oper} {o : Oper} {a : Act} {Q : Exit → Act → World → Prop} {w : World}
/-- A datum is read, behind a guard. -/
theorem ldDg {cs : List Value} {ad : Addr} (N : Tmp) (hC : ∀ j u, cs[j]? = some u → w.cell? (ad.add j) = some u) (hl : cs.length = 7) (hN : o.dst = some N) (hw : Region.wanted o (yielded ops a.tmps) = true) (x : Operand) (ho : o.op = .load 28 x) (hx : a.eval x = .pointer (some ad))
    (h : wpList Tryz.prog ops Q rest (a.put (some N) (.agg cs.toArray)) w) : wpList Tryz.prog ops Q (o :: rest) a w :=
  wpList_step fun K hK => by
    rw [if_pos hw]
    unfold Oper.wp execOp
    simp only [ho, hx, Instr.loadAt, Instr.sureAddr, Sem.run_bind, Sem.run_pure, Result.andThen_ok, run_load_list w ad 28 cs _ hC Tryz.underlying28 rfl (by rw [hl]; exact size28')]
    rw [← hN] at h
    exact hK _ _ h
end
set_option maxHeartbeats 2000000 in
theorem EqI0_calls (A B : Option Addr) (c d : Nat) (w : World) : Calls Tryz.prog 35 #[.slice A 0 c, .slice B 0 d] w fun e w' => e = .returned (.bool true) ∧ Below w.heap.size w w' := by
  go_enter Tryz.func35, Tryz.ntmps35
  go_wp2
  go_loopw [13] (fun v13 wr => v13 = .int .i64 0 ∧ Below w.heap.size w wr) (fun v13 _ => 0)
  case atStart => exact ⟨rfl, Below.refl _ _⟩
  case round =>
    obtain ⟨rfl, hb⟩ := hrel
    go_wp2
    go_ret
    exact ⟨rfl, hb⟩
set_option maxHeartbeats 2000000 in
theorem EqExpr0_calls (f : Nat) (A B : Option Addr) (c d : Nat) (w : World) : Calls Tryz.prog 37 #[.slice A 0 c, .slice B 0 d, .func (.func f) #[] #[]] w fun e w' => e = .returned (.bool true) ∧ Below w.heap.size w w' := by
  go_enter Tryz.func37, Tryz.ntmps37
  go_wp2
  go_loopw [17] (fun v17 wr => v17 = .int .i64 0 ∧ Below w.heap.size w wr) (fun v17 _ => 0)
  case atStart => exact ⟨rfl, Below.refl _ _⟩
  case round =>
    obtain ⟨rfl, hb⟩ := hrel
    go_wp2
    go_ret
    exact ⟨rfl, hb⟩
set_option maxHeartbeats 2000000 in
theorem EqDatum0_calls (f : Nat) (A B : Option Addr) (c d : Nat) (w : World) : Calls Tryz.prog 69 #[.slice A 0 c, .slice B 0 d, .func (.func f) #[] #[]] w fun e w' => e = .returned (.bool true) ∧ Below w.heap.size w w' := by
  go_enter Tryz.func69, Tryz.ntmps69
  go_wp2
  go_loopw [17] (fun v17 wr => v17 = .int .i64 0 ∧ Below w.heap.size w wr) (fun v17 _ => 0)
  case atStart => exact ⟨rfl, Below.refl _ _⟩
  case round =>
    obtain ⟨rfl, hb⟩ := hrel
    go_wp2
    go_ret
    exact ⟨rfl, hb⟩
set_option maxHeartbeats 2000000 in
theorem dfew_calls (x : Dt) (cs : List Value) (w : World) (hx : kD.K w x cs) : Calls Tryz.prog 49 #[.agg cs.toArray] w fun e w' => e = .returned (.bool (decide (0 ≤ x.within 100000 10000))) ∧ Below w.heap.size w w' := by
  have HW := Lib.hid (fun (W : World) (hb : Below w.heap.size w W) => dwithin_calls (x.big + 1) x cs 100000 10000 W (by omega) (kD.K_below hb hx) (by omega) (by omega) (by omega) (by omega))
  obtain ⟨A2, c2, A5, c5, A6, c6, rfl, l2, g2, l5, g5, l6, g6⟩ := kD_open hx
  clear hx g2 g5 g6
  go_enter Tryz.func49, Tryz.ntmps49
  go_wp2_with (go_at_call 67; (with_reducible refine (HW.out _ (below_alloc (Below.refl _ _) _)).mono ?_); rintro e w1 ⟨rfl, hb1⟩)
  go_ret
  exact ⟨rfl, below_then (below_alloc (Below.refl _ _) _) (by simp) hb1⟩
theorem numD_few (a : BI) : decide (0 ≤ (numD a).within 100000 10000) = true := by
  rw [Dt.within_eq]; simp [numD, Dt.withinL]
set_option maxRecDepth 100000 in
set_option maxHeartbeats 4000000 in
theorem dsame0_calls (a b : BI) (ca cb : List Value) (w : World) (ha : kD.K w (numD a) ca) (hb : kD.K w (numD b) cb) (hla : a.l.length ≤ 200000) (hlb : b.l.length ≤ 200000) (hna : lim a.l) (hnb : lim b.l) :
    Calls Tryz.prog 50 #[.agg ca.toArray, .agg cb.toArray] w fun e w' => e = .returned (.bool (cmpI a.num b.num == 0)) ∧ Below w.heap.size w w' := by
  obtain ⟨A2, c2, A5, c5, A6, c6, rfl, l2, g2, l5, g5, l6, g6⟩ := kD_open ha
  obtain ⟨B2, d2, B5, d5, B6, d6, rfl, m2, j2, m5, j5, m6, j6⟩ := kD_open hb
  have HC := Lib.hid (fun (W : World) (h : Below w.heap.size w W) => wCmp_calls a b [.bool a.neg, .slice A2 a.l.length c2] [.bool b.neg, .slice B2 b.l.length d2] W (kI_mk W a l2 (Kd.C_below g2 h)) (kI_mk W b m2 (Kd.C_below j2 h)) hla hlb hna hnb)
  have HE := Lib.hid (fun (A B : Option Addr) (c d : Nat) (W : World) => EqDatum0_calls 50 A B c d W)
  obtain ⟨z, hz⟩ : ∃ z, z = cmpI a.num b.num := ⟨_, rfl⟩
  rw [← hz] at HC ⊢
  clear ha hb g2 g5 g6 j2 j5 j6 hz
  have hW0 : Below w.heap.size w ((w.alloc (.cells [.int .i64 (numD a).kind, .bool (numD a).i.neg, .slice A2 (numD a).i.l.length c2, .bool (numD a).b, .string (numD a).s, .slice A5 (numD a).items.length c5, .slice A6 (numD a).tail.length c6].toArray 28)).alloc (.cells [.int .i64 (numD b).kind, .bool (numD b).i.neg, .slice B2 (numD b).i.l.length d2, .bool (numD b).b, .string (numD b).s, .slice B5 (numD b).items.length d5, .slice B6 (numD b).tail.length d6].toArray 28)) := below_alloc (below_alloc (Below.refl _ _) _) _
  have hz0 : (z == 0) = true ∨ (z == 0) = false := by cases z == 0 <;> simp
  simp only [numD, List.length_nil] at hW0 ⊢
  have hX0 : BX 28 ((w.alloc (.cells [.int .i64 1, .bool a.neg, .slice A2 a.l.length c2, .bool false, .string ⟨#[]⟩, .slice A5 0 c5, .slice A6 0 c6].toArray 28)).alloc (.cells [.int .i64 1, .bool b.neg, .slice B2 b.l.length d2, .bool false, .string ⟨#[]⟩, .slice B5 0 d5, .slice B6 0 d6].toArray 28)) w.heap.size [.int .i64 1, .bool a.neg, .slice A2 a.l.length c2, .bool false, .string ⟨#[]⟩, .slice A5 0 c5, .slice A6 0 c6] := (BX.new w _).alloc _
  have hY0 : BX 28 ((w.alloc (.cells [.int .i64 1, .bool a.neg, .slice A2 a.l.length c2, .bool false, .string ⟨#[]⟩, .slice A5 0 c5, .slice A6 0 c6].toArray 28)).alloc (.cells [.int .i64 1, .bool b.neg, .slice B2 b.l.length d2, .bool false, .string ⟨#[]⟩, .slice B5 0 d5, .slice B6 0 d6].toArray 28)) (w.heap.size + 1) [.int .i64 1, .bool b.neg, .slice B2 b.l.length d2, .bool false, .string ⟨#[]⟩, .slice B5 0 d5, .slice B6 0 d6] := by simpa using BX.new (t := 28) (w.alloc (.cells [.int .i64 1, .bool a.neg, .slice A2 a.l.length c2, .bool false, .string ⟨#[]⟩, .slice A5 0 c5, .slice A6 0 c6].toArray 28)) [.int .i64 1, .bool b.neg, .slice B2 b.l.length d2, .bool false, .string ⟨#[]⟩, .slice B5 0 d5, .slice B6 0 d6]
  rcases hz0 with hz0 | hz0
  all_goals
    go_enter Tryz.func50, Tryz.ntmps50
    go_wp2_with (first
      | (go_at_call 68; (with_reducible refine (HC.out _ hW0).mono ?_); rintro e w1 ⟨rfl, hb1⟩; have hw1 := below_then hW0 (by simp; omega) hb1; have hX1 := hX0.below hb1; have hY1 := hY0.below hb1; have qx1 := hX1.cell (j := 5) (u := .slice A5 0 c5) rfl; have qy1 := hY1.cell (j := 5) (u := .slice B5 0 d5) rfl)
      | (go_at_call 69; (with_reducible refine (HE.out A5 B5 c5 d5 w1).mono ?_); rintro e w2 ⟨rfl, hb2⟩; have hw2 := below_then hw1 hw1.size hb2; have qx2 := (hX1.below hb2).cell (j := 6) (u := .slice A6 0 c6) rfl; have qy2 := (hY1.below hb2).cell (j := 6) (u := .slice B6 0 d6) rfl)
      | (go_at_call 69; (with_reducible refine (HE.out A6 B6 c6 d6 w2).mono ?_); rintro e w3 ⟨rfl, hb3⟩; have hw3 := below_then hw2 hw2.size hb3))
    go_ret
  · exact ⟨by (rw [hz0]; first | done | rfl), hw3⟩
  · exact ⟨by (rw [hz0]; first | done | rfl), hw1⟩
set_option maxRecDepth 100000 in
set_option maxHeartbeats 4000000 in
theorem dSame0_calls (a b : BI) (ca cb : List Value) (w : World) (ha : kD.K w (numD a) ca) (hb : kD.K w (numD b) cb) (hla : a.l.length ≤ 200000) (hlb : b.l.length ≤ 200000) (hna : lim a.l) (hnb : lim b.l) :
    Calls Tryz.prog 36 #[.agg ca.toArray, .agg cb.toArray] w fun e w' => e = .returned (.bool (cmpI a.num b.num == 0)) ∧ Below w.heap.size w w' := by
  have HF1 := Lib.hid (fun (W : World) (h : Below w.heap.size w W) => dfew_calls (numD a) ca W (kD.K_below h ha))
  have HF2 := Lib.hid (fun (W : World) (h : Below w.heap.size w W) => dfew_calls (numD b) cb W (kD.K_below h hb))
  have HS := Lib.hid (fun (W : World) (h : Below w.heap.size w W) => dsame0_calls a b ca cb W (kD.K_below h ha) (kD.K_below h hb) hla hlb hna hnb)
  rw [numD_few] at HF1
  rw [numD_few] at HF2
  obtain ⟨A2, c2, A5, c5, A6, c6, rfl, l2, g2, l5, g5, l6, g6⟩ := kD_open ha
  obtain ⟨B2, d2, B5, d5, B6, d6, rfl, m2, j2, m5, j5, m6, j6⟩ := kD_open hb
  clear ha hb g2 g5 g6 j2 j5 j6
  have hW0 : Below w.heap.size w ((w.alloc (.cells [.int .i64 1, .bool a.neg, .slice A2 a.l.length c2, .bool false, .string ⟨#[]⟩, .slice A5 0 c5, .slice A6 0 c6].toArray 28)).alloc (.cells [.int .i64 1, .bool b.neg, .slice B2 b.l.length d2, .bool false, .string ⟨#[]⟩, .slice B5 0 d5, .slice B6 0 d6].toArray 28)) := below_alloc (below_alloc (Below.refl _ _) _) _
  have hX0 : BX 28 ((w.alloc (.cells [.int .i64 1, .bool a.neg, .slice A2 a.l.length c2, .bool false, .string ⟨#[]⟩, .slice A5 0 c5, .slice A6 0 c6].toArray 28)).alloc (.cells [.int .i64 1, .bool b.neg, .slice B2 b.l.length d2, .bool false, .string ⟨#[]⟩, .slice B5 0 d5, .slice B6 0 d6].toArray 28)) w.heap.size [.int .i64 1, .bool a.neg, .slice A2 a.l.length c2, .bool false, .string ⟨#[]⟩, .slice A5 0 c5, .slice A6 0 c6] := (BX.new w _).alloc _
  have hY0 : BX 28 ((w.alloc (.cells [.int .i64 1, .bool a.neg, .slice A2 a.l.length c2, .bool false, .string ⟨#[]⟩, .slice A5 0 c5, .slice A6 0 c6].toArray 28)).alloc (.cells [.int .i64 1, .bool b.neg, .slice B2 b.l.length d2, .bool false, .string ⟨#[]⟩, .slice B5 0 d5, .slice B6 0 d6].toArray 28)) (w.heap.size + 1) [.int .i64 1, .bool b.neg, .slice B2 b.l.length d2, .bool false, .string ⟨#[]⟩, .slice B5 0 d5, .slice B6 0 d6] := by simpa using BX.new (t := 28) (w.alloc (.cells [.int .i64 1, .bool a.neg, .slice A2 a.l.length c2, .bool false, .string ⟨#[]⟩, .slice A5 0 c5, .slice A6 0 c6].toArray 28)) [.int .i64 1, .bool b.neg, .slice B2 b.l.length d2, .bool false, .string ⟨#[]⟩, .slice B5 0 d5, .slice B6 0 d6]
  simp only [numD, List.length_nil] at HF1 HF2 HS ⊢
  go_enter Tryz.func36, Tryz.ntmps36
  go_wp2_with (first
    | ((with_reducible refine ldDg 8 hY1.cells rfl rfl ?_ _ rfl ?_ ?_); (case _ => rfl); (case _ => rfl))
    | ((with_reducible refine ldDg 12 hX2.cells rfl rfl ?_ _ rfl ?_ ?_); (case _ => rfl); (case _ => rfl))
    | ((with_reducible refine ldDg 13 hY2.cells rfl rfl ?_ _ rfl ?_ ?_); (case _ => rfl); (case _ => rfl))
    | (go_at_call 49; (with_reducible refine (HF1.out _ hW0).mono ?_); rintro e w1 ⟨rfl, hb1⟩; have hw1 := below_then hW0 (by simp; omega) hb1; have hX1 := hX0.below hb1; have hY1 := hY0.below hb1)
    | (go_at_call 49; (with_reducible refine (HF2.out _ hw1).mono ?_); rintro e w2 ⟨rfl, hb2⟩; have hw2 := below_then hw1 hw1.size hb2; have hX2 := hX1.below hb2; have hY2 := hY1.below hb2)
    | (go_at_call 50; (with_reducible refine (HS.out _ hw2).mono ?_); rintro e w3 ⟨rfl, hb3⟩; have hw3 := below_then hw2 hw2.size hb3))
  go_ret
  exact ⟨rfl, hw3⟩
theorem part1 {t : TypeId} {w : World} {g : Nat} {cs cd : List Value} (hB : BX t w g cs) (hs : ∀ j u, cd[j]? = some u → cs[1 + j]? = some u) : ∀ j u, cd[j]? = some u → w.cell? ((⟨g, 1, none⟩ : Addr).add j) = some u := fun j u hj => by
  have := hB.cell (hs j u hj)
  rcases j with _ | j <;> simpa [Addr.add] using this
theorem seven {c0 c1 c2 c3 c4 c5 c6 c7 c8 c9 ca cb cc u : Value} {j : Nat} (h : ([c1, c2, c3, c4, c5, c6, c7] : List Value)[j]? = some u) : ([c0, c1, c2, c3, c4, c5, c6, c7, c8, c9, ca, cb, cc] : List Value)[1 + j]? = some u := by
  match j, h with
  | 0, h => exact h
  | 1, h => exact h
  | 2, h => exact h
  | 3, h => exact h
  | 4, h => exact h
  | 5, h => exact h
  | 6, h => exact h
  | (j + 7), h => exact absurd h (by simp)
set_option maxRecDepth 100000 in
set_option maxHeartbeats 8000000 in
theorem csame0_calls (a b : BI) (ca cb : List Value) (w : World) (ha : kE.K w (constE (numD a)) ca) (hb : kE.K w (constE (numD b)) cb) (hla : a.l.length ≤ 200000) (hlb : b.l.length ≤ 200000) (hna : lim a.l) (hnb : lim b.l) :
    Calls Tryz.prog 21 #[.agg ca.toArray, .agg cb.toArray] w fun e w' => e = .returned (.bool (cmpI a.num b.num == 0)) ∧ Below w.heap.size w w' := by
  obtain ⟨A3, c3, A6, c6, A7, c7, A9, c9, A12, c12, rfl, l3, g3, l6, g6, l7, g7, l9, g9, l12, g12⟩ := kE_open ha
  obtain ⟨B3, d3, B6, d6, B7, d7, B9, d9, B12, d12, rfl, m3, j3, m6, j6, m7, j7, m9, j9, m12, j12⟩ := kE_open hb
  have HD := Lib.hid (fun (W : World) (h : Below w.heap.size w W) => dSame0_calls a b [.int .i64 1, .bool a.neg, .slice A3 a.l.length c3, .bool false, .string ⟨#[]⟩, .slice A6 0 c6, .slice A7 0 c7] [.int .i64 1, .bool b.neg, .slice B3 b.l.length d3, .bool false, .string ⟨#[]⟩, .slice B6 0 d6, .slice B7 0 d7] W (kD_mk W (numD a) l3 (Kd.C_below g3 h) l6 (Kd.C_below g6 h) l7 (Kd.C_below g7 h)) (kD_mk W (numD b) m3 (Kd.C_below j3 h) m6 (Kd.C_below j6 h) m7 (Kd.C_below j7 h)) hla hlb hna hnb)
  have HE := Lib.hid (fun (A B : Option Addr) (c d : Nat) (W : World) => EqExpr0_calls 21 A B c d W)
  have HI := Lib.hid (fun (A B : Option Addr) (c d : Nat) (W : World) => EqI0_calls A B c d W)
  obtain ⟨z, hz⟩ : ∃ z, z = (cmpI a.num b.num == 0) := ⟨_, rfl⟩
  rw [← hz] at HD ⊢
  clear ha hb g3 g6 g7 g9 g12 j3 j6 j7 j9 j12 hz
  have hW0 : Below w.heap.size w ((w.alloc (.cells [.int .i64 1, .int .i64 1, .bool a.neg, .slice A3 a.l.length c3, .bool false, .string ⟨#[]⟩, .slice A6 0 c6, .slice A7 0 c7, .int .i64 0, .slice A9 0 c9, .bool false, .int .i64 0, .slice A12 0 c12].toArray 32)).alloc (.cells [.int .i64 1, .int .i64 1, .bool b.neg, .slice B3 b.l.length d3, .bool false, .string ⟨#[]⟩, .slice B6 0 d6, .slice B7 0 d7, .int .i64 0, .slice B9 0 d9, .bool false, .int .i64 0, .slice B12 0 d12].toArray 32)) := below_alloc (below_alloc (Below.refl _ _) _) _
  have hX0 : BX 32 ((w.alloc (.cells [.int .i64 1, .int .i64 1, .bool a.neg, .slice A3 a.l.length c3, .bool false, .string ⟨#[]⟩, .slice A6 0 c6, .slice A7 0 c7, .int .i64 0, .slice A9 0 c9, .bool false, .int .i64 0, .slice A12 0 c12].toArray 32)).alloc (.cells [.int .i64 1, .int .i64 1, .bool b.neg, .slice B3 b.l.length d3, .bool false, .string ⟨#[]⟩, .slice B6 0 d6, .slice B7 0 d7, .int .i64 0, .slice B9 0 d9, .bool false, .int .i64 0, .slice B12 0 d12].toArray 32)) w.heap.size [.int .i64 1, .int .i64 1, .bool a.neg, .slice A3 a.l.length c3, .bool false, .string ⟨#[]⟩, .slice A6 0 c6, .slice A7 0 c7, .int .i64 0, .slice A9 0 c9, .bool false, .int .i64 0, .slice A12 0 c12] := (BX.new w _).alloc _
  have hY0 : BX 32 ((w.alloc (.cells [.int .i64 1, .int .i64 1, .bool a.neg, .slice A3 a.l.length c3, .bool false, .string ⟨#[]⟩, .slice A6 0 c6, .slice A7 0 c7, .int .i64 0, .slice A9 0 c9, .bool false, .int .i64 0, .slice A12 0 c12].toArray 32)).alloc (.cells [.int .i64 1, .int .i64 1, .bool b.neg, .slice B3 b.l.length d3, .bool false, .string ⟨#[]⟩, .slice B6 0 d6, .slice B7 0 d7, .int .i64 0, .slice B9 0 d9, .bool false, .int .i64 0, .slice B12 0 d12].toArray 32)) (w.heap.size + 1) [.int .i64 1, .int .i64 1, .bool b.neg, .slice B3 b.l.length d3, .bool false, .string ⟨#[]⟩, .slice B6 0 d6, .slice B7 0 d7, .int .i64 0, .slice B9 0 d9, .bool false, .int .i64 0, .slice B12 0 d12] := by simpa using BX.new (t := 32) (w.alloc (.cells [.int .i64 1, .int .i64 1, .bool a.neg, .slice A3 a.l.length c3, .bool false, .string ⟨#[]⟩, .slice A6 0 c6, .slice A7 0 c7, .int .i64 0, .slice A9 0 c9, .bool false, .int .i64 0, .slice A12 0 c12].toArray 32)) [.int .i64 1, .int .i64 1, .bool b.neg, .slice B3 b.l.length d3, .bool false, .string ⟨#[]⟩, .slice B6 0 d6, .slice B7 0 d7, .int .i64 0, .slice B9 0 d9, .bool false, .int .i64 0, .slice B12 0 d12]
  simp only [constE, numD, zE, List.length_nil]
  rcases Bool.eq_false_or_eq_true z with rfl | rfl
  all_goals
    go_enter Tryz.func21, Tryz.ntmps21
    go_wp2_with (first
      | (go_at_call 35; (with_reducible refine (HI.out A9 B9 c9 d9 _).mono ?_); rintro e w1 ⟨rfl, hb1⟩; have hw1 := below_then hW0 (by simp; omega) hb1; have hX1 := hX0.below hb1; have hY1 := hY0.below hb1)
      | ((with_reducible refine ldDg 40 (part1 hX1 (fun _ _ h => seven h)) rfl rfl ?_ _ rfl ?_ ?_); (case _ => rfl); (case _ => rfl))
      | ((with_reducible refine ldDg 42 (part1 hY1 (fun _ _ h => seven h)) rfl rfl ?_ _ rfl ?_ ?_); (case _ => rfl); (case _ => rfl))
      | (go_at_call 36; (with_reducible refine (HD.out _ hw1).mono ?_); rintro e w2 ⟨rfl, hb2⟩; have hw2 := below_then hw1 hw1.size hb2; have qx2 := (hX1.below hb2).cell (j := 12) (u := .slice A12 0 c12) rfl; have qy2 := (hY1.below hb2).cell (j := 12) (u := .slice B12 0 d12) rfl)
      | (go_at_call 37; (with_reducible refine (HE.out A12 B12 c12 d12 _).mono ?_); rintro e w3 ⟨rfl, hb3⟩; have hw3 := below_then hw2 hw2.size hb3))
    go_ret
  · exact ⟨rfl, hw3⟩
  · exact ⟨rfl, hw2⟩
theorem const_few (d : Dt) : (constE d).few = true := by
  rw [Ex.few, Ex.within_eq]; simp [constE, zE, Ex.withinL]
set_option maxRecDepth 100000 in
set_option maxHeartbeats 8000000 in
theorem cSame0_calls (a b : BI) (ca cb : List Value) (w : World) (ha : kE.K w (constE (numD a)) ca) (hb : kE.K w (constE (numD b)) cb) (hla : a.l.length ≤ 200000) (hlb : b.l.length ≤ 200000) (hna : lim a.l) (hnb : lim b.l) :
    Calls Tryz.prog 12 #[.agg ca.toArray, .agg cb.toArray] w fun e w' => e = .returned (.bool (cmpI a.num b.num == 0)) ∧ Below w.heap.size w w' := by
  have HAl := Lib.hid (kE_len ha)
  have HBl := Lib.hid (kE_len hb)
  have HF1 := Lib.hid (fun (W : World) (h : Below w.heap.size w W) => few_calls (constE (numD a)) ca W (kE.K_below h ha))
  have HF2 := Lib.hid (fun (W : World) (h : Below w.heap.size w W) => few_calls (constE (numD b)) cb W (kE.K_below h hb))
  have HS := Lib.hid (fun (W : World) (h : Below w.heap.size w W) => csame0_calls a b ca cb W (kE.K_below h ha) (kE.K_below h hb) hla hlb hna hnb)
  rw [const_few] at HF1
  rw [const_few] at HF2
  clear ha hb
  have hW0 : Below w.heap.size w ((w.alloc (.cells ca.toArray 32)).alloc (.cells cb.toArray 32)) := below_alloc (below_alloc (Below.refl _ _) _) _
  have hX0 : BX 32 ((w.alloc (.cells ca.toArray 32)).alloc (.cells cb.toArray 32)) w.heap.size ca := (BX.new w _).alloc _
  have hY0 : BX 32 ((w.alloc (.cells ca.toArray 32)).alloc (.cells cb.toArray 32)) (w.heap.size + 1) cb := by simpa using BX.new (t := 32) (w.alloc (.cells ca.toArray 32)) cb
  go_enter Tryz.func12, Tryz.ntmps12
  go_wp2_with (first
    | ((with_reducible refine ldE 5 hX0 HAl rfl ?_ _ rfl ?_ ?_); (case _ => rfl); (case _ => rfl))
    | ((with_reducible refine ldEg 8 hY1 HBl rfl ?_ _ rfl ?_ ?_); (case _ => rfl); (case _ => rfl))
    | ((with_reducible refine ldEg 12 hX2 HAl rfl ?_ _ rfl ?_ ?_); (case _ => rfl); (case _ => rfl))
    | ((with_reducible refine ldEg 13 hY2 HBl rfl ?_ _ rfl ?_ ?_); (case _ => rfl); (case _ => rfl))
    | (go_at_call 20; (with_reducible refine (HF1.out _ hW0).mono ?_); rintro e w1 ⟨rfl, hb1⟩; have hw1 := below_then hW0 (by simp; omega) hb1; have hX1 := hX0.below hb1; have hY1 := hY0.below hb1)
    | (go_at_call 20; (with_reducible refine (HF2.out _ hw1).mono ?_); rintro e w2 ⟨rfl, hb2⟩; have hw2 := below_then hw1 hw1.size hb2; have hX2 := hX1.below hb2; have hY2 := hY1.below hb2)
    | (go_at_call 21; (with_reducible refine (HS.out _ hw2).mono ?_); rintro e w3 ⟨rfl, hb3⟩; have hw3 := below_then hw2 hw2.size hb3))
  go_ret
  exact ⟨rfl, hw3⟩
end Go.Proofs.YtlcofdgaidlldaaGreatDoor
