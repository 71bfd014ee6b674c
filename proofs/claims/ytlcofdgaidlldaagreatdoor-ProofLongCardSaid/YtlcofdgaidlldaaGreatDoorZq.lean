/- Contracts on whole numbers: whole.Norm, whole.Neg. The walks' conditions: the parameters' memory; limbs in their range; not more than a hundred thousand limbs. Contract: whole.Add. The walk's conditions: the parameters' memory; limbs in their range; not more than fifty thousand limbs. Contract: prim.told. The walk's condition: the parameters' memory. Contracts: prim.numbers at +; prim.Do at + of two numbers. The walks' conditions: the parameters' memory; limbs in their range. -/
import Derived.Test.YtlcofdgaidlldaaGreatDoorZl
import Derived.Test.YtlcofdgaidlldaaGreatDoorZo
namespace Go.Proofs.YtlcofdgaidlldaaGreatDoor
open Go.RowKit Go.Shelf Go.Proofs.YtlcofdgaidlldaaGreatDoorW.PrintWords
set_option linter.unusedVariables false
set_option linter.unusedSimpArgs false
theorem kI_len {w : World} {x : BI} {cs : List Value} (h : kI.K w x cs) : cs.length = 2 := kI.K_len h
set_option maxRecDepth 100000 in
set_option maxHeartbeats 2000000 in
theorem wNorm_calls (a : BI) (cs : List Value) (w : World) (hK : kI.K w a cs) (hl : a.l.length ≤ 200000) (hn : lim a.l) :
    Calls Tryz.prog 100 #[.agg cs.toArray] w fun e w' => ∃ cs', e = .returned (.agg cs'.toArray) ∧ Kd.FK kI w' (fun k => w.heap.size ≤ k) (mkI a.num) cs' ∧ Below w.heap.size w w' := by
  obtain ⟨A1, c1, rfl, l1, g1⟩ := kI_open hK
  have HOF := Lib.hid (fun (W : World) (hb : Below w.heap.size w W) => of_calls a.neg a.l A1 c1 W (Kd.C_below g1 hb) l1 (by omega) hn)
  have HV := Lib.hid (show a.num = sg a.neg (val a.l) from rfl)
  obtain ⟨r, hr⟩ : ∃ r, r = mkI (sg a.neg (val a.l)) := ⟨_, rfl⟩
  rw [HV.out]
  rw [← hr] at HOF ⊢
  have hW0 : Below w.heap.size w ((w.alloc (.cells [.bool a.neg, .slice A1 a.l.length c1].toArray 25)).alloc (.cells zIc.toArray 25)) := below_alloc (below_alloc (Below.refl _ _) _) _
  have hR0 : BX 25 ((w.alloc (.cells [.bool a.neg, .slice A1 a.l.length c1].toArray 25)).alloc (.cells zIc.toArray 25)) (w.heap.size + 1) zIc := by simpa using BX.new (t := 25) (w.alloc (.cells [.bool a.neg, .slice A1 a.l.length c1].toArray 25)) zIc
  have hs0 : ((w.alloc (.cells [.bool a.neg, .slice A1 a.l.length c1].toArray 25)).alloc (.cells zIc.toArray 25)).heap.size = w.heap.size + 2 := by simp
  clear hr hK g1 HV
  go_enter Tryz.func100, Tryz.ntmps100
  go_wp2_with (first
    | (go_at_call 135; (with_reducible refine (HOF.out _ hW0).mono ?_); rintro e w1 ⟨cr, rfl, hr, hb1⟩; have HR := Lib.hid hr; have HRl := Lib.hid (kI_len (Kd.FK_now hr)); have HR1 := Lib.hid (kI.K_one (Kd.FK_now hr)); clear hr; have hR1 := hR0.below hb1; have hs1 := hb1.size)
    | ((with_reducible refine store_bx hR1 none rfl ?_ _ _ rfl cr ?_ ?_ ?_ ?_ ?_ ?_); (case _ => rfl); (case _ => rfl); (case _ => rfl); (case _ => rw [HRl.out]; exact size25'); (case _ => rw [HRl.out]; rfl); (case _ => exact HR1.out); intro w2 hR2 hg2))
  have hload := hR2.load (P := Tryz.prog) Tryz.underlying25 (by rw [HRl.out]; exact size25')
  have hb2 : Below w.heap.size w w2 := (below_then hW0 (by omega) hb1).trans (below_grown hg2 (by omega) (by omega))
  refine bodyPost_ret (v := .agg cr.toArray) ?_ rfl ⟨cr, rfl, Kd.FK_mono (Kd.FK_grown HR.out hg2 (fun k hk e => by cases e; omega)) (fun k hk => by omega), hb2⟩
  simp [results, Tryz.f100, asAddr, Result.andThen, Act.put, hload]
end Go.Proofs.YtlcofdgaidlldaaGreatDoor
namespace Go.Proofs.YtlcofdgaidlldaaGreatDoor
open Go.RowKit Go.Shelf Go.Proofs.YtlcofdgaidlldaaGreatDoorW.PrintWords
set_option linter.unusedVariables false
set_option linter.unusedSimpArgs false
theorem limbs_sum_len {xs ys : List Int} (hx : lim xs) (hy : lim ys) (h1 : xs.length ≤ 99999) (h2 : ys.length ≤ 99999) : (limbs (val xs + val ys).toNat).length ≤ 100000 := by
  refine limbs_len (k := 100000) ?_
  have h3 := val_lt hx
  have h4 := val_lt hy
  have h5 := pw_le h1
  have h6 := pw_le h2
  have h7 := pw_succ 99999
  have h8 := pw_pos 99999
  have h9 := val_nonneg hx
  have h10 := val_nonneg hy
  rw [show 100000 = 99999 + 1 from rfl, h7]
  omega
theorem limbs_diff_len {xs ys : List Int} (hx : lim xs) (hy : lim ys) (h1 : xs.length ≤ 99999) : (limbs (val xs - val ys).toNat).length ≤ 100000 := by
  refine limbs_len (k := 100000) ?_
  have h3 := val_lt hx
  have h5 := pw_le h1
  have h7 := pw_succ 99999
  have h8 := pw_pos 99999
  have h9 := val_nonneg hx
  have h10 := val_nonneg hy
  rw [show 100000 = 99999 + 1 from rfl, h7]
  omega
theorem add_same {b : Bool} {xs ys : List Int} (hx : lim xs) (hy : lim ys) : sg b (val (limbs (val xs + val ys).toNat)) = sg b (val xs) + sg b (val ys) := by
  have h9 := val_nonneg hx
  have h10 := val_nonneg hy
  rw [val_limbs]; cases b <;> simp [sg] <;> omega
theorem add_diff {b : Bool} {xs ys : List Int} (hx : lim xs) (hy : lim ys) (h : val ys ≤ val xs) : sg b (val (limbs (val xs - val ys).toNat)) = sg b (val xs) + sg (!b) (val ys) := by
  rw [val_limbs]; cases b <;> simp [sg] <;> omega
theorem cmpI_ge {a b : Int} : 0 ≤ cmpI a b ↔ b ≤ a := by unfold cmpI; split <;> (try split) <;> omega
set_option maxRecDepth 100000 in
set_option maxHeartbeats 8000000 in
theorem wAdd_calls (a b : BI) (ca cb : List Value) (w : World) (ha : kI.K w a ca) (hb : kI.K w b cb) (hla : a.l.length ≤ 99999) (hlb : b.l.length ≤ 99999) (hna : lim a.l) (hnb : lim b.l) :
    Calls Tryz.prog 150 #[.agg ca.toArray, .agg cb.toArray] w fun e w' => ∃ cs', e = .returned (.agg cs'.toArray) ∧ Kd.FK kI w' (fun k => w.heap.size ≤ k) (mkI (a.num + b.num)) cs' ∧ Below w.heap.size w w' := by
  obtain ⟨A1, c1, rfl, l1, g1⟩ := kI_open ha
  obtain ⟨B1, d1, rfl, m1, h1⟩ := kI_open hb
  have HG := Lib.hid g1
  have HH := Lib.hid h1
  have HNA := Lib.hid hna
  have HNB := Lib.hid hnb
  have hW0 : Below w.heap.size w (((w.alloc (.cells [.bool a.neg, .slice A1 a.l.length c1].toArray 25)).alloc (.cells [.bool b.neg, .slice B1 b.l.length d1].toArray 25)).alloc (.cells zIc.toArray 25)) := below_alloc (below_alloc (below_alloc (Below.refl _ _) _) _) _
  have hA0 : BX 25 (((w.alloc (.cells [.bool a.neg, .slice A1 a.l.length c1].toArray 25)).alloc (.cells [.bool b.neg, .slice B1 b.l.length d1].toArray 25)).alloc (.cells zIc.toArray 25)) w.heap.size [.bool a.neg, .slice A1 a.l.length c1] := ((BX.new w _).alloc _).alloc _
  have hB0 : BX 25 (((w.alloc (.cells [.bool a.neg, .slice A1 a.l.length c1].toArray 25)).alloc (.cells [.bool b.neg, .slice B1 b.l.length d1].toArray 25)).alloc (.cells zIc.toArray 25)) (w.heap.size + 1) [.bool b.neg, .slice B1 b.l.length d1] := by simpa using (BX.new (t := 25) (w.alloc (.cells [.bool a.neg, .slice A1 a.l.length c1].toArray 25)) [.bool b.neg, .slice B1 b.l.length d1]).alloc (.cells zIc.toArray 25)
  have hR0 : BX 25 (((w.alloc (.cells [.bool a.neg, .slice A1 a.l.length c1].toArray 25)).alloc (.cells [.bool b.neg, .slice B1 b.l.length d1].toArray 25)).alloc (.cells zIc.toArray 25)) (w.heap.size + 1 + 1) zIc := by simpa using BX.new (t := 25) ((w.alloc (.cells [.bool a.neg, .slice A1 a.l.length c1].toArray 25)).alloc (.cells [.bool b.neg, .slice B1 b.l.length d1].toArray 25)) zIc
  have hsz : (((w.alloc (.cells [.bool a.neg, .slice A1 a.l.length c1].toArray 25)).alloc (.cells [.bool b.neg, .slice B1 b.l.length d1].toArray 25)).alloc (.cells zIc.toArray 25)).heap.size = w.heap.size + 3 := by simp
  have HCMP := Lib.hid (fun (W : World) (hb : Below w.heap.size w W) => nCmp_calls a.l b.l A1 B1 c1 d1 W (Kd.C_below g1 hb) (Kd.C_below h1 hb) l1 m1 hna hnb)
  have hR : (a.neg = b.neg) ∨ (b.neg = (!a.neg)) := by cases a.neg <;> cases b.neg <;> simp
  obtain ⟨an, al⟩ := a
  obtain ⟨bn, bl⟩ := b
  simp only at *
  clear ha hb g1 h1 hna hnb
  rcases hR with rfl | rfl
  · have hbb : (an == an) = true := by simp
    have HV := Lib.hid (show (BI.mk an al).num + (BI.mk an bl).num = sg an (val (limbs (val al + val bl).toNat)) from (add_same HNA.out HNB.out).symm)
    rw [HV.out]
    go_enter Tryz.func150, Tryz.ntmps150
    go_upto_region 2 with fail
    obtain ⟨W0, hW0e⟩ : ∃ W0, W0 = (((w.alloc (.cells [.bool an, .slice A1 al.length c1].toArray 25)).alloc (.cells [.bool an, .slice B1 bl.length d1].toArray 25)).alloc (.cells zIc.toArray 25)) := ⟨_, rfl⟩
    rw [← hW0e] at hW0 hA0 hB0 hR0 hsz ⊢
    clear hW0e HCMP
    have q1 := hA0.cell (j := 0) rfl
    have q2 := hA0.cell (j := 1) rfl
    have q3 := hB0.cell (j := 1) rfl
    refine wp_region_held_drew (S := fun w' => W0.grownBy w' (some (w.heap.size + 1 + 1))) (by kernel_rfl) (grown_drew _ _) (fun hS => ?_)
    refine wpAnyH_take (i := 0) (v := ?_) rfl (by kernel_rfl) (by kernel_rfl) (by kernel_rfl) (fun _ _ _ h => h) (Or.inl ⟨by rfl, ?_⟩) hS ?_
    case refine_2 => (intro w' hS'; go_simp; try with_reducible rfl)
    simp only [Act.put, List.getElem_toArray, List.getElem_cons_succ, List.getElem_cons_zero, List.setIfInBounds_toArray, List.set_cons_zero, List.set_cons_succ]
    refine wpAnyH_take (i := 1) (v := ?_) rfl (by kernel_rfl) (by kernel_rfl) (by kernel_rfl) (fun _ _ _ h => h) (Or.inl ⟨by rfl, ?_⟩) hS ?_
    case refine_2 => (intro w' hS'; have h12 := cell_grown hS' q1 (fun e => by have e := Option.some.inj e; dsimp only at e; omega); go_simp; try with_reducible rfl)
    simp only [Act.put, List.getElem_toArray, List.getElem_cons_succ, List.getElem_cons_zero, List.setIfInBounds_toArray, List.set_cons_zero, List.set_cons_succ]
    refine wpAnyH_take (i := 2) (v := ?_) rfl (by kernel_rfl) (by kernel_rfl) (by kernel_rfl) (fun _ _ _ h => h) (Or.inl ⟨by rfl, ?_⟩) hS ?_
    case refine_2 => (intro w' hS'; go_simp; try with_reducible rfl)
    simp only [Act.put, List.getElem_toArray, List.getElem_cons_succ, List.getElem_cons_zero, List.setIfInBounds_toArray, List.set_cons_zero, List.set_cons_succ]
    refine wpAnyH_take (i := 3) (v := ?_) rfl (by kernel_rfl) (by kernel_rfl) (by kernel_rfl) (fun _ _ _ h => h) (Or.inl ⟨by rfl, ?_⟩) hS ?_
    case refine_2 => (intro w' hS'; have h12 := cell_grown hS' q2 (fun e => by have e := Option.some.inj e; dsimp only at e; omega); go_simp; try with_reducible rfl)
    simp only [Act.put, List.getElem_toArray, List.getElem_cons_succ, List.getElem_cons_zero, List.setIfInBounds_toArray, List.set_cons_zero, List.set_cons_succ]
    refine wpAnyH_take (i := 4) (v := ?_) rfl (by kernel_rfl) (by kernel_rfl) (by kernel_rfl) (fun _ _ _ h => h) (Or.inl ⟨by rfl, ?_⟩) hS ?_
    case refine_2 => (intro w' hS'; go_simp; try with_reducible rfl)
    simp only [Act.put, List.getElem_toArray, List.getElem_cons_succ, List.getElem_cons_zero, List.setIfInBounds_toArray, List.set_cons_zero, List.set_cons_succ]
    refine wpAnyH_take (i := 5) (v := ?_) rfl (by kernel_rfl) (by kernel_rfl) (by kernel_rfl) (fun _ _ _ h => h) (Or.inl ⟨by rfl, ?_⟩) hS ?_
    case refine_2 => (intro w' hS'; have h12 := cell_grown hS' q3 (fun e => by have e := Option.some.inj e; dsimp only at e; omega); go_simp; try with_reducible rfl)
    simp only [Act.put, List.getElem_toArray, List.getElem_cons_succ, List.getElem_cons_zero, List.setIfInBounds_toArray, List.set_cons_zero, List.set_cons_succ]
    refine wpAnyH_ready (rs := [6]) (by kernel_rfl) (by simp) ?_
    refine AllReadyH.cons (o := _) rfl (fun K hK => ?_) AllReadyH.nil
    go_simp
    refine (nAdd_calls al bl A1 B1 c1 d1 _ (Kd.C_below HG.out (hW0.trans (below_drew (Below.refl _ _)))) (Kd.C_below HH.out (hW0.trans (below_drew (Below.refl _ _)))) (by omega) (by omega) HNA.out HNB.out).mono ?_
    rintro e w1 ⟨v, rfl, ⟨V, e1, rfl, he1, hF⟩, hb1⟩
    have hn := limbs_sum_len HNA.out HNB.out (by omega) (by omega)
    have HF := Lib.hid hF
    clear hF
    refine hK.out _ _ ((grown_then hS hb1)) (fun hS => ?_)
    clear hK K
    try simp only [Act.put, List.getElem_toArray, List.getElem_cons_succ, List.getElem_cons_zero, List.setIfInBounds_toArray, List.set_cons_zero, List.set_cons_succ]
    refine wpAnyH_ready (rs := [7]) (by kernel_rfl) (by simp) ?_
    refine AllReadyH.cons (o := _) rfl (fun K hK => ?_) AllReadyH.nil
    go_simp
    refine (of_calls an (limbs (val al + val bl).toNat) V e1 w1 (Kd.F_now HF.out) he1 (by omega) (lim_limbs _)).mono ?_
    rintro e w2 ⟨cr, rfl, hr, hb2⟩
    have HRr := Lib.hid hr
    have HRl := Lib.hid (kI_len (Kd.FK_now hr))
    have HR1 := Lib.hid (kI.K_one (Kd.FK_now hr))
    clear hr
    refine hK.out _ _ ((grown_then hS hb2)) (fun hS => ?_)
    clear hK K
    try simp only [Act.put, List.getElem_toArray, List.getElem_cons_succ, List.getElem_cons_zero, List.setIfInBounds_toArray, List.set_cons_zero, List.set_cons_succ]
    refine wpAnyH_ready (rs := [8]) (by kernel_rfl) (by simp) ?_
    refine AllReadyH.cons (o := _) rfl (fun K hK => ?_) AllReadyH.nil
    have hb1' : Below W0.heap.size W0 w1 := below_then (below_drew (Below.refl W0.heap.size W0)) (Nat.le_refl _) hb1
    have hR2 := (hR0.below hb1').below hb2
    have hs1 := hb1'.size
    have hs2 := hb2.size
    refine step_store hR2 (by rfl) none rfl _ _ rfl cr rfl rfl (by rw [HRl.out]; exact size25') (by rw [HRl.out]; rfl) HR1.out ?_
    intro w3 hR3 hg3
    refine hK.out _ _ ((grown_row hS hg3)) (fun hS => ?_)
    clear hK K
    try simp only [Act.put, List.getElem_toArray, List.getElem_cons_succ, List.getElem_cons_zero, List.setIfInBounds_toArray, List.set_cons_zero, List.set_cons_succ]
    refine wpAnyH_done (by kernel_rfl) ?_ _
    have hb3 : Below w.heap.size w w3 := hW0.trans (below_grown hS (by omega) (by omega))
    go_wp2
    have hload := hR3.load (P := Tryz.prog) Tryz.underlying25 (by rw [HRl.out]; exact size25')
    refine bodyPost_ret (v := .agg cr.toArray) ?_ rfl ⟨cr, rfl, Kd.FK_mono (Kd.FK_grown HRr.out hg3 (fun k hk e => by cases e; omega)) (fun k hk => by omega), hb3⟩
    simp [results, Tryz.f150, asAddr, Result.andThen, Act.put, hload]
  · have hbb : (an == !an) = false := by cases an <;> rfl
    rcases Int.lt_or_le (val al) (val bl) with hlt | hge
    · have hcm := (show ¬ 0 ≤ cmpI (val al) (val bl) by rw [cmpI_ge]; omega)
      have HV := Lib.hid (show (BI.mk an al).num + (BI.mk (!an) bl).num = sg (!an) (val (limbs (val bl - val al).toNat)) by rw [add_diff HNB.out HNA.out (by omega), Bool.not_not, Int.add_comm]; rfl)
      rw [HV.out]
      obtain ⟨ci, hci⟩ : ∃ ci, ci = cmpI (val al) (val bl) := ⟨_, rfl⟩
      rw [← hci] at hcm HCMP
      clear hci hlt
      go_enter Tryz.func150, Tryz.ntmps150
      go_upto_region 5 with (go_at_call 101; (with_reducible refine (HCMP.out _ hW0).mono ?_); rintro e W0 ⟨rfl, hb0⟩)
      have hA0 := hA0.below hb0
      have hB0 := hB0.below hb0
      have hR0 := hR0.below hb0
      have hs0 := hb0.size
      have hW0 := below_then hW0 (by omega) hb0
      have q1 := hB0.cell (j := 0) rfl
      have q2 := hB0.cell (j := 1) rfl
      have q3 := hA0.cell (j := 1) rfl
      refine wp_region_held_drew (S := fun w' => W0.grownBy w' (some (w.heap.size + 1 + 1))) (by kernel_rfl) (grown_drew _ _) (fun hS => ?_)
      refine wpAnyH_take (i := 0) (v := ?_) rfl (by kernel_rfl) (by kernel_rfl) (by kernel_rfl) (fun _ _ _ h => h) (Or.inl ⟨by rfl, ?_⟩) hS ?_
      case refine_2 => (intro w' hS'; go_simp; try with_reducible rfl)
      simp only [Act.put, List.getElem_toArray, List.getElem_cons_succ, List.getElem_cons_zero, List.setIfInBounds_toArray, List.set_cons_zero, List.set_cons_succ]
      refine wpAnyH_take (i := 1) (v := ?_) rfl (by kernel_rfl) (by kernel_rfl) (by kernel_rfl) (fun _ _ _ h => h) (Or.inl ⟨by rfl, ?_⟩) hS ?_
      case refine_2 => (intro w' hS'; have h12 := cell_grown hS' q1 (fun e => by have e := Option.some.inj e; dsimp only at e; omega); go_simp; try with_reducible rfl)
      simp only [Act.put, List.getElem_toArray, List.getElem_cons_succ, List.getElem_cons_zero, List.setIfInBounds_toArray, List.set_cons_zero, List.set_cons_succ]
      refine wpAnyH_take (i := 2) (v := ?_) rfl (by kernel_rfl) (by kernel_rfl) (by kernel_rfl) (fun _ _ _ h => h) (Or.inl ⟨by rfl, ?_⟩) hS ?_
      case refine_2 => (intro w' hS'; go_simp; try with_reducible rfl)
      simp only [Act.put, List.getElem_toArray, List.getElem_cons_succ, List.getElem_cons_zero, List.setIfInBounds_toArray, List.set_cons_zero, List.set_cons_succ]
      refine wpAnyH_take (i := 3) (v := ?_) rfl (by kernel_rfl) (by kernel_rfl) (by kernel_rfl) (fun _ _ _ h => h) (Or.inl ⟨by rfl, ?_⟩) hS ?_
      case refine_2 => (intro w' hS'; have h12 := cell_grown hS' q2 (fun e => by have e := Option.some.inj e; dsimp only at e; omega); go_simp; try with_reducible rfl)
      simp only [Act.put, List.getElem_toArray, List.getElem_cons_succ, List.getElem_cons_zero, List.setIfInBounds_toArray, List.set_cons_zero, List.set_cons_succ]
      refine wpAnyH_take (i := 4) (v := ?_) rfl (by kernel_rfl) (by kernel_rfl) (by kernel_rfl) (fun _ _ _ h => h) (Or.inl ⟨by rfl, ?_⟩) hS ?_
      case refine_2 => (intro w' hS'; go_simp; try with_reducible rfl)
      simp only [Act.put, List.getElem_toArray, List.getElem_cons_succ, List.getElem_cons_zero, List.setIfInBounds_toArray, List.set_cons_zero, List.set_cons_succ]
      refine wpAnyH_take (i := 5) (v := ?_) rfl (by kernel_rfl) (by kernel_rfl) (by kernel_rfl) (fun _ _ _ h => h) (Or.inl ⟨by rfl, ?_⟩) hS ?_
      case refine_2 => (intro w' hS'; have h12 := cell_grown hS' q3 (fun e => by have e := Option.some.inj e; dsimp only at e; omega); go_simp; try with_reducible rfl)
      simp only [Act.put, List.getElem_toArray, List.getElem_cons_succ, List.getElem_cons_zero, List.setIfInBounds_toArray, List.set_cons_zero, List.set_cons_succ]
      refine wpAnyH_ready (rs := [6]) (by kernel_rfl) (by simp) ?_
      refine AllReadyH.cons (o := _) rfl (fun K hK => ?_) AllReadyH.nil
      go_simp
      refine (nSub_calls bl al B1 A1 d1 c1 _ (Kd.C_below HH.out (hW0.trans (below_drew (Below.refl _ _)))) (Kd.C_below HG.out (hW0.trans (below_drew (Below.refl _ _)))) m1 l1 (by omega) HNB.out HNA.out).mono ?_
      rintro e w1 ⟨v, rfl, ⟨V, e1, rfl, he1, hF⟩, hb1⟩
      have hn := limbs_diff_len HNB.out HNA.out (by omega)
      have HF := Lib.hid hF
      clear hF
      refine hK.out _ _ ((grown_then hS hb1)) (fun hS => ?_)
      clear hK K
      try simp only [Act.put, List.getElem_toArray, List.getElem_cons_succ, List.getElem_cons_zero, List.setIfInBounds_toArray, List.set_cons_zero, List.set_cons_succ]
      refine wpAnyH_ready (rs := [7]) (by kernel_rfl) (by simp) ?_
      refine AllReadyH.cons (o := _) rfl (fun K hK => ?_) AllReadyH.nil
      go_simp
      refine (of_calls (!an) (limbs (val bl - val al).toNat) V e1 w1 (Kd.F_now HF.out) he1 (by omega) (lim_limbs _)).mono ?_
      rintro e w2 ⟨cr, rfl, hr, hb2⟩
      have HRr := Lib.hid hr
      have HRl := Lib.hid (kI_len (Kd.FK_now hr))
      have HR1 := Lib.hid (kI.K_one (Kd.FK_now hr))
      clear hr
      refine hK.out _ _ ((grown_then hS hb2)) (fun hS => ?_)
      clear hK K
      try simp only [Act.put, List.getElem_toArray, List.getElem_cons_succ, List.getElem_cons_zero, List.setIfInBounds_toArray, List.set_cons_zero, List.set_cons_succ]
      refine wpAnyH_ready (rs := [8]) (by kernel_rfl) (by simp) ?_
      refine AllReadyH.cons (o := _) rfl (fun K hK => ?_) AllReadyH.nil
      have hb1' : Below W0.heap.size W0 w1 := below_then (below_drew (Below.refl W0.heap.size W0)) (Nat.le_refl _) hb1
      have hR2 := (hR0.below hb1').below hb2
      have hs1 := hb1'.size
      have hs2 := hb2.size
      refine step_store hR2 (by rfl) none rfl _ _ rfl cr rfl rfl (by rw [HRl.out]; exact size25') (by rw [HRl.out]; rfl) HR1.out ?_
      intro w3 hR3 hg3
      refine hK.out _ _ ((grown_row hS hg3)) (fun hS => ?_)
      clear hK K
      try simp only [Act.put, List.getElem_toArray, List.getElem_cons_succ, List.getElem_cons_zero, List.setIfInBounds_toArray, List.set_cons_zero, List.set_cons_succ]
      refine wpAnyH_done (by kernel_rfl) ?_ _
      have hb3 : Below w.heap.size w w3 := hW0.trans (below_grown hS (by omega) (by omega))
      go_wp2
      have hload := hR3.load (P := Tryz.prog) Tryz.underlying25 (by rw [HRl.out]; exact size25')
      refine bodyPost_ret (v := .agg cr.toArray) ?_ rfl ⟨cr, rfl, Kd.FK_mono (Kd.FK_grown HRr.out hg3 (fun k hk e => by cases e; omega)) (fun k hk => by omega), hb3⟩
      simp [results, Tryz.f150, asAddr, Result.andThen, Act.put, hload]
    · have hcm := (show 0 ≤ cmpI (val al) (val bl) by rw [cmpI_ge]; omega)
      have HV := Lib.hid (show (BI.mk an al).num + (BI.mk (!an) bl).num = sg an (val (limbs (val al - val bl).toNat)) by rw [add_diff HNA.out HNB.out (by omega)]; rfl)
      rw [HV.out]
      obtain ⟨ci, hci⟩ : ∃ ci, ci = cmpI (val al) (val bl) := ⟨_, rfl⟩
      rw [← hci] at hcm HCMP
      clear hci hge
      go_enter Tryz.func150, Tryz.ntmps150
      go_upto_region 4 with (go_at_call 101; (with_reducible refine (HCMP.out _ hW0).mono ?_); rintro e W0 ⟨rfl, hb0⟩)
      have hA0 := hA0.below hb0
      have hB0 := hB0.below hb0
      have hR0 := hR0.below hb0
      have hs0 := hb0.size
      have hW0 := below_then hW0 (by omega) hb0
      have q1 := hA0.cell (j := 0) rfl
      have q2 := hA0.cell (j := 1) rfl
      have q3 := hB0.cell (j := 1) rfl
      refine wp_region_held_drew (S := fun w' => W0.grownBy w' (some (w.heap.size + 1 + 1))) (by kernel_rfl) (grown_drew _ _) (fun hS => ?_)
      refine wpAnyH_take (i := 0) (v := ?_) rfl (by kernel_rfl) (by kernel_rfl) (by kernel_rfl) (fun _ _ _ h => h) (Or.inl ⟨by rfl, ?_⟩) hS ?_
      case refine_2 => (intro w' hS'; go_simp; try with_reducible rfl)
      simp only [Act.put, List.getElem_toArray, List.getElem_cons_succ, List.getElem_cons_zero, List.setIfInBounds_toArray, List.set_cons_zero, List.set_cons_succ]
      refine wpAnyH_take (i := 1) (v := ?_) rfl (by kernel_rfl) (by kernel_rfl) (by kernel_rfl) (fun _ _ _ h => h) (Or.inl ⟨by rfl, ?_⟩) hS ?_
      case refine_2 => (intro w' hS'; have h12 := cell_grown hS' q1 (fun e => by have e := Option.some.inj e; dsimp only at e; omega); go_simp; try with_reducible rfl)
      simp only [Act.put, List.getElem_toArray, List.getElem_cons_succ, List.getElem_cons_zero, List.setIfInBounds_toArray, List.set_cons_zero, List.set_cons_succ]
      refine wpAnyH_take (i := 2) (v := ?_) rfl (by kernel_rfl) (by kernel_rfl) (by kernel_rfl) (fun _ _ _ h => h) (Or.inl ⟨by rfl, ?_⟩) hS ?_
      case refine_2 => (intro w' hS'; go_simp; try with_reducible rfl)
      simp only [Act.put, List.getElem_toArray, List.getElem_cons_succ, List.getElem_cons_zero, List.setIfInBounds_toArray, List.set_cons_zero, List.set_cons_succ]
      refine wpAnyH_take (i := 3) (v := ?_) rfl (by kernel_rfl) (by kernel_rfl) (by kernel_rfl) (fun _ _ _ h => h) (Or.inl ⟨by rfl, ?_⟩) hS ?_
      case refine_2 => (intro w' hS'; have h12 := cell_grown hS' q2 (fun e => by have e := Option.some.inj e; dsimp only at e; omega); go_simp; try with_reducible rfl)
      simp only [Act.put, List.getElem_toArray, List.getElem_cons_succ, List.getElem_cons_zero, List.setIfInBounds_toArray, List.set_cons_zero, List.set_cons_succ]
      refine wpAnyH_take (i := 4) (v := ?_) rfl (by kernel_rfl) (by kernel_rfl) (by kernel_rfl) (fun _ _ _ h => h) (Or.inl ⟨by rfl, ?_⟩) hS ?_
      case refine_2 => (intro w' hS'; go_simp; try with_reducible rfl)
      simp only [Act.put, List.getElem_toArray, List.getElem_cons_succ, List.getElem_cons_zero, List.setIfInBounds_toArray, List.set_cons_zero, List.set_cons_succ]
      refine wpAnyH_take (i := 5) (v := ?_) rfl (by kernel_rfl) (by kernel_rfl) (by kernel_rfl) (fun _ _ _ h => h) (Or.inl ⟨by rfl, ?_⟩) hS ?_
      case refine_2 => (intro w' hS'; have h12 := cell_grown hS' q3 (fun e => by have e := Option.some.inj e; dsimp only at e; omega); go_simp; try with_reducible rfl)
      simp only [Act.put, List.getElem_toArray, List.getElem_cons_succ, List.getElem_cons_zero, List.setIfInBounds_toArray, List.set_cons_zero, List.set_cons_succ]
      refine wpAnyH_ready (rs := [6]) (by kernel_rfl) (by simp) ?_
      refine AllReadyH.cons (o := _) rfl (fun K hK => ?_) AllReadyH.nil
      go_simp
      refine (nSub_calls al bl A1 B1 c1 d1 _ (Kd.C_below HG.out (hW0.trans (below_drew (Below.refl _ _)))) (Kd.C_below HH.out (hW0.trans (below_drew (Below.refl _ _)))) l1 m1 (by omega) HNA.out HNB.out).mono ?_
      rintro e w1 ⟨v, rfl, ⟨V, e1, rfl, he1, hF⟩, hb1⟩
      have hn := limbs_diff_len HNA.out HNB.out (by omega)
      have HF := Lib.hid hF
      clear hF
      refine hK.out _ _ ((grown_then hS hb1)) (fun hS => ?_)
      clear hK K
      try simp only [Act.put, List.getElem_toArray, List.getElem_cons_succ, List.getElem_cons_zero, List.setIfInBounds_toArray, List.set_cons_zero, List.set_cons_succ]
      refine wpAnyH_ready (rs := [7]) (by kernel_rfl) (by simp) ?_
      refine AllReadyH.cons (o := _) rfl (fun K hK => ?_) AllReadyH.nil
      go_simp
      refine (of_calls an (limbs (val al - val bl).toNat) V e1 w1 (Kd.F_now HF.out) he1 (by omega) (lim_limbs _)).mono ?_
      rintro e w2 ⟨cr, rfl, hr, hb2⟩
      have HRr := Lib.hid hr
      have HRl := Lib.hid (kI_len (Kd.FK_now hr))
      have HR1 := Lib.hid (kI.K_one (Kd.FK_now hr))
      clear hr
      refine hK.out _ _ ((grown_then hS hb2)) (fun hS => ?_)
      clear hK K
      try simp only [Act.put, List.getElem_toArray, List.getElem_cons_succ, List.getElem_cons_zero, List.setIfInBounds_toArray, List.set_cons_zero, List.set_cons_succ]
      refine wpAnyH_ready (rs := [8]) (by kernel_rfl) (by simp) ?_
      refine AllReadyH.cons (o := _) rfl (fun K hK => ?_) AllReadyH.nil
      have hb1' : Below W0.heap.size W0 w1 := below_then (below_drew (Below.refl W0.heap.size W0)) (Nat.le_refl _) hb1
      have hR2 := (hR0.below hb1').below hb2
      have hs1 := hb1'.size
      have hs2 := hb2.size
      refine step_store hR2 (by rfl) none rfl _ _ rfl cr rfl rfl (by rw [HRl.out]; exact size25') (by rw [HRl.out]; rfl) HR1.out ?_
      intro w3 hR3 hg3
      refine hK.out _ _ ((grown_row hS hg3)) (fun hS => ?_)
      clear hK K
      try simp only [Act.put, List.getElem_toArray, List.getElem_cons_succ, List.getElem_cons_zero, List.setIfInBounds_toArray, List.set_cons_zero, List.set_cons_succ]
      refine wpAnyH_done (by kernel_rfl) ?_ _
      have hb3 : Below w.heap.size w w3 := hW0.trans (below_grown hS (by omega) (by omega))
      go_wp2
      have hload := hR3.load (P := Tryz.prog) Tryz.underlying25 (by rw [HRl.out]; exact size25')
      refine bodyPost_ret (v := .agg cr.toArray) ?_ rfl ⟨cr, rfl, Kd.FK_mono (Kd.FK_grown HRr.out hg3 (fun k hk e => by cases e; omega)) (fun k hk => by omega), hb3⟩
      simp [results, Tryz.f150, asAddr, Result.andThen, Act.put, hload]
end Go.Proofs.YtlcofdgaidlldaaGreatDoor
namespace Go.Proofs.YtlcofdgaidlldaaGreatDoor
open Go.RowKit Go.Shelf Go.Proofs.YtlcofdgaidlldaaGreatDoorW.PrintWords
set_option linter.unusedVariables false
set_option linter.unusedSimpArgs false
abbrev zDc : List Value := [.int .i64 0, .bool false, .slice none 0 0, .bool false, .string ⟨#[]⟩, .slice none 0 0, .slice none 0 0]
theorem zD_FK (w : World) : Kd.FK kD w (fun _ => False) zD zDc := fun W' _ => zD_K W'
/-- A number as a datum. -/
def numD (a : BI) : Dt := ⟨1, a, false, ⟨#[]⟩, [], []⟩
/-- A number, if it is not too long. -/
def toldD (a : BI) (er : Int) : Dt × Int := if er ≠ 0 then (zD, er) else if 64 < a.l.length then (zD, 12) else (numD a, 0)
set_option maxRecDepth 100000 in
set_option maxHeartbeats 2000000 in
theorem told_calls (a : BI) (ca : List Value) (er : Int) (w : World) (ok : Nat → Prop) (hok : ∀ k, ok k → k < w.heap.size) (ha : Kd.FK kI w ok a ca) :
    Calls Tryz.prog 149 #[.agg ca.toArray, .int .i64 er] w fun e w' => ∃ cd, e = .returned (.tuple #[.agg cd.toArray, .int .i64 (toldD a er).2]) ∧ Kd.FK kD w' ok (toldD a er).1 cd ∧ Below w.heap.size w w' := by
  obtain ⟨A1, c1, rfl, l1, g1⟩ := kI_openF ha
  have HG := Lib.hid g1
  have hW0 : Below w.heap.size w ((w.alloc (.cells [.bool a.neg, .slice A1 a.l.length c1].toArray 25)).alloc (.cells zDc.toArray 28)) := below_alloc (below_alloc (Below.refl _ _) _) _
  have hR0 : BX 28 ((w.alloc (.cells [.bool a.neg, .slice A1 a.l.length c1].toArray 25)).alloc (.cells zDc.toArray 28)) (w.heap.size + 1) zDc := by simpa using BX.new (t := 28) (w.alloc (.cells [.bool a.neg, .slice A1 a.l.length c1].toArray 25)) zDc
  have hs0 : ((w.alloc (.cells [.bool a.neg, .slice A1 a.l.length c1].toArray 25)).alloc (.cells zDc.toArray 28)).heap.size = w.heap.size + 2 := by simp
  have HO := Lib.hid hok
  have hm := Kd.F_max g1
  clear ha g1 hok
  by_cases he : er = 0
  · subst he
    by_cases hl : 64 < a.l.length
    · have HT := Lib.hid (show toldD a 0 = (zD, 12) by rw [toldD, if_neg (by simp), if_pos hl])
      rw [HT.out]
      go_enter Tryz.func149, Tryz.ntmps149
      go_wp2_with ((with_reducible refine store_bx hR0 none rfl ?_ _ _ rfl zDc ?_ ?_ ?_ ?_ ?_ ?_); (case _ => rfl); (case _ => rfl); (case _ => rfl); (case _ => exact size28'); (case _ => rfl); (case _ => decide); intro w2 hR2 hg2)
      have hload := hR2.load (P := Tryz.prog) Tryz.underlying28 (by exact size28')
      have hb2 : Below w.heap.size w w2 := hW0.trans (below_grown hg2 (by omega) (by omega))
      refine bodyPost_ret (v := .tuple #[.agg zDc.toArray, .int .i64 12]) ?_ rfl ⟨zDc, rfl, Kd.FK_mono (zD_FK _) (fun _ h => h.elim), hb2⟩
      simp [results, Tryz.f149, asAddr, Result.andThen, Act.put, hload]
    · have HT := Lib.hid (show toldD a 0 = (numD a, 0) by rw [toldD, if_neg (by simp), if_neg hl])
      rw [HT.out]
      go_enter Tryz.func149, Tryz.ntmps149
      go_wp2_with ((with_reducible refine store_bx hR0 none rfl ?_ _ _ rfl [.int .i64 1, .bool a.neg, .slice A1 a.l.length c1, .bool false, .string ⟨#[]⟩, .slice none 0 0, .slice none 0 0] ?_ ?_ ?_ ?_ ?_ ?_); (case _ => rfl); (case _ => rfl); (case _ => rfl); (case _ => exact size28'); (case _ => rfl); (case _ => simp [Value.oneCell']); intro w2 hR2 hg2)
      have hload := hR2.load (P := Tryz.prog) Tryz.underlying28 (by exact size28')
      have hb2 : Below w.heap.size w w2 := hW0.trans (below_grown hg2 (by omega) (by omega))
      have hK := kD_mkF w2 ok (numD a) (A2 := A1) (c2 := c1) l1 (Kd.F_below HG.out hb2) (A5 := none) (c5 := 0) (Nat.le_refl 0) (Kd.F_nil _ _ _) (A6 := none) (c6 := 0) (Nat.le_refl 0) (Kd.F_nil _ _ _)
      refine bodyPost_ret (v := .tuple #[.agg ([.int .i64 1, .bool a.neg, .slice A1 a.l.length c1, .bool false, .string ⟨#[]⟩, .slice none 0 0, .slice none 0 0] : List Value).toArray, .int .i64 0]) ?_ rfl ⟨_, rfl, hK, hb2⟩
      simp [results, Tryz.f149, asAddr, Result.andThen, Act.put, hload]
  · have HT := Lib.hid (show toldD a er = (zD, er) by rw [toldD, if_pos he])
    rw [HT.out]
    have hne : (er != 0) = true := by simp [he]
    clear he
    go_enter Tryz.func149, Tryz.ntmps149
    go_wp2_with ((with_reducible refine store_bx hR0 none rfl ?_ _ _ rfl zDc ?_ ?_ ?_ ?_ ?_ ?_); (case _ => rfl); (case _ => rfl); (case _ => rfl); (case _ => exact size28'); (case _ => rfl); (case _ => decide); intro w2 hR2 hg2)
    have hload := hR2.load (P := Tryz.prog) Tryz.underlying28 (by exact size28')
    have hb2 : Below w.heap.size w w2 := hW0.trans (below_grown hg2 (by omega) (by omega))
    refine bodyPost_ret (v := .tuple #[.agg zDc.toArray, .int .i64 er]) ?_ rfl ⟨zDc, rfl, Kd.FK_mono (zD_FK _) (fun _ h => h.elim), hb2⟩
    simp [results, Tryz.f149, asAddr, Result.andThen, Act.put, hload]
end Go.Proofs.YtlcofdgaidlldaaGreatDoor
namespace Go.Proofs.YtlcofdgaidlldaaGreatDoor
open Go.RowKit Go.Shelf Go.Proofs.YtlcofdgaidlldaaGreatDoorW.PrintWords
set_option linter.unusedVariables false
set_option linter.unusedSimpArgs false
section
variable {ops : Array Oper} {rest : List Oper} {a : Act} {w : World} {o : Oper} {Q : Exit → Act → World → Prop}
theorem ldI {cs : List Value} {gb : Nat} (N : Tmp) (hB : BX 25 w gb cs) (hl : Hid (cs.length = 2)) (hN : o.dst = some N) (hgd : o.guard = none) (x : Operand) (ho : o.op = .load 25 x) (hx : a.eval x = .pointer (some ⟨gb, 0, none⟩))
    (h : wpList Tryz.prog ops Q rest (a.put (some N) (.agg cs.toArray)) w) : wpList Tryz.prog ops Q (o :: rest) a w :=
  load_list N hN hgd 25 x ho ⟨gb, 0, none⟩ hx cs _ hB.cells Tryz.underlying25 rfl (by rw [hl.out]; exact size25') h
theorem stD {cs cz : List Value} {gb : Nat} (hB : BX 28 w gb cz) (hz : cz.length = 7) (hl : Hid (cs.length = 7)) (h1 : Hid (∀ u ∈ cs, u.oneCell' = true)) (N : Option Tmp) (hN : o.dst = N) (hgd : o.guard = none) (x yo : Operand) (ho : o.op = .store 28 x yo) (hx : a.eval x = .pointer (some ⟨gb, 0, none⟩)) (hv : a.eval yo = .agg cs.toArray)
    (h : ∀ w', BX 28 w' gb cs → w.grownBy w' (some gb) → wpList Tryz.prog ops Q rest (a.put N undef) w') : wpList Tryz.prog ops Q (o :: rest) a w :=
  store_bx hB N hN hgd x yo ho cs hx hv (by rw [hl.out]; exact size28') (by rw [hz, hl.out]) h1.out h
theorem loadD {cs : List Value} {gb : Nat} (hB : BX 28 w gb cs) (hl : Hid (cs.length = 7)) : (loadVar 28 ⟨gb, 0, none⟩).run Tryz.prog w = .ok (.agg cs.toArray) w := hB.load Tryz.underlying28 (by rw [hl.out]; exact size28')
end
set_option maxRecDepth 100000 in
set_option maxHeartbeats 4000000 in
theorem numbers_add (a b : BI) (ca cb : List Value) (w : World) (ha : kI.K w a ca) (hb : kI.K w b cb) (hla : a.l.length ≤ 99999) (hlb : b.l.length ≤ 99999) (hna : lim a.l) (hnb : lim b.l) :
    Calls Tryz.prog 121 #[.int .i64 1, .agg ca.toArray, .agg cb.toArray] w fun e w' => ∃ cd, e = .returned (.tuple #[.agg cd.toArray, .int .i64 (toldD (mkI (a.num + b.num)) 0).2]) ∧ Kd.FK kD w' (fun k => w.heap.size ≤ k) (toldD (mkI (a.num + b.num)) 0).1 cd ∧ Below w.heap.size w w' := by
  have HAl := Lib.hid (kI_len ha)
  have HBl := Lib.hid (kI_len hb)
  have HADD := Lib.hid (fun (W : World) (h : Below w.heap.size w W) => wAdd_calls a b ca cb W (kI.K_below h ha) (kI.K_below h hb) hla hlb hna hnb)
  obtain ⟨n, hn⟩ : ∃ n, n = mkI (a.num + b.num) := ⟨_, rfl⟩
  rw [← hn] at HADD ⊢
  have hW0 : Below w.heap.size w (((w.alloc (.cells ca.toArray 25)).alloc (.cells cb.toArray 25)).alloc (.cells zDc.toArray 28)) := below_alloc (below_alloc (below_alloc (Below.refl _ _) _) _) _
  have hA0 : BX 25 (((w.alloc (.cells ca.toArray 25)).alloc (.cells cb.toArray 25)).alloc (.cells zDc.toArray 28)) w.heap.size ca := ((BX.new w _).alloc _).alloc _
  have hB0 : BX 25 (((w.alloc (.cells ca.toArray 25)).alloc (.cells cb.toArray 25)).alloc (.cells zDc.toArray 28)) (w.heap.size + 1) cb := by simpa using (BX.new (t := 25) (w.alloc (.cells ca.toArray 25)) cb).alloc (.cells zDc.toArray 28)
  have hR0 : BX 28 (((w.alloc (.cells ca.toArray 25)).alloc (.cells cb.toArray 25)).alloc (.cells zDc.toArray 28)) (w.heap.size + 1 + 1) zDc := by simpa using BX.new (t := 28) ((w.alloc (.cells ca.toArray 25)).alloc (.cells cb.toArray 25)) zDc
  have hs0 : (((w.alloc (.cells ca.toArray 25)).alloc (.cells cb.toArray 25)).alloc (.cells zDc.toArray 28)).heap.size = w.heap.size + 3 := by simp
  clear ha hb hn hna hnb
  go_enter Tryz.func121, Tryz.ntmps121
  go_wp2_with (first
    | ((with_reducible refine ldI 15 hA0 HAl rfl ?_ _ rfl ?_ ?_); (case _ => rfl); (case _ => rfl))
    | ((with_reducible refine ldI 16 hB0 HBl rfl ?_ _ rfl ?_ ?_); (case _ => rfl); (case _ => rfl))
    | (go_at_call 150; (with_reducible refine (HADD.out _ hW0).mono ?_); rintro e w1 ⟨cn, rfl, hn, hb1⟩; have hs1 := hb1.size; have HT := Lib.hid (told_calls n cn 0 w1 (fun k => w.heap.size + 3 ≤ k ∧ k < w1.heap.size) (fun k hk => hk.2) (Kd.FK_mono (Kd.FK_bound hn) (fun k hk => ⟨by omega, hk.2⟩))); have hR1 := hR0.below hb1; clear hn)
    | (go_at_call 149; (with_reducible refine HT.out.mono ?_); rintro e w2 ⟨cd, rfl, hd, hb2⟩; have HDl := Lib.hid (kD_len (Kd.FK_now hd)); have HD1 := Lib.hid (kD.K_one (Kd.FK_now hd)); have HD := Lib.hid hd; have hR2 := hR1.below hb2; have hs2 := hb2.size; clear hd)
    | ((with_reducible refine stD hR2 rfl HDl HD1 none rfl ?_ _ _ rfl ?_ ?_ ?_); (case _ => rfl); (case _ => rfl); (case _ => rfl); intro w3 hR3 hg3))
  have hload := loadD hR3 HDl
  have hb3 : Below w.heap.size w w3 := (below_then (below_then hW0 (by omega) hb1) (by omega) hb2).trans (below_grown hg3 (by omega) (by omega))
  refine bodyPost_ret (v := .tuple #[.agg cd.toArray, .int .i64 (toldD n 0).2]) ?_ rfl ⟨cd, rfl, Kd.FK_mono (Kd.FK_grown HD.out hg3 (fun k hk e => by cases e; omega)) (fun k hk => by omega), hb3⟩
  simp [results, Tryz.f121, asAddr, Result.andThen, Act.put, hload]
theorem grown_old {w w1 W : World} {g : Nat} (h : Below w.heap.size w w1) (hs : w1.grownBy W (some g)) (hg : w.heap.size ≤ g) : w.grownBy W none :=
  ⟨hs.os.trans h.os, hs.tape.trans h.tape, hs.output.trans h.output, Nat.le_trans h.size hs.size, fun k hk _ => (hs.block k (Nat.lt_of_lt_of_le hk h.size) (fun e => by cases e; omega)).trans (h.block k hk)⟩
theorem grown_to_below {w w1 W : World} {g : Nat} (h : Below w.heap.size w w1) (hs : w1.grownBy W (some g)) (hg : w.heap.size ≤ g) : Below w.heap.size w W := h.trans (below_grown hs h.size hg)
/-- An element of a row of data, with its number. -/
theorem elDI {w : World} {A : Option Addr} {n : Nat} {xs : List Dt} (h : kD.C w A n xs) {k : Nat} (hk : k < n) :
    ∃ ad A2 c2, A = some ad ∧ w.cell? (ad.add (k * 7)) = some (.int .i64 (rdD xs k).kind) ∧ w.cell? ⟨(ad.add (k * 7)).block, (ad.add (k * 7)).off + 1, none⟩ = some (.bool (rdD xs k).i.neg) ∧ w.cell? ⟨(ad.add (k * 7)).block, (ad.add (k * 7)).off + 2, none⟩ = some (.slice A2 (rdD xs k).i.l.length c2) ∧ kI.K w (rdD xs k).i [.bool (rdD xs k).i.neg, .slice A2 (rdD xs k).i.l.length c2] := by
  obtain ⟨ad, A2, c2, A5, c5, A6, c6, hA, h0, h1, h2, h3, h4, h5, h6, l2, g2, _⟩ := atD h (k : Int) (by omega) (by omega)
  exact ⟨ad, A2, c2, hA, h0, h1, h2, kI_mk w _ l2 g2⟩
set_option maxRecDepth 100000 in
set_option maxHeartbeats 4000000 in
theorem Do_add (a b : BI) (da db : Dt) (hda : da.kind = 1 ∧ da.i = a) (hdb : db.kind = 1 ∧ db.i = b) (A : Option Addr) (c : Nat) (w : World) (hL : Laid w) (hx : kD.C w A 2 [da, db]) (hla : a.l.length ≤ 90000) (hlb : b.l.length ≤ 90000) (hna : lim a.l) (hnb : lim b.l) :
    Calls Tryz.prog 78 #[.int .i64 1, .slice A 2 c] w fun e w' => ∃ cd, e = .returned (.tuple #[.agg cd.toArray, .int .i64 (toldD (mkI (a.num + b.num)) 0).2]) ∧ Kd.FK kD w' (fun k => w.heap.size ≤ k) (toldD (mkI (a.num + b.num)) 0).1 cd ∧ Below w.heap.size w w' := by
  obtain ⟨ad, A2, c2, hA, h0, h1, h2, hKa⟩ := elDI hx (show 0 < 2 by omega)
  obtain ⟨ad', B2, d2, hA', k0, k1, k2, hKb⟩ := elDI hx (show 1 < 2 by omega)
  rw [hA] at hA'
  cases hA'
  subst hA
  have e0 : rdD [da, db] (0 : Nat) = da := rfl
  have e1 : rdD [da, db] (1 : Nat) = db := rfl
  rw [e0] at h0 h1 h2 hKa
  rw [e1] at k0 k1 k2 hKb
  obtain ⟨hk1, rfl⟩ := hda
  obtain ⟨hk2, rfl⟩ := hdb
  rw [hk1] at h0
  rw [hk2] at k0
  have HAR := Lib.hid (fun (W : World) (h : Below w.heap.size w W) => Arity_calls 1 W (hL.below h))
  have hW0 : Below w.heap.size w (w.alloc (.cells zDc.toArray 28)) := below_alloc (Below.refl _ _) _
  have hR0 : BX 28 (w.alloc (.cells zDc.toArray 28)) w.heap.size zDc := BX.new w zDc
  have hp1 : plainB 1 = true := rfl
  have har : arityF 1 = 2 := rfl
  rw [har] at HAR
  have HPL := Lib.hid (fun (W : World) => Plain_calls 1 W)
  rw [hp1] at HPL
  have hbk : ad.block < w.heap.size := by
    have := World.block_lt_of_cell? w _ h0
    simpa [add_block] using this
  rw [show ad.add (0 * 7) = ad by simp [Addr.add]] at h0 h1 h2
  rw [show ad.add (1 * 7) = ⟨ad.block, ad.off + 7, none⟩ by simp [Addr.add]] at k0 k1 k2
  have hcA : ∀ (W : World), w.grownBy W none → ∀ j u, ([.bool da.i.neg, .slice A2 da.i.l.length c2] : List Value)[j]? = some u → W.cell? ((⟨ad.block, ad.off + 1, none⟩ : Addr).add j) = some u := by
    intro W hg j u hj
    rw [add_at]
    match j, hj with
    | 0, hj => rw [← Option.some.inj hj]; exact cell_grown hg h1 (by simp)
    | 1, hj => rw [← Option.some.inj hj]; exact cell_grown hg h2 (by simp)
  have hcB : ∀ (W : World), w.grownBy W none → ∀ j u, ([.bool db.i.neg, .slice B2 db.i.l.length d2] : List Value)[j]? = some u → W.cell? ((⟨ad.block, ad.off + 7 + 1, none⟩ : Addr).add j) = some u := by
    intro W hg j u hj
    rw [add_at]
    match j, hj with
    | 0, hj => rw [← Option.some.inj hj]; exact cell_grown hg k1 (by simp)
    | 1, hj => rw [← Option.some.inj hj]; exact cell_grown hg k2 (by simp)
  have HCA := Lib.hid hcA
  have HCB := Lib.hid hcB
  have HNM := Lib.hid (fun (W : World) (h : Below w.heap.size w W) => And.intro (wNorm_calls da.i [.bool da.i.neg, .slice A2 da.i.l.length c2] W (kI.K_below h hKa) (by omega) hna) (wNorm_calls db.i [.bool db.i.neg, .slice B2 db.i.l.length d2] W (kI.K_below h hKb) (by omega) hnb))
  have hnum : (mkI da.i.num).num + (mkI db.i.num).num = da.i.num + db.i.num := by rw [num_mkI, num_mkI]
  have hma : (mkI da.i.num).l.length ≤ 90000 := by rw [mkI_num hna]; exact Nat.le_trans (normL_len _) hla
  have hmb : (mkI db.i.num).l.length ≤ 90000 := by rw [mkI_num hnb]; exact Nat.le_trans (normL_len _) hlb
  have HNU := Lib.hid (fun (W : World) (ca cb : List Value) (h1 : kI.K W (mkI da.i.num) ca) (h2 : kI.K W (mkI db.i.num) cb) => numbers_add _ _ ca cb W h1 h2 (by omega) (by omega) (lim_mkI _) (lim_mkI _))
  rw [hnum] at HNU
  obtain ⟨r, hr⟩ : ∃ r, r = toldD (mkI (da.i.num + db.i.num)) 0 := ⟨_, rfl⟩
  rw [← hr] at HNU ⊢
  have HL := Lib.hid hL
  clear hx hk1 hk2 e0 e1 h1 h2 k1 k2 hcA hcB hKa hKb hna hnb hnum hma hmb hr hL
  go_enter Tryz.func78, Tryz.ntmps78
  go_upto_region 8 with (first
    | (go_at_call 76; (with_reducible refine (HPL.out _).mono ?_); rintro e w' ⟨rfl, rfl⟩)
    | (go_at_call 70; (with_reducible refine (HAR.out _ hW0).mono ?_); rintro e w1 ⟨rfl, hb1⟩; have hw1 := below_then hW0 (by simp) hb1; have r0 := pw_cell_below hw1 h0; have s0 := pw_cell_below hw1 k0; have hR1 := hR0.below hb1))
  have HW1 := Lib.hid hw1
  refine wp_region_held_drew (S := fun w' => w1.grownBy w' (some w.heap.size)) (by kernel_rfl) (grown_drew _ _) (fun hS => ?_)
  refine wpAnyH_take (i := 0) (v := ?_) rfl (by kernel_rfl) (by kernel_rfl) (by kernel_rfl) (fun _ _ _ h => h) (Or.inl ⟨by rfl, ?_⟩) hS ?_
  case refine_2 => (intro w' hS'; go_simp; try with_reducible rfl)
  simp only [Act.put, List.getElem_toArray, List.getElem_cons_succ, List.getElem_cons_zero, List.setIfInBounds_toArray, List.set_cons_zero, List.set_cons_succ]
  refine wpAnyH_take (i := 1) (v := ?_) rfl (by kernel_rfl) (by kernel_rfl) (by kernel_rfl) (fun _ _ _ h => h) (Or.inl ⟨by rfl, ?_⟩) hS ?_
  case refine_2 => (intro w' hS'; go_simp; try with_reducible rfl)
  simp only [Act.put, List.getElem_toArray, List.getElem_cons_succ, List.getElem_cons_zero, List.setIfInBounds_toArray, List.set_cons_zero, List.set_cons_succ]
  refine wpAnyH_take (i := 2) (v := ?_) rfl (by kernel_rfl) (by kernel_rfl) (by kernel_rfl) (fun _ _ _ h => h) (Or.inl ⟨by rfl, ?_⟩) hS ?_
  case refine_2 => (intro w' hS'; go_simp; try with_reducible rfl)
  simp only [Act.put, List.getElem_toArray, List.getElem_cons_succ, List.getElem_cons_zero, List.setIfInBounds_toArray, List.set_cons_zero, List.set_cons_succ]
  refine wpAnyH_take (i := 3) (v := ?_) rfl (by kernel_rfl) (by kernel_rfl) (by kernel_rfl) (fun _ _ _ h => h) (Or.inl ⟨by rfl, ?_⟩) hS ?_
  case refine_2 => (intro w' hS'; go_simp; try with_reducible rfl)
  simp only [Act.put, List.getElem_toArray, List.getElem_cons_succ, List.getElem_cons_zero, List.setIfInBounds_toArray, List.set_cons_zero, List.set_cons_succ]
  refine wpAnyH_take (i := 4) rfl (by kernel_rfl) (by kernel_rfl) (by kernel_rfl) (fun _ _ _ h => h) (held_loadS (by rfl) 25 _ rfl ⟨ad.block, ad.off + 1, none⟩ rfl [.bool da.i.neg, .slice A2 da.i.l.length c2] _ (fun w' hS' => HCA.out w' (grown_old HW1.out hS' (Nat.le_refl _))) Tryz.underlying25 rfl size25') hS ?_
  simp only [Act.put, List.getElem_toArray, List.getElem_cons_succ, List.getElem_cons_zero, List.setIfInBounds_toArray, List.set_cons_zero, List.set_cons_succ]
  refine wpAnyH_take (i := 6) (v := ?_) rfl (by kernel_rfl) (by kernel_rfl) (by kernel_rfl) (fun _ _ _ h => h) (Or.inl ⟨by rfl, ?_⟩) hS ?_
  case refine_2 => (intro w' hS'; go_simp; try with_reducible rfl)
  simp only [Act.put, List.getElem_toArray, List.getElem_cons_succ, List.getElem_cons_zero, List.setIfInBounds_toArray, List.set_cons_zero, List.set_cons_succ]
  refine wpAnyH_take (i := 7) (v := ?_) rfl (by kernel_rfl) (by kernel_rfl) (by kernel_rfl) (fun _ _ _ h => h) (Or.inl ⟨by rfl, ?_⟩) hS ?_
  case refine_2 => (intro w' hS'; go_simp; try with_reducible rfl)
  simp only [Act.put, List.getElem_toArray, List.getElem_cons_succ, List.getElem_cons_zero, List.setIfInBounds_toArray, List.set_cons_zero, List.set_cons_succ]
  refine wpAnyH_take (i := 8) (v := ?_) rfl (by kernel_rfl) (by kernel_rfl) (by kernel_rfl) (fun _ _ _ h => h) (Or.inl ⟨by rfl, ?_⟩) hS ?_
  case refine_2 => (intro w' hS'; go_simp; try with_reducible rfl)
  simp only [Act.put, List.getElem_toArray, List.getElem_cons_succ, List.getElem_cons_zero, List.setIfInBounds_toArray, List.set_cons_zero, List.set_cons_succ]
  refine wpAnyH_take (i := 9) rfl (by kernel_rfl) (by kernel_rfl) (by kernel_rfl) (fun _ _ _ h => h) (held_loadS (by rfl) 25 _ rfl ⟨ad.block, ad.off + 7 + 1, none⟩ rfl [.bool db.i.neg, .slice B2 db.i.l.length d2] _ (fun w' hS' => HCB.out w' (grown_old HW1.out hS' (Nat.le_refl _))) Tryz.underlying25 rfl size25') hS ?_
  simp only [Act.put, List.getElem_toArray, List.getElem_cons_succ, List.getElem_cons_zero, List.setIfInBounds_toArray, List.set_cons_zero, List.set_cons_succ]
  refine wpAnyH_ready (rs := [5]) (by kernel_rfl) (by simp) ?_
  refine AllReadyH.cons (o := _) rfl (fun K hK => ?_) AllReadyH.nil
  go_simp
  refine (HNM.out _ (grown_to_below HW1.out hS (Nat.le_refl _))).1.mono ?_
  rintro e w2 ⟨ca, rfl, ha, hb2⟩
  have hb2' : Below w1.heap.size w1 w2 := below_then (below_drew (Below.refl w1.heap.size w1)) (Nat.le_refl _) hb2
  have hs1 := HW1.out.size
  have hs2 := hb2'.size
  refine hK.out _ _ ((grown_then hS hb2)) (fun hS => ?_)
  clear hK K
  try simp only [Act.put, List.getElem_toArray, List.getElem_cons_succ, List.getElem_cons_zero, List.setIfInBounds_toArray, List.set_cons_zero, List.set_cons_succ]
  refine wpAnyH_ready (rs := [10]) (by kernel_rfl) (by simp) ?_
  refine AllReadyH.cons (o := _) rfl (fun K hK => ?_) AllReadyH.nil
  go_simp
  refine (HNM.out w2 (below_then HW1.out hs1 hb2')).2.mono ?_
  rintro e w3 ⟨cb, rfl, hb, hb3⟩
  have hs3 := hb3.size
  refine hK.out _ _ ((grown_then hS hb3)) (fun hS => ?_)
  clear hK K
  try simp only [Act.put, List.getElem_toArray, List.getElem_cons_succ, List.getElem_cons_zero, List.setIfInBounds_toArray, List.set_cons_zero, List.set_cons_succ]
  refine wpAnyH_ready (rs := [11]) (by kernel_rfl) (by simp) ?_
  refine AllReadyH.cons (o := _) rfl (fun K hK => ?_) AllReadyH.nil
  go_simp
  refine (HNU.out w3 ca cb (kI.K_below hb3 (Kd.FK_now ha)) (Kd.FK_now hb)).mono ?_
  rintro e w4 ⟨cd, rfl, hd, hb4⟩
  have HDl := Lib.hid (kD_len (Kd.FK_now hd))
  have HD1 := Lib.hid (kD.K_one (Kd.FK_now hd))
  have HD := Lib.hid hd
  have hs4 := hb4.size
  have hR4 := ((hR1.below hb2').below hb3).below hb4
  clear hd ha hb
  refine hK.out _ _ ((grown_then hS hb4)) (fun hS => ?_)
  clear hK K
  try simp only [Act.put, List.getElem_toArray, List.getElem_cons_succ, List.getElem_cons_zero, List.setIfInBounds_toArray, List.set_cons_zero, List.set_cons_succ]
  refine wpAnyH_take (i := 12) (v := ?_) rfl (by kernel_rfl) (by kernel_rfl) (by kernel_rfl) (fun _ _ _ h => h) (Or.inl ⟨by rfl, ?_⟩) hS ?_
  case refine_2 => (intro w' hS'; go_simp; try with_reducible rfl)
  simp only [Act.put, List.getElem_toArray, List.getElem_cons_succ, List.getElem_cons_zero, List.setIfInBounds_toArray, List.set_cons_zero, List.set_cons_succ]
  refine wpAnyH_take (i := 13) (v := ?_) rfl (by kernel_rfl) (by kernel_rfl) (by kernel_rfl) (fun _ _ _ h => h) (Or.inl ⟨by rfl, ?_⟩) hS ?_
  case refine_2 => (intro w' hS'; go_simp; try with_reducible rfl)
  simp only [Act.put, List.getElem_toArray, List.getElem_cons_succ, List.getElem_cons_zero, List.setIfInBounds_toArray, List.set_cons_zero, List.set_cons_succ]
  refine wpAnyH_ready (rs := [14]) (by kernel_rfl) (by simp) ?_
  refine AllReadyH.cons (o := _) rfl (fun K hK => ?_) AllReadyH.nil
  refine step_store hR4 (by rfl) none rfl _ _ rfl cd rfl rfl (by rw [HDl.out]; exact size28') (by rw [HDl.out]; rfl) HD1.out ?_
  intro w5 hR5 hg5
  refine hK.out _ _ ((grown_row hS hg5)) (fun hS => ?_)
  clear hK K
  try simp only [Act.put, List.getElem_toArray, List.getElem_cons_succ, List.getElem_cons_zero, List.setIfInBounds_toArray, List.set_cons_zero, List.set_cons_succ]
  refine wpAnyH_take (i := 15) (v := ?_) rfl (by kernel_rfl) (by kernel_rfl) (by kernel_rfl) (fun _ _ _ h => h) (Or.inl ⟨by rfl, ?_⟩) hS ?_
  case refine_2 => (intro w' hS'; go_simp; try with_reducible rfl)
  simp only [Act.put, List.getElem_toArray, List.getElem_cons_succ, List.getElem_cons_zero, List.setIfInBounds_toArray, List.set_cons_zero, List.set_cons_succ]
  refine wpAnyH_done (by kernel_rfl) ?_ _
  have hb5 := grown_to_below HW1.out hS (Nat.le_refl _)
  go_wp2
  have hload := loadD hR5 HDl
  refine bodyPost_ret (v := .tuple #[.agg cd.toArray, .int .i64 r.2]) ?_ rfl ⟨cd, rfl, Kd.FK_mono (Kd.FK_grown HD.out hg5 (fun k hk e => by cases e; have := hR1.lt; omega)) (fun k hk => by omega), hb5⟩
  simp [results, Tryz.f78, asAddr, Result.andThen, Act.put, hload]
end Go.Proofs.YtlcofdgaidlldaaGreatDoor
