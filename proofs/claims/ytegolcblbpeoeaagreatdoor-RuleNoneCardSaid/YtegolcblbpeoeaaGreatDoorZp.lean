/- Contract: core.Put, with footprints. The walk's conditions: the parameters' memory; not more than a million expressions. Contract: core.swap, core.Swap, with footprints. The walks' conditions: the parameters' memory; not more than a million expressions. Contract: core.Swap, with footprints. The walk's conditions: the parameters' memory. -/
import Derived.Test.YtegolcblbpeoeaaGreatDoorZo
namespace Go.Proofs.YtegolcblbpeoeaaGreatDoor
open Go.RowKit Go.Shelf Go.Proofs.YtegolcblbpeoeaaGreatDoorW.PrintWords
set_option linter.unusedVariables false
set_option linter.unusedSimpArgs false
/-- Another expression where a path leads to. -/
def Ex.put (x : Ex) : List Int → Ex → Option Ex
  | [], y => some y
  | i :: p, y => if 0 ≤ i ∧ i < x.kids.length then ((rdE x.kids i).put p y).map (fun z => x.with i.toNat z) else none
theorem Ex.allL_kids (l : List Ex) : l.length ≤ (Ex.allL l).length := by
  induction l with
  | nil => simp [Ex.allL]
  | cons x xs ih => rw [Ex.allL, List.length_append, x.all_eq, List.length_cons, List.length_cons]; omega
theorem Ex.kids_all (x : Ex) : x.kids.length < x.all.length := by
  have := Ex.allL_kids x.kids
  rw [x.all_eq, List.length_cons]; omega
theorem Ex.kid_all (x : Ex) {k : Nat} (h : k < x.kids.length) : (rdE x.kids k).all.length < x.all.length := by
  have h1 := Ex.allL_len h
  have h2 := Ex.allL_le x.kids (k + 1)
  rw [x.all_eq, List.length_cons]; omega
set_option maxRecDepth 100000 in
set_option maxHeartbeats 4000000 in
theorem Put_calls (path : List Int) : ∀ (x y : Ex) (cs cy : List Value) (A : Option Addr) (c : Nat) (w : World) (ok : Nat → Prop), (∀ k, ok k → k < w.heap.size) → Kd.FK kE w ok x cs → Kd.FK kE w ok y cy → (Kd.int .i64).C w A path.length path → path.length ≤ c → x.all.length ≤ 1000000 →
    Calls Tryz.prog 18 #[.agg cs.toArray, .slice A path.length c, .agg cy.toArray] w fun e w' => ∃ cs', e = .returned (.tuple #[.agg cs'.toArray, .bool (x.put path y).isSome]) ∧ Kd.FK kE w' (okN ok w.heap.size) ((x.put path y).getD zE) cs' ∧ Below w.heap.size w w' := by
  induction path with
  | nil =>
    intro x y cs cy A c w ok hok hx hy hp hpc hl
    have HYl := Lib.hid (kE_len (Kd.FK_now hy))
    have HY1 := Lib.hid (kE.K_one (Kd.FK_now hy))
    have HY := Lib.hid hy
    have hb0 : Below w.heap.size w (((w.alloc (.cells cs.toArray 31)).alloc (.cells cy.toArray 31)).alloc (.cells zEc.toArray 31)) := below_alloc (below_alloc (below_alloc (Below.refl _ _) _) _) _
    have hY0 : BX 31 (((w.alloc (.cells cs.toArray 31)).alloc (.cells cy.toArray 31)).alloc (.cells zEc.toArray 31)) (w.heap.size + 1) cy := by simpa using (BX.new (t := 31) (w.alloc (.cells cs.toArray 31)) cy).alloc (.cells zEc.toArray 31)
    have hR0 : BX 31 (((w.alloc (.cells cs.toArray 31)).alloc (.cells cy.toArray 31)).alloc (.cells zEc.toArray 31)) (w.heap.size + 1 + 1) zEc := by simpa using BX.new (t := 31) ((w.alloc (.cells cs.toArray 31)).alloc (.cells cy.toArray 31)) zEc
    clear hx hy hp hok
    go_enter Tryz.func18, Tryz.ntmps18
    go_wp2_with (first
      | ((with_reducible refine load_list 14 rfl ?_ 31 _ rfl ⟨w.heap.size + 1, 0, none⟩ ?_ cy _ hY0.cells Tryz.underlying31 ?_ ?_ ?_); (case _ => rfl); (case _ => rfl); (case _ => rfl); (case _ => rw [HYl.out]; exact size31'))
      | ((with_reducible refine store_bx hR0 none rfl ?_ _ _ rfl cy ?_ ?_ ?_ ?_ ?_ ?_); (case _ => rfl); (case _ => rfl); (case _ => rfl); (case _ => rw [HYl.out]; exact size31'); (case _ => rw [HYl.out]; rfl); (case _ => exact HY1.out); intro w2 hR2 hg2))
    have hload := hR2.load (P := Tryz.prog) Tryz.underlying31 (by rw [HYl.out]; exact size31')
    have hb2 : Below w.heap.size w w2 := hb0.trans (below_grown hg2 (by simp; omega) (by omega))
    refine bodyPost_ret (v := .tuple #[.agg cy.toArray, .bool true]) ?_ rfl ⟨cy, rfl, Kd.FK_mono (Kd.FK_below HY.out hb2) (fun _ h => .inl h), hb2⟩
    simp [results, Tryz.f18, asAddr, Result.andThen, Act.put, hload]
  | cons i p ih =>
    intro x y cs cy A c w ok hok hx hy hp hpc hl
    have HYl := Lib.hid (kE_len (Kd.FK_now hy))
    have HY1 := Lib.hid (kE.K_one (Kd.FK_now hy))
    have HY := Lib.hid hy
    have HXl := Lib.hid (kE_len (Kd.FK_now hx))
    have HX := Lib.hid hx
    have HO := Lib.hid hok
    have hW0 : Below w.heap.size w (((w.alloc (.cells cs.toArray 31)).alloc (.cells cy.toArray 31)).alloc (.cells zEc.toArray 31)) := below_alloc (below_alloc (below_alloc (Below.refl _ _) _) _) _
    have hB0 : BX 31 (((w.alloc (.cells cs.toArray 31)).alloc (.cells cy.toArray 31)).alloc (.cells zEc.toArray 31)) w.heap.size cs := ((BX.new w cs).alloc _).alloc _
    have hY0 : BX 31 (((w.alloc (.cells cs.toArray 31)).alloc (.cells cy.toArray 31)).alloc (.cells zEc.toArray 31)) (w.heap.size + 1) cy := by simpa using (BX.new (t := 31) (w.alloc (.cells cs.toArray 31)) cy).alloc (.cells zEc.toArray 31)
    have hR0 : BX 31 (((w.alloc (.cells cs.toArray 31)).alloc (.cells cy.toArray 31)).alloc (.cells zEc.toArray 31)) (w.heap.size + 1 + 1) zEc := by simpa using BX.new (t := 31) ((w.alloc (.cells cs.toArray 31)).alloc (.cells cy.toArray 31)) zEc
    have hsz : (((w.alloc (.cells cs.toArray 31)).alloc (.cells cy.toArray 31)).alloc (.cells zEc.toArray 31)).heap.size = w.heap.size + 3 := by simp
    obtain ⟨A3, c3, A6, c6, A7, c7, A9, c9, A12, c12, he, l3, g3, l6, g6, l7, g7, l9, g9, l12, g12⟩ := kE_openF hx
    have hc12 : cs[12]? = some (.slice A12 x.kids.length c12) := by rw [he]; rfl
    have q12 := hB0.cell hc12
    have HX12 := Lib.hid g12
    have hm12 := Kd.F_max g12
    have hmp := Kd.C_max hp
    obtain ⟨ad, hA, hc0'⟩ := elI hp (show 0 < (i :: p).length by simp)
    subst hA
    have hc0 := pw_cell_below hW0 hc0'
    have HP := Lib.hid hp
    have HE := Lib.hid (show x.put (i :: p) y = if 0 ≤ i ∧ i < x.kids.length then ((rdE x.kids i).put p y).map (fun z => x.with i.toNat z) else none by rw [Ex.put])
    obtain ⟨r, hr⟩ : ∃ r, r = x.put (i :: p) y := ⟨_, rfl⟩
    rw [← hr] at HE ⊢
    have IH := Lib.hid ih
    clear he hx hy hp g3 g6 g7 g9 g12 l3 l6 l7 l9 hr hc0' ih hok
    rw [show ad.add 0 = ad by simp [Addr.add], List.getD_cons_zero] at hc0
    by_cases h0 : 0 ≤ i ∧ i < x.kids.length
    · obtain ⟨h0a, h0b⟩ := h0
      obtain ⟨m, rfl⟩ : ∃ m : Nat, i = m := ⟨i.toNat, by omega⟩
      obtain ⟨ad2, cc, hA2, hK2, hcc2⟩ := elEF HX12.out (show m < x.kids.length by omega)
      subst hA2
      have HC : Hid (∀ j u, cc[j]? = some u → (((w.alloc (.cells cs.toArray 31)).alloc (.cells cy.toArray 31)).alloc (.cells zEc.toArray 31)).cell? ((ad2.add (m * 13)).add j) = some u) := Lib.hid (fun j u h => pw_cell_below hW0 (hcc2 j u h))
      have hcl := Lib.hid (kE_len (Kd.FK_now hK2))
      have HK2 := Lib.hid hK2
      clear hcc2 hK2
      have hP1 : (Kd.int .i64).C w (if c = 1 then some ad else some ⟨ad.block, ad.off + 1, none⟩) p.length p := by
        have h1 := Kd.C_drop HP.out (m := 1) (by simp) hpc
        by_cases hc1 : c = 1
        · simpa [hc1] using h1
        · simpa [hc1, Addr.add, Kd.int, Kd.scalar] using h1
      obtain ⟨A1, hA1⟩ : ∃ A1, (if c = 1 then some ad else some ⟨ad.block, ad.off + 1, none⟩ : Option Addr) = A1 := ⟨_, rfl⟩
      rw [hA1] at hP1
      have HA1 := Lib.hid hA1
      have HP1 := Lib.hid hP1
      have hpc1 : p.length ≤ c - 1 := by simp at hpc; omega
      clear hA1 hP1
      have HIH := Lib.hid (fun (W : World) (hb : Below w.heap.size w W) => IH.out (rdE x.kids m) y cc cy A1 (c - 1) W ok (fun k hk => Nat.lt_of_lt_of_le (HO.out k hk) hb.size) (Kd.FK_below HK2.out hb) (Kd.FK_below HY.out hb) (Kd.C_below HP1.out hb) hpc1 (by have := x.kid_all (show m < x.kids.length by omega); omega))
      obtain ⟨r', hr'⟩ : ∃ r', r' = (rdE x.kids m).put p y := ⟨_, rfl⟩
      rw [← hr'] at HIH
      have HE2 := Lib.hid (show r = r'.map (fun z => x.with m z) by rw [HE.out, if_pos ⟨h0a, h0b⟩, hr']; simp)
      clear hr' HE IH
      go_enter Tryz.func18, Tryz.ntmps18
      go_upto_region 6 with fail
      obtain ⟨W0, hW0e⟩ : ∃ W0, W0 = (((w.alloc (.cells cs.toArray 31)).alloc (.cells cy.toArray 31)).alloc (.cells zEc.toArray 31)) := ⟨_, rfl⟩
      rw [← hW0e] at hW0 hB0 hY0 hR0 hsz q12 HC ⊢
      clear hW0e
      go_cut [9, 10] (fun v9 v10 wx => ∃ (g : Nat) (cz : List Value), v9 = .pointer (some ⟨g, 0, none⟩) ∧ v10 = .bool r'.isSome ∧ W0.heap.size ≤ g ∧ BX 31 wx g cz ∧ Hid (Kd.FK kE wx (fun k => okN ok W0.heap.size k ∧ k ≠ g) (r'.getD zE) cz) ∧ Below W0.heap.size W0 wx)
      case first =>
        refine wp_region_held_drew (S := Stood W0) (by kernel_rfl) (below_drew (Below.refl _ _)) (fun hS => ?_)
        refine wpAnyH_take (i := 0) (v := ?_) rfl (by kernel_rfl) (by kernel_rfl) (by kernel_rfl) (fun _ _ _ h => h) (Or.inl ⟨by rfl, ?_⟩) hS ?_
        case refine_2 => (intro w' hS'; go_simp; try with_reducible rfl)
        simp only [Act.put, List.getElem_toArray, List.getElem_cons_succ, List.getElem_cons_zero, List.setIfInBounds_toArray, List.set_cons_zero, List.set_cons_succ]
        refine wpAnyH_take (i := 1) (v := ?_) rfl (by kernel_rfl) (by kernel_rfl) (by kernel_rfl) (fun _ _ _ h => h) (Or.inl ⟨by rfl, ?_⟩) hS ?_
        case refine_2 => (intro w' hS'; have h12 := pw_cell_below hS' q12; go_simp; try with_reducible rfl)
        simp only [Act.put, List.getElem_toArray, List.getElem_cons_succ, List.getElem_cons_zero, List.setIfInBounds_toArray, List.set_cons_zero, List.set_cons_succ]
        refine wpAnyH_take (i := 2) (v := ?_) rfl (by kernel_rfl) (by kernel_rfl) (by kernel_rfl) (fun _ _ _ h => h) (Or.inl ⟨by rfl, ?_⟩) hS ?_
        case refine_2 => (intro w' hS'; go_simp; try with_reducible rfl)
        simp only [Act.put, List.getElem_toArray, List.getElem_cons_succ, List.getElem_cons_zero, List.setIfInBounds_toArray, List.set_cons_zero, List.set_cons_succ]
        refine wpAnyH_take (i := 3) (v := ?_) rfl (by kernel_rfl) (by kernel_rfl) (by kernel_rfl) (fun _ _ _ h => h) (Or.inl ⟨by rfl, ?_⟩) hS ?_
        case refine_2 => (intro w' hS'; go_simp; try with_reducible rfl)
        simp only [Act.put, List.getElem_toArray, List.getElem_cons_succ, List.getElem_cons_zero, List.setIfInBounds_toArray, List.set_cons_zero, List.set_cons_succ]
        refine wpAnyH_take (i := 4) rfl (by kernel_rfl) (by kernel_rfl) (by kernel_rfl) (fun _ _ _ h => h) (held_load (by rfl) 31 _ rfl (ad2.add (m * 13)) rfl cc _ HC.out Tryz.underlying31 rfl (by rw [hcl.out]; exact size31')) hS ?_
        simp only [Act.put, List.getElem_toArray, List.getElem_cons_succ, List.getElem_cons_zero, List.setIfInBounds_toArray, List.set_cons_zero, List.set_cons_succ]
        refine wpAnyH_take (i := 5) (v := ?_) rfl (by kernel_rfl) (by kernel_rfl) (by kernel_rfl) (fun _ _ _ h => h) (Or.inl ⟨by rfl, ?_⟩) hS ?_
        case refine_2 => (intro w' hS'; go_simp; try with_reducible rfl)
        simp only [Act.put, List.getElem_toArray, List.getElem_cons_succ, List.getElem_cons_zero, List.setIfInBounds_toArray, List.set_cons_zero, List.set_cons_succ]
        refine wpAnyH_take (i := 6) (v := ?_) rfl (by kernel_rfl) (by kernel_rfl) (by kernel_rfl) (fun _ _ _ h => h) (Or.inl ⟨by rfl, ?_⟩) hS ?_
        case refine_2 => (intro w' hS'; have hle : (1 : Int) ≤ (p.length : Int) + 1 := (by omega); have hA1 := HA1.out; go_simp; try with_reducible rfl)
        simp only [Act.put, List.getElem_toArray, List.getElem_cons_succ, List.getElem_cons_zero, List.setIfInBounds_toArray, List.set_cons_zero, List.set_cons_succ]
        refine wpAnyH_take (i := 7) rfl (by kernel_rfl) (by kernel_rfl) (by kernel_rfl) (fun _ _ _ h => h) (held_load (by rfl) 31 _ rfl ⟨w.heap.size + 1, 0, none⟩ rfl cy _ hY0.cells Tryz.underlying31 rfl (by rw [HYl.out]; exact size31')) hS ?_
        simp only [Act.put, List.getElem_toArray, List.getElem_cons_succ, List.getElem_cons_zero, List.setIfInBounds_toArray, List.set_cons_zero, List.set_cons_succ]
        refine wpAnyH_ready (rs := [8, 12]) (by kernel_rfl) (by simp) ?_
        refine AllReadyH.cons (o := _) rfl (fun K hK => ?_) (AllReadyH.cons (o := _) rfl (fun K hK => ?_) AllReadyH.nil)
        · go_simp
          refine (HIH.out _ (hW0.trans (below_drew (Below.refl _ _)))).mono ?_
          rintro e w1 ⟨cz, rfl, hz, hb1⟩
          have hzl := Lib.hid (kE_len (Kd.FK_now hz))
          have hz1 := Lib.hid (kE.K_one (Kd.FK_now hz))
          have HZ := Lib.hid hz
          clear hz
          refine hK.out _ _ ((hS.call hb1)) (fun hS => ?_)
          clear hK K
          try simp only [Act.put, List.getElem_toArray, List.getElem_cons_succ, List.getElem_cons_zero, List.setIfInBounds_toArray, List.set_cons_zero, List.set_cons_succ]
          refine wpAnyH_take (i := 9) (v := ?_) rfl (by kernel_rfl) (by kernel_rfl) (by kernel_rfl) (fun _ _ _ h => h) (Or.inl ⟨by rfl, ?_⟩) hS ?_
          case refine_2 => (intro w' hS'; go_simp; try with_reducible rfl)
          simp only [Act.put, List.getElem_toArray, List.getElem_cons_succ, List.getElem_cons_zero, List.setIfInBounds_toArray, List.set_cons_zero, List.set_cons_succ]
          refine wpAnyH_take (i := 10) (v := ?_) rfl (by kernel_rfl) (by kernel_rfl) (by kernel_rfl) (fun _ _ _ h => h) (Or.inl ⟨by rfl, ?_⟩) hS ?_
          case refine_2 => (intro w' hS'; go_simp; try with_reducible rfl)
          simp only [Act.put, List.getElem_toArray, List.getElem_cons_succ, List.getElem_cons_zero, List.setIfInBounds_toArray, List.set_cons_zero, List.set_cons_succ]
          refine wpAnyH_take (i := 11) (v := ?_) rfl (by kernel_rfl) (by kernel_rfl) (by kernel_rfl) (fun _ _ _ h => h) (Or.inl ⟨by rfl, ?_⟩) hS ?_
          case refine_2 => (intro w' hS'; go_simp; try with_reducible rfl)
          simp only [Act.put, List.getElem_toArray, List.getElem_cons_succ, List.getElem_cons_zero, List.setIfInBounds_toArray, List.set_cons_zero, List.set_cons_succ]
          refine wpAnyH_ready (rs := [12]) (by kernel_rfl) (by simp) ?_
          refine AllReadyH.cons (o := _) rfl (fun K hK => ?_) AllReadyH.nil
          go_simp
          refine hK.out _ _ ((hS.alloc _)) (fun hS => ?_)
          clear hK K
          try simp only [Act.put, List.getElem_toArray, List.getElem_cons_succ, List.getElem_cons_zero, List.setIfInBounds_toArray, List.set_cons_zero, List.set_cons_succ]
          refine wpAnyH_ready (rs := [13]) (by kernel_rfl) (by simp) ?_
          refine AllReadyH.cons (o := _) rfl (fun K hK => ?_) AllReadyH.nil
          refine step_store (BX.new w1 zEc) (by rfl) none rfl _ _ rfl cz rfl rfl (by rw [hzl.out]; exact size31') (by rw [hzl.out]; rfl) hz1.out ?_
          intro w2 hZ2 hg2
          refine hK.out _ _ ((hS.grown hg2 (by have := hb1.size; simpa using this))) (fun hS => ?_)
          clear hK K
          try simp only [Act.put, List.getElem_toArray, List.getElem_cons_succ, List.getElem_cons_zero, List.setIfInBounds_toArray, List.set_cons_zero, List.set_cons_succ]
          refine wpAnyH_take (i := 14) (v := ?_) rfl (by kernel_rfl) (by kernel_rfl) (by kernel_rfl) (fun _ _ _ h => h) (Or.inl ⟨by rfl, ?_⟩) hS ?_
          case refine_2 => (intro w' hS'; go_simp; try with_reducible rfl)
          simp only [Act.put, List.getElem_toArray, List.getElem_cons_succ, List.getElem_cons_zero, List.setIfInBounds_toArray, List.set_cons_zero, List.set_cons_succ]
          refine wpAnyH_done (by kernel_rfl) ?_ _
          go_wp2_with fail
          go_meet
          exact ⟨w1.heap.size, cz, rfl, rfl, by have := hb1.size; simpa using this, hZ2, Lib.hid (Kd.FK_mono (Kd.FK_grown (Kd.FK_below (Kd.FK_bound HZ.out) (below_alloc (Below.refl _ _) _)) hg2 (fun k hk e => by cases e; exact Nat.lt_irrefl _ hk.2)) (fun k hk => ⟨hk.1, fun e => by subst e; exact Nat.lt_irrefl _ hk.2⟩)), hS⟩
        · go_simp
          have hS1 : Stood W0 (W0.alloc (.cells zEc.toArray 31)).drew := below_drew (below_alloc (Below.refl _ _) _)
          refine hK.out _ _ (hS1) (fun hS => ?_)
          clear hK K
          try simp only [Act.put, List.getElem_toArray, List.getElem_cons_succ, List.getElem_cons_zero, List.setIfInBounds_toArray, List.set_cons_zero, List.set_cons_succ]
          refine wpAnyH_ready (rs := [8]) (by kernel_rfl) (by simp) ?_
          refine AllReadyH.cons (o := _) rfl (fun K hK => ?_) AllReadyH.nil
          go_simp
          refine (HIH.out _ (below_then hW0 hW0.size hS1)).mono ?_
          rintro e w1 ⟨cz, rfl, hz, hb1⟩
          have hzl := Lib.hid (kE_len (Kd.FK_now hz))
          have hz1 := Lib.hid (kE.K_one (Kd.FK_now hz))
          have HZ := Lib.hid hz
          clear hz
          refine hK.out _ _ ((hS.call hb1)) (fun hS => ?_)
          clear hK K
          try simp only [Act.put, List.getElem_toArray, List.getElem_cons_succ, List.getElem_cons_zero, List.setIfInBounds_toArray, List.set_cons_zero, List.set_cons_succ]
          refine wpAnyH_take (i := 9) (v := ?_) rfl (by kernel_rfl) (by kernel_rfl) (by kernel_rfl) (fun _ _ _ h => h) (Or.inl ⟨by rfl, ?_⟩) hS ?_
          case refine_2 => (intro w' hS'; go_simp; try with_reducible rfl)
          simp only [Act.put, List.getElem_toArray, List.getElem_cons_succ, List.getElem_cons_zero, List.setIfInBounds_toArray, List.set_cons_zero, List.set_cons_succ]
          refine wpAnyH_take (i := 10) (v := ?_) rfl (by kernel_rfl) (by kernel_rfl) (by kernel_rfl) (fun _ _ _ h => h) (Or.inl ⟨by rfl, ?_⟩) hS ?_
          case refine_2 => (intro w' hS'; go_simp; try with_reducible rfl)
          simp only [Act.put, List.getElem_toArray, List.getElem_cons_succ, List.getElem_cons_zero, List.setIfInBounds_toArray, List.set_cons_zero, List.set_cons_succ]
          refine wpAnyH_take (i := 11) (v := ?_) rfl (by kernel_rfl) (by kernel_rfl) (by kernel_rfl) (fun _ _ _ h => h) (Or.inl ⟨by rfl, ?_⟩) hS ?_
          case refine_2 => (intro w' hS'; go_simp; try with_reducible rfl)
          simp only [Act.put, List.getElem_toArray, List.getElem_cons_succ, List.getElem_cons_zero, List.setIfInBounds_toArray, List.set_cons_zero, List.set_cons_succ]
          refine wpAnyH_ready (rs := [13]) (by kernel_rfl) (by simp) ?_
          refine AllReadyH.cons (o := _) rfl (fun K hK => ?_) AllReadyH.nil
          refine step_store (g := W0.heap.size) (BX.below (w := (W0.alloc (.cells zEc.toArray 31)).drew) (BX.new W0 zEc) hb1) (by rfl) none rfl _ _ rfl cz (by rw [hsz]; rfl) rfl (by rw [hzl.out]; exact size31') (by rw [hzl.out]; rfl) hz1.out ?_
          intro w2 hZ2 hg2
          refine hK.out _ _ ((hS.grown hg2 (Nat.le_refl _))) (fun hS => ?_)
          clear hK K
          try simp only [Act.put, List.getElem_toArray, List.getElem_cons_succ, List.getElem_cons_zero, List.setIfInBounds_toArray, List.set_cons_zero, List.set_cons_succ]
          refine wpAnyH_take (i := 14) (v := ?_) rfl (by kernel_rfl) (by kernel_rfl) (by kernel_rfl) (fun _ _ _ h => h) (Or.inl ⟨by rfl, ?_⟩) hS ?_
          case refine_2 => (intro w' hS'; go_simp; try with_reducible rfl)
          simp only [Act.put, List.getElem_toArray, List.getElem_cons_succ, List.getElem_cons_zero, List.setIfInBounds_toArray, List.set_cons_zero, List.set_cons_succ]
          refine wpAnyH_done (by kernel_rfl) ?_ _
          go_wp2_with fail
          go_meet
          exact ⟨W0.heap.size, cz, by rw [hsz], rfl, Nat.le_refl _, hZ2, Lib.hid (Kd.FK_mono (ok := fun k => ok k ∨ W0.heap.size + 1 ≤ k) (Kd.FK_grown (Kd.FK_mono HZ.out (fun k hk => by rcases hk with hk | hk; exact .inl hk; exact .inr (by simpa using hk))) hg2 (fun k hk e => by cases e; rcases hk with hk | hk; (have := HO.out _ hk; omega); omega)) (fun k hk => ⟨by rcases hk with hk | hk; exact .inl hk; exact .inr (by omega), fun e => by subst e; rcases hk with hk | hk; (have := HO.out _ hk; omega); omega⟩)), hS⟩
      case rest =>
        obtain ⟨g, cz, rfl, rfl, hgW, hZ, HZ, hbc⟩ := hcut
        have hB1 := hB0.below hbc
        have hR1 := hR0.below hbc
        have hsc := hbc.size
        have hglt := hZ.lt
        have hwc := hW0.trans (hbc.mono (by omega))
        have q1 := hB1.cell hc12
        have f1 := hB1.frozen 12
        cases r' with
        | none =>
          have HRn := Lib.hid (show r = none by rw [HE2.out]; rfl)
          have hbt : (Option.none : Option Ex).isSome = false := rfl
          go_wp2_with ((with_reducible refine store_bx hR1 none rfl ?_ _ _ rfl zEc ?_ ?_ ?_ ?_ ?_ ?_); (case _ => rfl); (case _ => rfl); (case _ => rfl); (case _ => exact size31'); (case _ => rfl); (case _ => decide); intro w2 hR2 hg2)
          have hload := hR2.load (P := Tryz.prog) Tryz.underlying31 (by exact size31')
          refine bodyPost_ret (v := .tuple #[.agg zEc.toArray, .bool false]) ?_ rfl ⟨zEc, by rw [HRn.out]; rfl, by rw [HRn.out]; exact Kd.FK_mono (zE_FK _) (fun _ h => h.elim), hwc.trans (below_grown hg2 (by omega) (by omega))⟩
          simp [results, Tryz.f18, asAddr, Result.andThen, Act.put, hload]
        | some z =>
          have HRs := Lib.hid (show r = some (x.with m z) by rw [HE2.out]; rfl)
          have hbt : (some z).isSome = true := rfl
          have hzl := Lib.hid (kE_len (Kd.FK_now HZ.out))
          have hz1 := Lib.hid (kE.K_one (Kd.FK_now HZ.out))
          have HZ2 := Lib.hid (Kd.FK_bound HZ.out)
          have HCl := Lib.hid (Clone_E_calls x.kids (some ad2) c12 wc ok (Kd.C_below (Kd.F_now HX12.out) hwc) (Kd.F_below HX12.out hwc) (fun k hk => Nat.lt_of_lt_of_le (HO.out k hk) hwc.size) (by have := x.kids_all; omega))
          have hml : m < x.kids.length := by omega
          go_wp2_with (first
            | (go_at_call 29; (with_reducible refine HCl.out.mono ?_); rintro e w1 ⟨v, rfl, hN, hb1⟩; obtain ⟨g2, cap, hv, hgb, hgl, _⟩ := Kd.N_form hN (Nat.lt_of_le_of_lt (Nat.zero_le _) hml); subst hv; have hle := (Kd.N_reads' hN).2.1; have hB2 := hB1.below hb1; have hZ2 := hZ.below hb1; have hR2 := hR1.below hb1; have q2 := hB2.cell hc12; have f2 := hB2.frozen 12; have hZZ := (hZ2.kept (grown_setCell w1 w.heap.size 12 (.slice (some ⟨g2, 0, none⟩) x.kids.length cap)) (fun e => by simp at e; omega)); have hRR := (hR2.kept (grown_setCell w1 w.heap.size 12 (.slice (some ⟨g2, 0, none⟩) x.kids.length cap)) (fun e => by injection e; omega)); have hBB := hB2.setCell 12 (.slice (some ⟨g2, 0, none⟩) x.kids.length cap); have HNN := Lib.hid (Kd.N_grown (Kd.N_mono hN (ok' := okN ok W0.heap.size) (fun k hk => by rcases hk with hk | hk; exact .inl hk; exact .inr (Nat.le_trans hsc hk))) (grown_setCell w1 w.heap.size 12 (.slice (some ⟨g2, 0, none⟩) x.kids.length cap)) (fun k hk e => by cases e; rcases hk with hk | hk; (have := HO.out _ hk; omega); omega)); obtain ⟨cE, hcE, _, hcc, _⟩ := Kd.N_elem HNN.out zE (m : Int) (by omega) (by omega); have HCC := Lib.hid hcc; have HSg := Lib.hid (show cE.take 0 ++ cz ++ cE.drop (0 + cz.length) = cz by rw [List.take_zero, List.nil_append, List.drop_eq_nil_of_le (by rw [hcE, Nat.zero_add, hzl.out]; exact Nat.le_refl _), List.append_nil]); clear hcc; have HYY := Lib.hid (Kd.FK_grown (Kd.FK_below HZ2.out hb1) (grown_setCell w1 w.heap.size 12 (.slice (some ⟨g2, 0, none⟩) x.kids.length cap)) (fun k hk e => by cases e; rcases hk.1.1 with hk | hk; (have := HO.out _ hk; omega); omega)); have hs1 := hb1.size; clear hN)
            | ((with_reducible refine load_list 50 rfl ?_ 31 _ rfl ⟨g, 0, none⟩ ?_ cz _ hZZ.cells Tryz.underlying31 ?_ ?_ ?_); (case _ => rfl); (case _ => rfl); (case _ => rfl); (case _ => rw [hzl.out]; exact size31'))
            | ((with_reducible refine gate_store (t := 31) (p := 51) rfl ?_); refine Kd.N_store kE (w0 := w1.setCell ⟨w.heap.size, 12, none⟩ (.slice (some ⟨g2, 0, none⟩) x.kids.length cap)) _ rfl rfl 31 _ _ rfl 31 (m : Int) 0 x.kids z (.agg cz.toArray) cz cE _ (fun k => (okN ok W0.heap.size k ∧ k ≠ g) ∧ k < wc.heap.size) rfl ?_ rfl rfl ?_ hz1.out HNN.out ?_ ?_ hcE HCC.out ?_ (by rw [HSg.out]; exact HYY.out) ?_ (Below.refl _ _) ?_; (case _ => show m * 13 = (m : Int).toNat * 13 + 0; simp); (case _ => rw [hzl.out]; exact size31'); (case _ => omega); (case _ => omega); (case _ => rw [hzl.out]; exact Nat.le_refl _); (case _ => exact fun k hk => ⟨hk.1.1, by have := hk.2; omega⟩); intro w3 hN3 _ hg3; have HN3 := Lib.hid hN3; clear hN3; have hB3 := hBB.kept hg3 (fun e => by simp at e; omega); have hR3 := hRR.kept hg3 (fun e => by simp at e; omega))
            | ((with_reducible refine load_list 52 rfl ?_ 31 _ rfl ⟨w.heap.size, 0, none⟩ ?_ (cs.set 12 (.slice (some ⟨g2, 0, none⟩) x.kids.length cap)) _ hB3.cells Tryz.underlying31 ?_ ?_ ?_); (case _ => rfl); (case _ => rfl); (case _ => rfl); (case _ => rw [List.length_set, HXl.out]; exact size31'))
            | ((with_reducible refine store_bx hR3 none rfl ?_ _ _ rfl (cs.set 12 (.slice (some ⟨g2, 0, none⟩) x.kids.length cap)) ?_ ?_ ?_ ?_ ?_ ?_); (case _ => rfl); (case _ => rfl); (case _ => rfl); (case _ => rw [List.length_set, HXl.out]; exact size31'); (case _ => rw [List.length_set, HXl.out]; rfl); (case _ => intro u hu; rcases List.mem_or_eq_of_mem_set hu with hu | hu; exact kE.K_one (Kd.FK_now HX.out) u hu; subst hu; rfl); intro w4 hR4 hg4))
          have hload := hR4.load (P := Tryz.prog) Tryz.underlying31 (by rw [List.length_set, HXl.out]; exact size31')
          have hs3 := hg3.size
          have hss : (w1.setCell ⟨w.heap.size, 12, none⟩ (.slice (some ⟨g2, 0, none⟩) x.kids.length cap)).heap.size = w1.heap.size := by simp [World.setCell]
          have hb4 : Below w.heap.size w w4 :=
            ((hwc.trans (hb1.mono (by omega))).trans (below_grown (grown_setCell w1 w.heap.size 12 (.slice (some ⟨g2, 0, none⟩) x.kids.length cap)) (by omega) (Nat.le_refl _))).trans ((below_grown hg3 (by omega) (by omega)).trans (below_grown hg4 (by omega) (by omega)))
          have hN4 := Kd.N_grown HN3.out hg4 (fun k hk e => by cases e; rcases hk with hk | hk; (have := HO.out _ hk; omega); omega)
          obtain ⟨B3, d3, B6, d6, B7, d7, B9, d9, B12, d12, he, l3, g3, l6, g6, l7, g7, l9, g9, _, _⟩ := kE_openF HX.out
          have hset : cs.set 12 (.slice (some ⟨g2, 0, none⟩) x.kids.length cap) = [.int .i64 x.kind, .int .i64 x.d.kind, .bool x.d.i.neg, .slice B3 x.d.i.l.length d3, .bool x.d.b, .string x.d.s, .slice B6 x.d.items.length d6, .slice B7 x.d.tail.length d7, .int .i64 x.v, .slice B9 x.vars.length d9, .bool x.rest, .int .i64 x.p, .slice (some ⟨g2, 0, none⟩) x.kids.length cap] := by rw [he]; rfl
          have hlen : (x.with m z).kids.length = x.kids.length := List.length_set
          have hF4 := Kd.F_mono (Kd.N_F hN4) (ok' := okN ok w.heap.size) (fun k hk => by rcases hk with hk | hk; exact .inl hk; exact .inr (by omega))
          rw [show ((m : Int).toNat) = m by omega] at hF4
          have hK := kE_mkF w4 (okN ok w.heap.size) (x.with m z) l3 (Kd.F_mono (Kd.F_below g3 hb4) (fun _ h => .inl h)) l6 (Kd.F_mono (Kd.F_below g6 hb4) (fun _ h => .inl h)) l7 (Kd.F_mono (Kd.F_below g7 hb4) (fun _ h => .inl h)) l9 (Kd.F_mono (Kd.F_below g9 hb4) (fun _ h => .inl h)) (A12 := some ⟨g2, 0, none⟩) (c12 := cap) (by rw [hlen]; exact hle) (by rw [hlen]; exact hF4)
          rw [hlen] at hK
          refine bodyPost_ret (v := .tuple #[.agg (cs.set 12 (.slice (some ⟨g2, 0, none⟩) x.kids.length cap)).toArray, .bool true]) ?_ rfl ⟨_, by rw [HRs.out]; rfl, by rw [hset, HRs.out]; exact hK, hb4⟩
          simp [results, Tryz.f18, asAddr, Result.andThen, Act.put, hload]
    · have HRn := Lib.hid (show r = none by rw [HE.out, if_neg h0])
      by_cases hneg : i < 0
      all_goals
        go_enter Tryz.func18, Tryz.ntmps18
        go_wp2_with ((with_reducible refine store_bx hR0 none rfl ?_ _ _ rfl zEc ?_ ?_ ?_ ?_ ?_ ?_); (case _ => rfl); (case _ => rfl); (case _ => rfl); (case _ => exact size31'); (case _ => rfl); (case _ => decide); intro w2 hR2 hg2)
        have hload := hR2.load (P := Tryz.prog) Tryz.underlying31 (by exact size31')
        have hb2 : Below w.heap.size w w2 := hW0.trans (below_grown hg2 (by simp; omega) (by omega))
        refine bodyPost_ret (v := .tuple #[.agg zEc.toArray, .bool false]) ?_ rfl ⟨zEc, by rw [HRn.out]; rfl, by rw [HRn.out]; exact Kd.FK_mono (zE_FK _) (fun _ h => h.elim), hb2⟩
        simp [results, Tryz.f18, asAddr, Result.andThen, Act.put, hload]
end Go.Proofs.YtegolcblbpeoeaaGreatDoor
namespace Go.Proofs.YtegolcblbpeoeaaGreatDoor
open Go.RowKit Go.Shelf Go.Proofs.YtegolcblbpeoeaaGreatDoorW.PrintWords
set_option linter.unusedVariables false
set_option linter.unusedSimpArgs false
mutual
/-- Each free variable is another expression. -/
def Ex.swap : Ex → Int → Ex → Ex
  | ⟨kind, d, v0, vars, rest, p, kids⟩, v, t => if kind == 2 && v0 == v then t else ⟨kind, d, v0, vars, rest, p, Ex.swapL kids (decide (v ∈ (if kind = 8 then [v0] else if kind = 5 then vars else []))) (kind == 8) 0 v t⟩
def Ex.swapL : List Ex → Bool → Bool → Nat → Int → Ex → List Ex
  | [], _, _, _, _, _ => []
  | k :: ks, h, l, i, v, t => (if !h || (l && i != 1) then k.swap v t else k) :: Ex.swapL ks h l (i + 1) v t
end
theorem Ex.swap_eq (x : Ex) (v : Int) (t : Ex) : x.swap v t = if x.kind == 2 && x.v == v then t else { x with kids := Ex.swapL x.kids (decide (v ∈ x.binds)) (x.kind == 8) 0 v t } := by
  cases x; rw [Ex.swap]; rfl
theorem Ex.swapL_len (l : List Ex) (h b : Bool) (i : Nat) (v : Int) (t : Ex) : (Ex.swapL l h b i v t).length = l.length := by
  induction l generalizing i with
  | nil => rfl
  | cons k ks ih => rw [Ex.swapL, List.length_cons, List.length_cons, ih]
theorem Ex.swapL_append (l m : List Ex) (h b : Bool) (i : Nat) (v : Int) (t : Ex) : Ex.swapL (l ++ m) h b i v t = Ex.swapL l h b i v t ++ Ex.swapL m h b (i + l.length) v t := by
  induction l generalizing i with
  | nil => simp [Ex.swapL]
  | cons k ks ih => rw [List.cons_append, Ex.swapL, Ex.swapL, ih, List.length_cons, List.cons_append]; congr 3; omega
/-- Some are done. -/
def swapK (l : List Ex) (h b : Bool) (v : Int) (t : Ex) (k : Nat) : List Ex := Ex.swapL (l.take k) h b 0 v t ++ l.drop k
theorem swapK_zero (l : List Ex) (h b : Bool) (v : Int) (t : Ex) : swapK l h b v t 0 = l := by simp [swapK, Ex.swapL]
theorem swapK_done (l : List Ex) (h b : Bool) (v : Int) (t : Ex) : swapK l h b v t l.length = Ex.swapL l h b 0 v t := by simp [swapK]
theorem swapK_succ {l : List Ex} {k : Nat} (hk : k < l.length) (h b : Bool) (v : Int) (t : Ex) : swapK l h b v t (k + 1) = (swapK l h b v t k).set k (if !h || (b && k != 1) then (rdE l k).swap v t else rdE l k) := by
  unfold swapK
  have h1 : (Ex.swapL (l.take k) h b 0 v t).length = k := by rw [Ex.swapL_len, List.length_take]; omega
  rw [take_rdE hk, Ex.swapL_append, List.drop_eq_getElem_cons hk, List.length_take, Nat.min_eq_left (by omega), Nat.zero_add, Ex.swapL, Ex.swapL, List.set_append_right _ _ (by omega), h1, Nat.sub_self, List.set_cons_zero, List.append_assoc]
  rfl
theorem swapK_keep {l : List Ex} {k : Nat} (hk : k < l.length) (h b : Bool) (v : Int) (t : Ex) (hc : (!h || (b && k != 1)) = false) : swapK l h b v t (k + 1) = swapK l h b v t k := by
  unfold swapK
  rw [take_rdE hk, Ex.swapL_append, List.drop_eq_getElem_cons hk, List.length_take, Nat.min_eq_left (by omega), Nat.zero_add, Ex.swapL, Ex.swapL, hc, List.append_assoc, rdE_get hk]
  rfl
set_option maxRecDepth 100000 in
set_option maxHeartbeats 8000000 in
theorem swap_calls (n : Nat) : ∀ (x t : Ex) (cs ct : List Value) (v : Int) (w : World) (ok : Nat → Prop), x.big < n → (∀ k, ok k → k < w.heap.size) → Kd.FK kE w ok x cs → Kd.FK kE w ok t ct → x.all.length ≤ 1000000 →
    Calls Tryz.prog 103 #[.agg cs.toArray, .int .i64 v, .agg ct.toArray] w fun e w' => ∃ cs', e = .returned (.agg cs'.toArray) ∧ Kd.FK kE w' (okN ok w.heap.size) (x.swap v t) cs' ∧ Below w.heap.size w w' := by
  induction n with
  | zero => intro x t cs ct v w ok h; omega
  | succ n ih =>
  intro x t cs ct v w ok hn hok hx ht hl
  have HXl := Lib.hid (kE_len (Kd.FK_now hx))
  have HX1 := Lib.hid (kE.K_one (Kd.FK_now hx))
  have HX := Lib.hid hx
  have HTl := Lib.hid (kE_len (Kd.FK_now ht))
  have HT1 := Lib.hid (kE.K_one (Kd.FK_now ht))
  have HT := Lib.hid ht
  have HO := Lib.hid hok
  have IH := Lib.hid ih
  have HZ1 : Hid (∀ u ∈ zEc, u.oneCell' = true) := Lib.hid (by decide)
  have HE := Lib.hid (x.swap_eq v t)
  obtain ⟨r, hr⟩ : ∃ r, r = x.swap v t := ⟨_, rfl⟩
  rw [← hr] at HE ⊢
  have hW0 : Below w.heap.size w (((w.alloc (.cells cs.toArray 31)).alloc (.cells ct.toArray 31)).alloc (.cells zEc.toArray 31)) := below_alloc (below_alloc (below_alloc (Below.refl _ _) _) _) _
  have hB0 : BX 31 (((w.alloc (.cells cs.toArray 31)).alloc (.cells ct.toArray 31)).alloc (.cells zEc.toArray 31)) w.heap.size cs := ((BX.new w cs).alloc _).alloc _
  have hT0 : BX 31 (((w.alloc (.cells cs.toArray 31)).alloc (.cells ct.toArray 31)).alloc (.cells zEc.toArray 31)) (w.heap.size + 1) ct := by simpa using (BX.new (t := 31) (w.alloc (.cells cs.toArray 31)) ct).alloc (.cells zEc.toArray 31)
  have hR0 : BX 31 (((w.alloc (.cells cs.toArray 31)).alloc (.cells ct.toArray 31)).alloc (.cells zEc.toArray 31)) (w.heap.size + 1 + 1) zEc := by simpa using BX.new (t := 31) ((w.alloc (.cells cs.toArray 31)).alloc (.cells ct.toArray 31)) zEc
  have hsz : (((w.alloc (.cells cs.toArray 31)).alloc (.cells ct.toArray 31)).alloc (.cells zEc.toArray 31)).heap.size = w.heap.size + 3 := by simp
  obtain ⟨A3, c3, A6, c6, A7, c7, A9, c9, A12, c12, he, l3, g3, l6, g6, l7, g7, l9, g9, l12, g12⟩ := kE_openF hx
  have hc0 : cs[0]? = some (.int .i64 x.kind) := by rw [he]; rfl
  have hc8 : cs[8]? = some (.int .i64 x.v) := by rw [he]; rfl
  have hc12 : cs[12]? = some (.slice A12 x.kids.length c12) := by rw [he]; rfl
  have q0 := hB0.cell hc0
  have q8 := hB0.cell hc8
  have HX12 := Lib.hid g12
  have hm12 := Kd.F_max g12
  clear he hx ht g3 g6 g7 g9 g12 l3 l6 l7 l9 hr hok ih
  by_cases h2 : (x.kind == 2 && x.v == v) = true
  · have HRt := Lib.hid (show r = t by rw [HE.out, if_pos h2])
    rw [Bool.and_eq_true] at h2
    obtain ⟨hk2, hv2⟩ := h2
    go_enter Tryz.func103, Tryz.ntmps103
    go_wp2_with (first
      | ((with_reducible refine ldE 20 hT0 HTl rfl ?_ _ rfl ?_ ?_); (case _ => rfl); (case _ => rfl))
      | ((with_reducible refine stE hR0 rfl HTl HT1 none rfl ?_ _ _ rfl ?_ ?_ ?_); (case _ => rfl); (case _ => rfl); (case _ => rfl); intro w2 hR2 hg2))
    have hload := loadE hR2 HTl
    have hb2 : Below w.heap.size w w2 := hW0.trans (below_grown hg2 (by simp; omega) (by omega))
    refine bodyPost_ret (v := .agg ct.toArray) ?_ rfl ⟨ct, rfl, by rw [HRt.out]; exact Kd.FK_mono (Kd.FK_below HT.out hb2) (fun _ h => .inl h), hb2⟩
    simp [results, Tryz.f103, asAddr, Result.andThen, Act.put, hload]
  have HRk := Lib.hid (show r = { x with kids := Ex.swapL x.kids (decide (v ∈ x.binds)) (x.kind == 8) 0 v t } by rw [HE.out, if_neg h2])
  have h2' : (x.kind == 2) = false ∨ (x.kind == 2) = true ∧ (x.v == v) = false := by
    cases h3 : x.kind == 2
    · exact .inl rfl
    · exact .inr ⟨rfl, by simpa [h3] using h2⟩
  clear h2 HE
  obtain ⟨hd, hhd⟩ : ∃ hd, hd = decide (v ∈ x.binds) := ⟨_, rfl⟩
  have HHD := Lib.hid (show (x.binds.any fun y => v == y) = hd by
    rw [hhd, Bool.eq_iff_iff, List.any_eq_true, decide_eq_true_iff]
    constructor
    · rintro ⟨y, hy, he⟩
      have : v = y := by simpa using he
      subst this; exact hy
    · exact fun h => ⟨v, h, by simp⟩)
  rw [← hhd] at HRk
  obtain ⟨k8, hk8⟩ : ∃ k8, (x.kind == 8) = k8 := ⟨_, rfl⟩
  rw [hk8] at HRk
  clear hhd
  rcases h2' with hk2 | ⟨hk2, hv2⟩
  all_goals
    go_enter Tryz.func103, Tryz.ntmps103
    go_upto_region 3 with fail
    obtain ⟨W0, hW0e⟩ : ∃ W0, W0 = (((w.alloc (.cells cs.toArray 31)).alloc (.cells ct.toArray 31)).alloc (.cells zEc.toArray 31)) := ⟨_, rfl⟩
    rw [← hW0e] at hW0 hB0 hT0 hR0 hsz q0 q8 ⊢
    clear hW0e q0 q8
    have HSZ := Lib.hid hsz
    have hs0 : w.heap.size + 3 ≤ W0.heap.size := by omega
    clear hsz
    go_wp2_with (first
      | ((with_reducible refine ldE 21 hB0 HXl rfl ?_ _ rfl ?_ ?_); (case _ => rfl); (case _ => rfl))
      | ((with_reducible refine stE (BX.new W0 zEc) rfl HXl HX1 none rfl ?_ _ _ rfl ?_ ?_ ?_); (case _ => rfl); (case _ => rfl); (case _ => rfl); intro w1 hO1 hg1; have hb1 : Below W0.heap.size W0 w1 := (below_alloc (Below.refl _ _) _).trans (below_grown hg1 (by simp) (Nat.le_refl _)); have hB1 := hB0.below hb1; have hT1 := hT0.below hb1; have hR1 := hR0.below hb1; have q12 := hB1.cell hc12; have hs1 := hO1.lt; have HCl := Lib.hid (Clone_E_calls x.kids A12 c12 w1 ok (Kd.C_below (Kd.F_now HX12.out) (hW0.trans (hb1.mono (by omega)))) (Kd.F_below HX12.out (hW0.trans (hb1.mono (by omega)))) (fun k hk => by have := HO.out k hk; omega) (by have := x.kids_all; omega)))
      | (go_at_call 29; (with_reducible refine HCl.out.mono ?_); rintro e w2 ⟨va, rfl, hN, hb2⟩; obtain ⟨Av, cap, hv⟩ := Kd.N_slice hN; subst hv; have hG := grown_setCell w2 W0.heap.size 12 (.slice Av x.kids.length cap); have hNO := Lib.hid (Kd.N_grown (Kd.N_mono hN (ok' := okN ok w1.heap.size) (fun _ hk => hk)) hG (fun k hk e => by cases e; rcases hk with hk | hk; (have := HO.out _ hk; omega); omega)); clear hN; have hO2 := hO1.below hb2; have o2 := hO2.cell hc12; have fo2 := hO2.frozen 12; have hs2 := hb2.size; have hB3 := (hB1.below hb2).kept hG (fun e => by injection e; omega); have hT3 := (hT1.below hb2).kept hG (fun e => by injection e; omega); have hR3 := (hR1.below hb2).kept hG (fun e => by injection e; omega); have hO3 := hO2.setCell 12 (.slice Av x.kids.length cap); have hb3 : Below w.heap.size w (w2.setCell ⟨W0.heap.size, 12, none⟩ (.slice Av x.kids.length cap)) := ((hW0.trans (hb1.mono (by omega))).trans (hb2.mono (by omega))).trans (below_grown hG (by omega) (by omega)); have HBI := Lib.hid (binds_calls x cs (w2.setCell ⟨W0.heap.size, 12, none⟩ (.slice Av x.kids.length cap)) (Kd.FK_now (Kd.FK_below HX.out hb3))); have hs3 : w2.heap.size ≤ (w2.setCell ⟨W0.heap.size, 12, none⟩ (.slice Av x.kids.length cap)).heap.size := hG.size)
      | ((with_reducible refine ldE 26 hB3 HXl rfl ?_ _ rfl ?_ ?_); (case _ => rfl); (case _ => rfl))
      | (go_at_call 32; (with_reducible refine HBI.out.mono ?_); rintro e w4 ⟨Ab, nb, cb, rfl, hnb, hCb, hb4⟩; subst hnb; have HCT := Lib.hid (Contains_int_calls x.binds Ab cb v w4 hCb); rw [HHD.out] at HCT; have hB4 := hB3.below hb4; have hT4 := hT3.below hb4; have hR4 := hR3.below hb4; have hO4 := hO3.below hb4; have hNO4 := Lib.hid (Kd.N_below hNO.out hb4); have hb5 := below_then hb3 hb3.size hb4; have q4 := hB4.cell hc12; have hs4 := hb4.size; clear hCb)
      | (go_at_call 70; (with_reducible refine HCT.out.mono ?_); rintro e w' ⟨rfl, rfl⟩))
    go_loopw [33] (fun v33 wr => ∃ k : Nat, k ≤ x.kids.length ∧ v33 = .int .i64 k ∧ BX 31 wr w.heap.size cs ∧ BX 31 wr (w.heap.size + 1) ct ∧ BX 31 wr (w.heap.size + 1 + 1) zEc ∧ BX 31 wr W0.heap.size (cs.set 12 (.slice Av x.kids.length cap)) ∧ Hid (Kd.N kE 31 wr w1.heap.size (okN ok w1.heap.size) (.slice Av x.kids.length cap) (swapK x.kids hd k8 v t k)) ∧ Below w.heap.size w wr ∧ w4.heap.size ≤ wr.heap.size) (fun v33 _ => x.kids.length - (intOf v33).toNat)
    case atStart => exact ⟨0, Nat.zero_le _, rfl, hB4, hT4, hR4, hO4, Lib.hid (by rw [swapK_zero]; exact hNO4.out), hb5, Nat.le_refl _⟩
    case round =>
      obtain ⟨k, hk, rfl, hB, hT, hR, hO, HN, hb, hsr⟩ := hrel
      by_cases hlt : k < x.kids.length
      · obtain ⟨ad, cc, hA, hKc, hcc⟩ := elEF HX12.out hlt
        subst hA
        have HC : Hid (∀ j u, cc[j]? = some u → wr.cell? ((ad.add (k * 13)).add j) = some u) := Lib.hid (fun j u h => pw_cell_below hb (hcc j u h))
        have hcl := Lib.hid (kE_len (Kd.FK_now hKc))
        have hc1 := Lib.hid (kE.K_one (Kd.FK_now hKc))
        obtain ⟨g2, cap', hv, hgb, hgl, _⟩ := Kd.N_form HN.out (by have := (Kd.N_reads' HN.out).1; omega)
        obtain rfl : Av = some ⟨g2, 0, none⟩ := by injection hv
        clear hv
        have HIH := Lib.hid (fun (W : World) (hbW : Below w.heap.size w W) => IH.out (rdE x.kids k) t cc ct v W ok (by have := Ex.big_kid hlt; omega) (fun k hk => Nat.lt_of_lt_of_le (HO.out k hk) hbW.size) (Kd.FK_below hKc hbW) (Kd.FK_below HT.out hbW) (by have := x.kid_all hlt; omega))
        clear hcc hKc
        by_cases hcnd : (!hd || (k8 && k != 1)) = true
        · have HSU := Lib.hid ((swapK_succ hlt hd k8 v t).trans (by rw [if_pos hcnd]))
          have hc3 : hd = false ∨ hd = true ∧ k8 = true ∧ ((k : Int) != 1) = true := by
            cases hd <;> cases k8 <;> simp at hcnd ⊢
            omega
          clear hcnd
          rcases hc3 with rfl | ⟨rfl, rfl, hk1⟩
          all_goals
            go_wp2_with (first
              | ((with_reducible refine ldR 37 HC hcl rfl ?_ _ rfl ?_ ?_); (case _ => rfl); (case _ => rfl))
              | ((with_reducible refine stE (BX.new wr zEc) rfl hcl hc1 none rfl ?_ _ _ rfl ?_ ?_ ?_); (case _ => rfl); (case _ => rfl); (case _ => rfl); intro w5 hK5 hg5; have hb6 : Below wr.heap.size wr w5 := (below_alloc (Below.refl _ _) _).trans (below_grown hg5 (by simp) (Nat.le_refl _)); have hB5 := hB.below hb6; have hT5 := hT.below hb6; have hR5 := hR.below hb6; have hO5 := hO.below hb6; have q0 := hB5.cell hc0; have qO := hO5.cell (j := 12) (u := .slice (some ⟨g2, 0, none⟩) x.kids.length cap) (by simp [HXl.out]); have HN5 := Lib.hid (Kd.N_below HN.out hb6); have hs6 := hb6.size; have hb8 := below_then hb hb.size hb6))
            have hi0 : (0 : Int) ≤ (k : Int) := by omega
            have hi1 : (k : Int) < (x.kids.length : Int) := by omega
            refine wp_region_held_drew (S := fun w' => w5.grownBy w' (some g2)) (by kernel_rfl) (grown_drew _ _) (fun hS => ?_)
            refine wpAnyH_take (i := 0) (v := ?_) rfl (by kernel_rfl) (by kernel_rfl) (by kernel_rfl) (fun _ _ _ h => h) (Or.inl ⟨by rfl, ?_⟩) hS ?_
            case refine_2 => (intro w' hS'; go_simp; try with_reducible rfl)
            simp only [Act.put, List.getElem_toArray, List.getElem_cons_succ, List.getElem_cons_zero, List.setIfInBounds_toArray, List.set_cons_zero, List.set_cons_succ]
            refine wpAnyH_take (i := 1) (v := ?_) rfl (by kernel_rfl) (by kernel_rfl) (by kernel_rfl) (fun _ _ _ h => h) (Or.inl ⟨by rfl, ?_⟩) hS ?_
            case refine_2 => (intro w' hS'; have h12 := cell_grown hS' qO (fun e => by have e := Option.some.inj e; change W0.heap.size = g2 at e; omega); go_simp; try with_reducible rfl)
            simp only [Act.put, List.getElem_toArray, List.getElem_cons_succ, List.getElem_cons_zero, List.setIfInBounds_toArray, List.set_cons_zero, List.set_cons_succ]
            refine wpAnyH_take (i := 2) (v := ?_) rfl (by kernel_rfl) (by kernel_rfl) (by kernel_rfl) (fun _ _ _ h => h) (Or.inl ⟨by rfl, ?_⟩) hS ?_
            case refine_2 => (intro w' hS'; go_simp; try with_reducible rfl)
            simp only [Act.put, List.getElem_toArray, List.getElem_cons_succ, List.getElem_cons_zero, List.setIfInBounds_toArray, List.set_cons_zero, List.set_cons_succ]
            refine wpAnyH_take (i := 3) rfl (by kernel_rfl) (by kernel_rfl) (by kernel_rfl) (fun _ _ _ h => h) (held_loadS (by rfl) 31 _ rfl ⟨wr.heap.size, 0, none⟩ rfl cc _ (fun w' hS' => (hK5.kept hS' (fun e => by injection e; omega)).cells) Tryz.underlying31 rfl (by rw [hcl.out]; exact size31')) hS ?_
            simp only [Act.put, List.getElem_toArray, List.getElem_cons_succ, List.getElem_cons_zero, List.setIfInBounds_toArray, List.set_cons_zero, List.set_cons_succ]
            refine wpAnyH_take (i := 4) (v := ?_) rfl (by kernel_rfl) (by kernel_rfl) (by kernel_rfl) (fun _ _ _ h => h) (Or.inl ⟨by rfl, ?_⟩) hS ?_
            case refine_2 => (intro w' hS'; go_simp; try with_reducible rfl)
            simp only [Act.put, List.getElem_toArray, List.getElem_cons_succ, List.getElem_cons_zero, List.setIfInBounds_toArray, List.set_cons_zero, List.set_cons_succ]
            refine wpAnyH_take (i := 5) rfl (by kernel_rfl) (by kernel_rfl) (by kernel_rfl) (fun _ _ _ h => h) (held_loadS (by rfl) 31 _ rfl ⟨w.heap.size + 1, 0, none⟩ rfl ct _ (fun w' hS' => (hT5.kept hS' (fun e => by injection e; omega)).cells) Tryz.underlying31 rfl (by rw [HTl.out]; exact size31')) hS ?_
            simp only [Act.put, List.getElem_toArray, List.getElem_cons_succ, List.getElem_cons_zero, List.setIfInBounds_toArray, List.set_cons_zero, List.set_cons_succ]
            refine wpAnyH_ready (rs := [6]) (by kernel_rfl) (by simp) ?_
            refine AllReadyH.cons (o := _) rfl (fun K hK => ?_) AllReadyH.nil
            go_simp
            refine (HIH.out _ (below_then hb8 hb8.size (below_drew (Below.refl _ _)))).mono ?_
            rintro e w6 ⟨cy, rfl, hy, hb7⟩
            have HY := Lib.hid hy
            have hb7' : Below w5.heap.size w5 w6 := below_then (below_drew (Below.refl w5.heap.size w5)) (Nat.le_refl _) hb7
            clear hy
            refine hK.out _ _ ((grown_then hS hb7)) (fun hS => ?_)
            clear hK K
            try simp only [Act.put, List.getElem_toArray, List.getElem_cons_succ, List.getElem_cons_zero, List.setIfInBounds_toArray, List.set_cons_zero, List.set_cons_succ]
            refine wpAnyH_take (i := 7) (v := ?_) rfl (by kernel_rfl) (by kernel_rfl) (by kernel_rfl) (fun _ _ _ h => h) (Or.inl ⟨by rfl, ?_⟩) hS ?_
            case refine_2 => (intro w' hS'; go_simp; try with_reducible rfl)
            simp only [Act.put, List.getElem_toArray, List.getElem_cons_succ, List.getElem_cons_zero, List.setIfInBounds_toArray, List.set_cons_zero, List.set_cons_succ]
            refine wpAnyH_ready (rs := [8]) (by kernel_rfl) (by simp) ?_
            refine AllReadyH.cons (o := _) rfl (fun K hK => ?_) AllReadyH.nil
            refine step_row (i := k) (okp := fun k => okN ok w5.heap.size k) (Kd.N_below HN5.out hb7') hlt HY.out (fun k hk => ⟨by rcases hk with hk | hk; exact .inl hk; exact .inr (by omega), fun e => by subst e; rcases hk with hk | hk; (have := HO.out _ hk; omega); omega⟩) (by rfl) none rfl _ _ rfl rfl rfl ?_
            intro w7 hN7 hg7
            refine hK.out _ _ ((grown_row hS hg7)) (fun hS => ?_)
            clear hK K
            try simp only [Act.put, List.getElem_toArray, List.getElem_cons_succ, List.getElem_cons_zero, List.setIfInBounds_toArray, List.set_cons_zero, List.set_cons_succ]
            refine wpAnyH_done (by kernel_rfl) ?_ _
            have hs9 := hS.size
            have hB7 := hB5.kept hS (fun e => by injection e; omega)
            have hT7 := hT5.kept hS (fun e => by injection e; omega)
            have hR7 := hR5.kept hS (fun e => by injection e; omega)
            have hO7 := hO5.kept hS (fun e => by injection e; omega)
            have hb9 := hb8.trans (below_grown hS (by omega) (by omega))
            go_wp2
            go_roundw
            case rel => exact ⟨k + 1, by omega, by go_num, hB7, hT7, hR7, hO7, Lib.hid (by rw [HSU.out]; exact hN7), hb9, by omega⟩
            case measure => simp [intOf]; omega
        · have HSU := Lib.hid (swapK_keep hlt hd k8 v t (by simpa using hcnd))
          have hc3 : hd = true ∧ k8 = false ∨ hd = true ∧ k8 = true ∧ ((k : Int) != 1) = false := by
            cases hd <;> cases k8 <;> simp at hcnd ⊢
            omega
          clear hcnd
          rcases hc3 with ⟨rfl, rfl⟩ | ⟨rfl, rfl, hk1⟩
          all_goals
            go_wp2_with (first
              | ((with_reducible refine ldR 37 HC hcl rfl ?_ _ rfl ?_ ?_); (case _ => rfl); (case _ => rfl))
              | ((with_reducible refine stE (BX.new wr zEc) rfl hcl hc1 none rfl ?_ _ _ rfl ?_ ?_ ?_); (case _ => rfl); (case _ => rfl); (case _ => rfl); intro w5 hK5 hg5; have hb6 : Below wr.heap.size wr w5 := (below_alloc (Below.refl _ _) _).trans (below_grown hg5 (by simp) (Nat.le_refl _)); have hB5 := hB.below hb6; have hT5 := hT.below hb6; have hR5 := hR.below hb6; have hO5 := hO.below hb6; have q0 := hB5.cell hc0; have HN5 := Lib.hid (Kd.N_below HN.out hb6); have hs6 := hb6.size; have hb8 := below_then hb hb.size hb6))
            go_roundw
            case rel => exact ⟨k + 1, by omega, by go_num, hB5, hT5, hR5, hO5, Lib.hid (by rw [HSU.out]; exact HN5.out), hb8, by omega⟩
            case measure => simp [intOf]; omega
      · obtain rfl : k = x.kids.length := by omega
        have hol := Lib.hid (show (cs.set 12 (.slice Av x.kids.length cap)).length = 13 by rw [List.length_set, HXl.out])
        have ho1 : Hid (∀ u ∈ cs.set 12 (.slice Av x.kids.length cap), u.oneCell' = true) := Lib.hid (fun u hu => by rcases List.mem_or_eq_of_mem_set hu with hu | hu; exact HX1.out u hu; subst hu; rfl)
        go_wp2_with (first
          | ((with_reducible refine ldE 58 hO hol rfl ?_ _ rfl ?_ ?_); (case _ => rfl); (case _ => rfl))
          | ((with_reducible refine stE hR rfl hol ho1 none rfl ?_ _ _ rfl ?_ ?_ ?_); (case _ => rfl); (case _ => rfl); (case _ => rfl); intro w5 hR5 hg5))
        have hload := loadE hR5 hol
        have hb4 : Below w.heap.size w w5 := hb.trans (below_grown hg5 (by omega) (by omega))
        have hN4 := Kd.N_grown HN.out hg5 (fun k hk e => by cases e; rcases hk with hk | hk; (have := HO.out _ hk; omega); omega)
        rw [swapK_done] at hN4
        obtain ⟨B3, d3, B6, d6, B7, d7, B9, d9, B12, d12, he, l3, g3, l6, g6, l7, g7, l9, g9, _, _⟩ := kE_openF HX.out
        have hset : cs.set 12 (.slice Av x.kids.length cap) = [.int .i64 x.kind, .int .i64 x.d.kind, .bool x.d.i.neg, .slice B3 x.d.i.l.length d3, .bool x.d.b, .string x.d.s, .slice B6 x.d.items.length d6, .slice B7 x.d.tail.length d7, .int .i64 x.v, .slice B9 x.vars.length d9, .bool x.rest, .int .i64 x.p, .slice Av x.kids.length cap] := by rw [he]; rfl
        have hlen : (Ex.swapL x.kids hd k8 0 v t).length = x.kids.length := Ex.swapL_len ..
        have hrd := Kd.N_reads' hN4
        have hF4 := Kd.F_mono (Kd.N_F hN4) (ok' := okN ok w.heap.size) (fun k hk => by rcases hk with hk | hk; exact .inl hk; exact .inr (by omega))
        have hK := kE_mkF w5 (okN ok w.heap.size) { x with kids := Ex.swapL x.kids hd k8 0 v t } l3 (Kd.F_mono (Kd.F_below g3 hb4) (fun _ h => .inl h)) l6 (Kd.F_mono (Kd.F_below g6 hb4) (fun _ h => .inl h)) l7 (Kd.F_mono (Kd.F_below g7 hb4) (fun _ h => .inl h)) l9 (Kd.F_mono (Kd.F_below g9 hb4) (fun _ h => .inl h)) (A12 := Av) (c12 := cap) (by show _ ≤ _; rw [hlen]; exact hrd.2.1) (by show Kd.F kE _ _ _ (Ex.swapL x.kids hd k8 0 v t).length _; rw [hlen]; exact hF4)
        simp only [hlen] at hK
        refine bodyPost_ret (v := .agg (cs.set 12 (.slice Av x.kids.length cap)).toArray) ?_ rfl ⟨_, rfl, by rw [hset, HRk.out]; exact hK, hb4⟩
        simp [results, Tryz.f103, asAddr, Result.andThen, Act.put, hload]
end Go.Proofs.YtegolcblbpeoeaaGreatDoor
namespace Go.Proofs.YtegolcblbpeoeaaGreatDoor
open Go.RowKit Go.Shelf Go.Proofs.YtegolcblbpeoeaaGreatDoorW.PrintWords
set_option linter.unusedVariables false
set_option linter.unusedSimpArgs false
/-- Of few. -/
def Ex.Swap (x : Ex) (v : Int) (t : Ex) : Ex := if x.few && t.few then x.swap v t else x
set_option maxRecDepth 100000 in
set_option maxHeartbeats 4000000 in
theorem Swap_calls (x t : Ex) (cs ct : List Value) (v : Int) (w : World) (ok : Nat → Prop) (hok : ∀ k, ok k → k < w.heap.size) (hx : Kd.FK kE w ok x cs) (ht : Kd.FK kE w ok t ct) :
    Calls Tryz.prog 71 #[.agg cs.toArray, .int .i64 v, .agg ct.toArray] w fun e w' => ∃ cs', e = .returned (.agg cs'.toArray) ∧ Kd.FK kE w' (okN ok w.heap.size) (x.Swap v t) cs' ∧ Below w.heap.size w w' := by
  have HXl := Lib.hid (kE_len (Kd.FK_now hx))
  have HX1 := Lib.hid (kE.K_one (Kd.FK_now hx))
  have HX := Lib.hid hx
  have HTl := Lib.hid (kE_len (Kd.FK_now ht))
  have HT1 := Lib.hid (kE.K_one (Kd.FK_now ht))
  have HFX := Lib.hid (fun (W : World) (hb : Below w.heap.size w W) => few_calls x cs W (Kd.FK_now (Kd.FK_below hx hb)))
  have HFT := Lib.hid (fun (W : World) (hb : Below w.heap.size w W) => few_calls t ct W (Kd.FK_now (Kd.FK_below ht hb)))
  have HE := Lib.hid (show x.Swap v t = if x.few && t.few then x.swap v t else x from rfl)
  have HSW := Lib.hid (fun (W : World) (hb : Below w.heap.size w W) (hf : x.few = true) => swap_calls (x.big + 1) x t cs ct v W ok (by omega) (fun k hk => Nat.lt_of_lt_of_le (hok k hk) hb.size) (Kd.FK_below hx hb) (Kd.FK_below ht hb) (by have := few_len hf; omega))
  obtain ⟨r, hr⟩ : ∃ r, r = x.Swap v t := ⟨_, rfl⟩
  obtain ⟨f1, hf1⟩ : ∃ f1, f1 = x.few := ⟨_, rfl⟩
  obtain ⟨f2, hf2⟩ : ∃ f2, f2 = t.few := ⟨_, rfl⟩
  rw [← hr] at HE ⊢
  rw [← hf1] at HFX HE HSW
  rw [← hf2] at HFT HE
  have hW0 : Below w.heap.size w (((w.alloc (.cells cs.toArray 31)).alloc (.cells ct.toArray 31)).alloc (.cells zEc.toArray 31)) := below_alloc (below_alloc (below_alloc (Below.refl _ _) _) _) _
  have hB0 : BX 31 (((w.alloc (.cells cs.toArray 31)).alloc (.cells ct.toArray 31)).alloc (.cells zEc.toArray 31)) w.heap.size cs := ((BX.new w cs).alloc _).alloc _
  have hT0 : BX 31 (((w.alloc (.cells cs.toArray 31)).alloc (.cells ct.toArray 31)).alloc (.cells zEc.toArray 31)) (w.heap.size + 1) ct := by simpa using (BX.new (t := 31) (w.alloc (.cells cs.toArray 31)) ct).alloc (.cells zEc.toArray 31)
  have hR0 : BX 31 (((w.alloc (.cells cs.toArray 31)).alloc (.cells ct.toArray 31)).alloc (.cells zEc.toArray 31)) (w.heap.size + 1 + 1) zEc := by simpa using BX.new (t := 31) ((w.alloc (.cells cs.toArray 31)).alloc (.cells ct.toArray 31)) zEc
  have hs0 : (((w.alloc (.cells cs.toArray 31)).alloc (.cells ct.toArray 31)).alloc (.cells zEc.toArray 31)).heap.size = w.heap.size + 3 := by simp
  have hHO := Lib.hid hok
  clear hr hf1 hf2 hx ht hok
  have harm : True := trivial
  rcases f1 with _ | _
  · go_enter Tryz.func71, Tryz.ntmps71
    go_wp2_with (first
      | ((with_reducible refine ldE 7 hB0 HXl rfl ?_ _ rfl ?_ ?_); (case _ => rfl); (case _ => rfl))
      | (go_at_call 43; (with_reducible refine (HFX.out _ hW0).mono ?_); rintro e w1 ⟨rfl, hb1⟩; have hB1 := hB0.below hb1; have hR1 := hR0.below hb1; have hs1 := hb1.size)
      | ((with_reducible refine ldE 15 hB1 HXl rfl ?_ _ rfl ?_ ?_); (case _ => rfl); (case _ => rfl))
      | ((with_reducible refine stE hR1 rfl HXl HX1 none rfl ?_ _ _ rfl ?_ ?_ ?_); (case _ => rfl); (case _ => rfl); (case _ => rfl); intro w2 hR2 hg2))
    have hload := loadE hR2 HXl
    have hb2 : Below w.heap.size w w2 := (below_then hW0 (by omega) hb1).trans (below_grown hg2 (by omega) (by omega))
    refine bodyPost_ret (v := .agg cs.toArray) ?_ rfl ⟨cs, rfl, by rw [HE.out]; exact Kd.FK_mono (Kd.FK_below HX.out hb2) (fun _ h => .inl h), hb2⟩
    simp [results, Tryz.f71, asAddr, Result.andThen, Act.put, hload]
  rcases f2 with _ | _
  · go_enter Tryz.func71, Tryz.ntmps71
    go_wp2_with (first
      | ((with_reducible refine ldE 7 hB0 HXl rfl ?_ _ rfl ?_ ?_); (case _ => rfl); (case _ => rfl))
      | (go_at_call 43; (with_reducible refine (HFX.out _ hW0).mono ?_); rintro e w1 ⟨rfl, hb1⟩; have hB1 := hB0.below hb1; have hT1 := hT0.below hb1; have hR1 := hR0.below hb1; have hs1 := hb1.size; have hw1 := below_then hW0 (by omega) hb1)
      | ((with_reducible refine ldEg 11 hT1 HTl rfl ?_ _ rfl ?_ ?_); (case _ => rfl); (case _ => rfl))
      | (go_at_call 43; (with_reducible refine (HFT.out _ hw1).mono ?_); rintro e w2 ⟨rfl, hb2⟩; have hB2 := hB1.below hb2; have hR2 := hR1.below hb2; have hs2 := hb2.size)
      | ((with_reducible refine ldE 15 hB2 HXl rfl ?_ _ rfl ?_ ?_); (case _ => rfl); (case _ => rfl))
      | ((with_reducible refine stE hR2 rfl HXl HX1 none rfl ?_ _ _ rfl ?_ ?_ ?_); (case _ => rfl); (case _ => rfl); (case _ => rfl); intro w3 hR3 hg3))
    have hload := loadE hR3 HXl
    have hb3 : Below w.heap.size w w3 := (below_then hw1 hw1.size hb2).trans (below_grown hg3 (by omega) (by omega))
    refine bodyPost_ret (v := .agg cs.toArray) ?_ rfl ⟨cs, rfl, by rw [HE.out]; exact Kd.FK_mono (Kd.FK_below HX.out hb3) (fun _ h => .inl h), hb3⟩
    simp [results, Tryz.f71, asAddr, Result.andThen, Act.put, hload]
  · have HSW2 := Lib.hid (fun (W : World) (hb : Below w.heap.size w W) => HSW.out W hb rfl)
    clear HSW
    go_enter Tryz.func71, Tryz.ntmps71
    go_wp2_with (first
      | ((with_reducible refine ldE 7 hB0 HXl rfl ?_ _ rfl ?_ ?_); (case _ => rfl); (case _ => rfl))
      | (go_at_call 43; (with_reducible refine (HFX.out _ hW0).mono ?_); rintro e w1 ⟨rfl, hb1⟩; have hB1 := hB0.below hb1; have hT1 := hT0.below hb1; have hR1 := hR0.below hb1; have hs1 := hb1.size; have hw1 := below_then hW0 (by omega) hb1)
      | ((with_reducible refine ldEg 11 hT1 HTl rfl ?_ _ rfl ?_ ?_); (case _ => rfl); (case _ => rfl))
      | (go_at_call 43; (with_reducible refine (HFT.out _ hw1).mono ?_); rintro e w2 ⟨rfl, hb2⟩; have hB2 := hB1.below hb2; have hT2 := hT1.below hb2; have hR2 := hR1.below hb2; have hs2 := hb2.size; have hw2 := below_then hw1 hw1.size hb2)
      | ((with_reducible refine ldE 16 hB2 HXl rfl ?_ _ rfl ?_ ?_); (case _ => rfl); (case _ => rfl))
      | ((with_reducible refine ldE 18 hT2 HTl rfl ?_ _ rfl ?_ ?_); (case _ => rfl); (case _ => rfl))
      | (go_at_call 103; (with_reducible refine (HSW2.out _ hw2).mono ?_); rintro e w3 ⟨cr, rfl, hr, hb3⟩; have HRl := Lib.hid (kE_len (Kd.FK_now hr)); have HR1 := Lib.hid (kE.K_one (Kd.FK_now hr)); have HRF := Lib.hid hr; clear hr; have hR3 := hR2.below hb3; have hs3 := hb3.size)
      | ((with_reducible refine stE hR3 rfl HRl HR1 none rfl ?_ _ _ rfl ?_ ?_ ?_); (case _ => rfl); (case _ => rfl); (case _ => rfl); intro w4 hR4 hg4))
    have hload := loadE hR4 HRl
    have hb4 : Below w.heap.size w w4 := (below_then hw2 hw2.size hb3).trans (below_grown hg4 (by omega) (by omega))
    refine bodyPost_ret (v := .agg cr.toArray) ?_ rfl ⟨cr, rfl, by rw [HE.out]; exact Kd.FK_mono (Kd.FK_grown HRF.out hg4 (fun k hk e => by cases e; rcases hk with hk | hk; (have := hHO.out _ hk; omega); omega)) (fun k hk => by rcases hk with hk | hk; exact .inl hk; exact .inr (by omega)), hb4⟩
    simp [results, Tryz.f71, asAddr, Result.andThen, Act.put, hload]
end Go.Proofs.YtegolcblbpeoeaaGreatDoor
