/- Contract: core.Put, with footprints. The walk's conditions: the parameters' memory; not more than a million expressions. Contract: core.swap, core.Swap, with footprints. The walks' conditions: the parameters' memory; not more than a million expressions. Contract: core.Swap, with footprints. The walk's conditions: the parameters' memory. -/
import Derived.Test.YtlcofdgaidlldaaGreatDoorZo
namespace Go.Proofs.YtlcofdgaidlldaaGreatDoor
open Go.RowKit Go.Shelf Go.Proofs.YtlcofdgaidlldaaGreatDoorW.PrintWords
set_option linter.unusedVariables false
set_option linter.unusedSimpArgs false
/-- Another expression where a path leads to. -/
def Ex.put (x : Ex) : List Int → Ex → Option Ex
  | [], y => some y
  | i :: p, y => if 0 ≤ i ∧ i < x.kids.length then ((rdE x.kids i).put p y).map (fun z => x.with i.toNat z) else none
theorem Ex.allL_kids (l : List Ex) : l.length ≤ (Ex.allL l).length := by
  induction l with
  | nil => simp [Ex.allL]
  | cons x xs ih => rw [Ex.allL, List.length_append, x.all_eq, List.length_cons, List.length_cons]; omega
theorem Ex.kids_all (x : Ex) : x.kids.length < x.all.length := by
  have := Ex.allL_kids x.kids
  rw [x.all_eq, List.length_cons]; omega
theorem Ex.kid_all (x : Ex) {k : Nat} (h : k < x.kids.length) : (rdE x.kids k).all.length < x.all.length := by
  have h1 := Ex.allL_len h
  have h2 := Ex.allL_le x.kids (k + 1)
  rw [x.all_eq, List.length_cons]; omega
set_option maxRecDepth 100000 in
set_option maxHeartbeats 4000000 in
theorem Put_calls (path : List Int) : ∀ (x y : Ex) (cs cy : List Value) (A : Option Addr) (c : Nat) (w : World) (ok : Nat → Prop), (∀ k, ok k → k < w.heap.size) → Kd.FK kE w ok x cs → Kd.FK kE w ok y cy → (Kd.int .i64).C w A path.length path → path.length ≤ c → x.all.length ≤ 1000000 →
    Calls Tryz.prog 33 #[.agg cs.toArray, .slice A path.length c, .agg cy.toArray] w fun e w' => ∃ cs', e = .returned (.tuple #[.agg cs'.toArray, .bool (x.put path y).isSome]) ∧ Kd.FK kE w' (okN ok w.heap.size) ((x.put path y).getD zE) cs' ∧ Below w.heap.size w w' := by
  induction path with
  | nil =>
    intro x y cs cy A c w ok hok hx hy hp hpc hl
    have HYl := Lib.hid (kE_len (Kd.FK_now hy))
    have HY1 := Lib.hid (kE.K_one (Kd.FK_now hy))
    have HY := Lib.hid hy
    have hb0 : Below w.heap.size w (((w.alloc (.cells cs.toArray 32)).alloc (.cells cy.toArray 32)).alloc (.cells zEc.toArray 32)) := below_alloc (below_alloc (below_alloc (Below.refl _ _) _) _) _
    have hY0 : BX 32 (((w.alloc (.cells cs.toArray 32)).alloc (.cells cy.toArray 32)).alloc (.cells zEc.toArray 32)) (w.heap.size + 1) cy := by simpa using (BX.new (t := 32) (w.alloc (.cells cs.toArray 32)) cy).alloc (.cells zEc.toArray 32)
    have hR0 : BX 32 (((w.alloc (.cells cs.toArray 32)).alloc (.cells cy.toArray 32)).alloc (.cells zEc.toArray 32)) (w.heap.size + 1 + 1) zEc := by simpa using BX.new (t := 32) ((w.alloc (.cells cs.toArray 32)).alloc (.cells cy.toArray 32)) zEc
    clear hx hy hp hok
    go_enter Tryz.func33, Tryz.ntmps33
    go_wp2_with (first
      | ((with_reducible refine load_list 14 rfl ?_ 32 _ rfl ⟨w.heap.size + 1, 0, none⟩ ?_ cy _ hY0.cells Tryz.underlying32 ?_ ?_ ?_); (case _ => rfl); (case _ => rfl); (case _ => rfl); (case _ => rw [HYl.out]; exact size32'))
      | ((with_reducible refine store_bx hR0 none rfl ?_ _ _ rfl cy ?_ ?_ ?_ ?_ ?_ ?_); (case _ => rfl); (case _ => rfl); (case _ => rfl); (case _ => rw [HYl.out]; exact size32'); (case _ => rw [HYl.out]; rfl); (case _ => exact HY1.out); intro w2 hR2 hg2))
    have hload := hR2.load (P := Tryz.prog) Tryz.underlying32 (by rw [HYl.out]; exact size32')
    have hb2 : Below w.heap.size w w2 := hb0.trans (below_grown hg2 (by simp; omega) (by omega))
    refine bodyPost_ret (v := .tuple #[.agg cy.toArray, .bool true]) ?_ rfl ⟨cy, rfl, Kd.FK_mono (Kd.FK_below HY.out hb2) (fun _ h => .inl h), hb2⟩
    simp [results, Tryz.f33, asAddr, Result.andThen, Act.put, hload]
  | cons i p ih =>
    intro x y cs cy A c w ok hok hx hy hp hpc hl
    have HYl := Lib.hid (kE_len (Kd.FK_now hy))
    have HY1 := Lib.hid (kE.K_one (Kd.FK_now hy))
    have HY := Lib.hid hy
    have HXl := Lib.hid (kE_len (Kd.FK_now hx))
    have HX := Lib.hid hx
    have HO := Lib.hid hok
    have hW0 : Below w.heap.size w (((w.alloc (.cells cs.toArray 32)).alloc (.cells cy.toArray 32)).alloc (.cells zEc.toArray 32)) := below_alloc (below_alloc (below_alloc (Below.refl _ _) _) _) _
    have hB0 : BX 32 (((w.alloc (.cells cs.toArray 32)).alloc (.cells cy.toArray 32)).alloc (.cells zEc.toArray 32)) w.heap.size cs := ((BX.new w cs).alloc _).alloc _
    have hY0 : BX 32 (((w.alloc (.cells cs.toArray 32)).alloc (.cells cy.toArray 32)).alloc (.cells zEc.toArray 32)) (w.heap.size + 1) cy := by simpa using (BX.new (t := 32) (w.alloc (.cells cs.toArray 32)) cy).alloc (.cells zEc.toArray 32)
    have hR0 : BX 32 (((w.alloc (.cells cs.toArray 32)).alloc (.cells cy.toArray 32)).alloc (.cells zEc.toArray 32)) (w.heap.size + 1 + 1) zEc := by simpa using BX.new (t := 32) ((w.alloc (.cells cs.toArray 32)).alloc (.cells cy.toArray 32)) zEc
    have hsz : (((w.alloc (.cells cs.toArray 32)).alloc (.cells cy.toArray 32)).alloc (.cells zEc.toArray 32)).heap.size = w.heap.size + 3 := by simp
    obtain ⟨A3, c3, A6, c6, A7, c7, A9, c9, A12, c12, he, l3, g3, l6, g6, l7, g7, l9, g9, l12, g12⟩ := kE_openF hx
    have hc12 : cs[12]? = some (.slice A12 x.kids.length c12) := by rw [he]; rfl
    have q12 := hB0.cell hc12
    have HX12 := Lib.hid g12
    have hm12 := Kd.F_max g12
    have hmp := Kd.C_max hp
    obtain ⟨ad, hA, hc0'⟩ := elI hp (show 0 < (i :: p).length by simp)
    subst hA
    have hc0 := pw_cell_below hW0 hc0'
    have HP := Lib.hid hp
    have HE := Lib.hid (show x.put (i :: p) y = if 0 ≤ i ∧ i < x.kids.length then ((rdE x.kids i).put p y).map (fun z => x.with i.toNat z) else none by rw [Ex.put])
    obtain ⟨r, hr⟩ : ∃ r, r = x.put (i :: p) y := ⟨_, rfl⟩
    rw [← hr] at HE ⊢
    have IH := Lib.hid ih
    clear he hx hy hp g3 g6 g7 g9 g12 l3 l6 l7 l9 hr hc0' ih hok
    rw [show ad.add 0 = ad by simp [Addr.add], List.getD_cons_zero] at hc0
    by_cases h0 : 0 ≤ i ∧ i < x.kids.length
    · obtain ⟨h0a, h0b⟩ := h0
      obtain ⟨m, rfl⟩ : ∃ m : Nat, i = m := ⟨i.toNat, by omega⟩
      obtain ⟨ad2, cc, hA2, hK2, hcc2⟩ := elEF HX12.out (show m < x.kids.length by omega)
      subst hA2
      have HC : Hid (∀ j u, cc[j]? = some u → (((w.alloc (.cells cs.toArray 32)).alloc (.cells cy.toArray 32)).alloc (.cells zEc.toArray 32)).cell? ((ad2.add (m * 13)).add j) = some u) := Lib.hid (fun j u h => pw_cell_below hW0 (hcc2 j u h))
      have hcl := Lib.hid (kE_len (Kd.FK_now hK2))
      have HK2 := Lib.hid hK2
      clear hcc2 hK2
      have hP1 : (Kd.int .i64).C w (if c = 1 then some ad else some ⟨ad.block, ad.off + 1, none⟩) p.length p := by
        have h1 := Kd.C_drop HP.out (m := 1) (by simp) hpc
        by_cases hc1 : c = 1
        · simpa [hc1] using h1
        · simpa [hc1, Addr.add, Kd.int, Kd.scalar] using h1
      obtain ⟨A1, hA1⟩ : ∃ A1, (if c = 1 then some ad else some ⟨ad.block, ad.off + 1, none⟩ : Option Addr) = A1 := ⟨_, rfl⟩
      rw [hA1] at hP1
      have HA1 := Lib.hid hA1
      have HP1 := Lib.hid hP1
      have hpc1 : p.length ≤ c - 1 := by simp at hpc; omega
      clear hA1 hP1
      have HIH := Lib.hid (fun (W : World) (hb : Below w.heap.size w W) => IH.out (rdE x.kids m) y cc cy A1 (c - 1) W ok (fun k hk => Nat.lt_of_lt_of_le (HO.out k hk) hb.size) (Kd.FK_below HK2.out hb) (Kd.FK_below HY.out hb) (Kd.C_below HP1.out hb) hpc1 (by have := x.kid_all (show m < x.kids.length by omega); omega))
      obtain ⟨r', hr'⟩ : ∃ r', r' = (rdE x.kids m).put p y := ⟨_, rfl⟩
      rw [← hr'] at HIH
      have HE2 := Lib.hid (show r = r'.map (fun z => x.with m z) by rw [HE.out, if_pos ⟨h0a, h0b⟩, hr']; simp)
      clear hr' HE IH
      go_enter Tryz.func33, Tryz.ntmps33
      go_upto_region 6 with fail
      obtain ⟨W0, hW0e⟩ : ∃ W0, W0 = (((w.alloc (.cells cs.toArray 32)).alloc (.cells cy.toArray 32)).alloc (.cells zEc.toArray 32)) := ⟨_, rfl⟩
      rw [← hW0e] at hW0 hB0 hY0 hR0 hsz q12 HC ⊢
      clear hW0e
      go_cut [9, 10] (fun v9 v10 wx => ∃ (g : Nat) (cz : List Value), v9 = .pointer (some ⟨g, 0, none⟩) ∧ v10 = .bool r'.isSome ∧ W0.heap.size ≤ g ∧ BX 32 wx g cz ∧ Hid (Kd.FK kE wx (fun k => okN ok W0.heap.size k ∧ k ≠ g) (r'.getD zE) cz) ∧ Below W0.heap.size W0 wx)
      case first =>
        refine wp_region_held_drew (S := Stood W0) (by kernel_rfl) (below_drew (Below.refl _ _)) (fun hS => ?_)
        refine wpAnyH_take (i := 0) (v := ?_) rfl (by kernel_rfl) (by kernel_rfl) (by kernel_rfl) (fun _ _ _ h => h) (Or.inl ⟨by rfl, ?_⟩) hS ?_
        case refine_2 => (intro w' hS'; go_simp; try with_reducible rfl)
        simp only [Act.put, List.getElem_toArray, List.getElem_cons_succ, List.getElem_cons_zero, List.setIfInBounds_toArray, List.set_cons_zero, List.set_cons_succ]
        refine wpAnyH_take (i := 1) (v := ?_) rfl (by kernel_rfl) (by kernel_rfl) (by kernel_rfl) (fun _ _ _ h => h) (Or.inl ⟨by rfl, ?_⟩) hS ?_
        case refine_2 => (intro w' hS'; have h12 := pw_cell_below hS' q12; go_simp; try with_reducible rfl)
        simp only [Act.put, List.getElem_toArray, List.getElem_cons_succ, List.getElem_cons_zero, List.setIfInBounds_toArray, List.set_cons_zero, List.set_cons_succ]
        refine wpAnyH_take (i := 2) (v := ?_) rfl (by kernel_rfl) (by kernel_rfl) (by kernel_rfl) (fun _ _ _ h => h) (Or.inl ⟨by rfl, ?_⟩) hS ?_
        case refine_2 => (intro w' hS'; go_simp; try with_reducible rfl)
        simp only [Act.put, List.getElem_toArray, List.getElem_cons_succ, List.getElem_cons_zero, List.setIfInBounds_toArray, List.set_cons_zero, List.set_cons_succ]
        refine wpAnyH_take (i := 3) (v := ?_) rfl (by kernel_rfl) (by kernel_rfl) (by kernel_rfl) (fun _ _ _ h => h) (Or.inl ⟨by rfl, ?_⟩) hS ?_
        case refine_2 => (intro w' hS'; go_simp; try with_reducible rfl)
        simp only [Act.put, List.getElem_toArray, List.getElem_cons_succ, List.getElem_cons_zero, List.setIfInBounds_toArray, List.set_cons_zero, List.set_cons_succ]
        refine wpAnyH_take (i := 4) rfl (by kernel_rfl) (by kernel_rfl) (by kernel_rfl) (fun _ _ _ h => h) (held_load (by rfl) 32 _ rfl (ad2.add (m * 13)) rfl cc _ HC.out Tryz.underlying32 rfl (by rw [hcl.out]; exact size32')) hS ?_
        simp only [Act.put, List.getElem_toArray, List.getElem_cons_succ, List.getElem_cons_zero, List.setIfInBounds_toArray, List.set_cons_zero, List.set_cons_succ]
        refine wpAnyH_take (i := 5) (v := ?_) rfl (by kernel_rfl) (by kernel_rfl) (by kernel_rfl) (fun _ _ _ h => h) (Or.inl ⟨by rfl, ?_⟩) hS ?_
        case refine_2 => (intro w' hS'; go_simp; try with_reducible rfl)
        simp only [Act.put, List.getElem_toArray, List.getElem_cons_succ, List.getElem_cons_zero, List.setIfInBounds_toArray, List.set_cons_zero, List.set_cons_succ]
        refine wpAnyH_take (i := 6) (v := ?_) rfl (by kernel_rfl) (by kernel_rfl) (by kernel_rfl) (fun _ _ _ h => h) (Or.inl ⟨by rfl, ?_⟩) hS ?_
        case refine_2 => (intro w' hS'; have hle : (1 : Int) ≤ (p.length : Int) + 1 := (by omega); have hA1 := HA1.out; go_simp; try with_reducible rfl)
        simp only [Act.put, List.getElem_toArray, List.getElem_cons_succ, List.getElem_cons_zero, List.setIfInBounds_toArray, List.set_cons_zero, List.set_cons_succ]
        refine wpAnyH_take (i := 7) rfl (by kernel_rfl) (by kernel_rfl) (by kernel_rfl) (fun _ _ _ h => h) (held_load (by rfl) 32 _ rfl ⟨w.heap.size + 1, 0, none⟩ rfl cy _ hY0.cells Tryz.underlying32 rfl (by rw [HYl.out]; exact size32')) hS ?_
        simp only [Act.put, List.getElem_toArray, List.getElem_cons_succ, List.getElem_cons_zero, List.setIfInBounds_toArray, List.set_cons_zero, List.set_cons_succ]
        refine wpAnyH_ready (rs := [8, 12]) (by kernel_rfl) (by simp) ?_
        refine AllReadyH.cons (o := _) rfl (fun K hK => ?_) (AllReadyH.cons (o := _) rfl (fun K hK => ?_) AllReadyH.nil)
        · go_simp
          refine (HIH.out _ (hW0.trans (below_drew (Below.refl _ _)))).mono ?_
          rintro e w1 ⟨cz, rfl, hz, hb1⟩
          have hzl := Lib.hid (kE_len (Kd.FK_now hz))
          have hz1 := Lib.hid (kE.K_one (Kd.FK_now hz))
          have HZ := Lib.hid hz
          clear hz
          refine hK.out _ _ ((hS.call hb1)) (fun hS => ?_)
          clear hK K
          try simp only [Act.put, List.getElem_toArray, List.getElem_cons_succ, List.getElem_cons_zero, List.setIfInBounds_toArray, List.set_cons_zero, List.set_cons_succ]
          refine wpAnyH_take (i := 9) (v := ?_) rfl (by kernel_rfl) (by kernel_rfl) (by kernel_rfl) (fun _ _ _ h => h) (Or.inl ⟨by rfl, ?_⟩) hS ?_
          case refine_2 => (intro w' hS'; go_simp; try with_reducible rfl)
          simp only [Act.put, List.getElem_toArray, List.getElem_cons_succ, List.getElem_cons_zero, List.setIfInBounds_toArray, List.set_cons_zero, List.set_cons_succ]
          refine wpAnyH_take (i := 10) (v := ?_) rfl (by kernel_rfl) (by kernel_rfl) (by kernel_rfl) (fun _ _ _ h => h) (Or.inl ⟨by rfl, ?_⟩) hS ?_
          case refine_2 => (intro w' hS'; go_simp; try with_reducible rfl)
          simp only [Act.put, List.getElem_toArray, List.getElem_cons_succ, List.getElem_cons_zero, List.setIfInBounds_toArray, List.set_cons_zero, List.set_cons_succ]
          refine wpAnyH_take (i := 11) (v := ?_) rfl (by kernel_rfl) (by kernel_rfl) (by kernel_rfl) (fun _ _ _ h => h) (Or.inl ⟨by rfl, ?_⟩) hS ?_
          case refine_2 => (intro w' hS'; go_simp; try with_reducible rfl)
          simp only [Act.put, List.getElem_toArray, List.getElem_cons_succ, List.getElem_cons_zero, List.setIfInBounds_toArray, List.set_cons_zero, List.set_cons_succ]
          refine wpAnyH_ready (rs := [12]) (by kernel_rfl) (by simp) ?_
          refine AllReadyH.cons (o := _) rfl (fun K hK => ?_) AllReadyH.nil
          go_simp
          refine hK.out _ _ ((hS.alloc _)) (fun hS => ?_)
          clear hK K
          try simp only [Act.put, List.getElem_toArray, List.getElem_cons_succ, List.getElem_cons_zero, List.setIfInBounds_toArray, List.set_cons_zero, List.set_cons_succ]
          refine wpAnyH_ready (rs := [13]) (by kernel_rfl) (by simp) ?_
          refine AllReadyH.cons (o := _) rfl (fun K hK => ?_) AllReadyH.nil
          refine step_store (BX.new w1 zEc) (by rfl) none rfl _ _ rfl cz rfl rfl (by rw [hzl.out]; exact size32') (by rw [hzl.out]; rfl) hz1.out ?_
          intro w2 hZ2 hg2
          refine hK.out _ _ ((hS.grown hg2 (by have := hb1.size; simpa using this))) (fun hS => ?_)
          clear hK K
          try simp only [Act.put, List.getElem_toArray, List.getElem_cons_succ, List.getElem_cons_zero, List.setIfInBounds_toArray, List.set_cons_zero, List.set_cons_succ]
          refine wpAnyH_take (i := 14) (v := ?_) rfl (by kernel_rfl) (by kernel_rfl) (by kernel_rfl) (fun _ _ _ h => h) (Or.inl ⟨by rfl, ?_⟩) hS ?_
          case refine_2 => (intro w' hS'; go_simp; try with_reducible rfl)
          simp only [Act.put, List.getElem_toArray, List.getElem_cons_succ, List.getElem_cons_zero, List.setIfInBounds_toArray, List.set_cons_zero, List.set_cons_succ]
          refine wpAnyH_done (by kernel_rfl) ?_ _
          go_wp2_with fail
          go_meet
          exact ⟨w1.heap.size, cz, rfl, rfl, by have := hb1.size; simpa using this, hZ2, Lib.hid (Kd.FK_mono (Kd.FK_grown (Kd.FK_below (Kd.FK_bound HZ.out) (below_alloc (Below.refl _ _) _)) hg2 (fun k hk e => by cases e; exact Nat.lt_irrefl _ hk.2)) (fun k hk => ⟨hk.1, fun e => by subst e; exact Nat.lt_irrefl _ hk.2⟩)), hS⟩
        · go_simp
          have hS1 : Stood W0 (W0.alloc (.cells zEc.toArray 32)).drew := below_drew (below_alloc (Below.refl _ _) _)
          refine hK.out _ _ (hS1) (fun hS => ?_)
          clear hK K
          try simp only [Act.put, List.getElem_toArray, List.getElem_cons_succ, List.getElem_cons_zero, List.setIfInBounds_toArray, List.set_cons_zero, List.set_cons_succ]
          refine wpAnyH_ready (rs := [8]) (by kernel_rfl) (by simp) ?_
          refine AllReadyH.cons (o := _) rfl (fun K hK => ?_) AllReadyH.nil
          go_simp
          refine (HIH.out _ (below_then hW0 hW0.size hS1)).mono ?_
          rintro e w1 ⟨cz, rfl, hz, hb1⟩
          have hzl := Lib.hid (kE_len (Kd.FK_now hz))
          have hz1 := Lib.hid (kE.K_one (Kd.FK_now hz))
          have HZ := Lib.hid hz
          clear hz
          refine hK.out _ _ ((hS.call hb1)) (fun hS => ?_)
          clear hK K
          try simp only [Act.put, List.getElem_toArray, List.getElem_cons_succ, List.getElem_cons_zero, List.setIfInBounds_toArray, List.set_cons_zero, List.set_cons_succ]
          refine wpAnyH_take (i := 9) (v := ?_) rfl (by kernel_rfl) (by kernel_rfl) (by kernel_rfl) (fun _ _ _ h => h) (Or.inl ⟨by rfl, ?_⟩) hS ?_
          case refine_2 => (intro w' hS'; go_simp; try with_reducible rfl)
          simp only [Act.put, List.getElem_toArray, List.getElem_cons_succ, List.getElem_cons_zero, List.setIfInBounds_toArray, List.set_cons_zero, List.set_cons_succ]
          refine wpAnyH_take (i := 10) (v := ?_) rfl (by kernel_rfl) (by kernel_rfl) (by kernel_rfl) (fun _ _ _ h => h) (Or.inl ⟨by rfl, ?_⟩) hS ?_
          case refine_2 => (intro w' hS'; go_simp; try with_reducible rfl)
          simp only [Act.put, List.getElem_toArray, List.getElem_cons_succ, List.getElem_cons_zero, List.setIfInBounds_toArray, List.set_cons_zero, List.set_cons_succ]
          refine wpAnyH_take (i := 11) (v := ?_) rfl (by kernel_rfl) (by kernel_rfl) (by kernel_rfl) (fun _ _ _ h => h) (Or.inl ⟨by rfl, ?_⟩) hS ?_
          case refine_2 => (intro w' hS'; go_simp; try with_reducible rfl)
          simp only [Act.put, List.getElem_toArray, List.getElem_cons_succ, List.getElem_cons_zero, List.setIfInBounds_toArray, List.set_cons_zero, List.set_cons_succ]
          refine wpAnyH_ready (rs := [13]) (by kernel_rfl) (by simp) ?_
          refine AllReadyH.cons (o := _) rfl (fun K hK => ?_) AllReadyH.nil
          refine step_store (g := W0.heap.size) (BX.below (w := (W0.alloc (.cells zEc.toArray 32)).drew) (BX.new W0 zEc) hb1) (by rfl) none rfl _ _ rfl cz (by rw [hsz]; rfl) rfl (by rw [hzl.out]; exact size32') (by rw [hzl.out]; rfl) hz1.out ?_
          intro w2 hZ2 hg2
          refine hK.out _ _ ((hS.grown hg2 (Nat.le_refl _))) (fun hS => ?_)
          clear hK K
          try simp only [Act.put, List.getElem_toArray, List.getElem_cons_succ, List.getElem_cons_zero, List.setIfInBounds_toArray, List.set_cons_zero, List.set_cons_succ]
          refine wpAnyH_take (i := 14) (v := ?_) rfl (by kernel_rfl) (by kernel_rfl) (by kernel_rfl) (fun _ _ _ h => h) (Or.inl ⟨by rfl, ?_⟩) hS ?_
          case refine_2 => (intro w' hS'; go_simp; try with_reducible rfl)
          simp only [Act.put, List.getElem_toArray, List.getElem_cons_succ, List.getElem_cons_zero, List.setIfInBounds_toArray, List.set_cons_zero, List.set_cons_succ]
          refine wpAnyH_done (by kernel_rfl) ?_ _
          go_wp2_with fail
          go_meet
          exact ⟨W0.heap.size, cz, by rw [hsz], rfl, Nat.le_refl _, hZ2, Lib.hid (Kd.FK_mono (ok := fun k => ok k ∨ W0.heap.size + 1 ≤ k) (Kd.FK_grown (Kd.FK_mono HZ.out (fun k hk => by rcases hk with hk | hk; exact .inl hk; exact .inr (by simpa using hk))) hg2 (fun k hk e => by cases e; rcases hk with hk | hk; (have := HO.out _ hk; omega); omega)) (fun k hk => ⟨by rcases hk with hk | hk; exact .inl hk; exact .inr (by omega), fun e => by subst e; rcases hk with hk | hk; (have := HO.out _ hk; omega); omega⟩)), hS⟩
      case rest =>
        obtain ⟨g, cz, rfl, rfl, hgW, hZ, HZ, hbc⟩ := hcut
        have hB1 := hB0.below hbc
        have hR1 := hR0.below hbc
        have hsc := hbc.size
        have hglt := hZ.lt
        have hwc := hW0.trans (hbc.mono (by omega))
        have q1 := hB1.cell hc12
        have f1 := hB1.frozen 12
        cases r' with
        | none =>
          have HRn := Lib.hid (show r = none by rw [HE2.out]; rfl)
          have hbt : (Option.none : Option Ex).isSome = false := rfl
          go_wp2_with ((with_reducible refine store_bx hR1 none rfl ?_ _ _ rfl zEc ?_ ?_ ?_ ?_ ?_ ?_); (case _ => rfl); (case _ => rfl); (case _ => rfl); (case _ => exact size32'); (case _ => rfl); (case _ => decide); intro w2 hR2 hg2)
          have hload := hR2.load (P := Tryz.prog) Tryz.underlying32 (by exact size32')
          refine bodyPost_ret (v := .tuple #[.agg zEc.toArray, .bool false]) ?_ rfl ⟨zEc, by rw [HRn.out]; rfl, by rw [HRn.out]; exact Kd.FK_mono (zE_FK _) (fun _ h => h.elim), hwc.trans (below_grown hg2 (by omega) (by omega))⟩
          simp [results, Tryz.f33, asAddr, Result.andThen, Act.put, hload]
        | some z =>
          have HRs := Lib.hid (show r = some (x.with m z) by rw [HE2.out]; rfl)
          have hbt : (some z).isSome = true := rfl
          have hzl := Lib.hid (kE_len (Kd.FK_now HZ.out))
          have hz1 := Lib.hid (kE.K_one (Kd.FK_now HZ.out))
          have HZ2 := Lib.hid (Kd.FK_bound HZ.out)
          have HCl := Lib.hid (Clone_E_calls x.kids (some ad2) c12 wc ok (Kd.C_below (Kd.F_now HX12.out) hwc) (Kd.F_below HX12.out hwc) (fun k hk => Nat.lt_of_lt_of_le (HO.out k hk) hwc.size) (by have := x.kids_all; omega))
          have hml : m < x.kids.length := by omega
          go_wp2_with (first
            | (go_at_call 48; (with_reducible refine HCl.out.mono ?_); rintro e w1 ⟨v, rfl, hN, hb1⟩; obtain ⟨g2, cap, hv, hgb, hgl, _⟩ := Kd.N_form hN (Nat.lt_of_le_of_lt (Nat.zero_le _) hml); subst hv; have hle := (Kd.N_reads' hN).2.1; have hB2 := hB1.below hb1; have hZ2 := hZ.below hb1; have hR2 := hR1.below hb1; have q2 := hB2.cell hc12; have f2 := hB2.frozen 12; have hZZ := (hZ2.kept (grown_setCell w1 w.heap.size 12 (.slice (some ⟨g2, 0, none⟩) x.kids.length cap)) (fun e => by simp at e; omega)); have hRR := (hR2.kept (grown_setCell w1 w.heap.size 12 (.slice (some ⟨g2, 0, none⟩) x.kids.length cap)) (fun e => by injection e; omega)); have hBB := hB2.setCell 12 (.slice (some ⟨g2, 0, none⟩) x.kids.length cap); have HNN := Lib.hid (Kd.N_grown (Kd.N_mono hN (ok' := okN ok W0.heap.size) (fun k hk => by rcases hk with hk | hk; exact .inl hk; exact .inr (Nat.le_trans hsc hk))) (grown_setCell w1 w.heap.size 12 (.slice (some ⟨g2, 0, none⟩) x.kids.length cap)) (fun k hk e => by cases e; rcases hk with hk | hk; (have := HO.out _ hk; omega); omega)); obtain ⟨cE, hcE, _, hcc, _⟩ := Kd.N_elem HNN.out zE (m : Int) (by omega) (by omega); have HCC := Lib.hid hcc; have HSg := Lib.hid (show cE.take 0 ++ cz ++ cE.drop (0 + cz.length) = cz by rw [List.take_zero, List.nil_append, List.drop_eq_nil_of_le (by rw [hcE, Nat.zero_add, hzl.out]; exact Nat.le_refl _), List.append_nil]); clear hcc; have HYY := Lib.hid (Kd.FK_grown (Kd.FK_below HZ2.out hb1) (grown_setCell w1 w.heap.size 12 (.slice (some ⟨g2, 0, none⟩) x.kids.length cap)) (fun k hk e => by cases e; rcases hk.1.1 with hk | hk; (have := HO.out _ hk; omega); omega)); have hs1 := hb1.size; clear hN)
            | ((with_reducible refine load_list 50 rfl ?_ 32 _ rfl ⟨g, 0, none⟩ ?_ cz _ hZZ.cells Tryz.underlying32 ?_ ?_ ?_); (case _ => rfl); (case _ => rfl); (case _ => rfl); (case _ => rw [hzl.out]; exact size32'))
            | ((with_reducible refine gate_store (t := 32) (p := 51) rfl ?_); refine Kd.N_store kE (w0 := w1.setCell ⟨w.heap.size, 12, none⟩ (.slice (some ⟨g2, 0, none⟩) x.kids.length cap)) _ rfl rfl 32 _ _ rfl 32 (m : Int) 0 x.kids z (.agg cz.toArray) cz cE _ (fun k => (okN ok W0.heap.size k ∧ k ≠ g) ∧ k < wc.heap.size) rfl ?_ rfl rfl ?_ hz1.out HNN.out ?_ ?_ hcE HCC.out ?_ (by rw [HSg.out]; exact HYY.out) ?_ (Below.refl _ _) ?_; (case _ => show m * 13 = (m : Int).toNat * 13 + 0; simp); (case _ => rw [hzl.out]; exact size32'); (case _ => omega); (case _ => omega); (case _ => rw [hzl.out]; exact Nat.le_refl _); (case _ => exact fun k hk => ⟨hk.1.1, by have := hk.2; omega⟩); intro w3 hN3 _ hg3; have HN3 := Lib.hid hN3; clear hN3; have hB3 := hBB.kept hg3 (fun e => by simp at e; omega); have hR3 := hRR.kept hg3 (fun e => by simp at e; omega))
            | ((with_reducible refine load_list 52 rfl ?_ 32 _ rfl ⟨w.heap.size, 0, none⟩ ?_ (cs.set 12 (.slice (some ⟨g2, 0, none⟩) x.kids.length cap)) _ hB3.cells Tryz.underlying32 ?_ ?_ ?_); (case _ => rfl); (case _ => rfl); (case _ => rfl); (case _ => rw [List.length_set, HXl.out]; exact size32'))
            | ((with_reducible refine store_bx hR3 none rfl ?_ _ _ rfl (cs.set 12 (.slice (some ⟨g2, 0, none⟩) x.kids.length cap)) ?_ ?_ ?_ ?_ ?_ ?_); (case _ => rfl); (case _ => rfl); (case _ => rfl); (case _ => rw [List.length_set, HXl.out]; exact size32'); (case _ => rw [List.length_set, HXl.out]; rfl); (case _ => intro u hu; rcases List.mem_or_eq_of_mem_set hu with hu | hu; exact kE.K_one (Kd.FK_now HX.out) u hu; subst hu; rfl); intro w4 hR4 hg4))
          have hload := hR4.load (P := Tryz.prog) Tryz.underlying32 (by rw [List.length_set, HXl.out]; exact size32')
          have hs3 := hg3.size
          have hss : (w1.setCell ⟨w.heap.size, 12, none⟩ (.slice (some ⟨g2, 0, none⟩) x.kids.length cap)).heap.size = w1.heap.size := by simp [World.setCell]
          have hb4 : Below w.heap.size w w4 :=
            ((hwc.trans (hb1.mono (by omega))).trans (below_grown (grown_setCell w1 w.heap.size 12 (.slice (some ⟨g2, 0, none⟩) x.kids.length cap)) (by omega) (Nat.le_refl _))).trans ((below_grown hg3 (by omega) (by omega)).trans (below_grown hg4 (by omega) (by omega)))
          have hN4 := Kd.N_grown HN3.out hg4 (fun k hk e => by cases e; rcases hk with hk | hk; (have := HO.out _ hk; omega); omega)
          obtain ⟨B3, d3, B6, d6, B7, d7, B9, d9, B12, d12, he, l3, g3, l6, g6, l7, g7, l9, g9, _, _⟩ := kE_openF HX.out
          have hset : cs.set 12 (.slice (some ⟨g2, 0, none⟩) x.kids.length cap) = [.int .i64 x.kind, .int .i64 x.d.kind, .bool x.d.i.neg, .slice B3 x.d.i.l.length d3, .bool x.d.b, .string x.d.s, .slice B6 x.d.items.length d6, .slice B7 x.d.tail.length d7, .int .i64 x.v, .slice B9 x.vars.length d9, .bool x.rest, .int .i64 x.p, .slice (some ⟨g2, 0, none⟩) x.kids.length cap] := by rw [he]; rfl
          have hlen : (x.with m z).kids.length = x.kids.length := List.length_set
          have hF4 := Kd.F_mono (Kd.N_F hN4) (ok' := okN ok w.heap.size) (fun k hk => by rcases hk with hk | hk; exact .inl hk; exact .inr (by omega))
          rw [show ((m : Int).toNat) = m by omega] at hF4
          have hK := kE_mkF w4 (okN ok w.heap.size) (x.with m z) l3 (Kd.F_mono (Kd.F_below g3 hb4) (fun _ h => .inl h)) l6 (Kd.F_mono (Kd.F_below g6 hb4) (fun _ h => .inl h)) l7 (Kd.F_mono (Kd.F_below g7 hb4) (fun _ h => .inl h)) l9 (Kd.F_mono (Kd.F_below g9 hb4) (fun _ h => .inl h)) (A12 := some ⟨g2, 0, none⟩) (c12 := cap) (by rw [hlen]; exact hle) (by rw [hlen]; exact hF4)
          rw [hlen] at hK
          refine bodyPost_ret (v := .tuple #[.agg (cs.set 12 (.slice (some ⟨g2, 0, none⟩) x.kids.length cap)).toArray, .bool true]) ?_ rfl ⟨_, by rw [HRs.out]; rfl, by rw [hset, HRs.out]; exact hK, hb4⟩
          simp [results, Tryz.f33, asAddr, Result.andThen, Act.put, hload]
    · have HRn := Lib.hid (show r = none by rw [HE.out, if_neg h0])
      by_cases hneg : i < 0
      all_goals
        go_enter Tryz.func33, Tryz.ntmps33
        go_wp2_with ((with_reducible refine store_bx hR0 none rfl ?_ _ _ rfl zEc ?_ ?_ ?_ ?_ ?_ ?_); (case _ => rfl); (case _ => rfl); (case _ => rfl); (case _ => exact size32'); (case _ => rfl); (case _ => decide); intro w2 hR2 hg2)
        have hload := hR2.load (P := Tryz.prog) Tryz.underlying32 (by exact size32')
        have hb2 : Below w.heap.size w w2 := hW0.trans (below_grown hg2 (by simp; omega) (by omega))
        refine bodyPost_ret (v := .tuple #[.agg zEc.toArray, .bool false]) ?_ rfl ⟨zEc, by rw [HRn.out]; rfl, by rw [HRn.out]; exact Kd.FK_mono (zE_FK _) (fun _ h => h.elim), hb2⟩
        simp [results, Tryz.f33, asAddr, Result.andThen, Act.put, hload]
end Go.Proofs.YtlcofdgaidlldaaGreatDoor
namespace Go.Proofs.YtlcofdgaidlldaaGreatDoor
open Go.RowKit Go.Shelf Go.Proofs.YtlcofdgaidlldaaGreatDoorW.PrintWords
set_option linter.unusedVariables false
set_option linter.unusedSimpArgs false
end Go.Proofs.YtlcofdgaidlldaaGreatDoor
namespace Go.Proofs.YtlcofdgaidlldaaGreatDoor
open Go.RowKit Go.Shelf Go.Proofs.YtlcofdgaidlldaaGreatDoorW.PrintWords
set_option linter.unusedVariables false
set_option linter.unusedSimpArgs false
end Go.Proofs.YtlcofdgaidlldaaGreatDoor
