/- Contracts: rule.idle. Contract: rule.here at Drop, of two in a row. The walk's conditions: the parameters' memory. -/
import Derived.Test.YtlcofdgaidlldaaGreatDoorZc
import Derived.Test.YtlcofdgaidlldaaGreatDoorZt
namespace Go.Proofs.YtlcofdgaidlldaaGreatDoor
open Go.RowKit Go.Proofs.YtlcofdgaidlldaaGreatDoorW.PrintWords
set_option linter.unusedVariables false
set_option linter.unusedSimpArgs false
set_option maxHeartbeats 1000000 in
theorem idle_calls (n : Nat) : (∀ (x : Ex) (cs : List Value) (w : World), x.big < n → kE.K w x cs → Calls Tryz.prog 64 #[.agg cs.toArray] w fun e w' => e = .returned (.bool x.idle) ∧ Below w.heap.size w w') ∧
    (∀ (x : Ex) (cs : List Value) (w : World), x.big < n → kE.K w x cs → Calls Tryz.prog 85 #[.agg cs.toArray] w fun e w' => e = .returned (.bool (!x.idle)) ∧ Below w.heap.size w w') := by
  induction n with
  | zero => exact ⟨fun x cs w h => by omega, fun x cs w h => by omega⟩
  | succ n ih =>
  have h1 : ∀ (x : Ex) (cs : List Value) (w : World), x.big < n + 1 → kE.K w x cs → Calls Tryz.prog 64 #[.agg cs.toArray] w fun e w' => e = .returned (.bool x.idle) ∧ Below w.heap.size w w' := by
    intro x cs w hn hx
    obtain ⟨A3, c3, A6, c6, A7, c7, A9, c9, A12, c12, rfl, l3, g3, l6, g6, l7, g7, l9, g9, l12, g12⟩ := kE_open hx
    have HF := Lib.hid (fun (W : World) (hb : Below w.heap.size w W) => ContainsFunc_E_idle (fun k => !k.idle) x.kids A12 c12 W (Kd.C_below g12 hb) (fun k hk W2 c _ hK => ih.2 (rdE x.kids k) c W2 (by have := Ex.big_kid hk; omega) hK))
    have HQ := Lib.hid (fun W => quiet_calls x.p W)
    clear hx g3 g6 g7 g9 g12 ih
    have HR := Lib.hid (x.idle_eq.trans (by rw [Ex.idleL_all]))
    cases k1 : x.kind == 1
    case true =>
      go_enter Tryz.func64, Tryz.ntmps64
      go_wp2
      go_ret
      exact ⟨retB (by rw [HR.out, if_pos (by simp at k1; omega)]), by exact below_alloc (Below.refl _ _) _⟩
    cases k2 : x.kind == 2
    case true =>
      go_enter Tryz.func64, Tryz.ntmps64
      go_wp2
      go_ret
      exact ⟨retB (by rw [HR.out, if_pos (by simp at k2; omega)]), by exact below_alloc (Below.refl _ _) _⟩
    cases k5 : x.kind == 5
    case true =>
      go_enter Tryz.func64, Tryz.ntmps64
      go_wp2
      go_ret
      exact ⟨retB (by rw [HR.out, if_pos (by simp at k5; omega)]), by exact below_alloc (Below.refl _ _) _⟩
    have HR1 := Lib.hid (HR.out.trans (if_neg (by simp at k1 k2 k5; omega)))
    cases k7 : x.kind == 7
    case true =>
      have HR2 := Lib.hid (HR1.out.trans (if_pos (by simpa using k7)))
      cases hq : quietB x.p
      case false =>
        have HQ2 := Lib.hid (fun W => hq ▸ HQ.out W)
        go_enter Tryz.func64, Tryz.ntmps64
        go_wp2_with (go_at_call 84; refine (HQ.out _).mono ?_; rintro e w1 ⟨rfl, hb1⟩; rw [hq])
        go_ret
        exact ⟨retB (by rw [HR2.out, hq]; rfl), below_then (below_alloc (Below.refl _ _) _) (by simp) hb1⟩
      case true =>
        go_enter Tryz.func64, Tryz.ntmps64
        go_wp2_with (first
          | (go_at_call 84; refine (HQ.out _).mono ?_; rintro e w1 ⟨rfl, hb1⟩; rw [hq]; have hc := pw_cell_below hb1 (a := ⟨w.heap.size, 12, none⟩) (v := .slice A12 x.kids.length c12) (by go_simp))
          | (go_at_call 29; refine (HF.out _ (below_then (below_alloc (Below.refl _ _) _) (by simp) hb1)).mono ?_; rintro e w2 ⟨rfl, hb2⟩))
        go_ret
        exact ⟨retB (by rw [HR2.out, hq]; rfl), below_then (below_then (below_alloc (Below.refl _ _) _) (by simp) hb1) (by have := hb1.size; simp at this; omega) hb2⟩
    have HR2 := Lib.hid (HR1.out.trans (if_neg (by simpa using k7)))
    cases k4 : x.kind == 4
    case true =>
      go_enter Tryz.func64, Tryz.ntmps64
      go_wp2_with (go_at_call 29; refine (HF.out _ (below_alloc (Below.refl _ _) _)).mono ?_; rintro e w2 ⟨rfl, hb2⟩)
      go_ret
      exact ⟨retB (by rw [HR2.out, if_pos (by simp at k4; omega)]), below_then (below_alloc (Below.refl _ _) _) (by simp) hb2⟩
    cases k8 : x.kind == 8
    case true =>
      go_enter Tryz.func64, Tryz.ntmps64
      go_wp2_with (go_at_call 29; refine (HF.out _ (below_alloc (Below.refl _ _) _)).mono ?_; rintro e w2 ⟨rfl, hb2⟩)
      go_ret
      exact ⟨retB (by rw [HR2.out, if_pos (by simp at k8; omega)]), below_then (below_alloc (Below.refl _ _) _) (by simp) hb2⟩
    cases k9 : x.kind == 9
    case true =>
      go_enter Tryz.func64, Tryz.ntmps64
      go_wp2_with (go_at_call 29; refine (HF.out _ (below_alloc (Below.refl _ _) _)).mono ?_; rintro e w2 ⟨rfl, hb2⟩)
      go_ret
      exact ⟨retB (by rw [HR2.out, if_pos (by simp at k9; omega)]), below_then (below_alloc (Below.refl _ _) _) (by simp) hb2⟩
    go_enter Tryz.func64, Tryz.ntmps64
    go_wp2
    go_ret
    exact ⟨retB (by rw [HR2.out, if_neg (by simp at k4 k8 k9; omega)]), by exact below_alloc (Below.refl _ _) _⟩
  refine ⟨h1, ?_⟩
  intro x cs w hn hx
  have HC := Lib.hid (fun (W : World) (hb : Below w.heap.size w W) => h1 x cs W hn (kE.K_below hb hx))
  obtain ⟨A3, c3, A6, c6, A7, c7, A9, c9, A12, c12, rfl, l3, g3, l6, g6, l7, g7, l9, g9, l12, g12⟩ := kE_open hx
  clear hx g3 g6 g7 g9 g12 ih h1
  go_enter Tryz.func85, Tryz.ntmps85
  go_wp2_with (go_at_call 64; refine (HC.out _ (below_alloc (Below.refl _ _) _)).mono ?_; rintro e w1 ⟨rfl, hb1⟩)
  go_ret
  exact ⟨rfl, below_then (below_alloc (Below.refl _ _) _) (by simp) hb1⟩
end Go.Proofs.YtlcofdgaidlldaaGreatDoor
namespace Go.Proofs.YtlcofdgaidlldaaGreatDoor
open Go.RowKit Go.Shelf Go.Proofs.YtlcofdgaidlldaaGreatDoorW.PrintWords
set_option linter.unusedVariables false
set_option linter.unusedSimpArgs false
set_option maxRecDepth 100000 in
set_option maxHeartbeats 8000000 in
theorem here_drop (x : Ex) (cs : List Value) (A : Option Addr) (n c : Nat) (k : Int) (no : Bool) (next : Int) (w : World) (ok : Nat → Prop) (hok : ∀ k, ok k → k < w.heap.size) (hx : Kd.FK kE w ok x cs) (hk9 : (x.kind == 9) = true) (hk : 1 < x.kids.length) :
    Calls Tryz.prog 47 #[.agg (stepC 3 A n c k no).toArray, .agg cs.toArray, .int .i64 next] w (Post w ok (rdE x.kids 1, (rdE x.kids 0).idle)) := by
  have HXl := Lib.hid (kE_len (Kd.FK_now hx))
  have HO := Lib.hid hok
  obtain ⟨A3, c3, A6, c6, A7, c7, A9, c9, A12, c12, he, l3, g3, l6, g6, l7, g7, l9, g9, l12, g12⟩ := kE_openF hx
  have hc12 : cs[12]? = some (.slice A12 x.kids.length c12) := by rw [he]; rfl
  have hc0 : cs[0]? = some (.int .i64 x.kind) := by rw [he]; rfl
  have hm12 := Kd.F_max g12
  obtain ⟨ad, c0, hA, hK0, hcc0⟩ := elEF g12 (show 0 < x.kids.length by omega)
  obtain ⟨ad', c1, hA', hK1, hcc1⟩ := elEF g12 (show 1 < x.kids.length by omega)
  rw [hA] at hA'
  cases hA'
  subst hA
  have H0l := Lib.hid (kE_len (Kd.FK_now hK0))
  have H1l := Lib.hid (kE_len (Kd.FK_now hK1))
  have H11 := Lib.hid (kE.K_one (Kd.FK_now hK1))
  have HC0 := Lib.hid hcc0
  have HC1 := Lib.hid hcc1
  have HK1 : Hid (Kd.FK kE w ok (rdE x.kids 1) c1) := Lib.hid hK1
  have HI : Hid (∀ W, Below w.heap.size w W → Calls Tryz.prog 64 #[.agg c0.toArray] W fun e w' => e = .returned (.bool (rdE x.kids 0).idle) ∧ Below W.heap.size W w') := Lib.hid (fun W hb => (idle_calls ((rdE x.kids 0).big + 1)).1 (rdE x.kids 0) c0 W (Nat.lt_succ_self _) (Kd.FK_now (Kd.FK_below hK0 hb)))
  obtain ⟨y, hy⟩ : ∃ y, y = rdE x.kids 1 := ⟨_, rfl⟩
  obtain ⟨id, hid⟩ : ∃ id, id = (rdE x.kids 0).idle := ⟨_, rfl⟩
  rw [← hy] at HK1 ⊢
  rw [← hid] at HI ⊢
  obtain ⟨kl, hkl⟩ : ∃ kl, kl = x.kids.length := ⟨_, rfl⟩
  rw [← hkl] at hc12 hm12 hk
  obtain ⟨kk, hkk⟩ : ∃ kk, kk = x.kind := ⟨_, rfl⟩
  rw [← hkk] at hc0 hk9
  have hk9' : kk = 9 := by simpa using hk9
  subst hk9'
  have hB0 : BX 32 (((w.alloc (.cells (stepC 3 A n c k no).toArray 36)).alloc (.cells cs.toArray 32)).alloc (.cells zEc.toArray 32)) (w.heap.size + 1) cs := by simpa using (BX.new (t := 32) (w.alloc (.cells (stepC 3 A n c k no).toArray 36)) cs).alloc (.cells zEc.toArray 32)
  have hR0 : BX 32 (((w.alloc (.cells (stepC 3 A n c k no).toArray 36)).alloc (.cells cs.toArray 32)).alloc (.cells zEc.toArray 32)) (w.heap.size + 1 + 1) zEc := by simpa using BX.new (t := 32) ((w.alloc (.cells (stepC 3 A n c k no).toArray 36)).alloc (.cells cs.toArray 32)) zEc
  have hW0 : Below w.heap.size w (((w.alloc (.cells (stepC 3 A n c k no).toArray 36)).alloc (.cells cs.toArray 32)).alloc (.cells zEc.toArray 32)) := below_alloc (below_alloc (below_alloc (Below.refl _ _) _) _) _
  have hs0 : (((w.alloc (.cells (stepC 3 A n c k no).toArray 36)).alloc (.cells cs.toArray 32)).alloc (.cells zEc.toArray 32)).heap.size = w.heap.size + 3 := by simp
  have q0 := hB0.cell hc0
  clear he hx hok g3 g6 g7 g9 g12 hK0 hK1 hcc0 hcc1 hy hid hkl hkk hc0
  go_enter Tryz.func47, Tryz.ntmps47
  go_upto_region 8 with fail
  obtain ⟨W0, hW0e⟩ : ∃ W0, W0 = (((w.alloc (.cells (stepC 3 A n c k no).toArray 36)).alloc (.cells cs.toArray 32)).alloc (.cells zEc.toArray 32)) := ⟨_, rfl⟩
  rw [← hW0e] at hB0 hR0 hW0 hs0 ⊢
  have HS0 := Lib.hid hs0
  clear hW0e hs0 q0
  have hRd : BX 32 W0.drew (w.heap.size + 1 + 1) zEc := hR0.below (below_drew (Below.refl _ _))
  have hS0 : Below w.heap.size w W0.drew ∧ BX 32 W0.drew (w.heap.size + 1) cs := ⟨below_drew hW0, hB0.below (below_drew (Below.refl _ _))⟩
  have hki1 : (1 : Int) < (kl : Int) := by omega
  have hki0 : (0 : Int) < (kl : Int) := by omega
  have hkn0 : 0 < kl := by omega
  refine wp_region_held_drew (S := fun w' => Below w.heap.size w w' ∧ BX 32 w' (w.heap.size + 1) cs) (by kernel_rfl) hS0 (fun hS => ?_)
  refine wpAnyH_take (i := 0) (v := ?_) rfl (by kernel_rfl) (by kernel_rfl) (by kernel_rfl) (fun _ _ _ h => h) (Or.inl ⟨by rfl, ?_⟩) hS ?_
  case refine_2 => (intro w' hS'; go_simp; try with_reducible rfl)
  simp only [Act.put, List.getElem_toArray, List.getElem_cons_succ, List.getElem_cons_zero, List.setIfInBounds_toArray, List.set_cons_zero, List.set_cons_succ]
  refine wpAnyH_take (i := 1) (v := ?_) rfl (by kernel_rfl) (by kernel_rfl) (by kernel_rfl) (fun _ _ _ h => h) (Or.inl ⟨by rfl, ?_⟩) hS ?_
  case refine_2 => (intro w' hS'; have h12 := hS'.2.cell hc12; go_simp; try with_reducible rfl)
  simp only [Act.put, List.getElem_toArray, List.getElem_cons_succ, List.getElem_cons_zero, List.setIfInBounds_toArray, List.set_cons_zero, List.set_cons_succ]
  refine wpAnyH_take (i := 2) (v := ?_) rfl (by kernel_rfl) (by kernel_rfl) (by kernel_rfl) (fun _ _ _ h => h) (Or.inl ⟨by rfl, ?_⟩) hS ?_
  case refine_2 => (intro w' hS'; go_simp; try with_reducible rfl)
  simp only [Act.put, List.getElem_toArray, List.getElem_cons_succ, List.getElem_cons_zero, List.setIfInBounds_toArray, List.set_cons_zero, List.set_cons_succ]
  refine wpAnyH_take (i := 3) rfl (by kernel_rfl) (by kernel_rfl) (by kernel_rfl) (fun _ _ _ h => h) (held_loadS (by rfl) 32 _ rfl (ad.add (1 * 13)) rfl c1 _ (fun w' hS' j u hj => pw_cell_below hS'.1 (HC1.out j u hj)) Tryz.underlying32 rfl (by rw [H1l.out]; exact size32')) hS ?_
  simp only [Act.put, List.getElem_toArray, List.getElem_cons_succ, List.getElem_cons_zero, List.setIfInBounds_toArray, List.set_cons_zero, List.set_cons_succ]
  refine wpAnyH_take (i := 4) (v := ?_) rfl (by kernel_rfl) (by kernel_rfl) (by kernel_rfl) (fun _ _ _ h => h) (Or.inl ⟨by rfl, ?_⟩) hS ?_
  case refine_2 => (intro w' hS'; go_simp; try with_reducible rfl)
  simp only [Act.put, List.getElem_toArray, List.getElem_cons_succ, List.getElem_cons_zero, List.setIfInBounds_toArray, List.set_cons_zero, List.set_cons_succ]
  refine wpAnyH_take (i := 5) (v := ?_) rfl (by kernel_rfl) (by kernel_rfl) (by kernel_rfl) (fun _ _ _ h => h) (Or.inl ⟨by rfl, ?_⟩) hS ?_
  case refine_2 => (intro w' hS'; have h12 := hS'.2.cell hc12; go_simp; try with_reducible rfl)
  simp only [Act.put, List.getElem_toArray, List.getElem_cons_succ, List.getElem_cons_zero, List.setIfInBounds_toArray, List.set_cons_zero, List.set_cons_succ]
  refine wpAnyH_take (i := 6) (v := ?_) rfl (by kernel_rfl) (by kernel_rfl) (by kernel_rfl) (fun _ _ _ h => h) (Or.inl ⟨by rfl, ?_⟩) hS ?_
  case refine_2 => (intro w' hS'; go_simp; try with_reducible rfl)
  simp only [Act.put, List.getElem_toArray, List.getElem_cons_succ, List.getElem_cons_zero, List.setIfInBounds_toArray, List.set_cons_zero, List.set_cons_succ]
  refine wpAnyH_take (i := 7) rfl (by kernel_rfl) (by kernel_rfl) (by kernel_rfl) (fun _ _ _ h => h) (held_loadS (by rfl) 32 _ rfl (ad.add (0 * 13)) rfl c0 _ (fun w' hS' j u hj => pw_cell_below hS'.1 (HC0.out j u hj)) Tryz.underlying32 rfl (by rw [H0l.out]; exact size32')) hS ?_
  simp only [Act.put, List.getElem_toArray, List.getElem_cons_succ, List.getElem_cons_zero, List.setIfInBounds_toArray, List.set_cons_zero, List.set_cons_succ]
  refine wpAnyH_ready (rs := [8]) (by kernel_rfl) (by simp) ?_
  refine AllReadyH.cons (o := _) rfl (fun K hK => ?_) AllReadyH.nil
  go_simp
  refine (HI.out _ hS0.1).mono ?_
  rintro e w1 ⟨rfl, hb1⟩
  have hs1 : w.heap.size + 3 ≤ w1.heap.size := by rw [← HS0.out]; exact hb1.size
  have hw1 := below_then hS0.1 hS0.1.size hb1
  have hS1 : Below w.heap.size w w1 ∧ BX 32 w1 (w.heap.size + 1) cs := ⟨hw1, hS0.2.below hb1⟩
  have hR1 := hRd.below hb1
  refine hK.out _ _ (hS1) (fun hS => ?_)
  clear hK K
  try simp only [Act.put, List.getElem_toArray, List.getElem_cons_succ, List.getElem_cons_zero, List.setIfInBounds_toArray, List.set_cons_zero, List.set_cons_succ]
  refine wpAnyH_ready (rs := [9]) (by kernel_rfl) (by simp) ?_
  refine AllReadyH.cons (o := _) rfl (fun K hK => ?_) AllReadyH.nil
  refine step_store hR1 (by rfl) none rfl _ _ rfl c1 rfl rfl (by rw [H1l.out]; exact size32') (by rw [H1l.out]; rfl) H11.out ?_
  intro w2 hR2 hg2
  have hw2 := hw1.trans (below_grown hg2 hw1.size (by omega))
  refine hK.out _ _ (⟨hw2, hS1.2.kept hg2 (fun e => by injection e; omega)⟩) (fun hS => ?_)
  clear hK K
  try simp only [Act.put, List.getElem_toArray, List.getElem_cons_succ, List.getElem_cons_zero, List.setIfInBounds_toArray, List.set_cons_zero, List.set_cons_succ]
  refine wpAnyH_take (i := 10) (v := ?_) rfl (by kernel_rfl) (by kernel_rfl) (by kernel_rfl) (fun _ _ _ h => h) (Or.inl ⟨by rfl, ?_⟩) hS ?_
  case refine_2 => (intro w' hS'; go_simp; try with_reducible rfl)
  simp only [Act.put, List.getElem_toArray, List.getElem_cons_succ, List.getElem_cons_zero, List.setIfInBounds_toArray, List.set_cons_zero, List.set_cons_succ]
  refine wpAnyH_done (by kernel_rfl) ?_ _
  go_wp2_with fail
  have hload := loadE hR2 H1l
  refine bodyPost_ret (v := .tuple #[.agg c1.toArray, .bool id]) ?_ rfl ⟨c1, rfl, Kd.FK_mono (Kd.FK_below HK1.out hw2) (fun _ h => .inl h), hw2⟩
  simp [results, Tryz.f47, asAddr, Result.andThen, Act.put, hload]
end Go.Proofs.YtlcofdgaidlldaaGreatDoor
