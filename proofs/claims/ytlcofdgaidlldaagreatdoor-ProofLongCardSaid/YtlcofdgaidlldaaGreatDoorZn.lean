/- Contracts: pavaneref08.budget, Few, Small. The walk's conditions: the parameter's memory; budgets within a million. Contracts: pavaneref03.budget, Few, Small. The walk's conditions: the parameter's memory; budgets within a million. Contract: pavanelaw11.short. The walk's condition: the parameter's memory. Contracts: pavaneref08.ints, pavaneref01.Same. The walk's condition: the parameters' memory. Contract: pavaneref01.Norm. The walk's condition: the parameter's memory. Contracts: rule.choice at a rule that is none of ExIf's. The walk's condition: the parameter's memory; there is a Kid. -/
import Derived.BigQuiet
import Derived.Test.YtlcofdgaidlldaaGreatDoorZl
import Derived.Test.YtlcofdgaidlldaaGreatDoorZm
namespace Go.Proofs.YtlcofdgaidlldaaGreatDoor
open Go.RowKit Go.Shelf Go.Proofs.YtlcofdgaidlldaaGreatDoorW.PrintWords
set_option linter.unusedVariables false
set_option linter.unusedSimpArgs false
set_option maxHeartbeats 2000000 in
theorem budget_calls (n : Nat) : ∀ (x : Ex) (cs : List Value) (left deep : Int) (w : World), x.big < n → kE.K w x cs → 0 ≤ left → left ≤ 1000000 → 0 ≤ deep → deep ≤ 1000000 →
    Calls Tryz.prog 22 #[.agg cs.toArray, .int .i64 left, .int .i64 deep] w fun e w' => e = .returned (.int .i64 (x.within left deep)) ∧ Below w.heap.size w w' := by
  induction n with
  | zero => intro x cs left deep w h; omega
  | succ n ih =>
  intro x cs left deep w hn hx h0 h1 h2 h3
  obtain ⟨A3, c3, A6, c6, A7, c7, A9, c9, A12, c12, he, l3, g3, l6, g6, l7, g7, l9, g9, l12, g12⟩ := kE_open hx
  have q12 := new_cell0 w cs 32 12 (.slice A12 x.kids.length c12) (by rw [he]; rfl)
  have G12 := Lib.hid g12
  have hm := Kd.C_max g12
  have IH := Lib.hid ih
  clear he hx g3 g6 g7 g9 g12 l3 l6 l7 l9 ih
  have HR := Lib.hid (Ex.within_eq x left deep)
  by_cases hl : left - 1 < 0
  · go_enter Tryz.func22, Tryz.ntmps22
    go_wp2
    go_ret
    exact ⟨retI (by rw [HR.out, if_pos (.inl hl)]), by exact below_alloc (Below.refl _ _) _⟩
  by_cases hd : deep ≤ 0
  · go_enter Tryz.func22, Tryz.ntmps22
    go_wp2
    go_ret
    exact ⟨retI (by rw [HR.out, if_pos (.inr (by omega))]), by exact below_alloc (Below.refl _ _) _⟩
  go_enter Tryz.func22, Tryz.ntmps22
  go_wp2
  go_loopw [1, 20] (fun v1 v20 wr => ∃ (k : Nat) (m : Int), k ≤ x.kids.length ∧ v20 = .int .i64 k ∧ v1 = .int .i64 m ∧ 0 ≤ m ∧ m ≤ 1000000 ∧ Hid (x.within left deep = Ex.withinL (x.kids.drop k) m (deep - 1)) ∧ Below w.heap.size w wr)
    (fun _ v20 _ => x.kids.length - (intOf v20).toNat)
  case atStart => exact ⟨0, left - 1, Nat.zero_le _, rfl, rfl, by omega, by omega, Lib.hid (by rw [HR.out, if_neg (by omega)]; rfl), below_alloc (Below.refl _ _) _⟩
  case round =>
    obtain ⟨k, m, hk, rfl, rfl, hm0, hm1, HE, hb⟩ := hrel
    by_cases hlt : k < x.kids.length
    · have g12 := Kd.C_below G12.out hb
      obtain ⟨ad, cc, hA, hK, hcc⟩ := elE g12 hlt
      subst hA
      have hbe : Below wr.heap.size wr (wr.alloc (.cells cc.toArray 32)) := below_alloc (Below.refl _ _) _
      have HK := Lib.hid (kE.K_below hbe hK)
      have HC := Lib.hid hcc
      have hcl := Lib.hid (kE_len hK)
      have hc1 := Lib.hid (kE.K_one hK)
      clear g12 hK hcc
      have hbig := Ex.big_kid hlt
      have hle := Ex.within_le (rdE x.kids k) m (deep - 1)
      have HE2 := Lib.hid (HE.out.trans (by rw [drop_rdE hlt, Ex.withinL]))
      go_wp2_with (first
        | ((with_reducible refine load_list 23 rfl ?_ 32 _ rfl (ad.add (k * 13)) ?_ cc _ HC.out Tryz.underlying32 ?_ ?_ ?_); (case _ => rfl); (case _ => rfl); (case _ => rfl); (case _ => rw [hcl.out]; exact size32'))
        | ((with_reducible refine store_new _ none rfl ?_ 32 _ _ rfl _ cc ?_ ?_ ?_ ?_ ?_ ?_); (case _ => rfl); (case _ => rfl); (case _ => rfl); (case _ => rw [hcl.out]; exact size32'); (case _ => rw [hcl.out]; rfl); (case _ => rw [List.all_eq_true]; exact hc1.out))
        | ((with_reducible refine load_list 24 rfl ?_ 32 _ rfl ⟨wr.heap.size, 0, none⟩ ?_ cc _ (new_cells _ _ _) Tryz.underlying32 ?_ ?_ ?_); (case _ => rfl); (case _ => rfl); (case _ => rfl); (case _ => rw [hcl.out]; exact size32'))
        | (go_at_call 22; refine (IH.out (rdE x.kids k) cc m (deep - 1) _ (by omega) HK.out (by omega) (by omega) (by omega) (by omega)).mono ?_; rintro e w1 ⟨rfl, hb1⟩))
      · go_ret
        exact ⟨retI (by rw [HE2.out, if_pos (by assumption)]), below_then hb hb.size (below_then hbe (by simp) hb1)⟩
      · go_roundw
        case rel => exact ⟨k + 1, _, by omega, by go_num, rfl, by omega, by omega, Lib.hid (by rw [HE2.out, if_neg (by omega)]), below_then hb hb.size (below_then hbe (by simp) hb1)⟩
        case measure => simp [intOf]; omega
    · go_wp2
      go_ret
      exact ⟨retI (by rw [HE.out, List.drop_eq_nil_of_le (by omega), Ex.withinL]), hb⟩
set_option maxHeartbeats 1000000 in
theorem rFew_calls (x : Ex) (cs : List Value) (w : World) (hx : kE.K w x cs) : Calls Tryz.prog 13 #[.agg cs.toArray] w fun e w' => e = .returned (.bool x.few) ∧ Below w.heap.size w w' := by
  have HW := Lib.hid (fun (W : World) (hb : Below w.heap.size w W) => budget_calls (x.big + 1) x cs 100000 10000 W (by omega) (kE.K_below hb hx) (by omega) (by omega) (by omega) (by omega))
  have HKl := Lib.hid (kE_len hx)
  have HR := Lib.hid (show x.few = decide (0 ≤ x.within 100000 10000) from rfl)
  clear hx
  go_enter Tryz.func13, Tryz.ntmps13
  go_wp2_with (first
    | ((with_reducible refine load_list 3 rfl ?_ 32 _ rfl ⟨w.heap.size, 0, none⟩ ?_ cs _ (new_cells _ _ _) Tryz.underlying32 ?_ ?_ ?_); (case _ => rfl); (case _ => rfl); (case _ => rfl); (case _ => rw [HKl.out]; exact size32'))
    | (go_at_call 22; refine (HW.out _ (below_alloc (Below.refl _ _) _)).mono ?_; rintro e w1 ⟨rfl, hb1⟩))
  go_ret
  exact ⟨retB (by rw [HR.out]), below_then (below_alloc (Below.refl _ _) _) (by simp) hb1⟩
end Go.Proofs.YtlcofdgaidlldaaGreatDoor
namespace Go.Proofs.YtlcofdgaidlldaaGreatDoor
open Go.RowKit Go.Shelf Go.Proofs.YtlcofdgaidlldaaGreatDoorW.PrintWords
set_option linter.unusedVariables false
set_option linter.unusedSimpArgs false
set_option maxHeartbeats 1000000 in
theorem dbudget_calls (n : Nat) : ∀ (x : Dt) (cs : List Value) (left deep : Int) (w : World), x.big < n → kD.K w x cs → 0 ≤ left → left ≤ 1000000 → 0 ≤ deep → deep ≤ 1000000 →
    Calls Tryz.prog 38 #[.agg cs.toArray, .int .i64 left, .int .i64 deep] w fun e w' => e = .returned (.int .i64 (x.within left deep)) ∧ Below w.heap.size w w' := by
  induction n with
  | zero => intro x cs left deep w h; omega
  | succ n ih =>
  intro x cs left deep w hn hx h0 h1 h2 h3
  obtain ⟨A2, c2, A5, c5, A6, c6, rfl, l2, g2, l5, g5, l6, g6⟩ := kD_open hx
  have G5 := Lib.hid g5
  have G6 := Lib.hid g6
  have hm5 := Kd.C_max g5
  have hm6 := Kd.C_max g6
  have IH := Lib.hid ih
  clear hx g2 g5 g6 ih
  have HR := Lib.hid (Dt.within_LL x left deep)
  by_cases hl : left - 1 < 0
  · go_enter Tryz.func38, Tryz.ntmps38
    go_wp2
    go_ret
    exact ⟨retI (by rw [HR.out, if_pos (.inl hl)]), by exact below_alloc (Below.refl _ _) _⟩
  by_cases hd : deep ≤ 0
  · go_enter Tryz.func38, Tryz.ntmps38
    go_wp2
    go_ret
    exact ⟨retI (by rw [HR.out, if_pos (.inr (by omega))]), by exact below_alloc (Below.refl _ _) _⟩
  have HR2 := Lib.hid (HR.out.trans (if_neg (by omega)))
  have i0 : ∀ w, (Instr.index 85 (.agg #[.slice A5 x.items.length c5, .slice A6 x.tail.length c6]) (.int .i64 0)).run Tryz.prog w = .ok (.slice A5 x.items.length c5) w := fun _ => by kernel_rfl
  have i1 : ∀ w, (Instr.index 85 (.agg #[.slice A5 x.items.length c5, .slice A6 x.tail.length c6]) (.int .i64 1)).run Tryz.prog w = .ok (.slice A6 x.tail.length c6) w := fun _ => by kernel_rfl
  go_enter Tryz.func38, Tryz.ntmps38
  go_wp2
  go_loopw [1, 24] (fun v1 v24 wr => ∃ (j m : Int), 0 ≤ j ∧ j ≤ 2 ∧ v24 = .int .i64 j ∧ v1 = .int .i64 m ∧ 0 ≤ m ∧ m ≤ 1000000 ∧ Hid (x.within left deep = Dt.withinLL ([x.items, x.tail].drop j.toNat) m (deep - 1)) ∧ Below w.heap.size w wr)
    (fun _ v24 _ => 2 - (intOf v24).toNat)
  case atStart => exact ⟨0, left - 1, by omega, by omega, rfl, rfl, by omega, by omega, HR2, below_alloc (Below.refl _ _) _⟩
  case round =>
    obtain ⟨j, m, hj0, hj, rfl, rfl, hm0, hm1, HE, hb⟩ := hrel
    rcases (show j = 0 ∨ j = 1 ∨ j = 2 by omega) with rfl | rfl | rfl
    · go_wp2
      go_loopw [1, 29] (fun v1 v29 wx => ∃ (k : Nat) (m' : Int), k ≤ x.items.length ∧ v29 = .int .i64 k ∧ v1 = .int .i64 m' ∧ 0 ≤ m' ∧ m' ≤ 1000000 ∧ Hid (x.within left deep = if Dt.withinL (x.items.drop k) m' (deep - 1) < 0 then -1 else Dt.withinLL [x.tail] (Dt.withinL (x.items.drop k) m' (deep - 1)) (deep - 1)) ∧ Below w.heap.size w wx)
        (fun _ v29 _ => x.items.length - (intOf v29).toNat)
      case atStart => exact ⟨0, m, Nat.zero_le _, rfl, rfl, hm0, hm1, Lib.hid (by rw [HE.out]; rfl), hb⟩
      case round =>
        obtain ⟨k, m', hk, rfl, rfl, hn0, hn1, HF, hbx⟩ := hrel
        by_cases hlt : k < x.items.length
        · obtain ⟨ad, c, hA, hK, hcc⟩ := elD (Kd.C_below G5.out hbx) hlt
          subst hA
          have hbe : Below wr.heap.size wr (wr.alloc (.cells c.toArray 28)) := below_alloc (Below.refl _ _) _
          have HK := Lib.hid (kD.K_below hbe hK)
          have HC := Lib.hid hcc
          have hcl := Lib.hid (kD_len hK)
          have hc1 := Lib.hid (kD.K_one hK)
          clear hK hcc
          have hbig := Dt.big_item hlt
          have hle := Dt.within_le (rdD x.items k) m' (deep - 1)
          have HF2 := Lib.hid (HF.out.trans (by rw [drop_rdD hlt, Dt.withinL]))
          go_wp2_with (first
            | ((with_reducible refine load_list 32 rfl ?_ 28 _ rfl (ad.add (k * 7)) ?_ c _ HC.out Tryz.underlying28 ?_ ?_ ?_); (case _ => rfl); (case _ => rfl); (case _ => rfl); (case _ => rw [hcl.out]; exact size28'))
            | ((with_reducible refine store_new _ none rfl ?_ 28 _ _ rfl _ c ?_ ?_ ?_ ?_ ?_ ?_); (case _ => rfl); (case _ => rfl); (case _ => rfl); (case _ => rw [hcl.out]; exact size28'); (case _ => rw [hcl.out]; rfl); (case _ => rw [List.all_eq_true]; exact hc1.out))
            | ((with_reducible refine load_list 33 rfl ?_ 28 _ rfl ⟨wr.heap.size, 0, none⟩ ?_ c _ (new_cells _ _ _) Tryz.underlying28 ?_ ?_ ?_); (case _ => rfl); (case _ => rfl); (case _ => rfl); (case _ => rw [hcl.out]; exact size28'))
            | (go_at_call 38; refine (IH.out (rdD x.items k) c m' (deep - 1) _ (by omega) HK.out (by omega) (by omega) (by omega) (by omega)).mono ?_; rintro e w1 ⟨rfl, hb1⟩))
          · go_ret
            have hneg : (rdD x.items k).within m' (deep - 1) < 0 := by assumption
            exact ⟨retI (by rw [HF2.out]; simp [hneg]), below_then hbx hbx.size (below_then hbe (by simp) hb1)⟩
          · go_roundw
            case rel => exact ⟨k + 1, _, by omega, by go_num, rfl, by omega, by omega, Lib.hid (by rw [HF2.out]; simp only [if_neg (show ¬ ((rdD x.items k).within m' (deep - 1) < 0) by omega)]), below_then hbx hbx.size (below_then hbe (by simp) hb1)⟩
            case measure => simp [intOf]; omega
        · have HF2 := Lib.hid (HF.out.trans (by rw [List.drop_eq_nil_of_le (by omega), Dt.withinL, if_neg (by omega)]))
          go_wp2
          go_roundw
          case rel => exact ⟨1, m', by omega, by omega, rfl, rfl, hn0, hn1, HF2, hbx⟩
          case measure => simp [intOf]
    · go_wp2
      go_loopw [1, 29] (fun v1 v29 wx => ∃ (k : Nat) (m' : Int), k ≤ x.tail.length ∧ v29 = .int .i64 k ∧ v1 = .int .i64 m' ∧ 0 ≤ m' ∧ m' ≤ 1000000 ∧ Hid (x.within left deep = if Dt.withinL (x.tail.drop k) m' (deep - 1) < 0 then -1 else Dt.withinLL [] (Dt.withinL (x.tail.drop k) m' (deep - 1)) (deep - 1)) ∧ Below w.heap.size w wx)
        (fun _ v29 _ => x.tail.length - (intOf v29).toNat)
      case atStart => exact ⟨0, m, Nat.zero_le _, rfl, rfl, hm0, hm1, Lib.hid (by rw [HE.out]; rfl), hb⟩
      case round =>
        obtain ⟨k, m', hk, rfl, rfl, hn0, hn1, HF, hbx⟩ := hrel
        by_cases hlt : k < x.tail.length
        · obtain ⟨ad, c, hA, hK, hcc⟩ := elD (Kd.C_below G6.out hbx) hlt
          subst hA
          have hbe : Below wr.heap.size wr (wr.alloc (.cells c.toArray 28)) := below_alloc (Below.refl _ _) _
          have HK := Lib.hid (kD.K_below hbe hK)
          have HC := Lib.hid hcc
          have hcl := Lib.hid (kD_len hK)
          have hc1 := Lib.hid (kD.K_one hK)
          clear hK hcc
          have hbig := Dt.big_tail hlt
          have hle := Dt.within_le (rdD x.tail k) m' (deep - 1)
          have HF2 := Lib.hid (HF.out.trans (by rw [drop_rdD hlt, Dt.withinL]))
          go_wp2_with (first
            | ((with_reducible refine load_list 32 rfl ?_ 28 _ rfl (ad.add (k * 7)) ?_ c _ HC.out Tryz.underlying28 ?_ ?_ ?_); (case _ => rfl); (case _ => rfl); (case _ => rfl); (case _ => rw [hcl.out]; exact size28'))
            | ((with_reducible refine store_new _ none rfl ?_ 28 _ _ rfl _ c ?_ ?_ ?_ ?_ ?_ ?_); (case _ => rfl); (case _ => rfl); (case _ => rfl); (case _ => rw [hcl.out]; exact size28'); (case _ => rw [hcl.out]; rfl); (case _ => rw [List.all_eq_true]; exact hc1.out))
            | ((with_reducible refine load_list 33 rfl ?_ 28 _ rfl ⟨wr.heap.size, 0, none⟩ ?_ c _ (new_cells _ _ _) Tryz.underlying28 ?_ ?_ ?_); (case _ => rfl); (case _ => rfl); (case _ => rfl); (case _ => rw [hcl.out]; exact size28'))
            | (go_at_call 38; refine (IH.out (rdD x.tail k) c m' (deep - 1) _ (by omega) HK.out (by omega) (by omega) (by omega) (by omega)).mono ?_; rintro e w1 ⟨rfl, hb1⟩))
          · go_ret
            have hneg : (rdD x.tail k).within m' (deep - 1) < 0 := by assumption
            exact ⟨retI (by rw [HF2.out]; simp [hneg]), below_then hbx hbx.size (below_then hbe (by simp) hb1)⟩
          · go_roundw
            case rel => exact ⟨k + 1, _, by omega, by go_num, rfl, by omega, by omega, Lib.hid (by rw [HF2.out]; simp only [if_neg (show ¬ ((rdD x.tail k).within m' (deep - 1) < 0) by omega)]), below_then hbx hbx.size (below_then hbe (by simp) hb1)⟩
            case measure => simp [intOf]; omega
        · have HF2 := Lib.hid (HF.out.trans (by rw [List.drop_eq_nil_of_le (by omega), Dt.withinL, if_neg (by omega)]))
          go_wp2
          go_roundw
          case rel => exact ⟨2, m', by omega, by omega, rfl, rfl, hn0, hn1, HF2, hbx⟩
          case measure => simp [intOf]
    · go_wp2
      go_ret
      exact ⟨retI (by rw [HE.out]; rfl), hb⟩
set_option maxHeartbeats 1000000 in
theorem rdFew_calls (x : Dt) (cs : List Value) (w : World) (hx : kD.K w x cs) : Calls Tryz.prog 24 #[.agg cs.toArray] w fun e w' => e = .returned (.bool (decide (0 ≤ x.within 100000 10000))) ∧ Below w.heap.size w w' := by
  have HW := Lib.hid (fun (W : World) (hb : Below w.heap.size w W) => dbudget_calls (x.big + 1) x cs 100000 10000 W (by omega) (kD.K_below hb hx) (by omega) (by omega) (by omega) (by omega))
  have HKl := Lib.hid (kD_len hx)
  clear hx
  go_enter Tryz.func24, Tryz.ntmps24
  go_wp2_with (first
    | ((with_reducible refine load_list 3 rfl ?_ 28 _ rfl ⟨w.heap.size, 0, none⟩ ?_ cs _ (new_cells _ _ _) Tryz.underlying28 ?_ ?_ ?_); (case _ => rfl); (case _ => rfl); (case _ => rfl); (case _ => rw [HKl.out]; exact size28'))
    | (go_at_call 38; refine (HW.out _ (below_alloc (Below.refl _ _) _)).mono ?_; rintro e w1 ⟨rfl, hb1⟩))
  go_ret
  exact ⟨rfl, below_then (below_alloc (Below.refl _ _) _) (by simp) hb1⟩
end Go.Proofs.YtlcofdgaidlldaaGreatDoor
namespace Go.Proofs.YtlcofdgaidlldaaGreatDoor
open Go.RowKit Go.Shelf Go.Proofs.YtlcofdgaidlldaaGreatDoorW.PrintWords
set_option linter.unusedVariables false
set_option linter.unusedSimpArgs false
end Go.Proofs.YtlcofdgaidlldaaGreatDoor
namespace Go.Proofs.YtlcofdgaidlldaaGreatDoor
open Go.RowKit Go.Shelf Go.Proofs.YtlcofdgaidlldaaGreatDoorW.PrintWords
set_option linter.unusedVariables false
set_option linter.unusedSimpArgs false
set_option maxHeartbeats 1000000 in
theorem ints_calls (xs ys : List Int) (A B : Option Addr) (c d : Nat) (w : World) (hx : (Kd.int .i64).C w A xs.length xs) (hy : (Kd.int .i64).C w B ys.length ys) :
    Calls Tryz.prog 23 #[.slice A xs.length c, .slice B ys.length d] w fun e w' => e = .returned (.bool (decide (xs = ys))) ∧ Below w.heap.size w w' := by
  have HX := Lib.hid hx
  have HY := Lib.hid hy
  have hmx := Kd.C_max hx
  have hmy := Kd.C_max hy
  clear hx hy
  by_cases hl : xs.length = ys.length
  · have HR : Hid (decide (xs = ys) = decide (xs.drop 0 = ys.drop 0)) := Lib.hid (by simp)
    have HL := Lib.hid hl
    have hlb : ((xs.length : Int) == (ys.length : Int)) = true := by rw [hl]; simp
    go_enter Tryz.func23, Tryz.ntmps23
    go_wp2
    go_loopw [13] (fun v13 wr => ∃ k : Nat, k ≤ xs.length ∧ v13 = .int .i64 k ∧ Hid (decide (xs = ys) = decide (xs.drop k = ys.drop k)) ∧ Below w.heap.size w wr) (fun v13 _ => xs.length - (intOf v13).toNat)
    case atStart => exact ⟨0, Nat.zero_le _, rfl, HR, Below.refl _ _⟩
    case round =>
      obtain ⟨k, hk, rfl, HE, hb⟩ := hrel
      by_cases hlt : k < xs.length
      · have hlt2 : k < ys.length := by omega
        obtain ⟨ad, hA, hc0⟩ := elI HX.out hlt
        obtain ⟨ad2, hA2, hd0⟩ := elI HY.out hlt2
        subst hA
        subst hA2
        have hc := pw_cell_below hb hc0
        have hd := pw_cell_below hb hd0
        have HE2 := Lib.hid (HE.out.trans (show _ = decide (xs.getD k 0 :: xs.drop (k + 1) = ys.getD k 0 :: ys.drop (k + 1)) by
          rw [List.drop_eq_getElem_cons hlt, List.drop_eq_getElem_cons hlt2]; simp [List.getD_eq_getElem?_getD, hlt, hlt2]))
        obtain ⟨u, hu⟩ : ∃ u, u = xs.getD k 0 := ⟨_, rfl⟩
        obtain ⟨v, hv⟩ : ∃ v, v = ys.getD k 0 := ⟨_, rfl⟩
        rw [← hu] at hc HE2
        rw [← hv] at hd HE2
        clear hc0 hd0 hu hv
        have hcd : wr.drew.cell? (ad.add k) = some (.int .i64 u) := hc
        have hdd : wr.drew.cell? (ad2.add k) = some (.int .i64 v) := hd
        cases huv : u != v
        · go_wp2
          go_quiet (fail)
          all_goals go_wp2
          go_roundw
          case rel => exact ⟨k + 1, by omega, by go_num, Lib.hid (by rw [HE2.out]; simp at huv; simp [huv]), pw_below_drewN hb _⟩
          case measure => simp [intOf]; omega
        · go_wp2
          go_quiet (fail)
          all_goals go_wp2
          go_ret
          exact ⟨retB (by rw [HE2.out]; simp at huv; simp [huv]), pw_below_drewN hb _⟩
      · go_wp2
        go_ret
        have e1 : xs.drop k = [] := List.drop_eq_nil_of_le (by omega)
        have e2 : ys.drop k = [] := List.drop_eq_nil_of_le (by omega)
        exact ⟨retB (by rw [HE.out, e1, e2]; rfl), hb⟩
  · have HR := Lib.hid (show decide (xs = ys) = false by rw [decide_eq_false_iff_not]; exact fun e => hl (by rw [e]))
    go_enter Tryz.func23, Tryz.ntmps23
    go_wp2
    go_ret
    exact ⟨retB HR.out.symm, Below.refl _ _⟩
set_option maxHeartbeats 1000000 in
theorem rsame1_calls (xs ys : List Int) (A B : Option Addr) (c d : Nat) (w : World) (hx : (Kd.int .u32).C w A xs.length xs) (hy : (Kd.int .u32).C w B ys.length ys) :
    Calls Tryz.prog 51 #[.slice A xs.length c, .slice B ys.length d] w fun e w' => e = .returned (.bool (decide (xs = ys))) ∧ Below w.heap.size w w' := by
  have HX := Lib.hid hx
  have HY := Lib.hid hy
  have hmx := Kd.C_max hx
  have hmy := Kd.C_max hy
  clear hx hy
  by_cases hl : xs.length = ys.length
  · have HR : Hid (decide (xs = ys) = decide (xs.drop 0 = ys.drop 0)) := Lib.hid (by simp)
    have HL := Lib.hid hl
    have hlb : ((xs.length : Int) == (ys.length : Int)) = true := by rw [hl]; simp
    go_enter Tryz.func51, Tryz.ntmps51
    go_wp2
    go_loopw [13] (fun v13 wr => ∃ k : Nat, k ≤ xs.length ∧ v13 = .int .i64 k ∧ Hid (decide (xs = ys) = decide (xs.drop k = ys.drop k)) ∧ Below w.heap.size w wr) (fun v13 _ => xs.length - (intOf v13).toNat)
    case atStart => exact ⟨0, Nat.zero_le _, rfl, HR, Below.refl _ _⟩
    case round =>
      obtain ⟨k, hk, rfl, HE, hb⟩ := hrel
      by_cases hlt : k < xs.length
      · have hlt2 : k < ys.length := by omega
        obtain ⟨ad, hA, hc0⟩ := elI HX.out hlt
        obtain ⟨ad2, hA2, hd0⟩ := elI HY.out hlt2
        subst hA
        subst hA2
        have hc := pw_cell_below hb hc0
        have hd := pw_cell_below hb hd0
        have HE2 := Lib.hid (HE.out.trans (show _ = decide (xs.getD k 0 :: xs.drop (k + 1) = ys.getD k 0 :: ys.drop (k + 1)) by
          rw [List.drop_eq_getElem_cons hlt, List.drop_eq_getElem_cons hlt2]; simp [List.getD_eq_getElem?_getD, hlt, hlt2]))
        obtain ⟨u, hu⟩ : ∃ u, u = xs.getD k 0 := ⟨_, rfl⟩
        obtain ⟨v, hv⟩ : ∃ v, v = ys.getD k 0 := ⟨_, rfl⟩
        rw [← hu] at hc HE2
        rw [← hv] at hd HE2
        clear hc0 hd0 hu hv
        have hcd : wr.drew.cell? (ad.add k) = some (.int .u32 u) := hc
        have hdd : wr.drew.cell? (ad2.add k) = some (.int .u32 v) := hd
        cases huv : u != v
        · go_wp2
          go_quiet (fail)
          all_goals go_wp2
          go_roundw
          case rel => exact ⟨k + 1, by omega, by go_num, Lib.hid (by rw [HE2.out]; simp at huv; simp [huv]), pw_below_drewN hb _⟩
          case measure => simp [intOf]; omega
        · go_wp2
          go_quiet (fail)
          all_goals go_wp2
          go_ret
          exact ⟨retB (by rw [HE2.out]; simp at huv; simp [huv]), pw_below_drewN hb _⟩
      · go_wp2
        go_ret
        have e1 : xs.drop k = [] := List.drop_eq_nil_of_le (by omega)
        have e2 : ys.drop k = [] := List.drop_eq_nil_of_le (by omega)
        exact ⟨retB (by rw [HE.out, e1, e2]; rfl), hb⟩
  · have HR := Lib.hid (show decide (xs = ys) = false by rw [decide_eq_false_iff_not]; exact fun e => hl (by rw [e]))
    go_enter Tryz.func51, Tryz.ntmps51
    go_wp2
    go_ret
    exact ⟨retB HR.out.symm, Below.refl _ _⟩
end Go.Proofs.YtlcofdgaidlldaaGreatDoor
namespace Go.Proofs.YtlcofdgaidlldaaGreatDoor
open Go.RowKit Go.Shelf Go.Proofs.YtlcofdgaidlldaaGreatDoorW.PrintWords
set_option linter.unusedVariables false
set_option linter.unusedSimpArgs false
set_option maxRecDepth 100000 in
set_option maxHeartbeats 1000000 in
theorem rNorm1_calls (xs : List Int) (A : Option Addr) (c : Nat) (w : World) (hx : (Kd.int .u32).C w A xs.length xs) (hc : xs.length ≤ c) (hl : xs.length ≤ 1000000) :
    Calls Tryz.prog 26 #[.slice A xs.length c] w fun e w' => ∃ v, e = .returned v ∧ Kd.N (Kd.int .u32) 54 w' w.heap.size (fun _ => True) v (normL xs) ∧ Below w.heap.size w w' := by
  have HX := Lib.hid hx
  have hm := Kd.C_max hx
  clear hx
  go_enter Tryz.func26, Tryz.ntmps26
  go_wp2
  go_loop [3] (fun v3 => ∃ k : Nat, k ≤ xs.length ∧ v3 = .int .i64 k ∧ Hid (normL xs = normL (xs.take k))) (fun v3 => (intOf v3).toNat)
  case atStart => exact ⟨xs.length, Nat.le_refl _, rfl, Lib.hid (by simp)⟩
  case round =>
    obtain ⟨k, hk, rfl, HE⟩ := hrel
    have FA := Lib.hid (Kd.C_F (Kd.heap_int .u32) (take_C HX.out hk))
    rcases k with _ | n
    · have HE0 := Lib.hid (show normL xs = xs.take 0 by rw [HE.out]; simp [normL])
      cases A with
      | none =>
          go_wp2_with (first
            | ((with_reducible refine gate_dst (N := 18) rfl ?_); refine Kd.N_lit (Kd.int .u32) (w0 := w) w.heap.size 54 rfl rfl (xs := []) (inner := []) (ok := fun _ => True) (okp := fun _ => False) (by go_simp) (Reps.none _ _) (fun _ h => h.elim) trivial (Below.refl _ _) (Nat.le_refl _) (by simp) ?_; intro v1 w1 hN hB _ _; have HN := Lib.hid hN; have HB := Lib.hid hB; have hz := hB.size; clear hN hB)
            | ((with_reducible refine gate_dst (N := 22) rfl ?_); refine Kd.N_append_rows (Kd.int .u32) (w0 := w) w.heap.size rfl _ _ 23 54 _ 4 rfl Tryz.underlying23 infoU rfl (by decide) (by decide) _ [] (xs.take 0) none 0 c (fun _ => True) _ ?_ ?_ HN.out (Kd.F_below FA.out HB.out) (N_apart_old HN.out) (fun _ _ => trivial) HB.out hz ?_ ?_; (case _ => rfl); (case _ => rfl); (case _ => first | (simp; done) | (simp; omega)); intro v2 w2 hN2 hB2 _ _; have HN2 := Lib.hid hN2; have HB2 := Lib.hid hB2; clear hN2 hB2))
          go_ret
          exact ⟨_, rfl, by rw [HE0.out]; simpa using HN2.out, HB2.out⟩
      | some a0 =>
          go_wp2_with (first
            | ((with_reducible refine gate_dst (N := 18) rfl ?_); refine Kd.N_lit (Kd.int .u32) (w0 := w) w.heap.size 54 rfl rfl (xs := []) (inner := []) (ok := fun _ => True) (okp := fun _ => False) (by go_simp) (Reps.none _ _) (fun _ h => h.elim) trivial (Below.refl _ _) (Nat.le_refl _) (by simp) ?_; intro v1 w1 hN hB _ _; have HN := Lib.hid hN; have HB := Lib.hid hB; have hz := hB.size; clear hN hB)
            | ((with_reducible refine gate_dst (N := 22) rfl ?_); refine Kd.N_append_rows (Kd.int .u32) (w0 := w) w.heap.size rfl _ _ 23 54 _ 4 rfl Tryz.underlying23 infoU rfl (by decide) (by decide) _ [] (xs.take 0) (some a0) 0 c (fun _ => True) _ ?_ ?_ HN.out (Kd.F_below FA.out HB.out) (N_apart_old HN.out) (fun _ _ => trivial) HB.out hz ?_ ?_; (case _ => rfl); (case _ => rfl); (case _ => first | (simp; done) | (simp; omega)); intro v2 w2 hN2 hB2 _ _; have HN2 := Lib.hid hN2; have HB2 := Lib.hid hB2; clear hN2 hB2))
          go_ret
          exact ⟨_, rfl, by rw [HE0.out]; simpa using HN2.out, HB2.out⟩
    · obtain ⟨ad, hA, hcell⟩ := elI HX.out (show n < xs.length by omega)
      subst hA
      obtain ⟨u, hu⟩ : ∃ u, u = xs.getD n 0 := ⟨_, rfl⟩
      rw [← hu] at hcell
      have HU := Lib.hid hu
      clear hu
      cases hz0 : u == 0
      case true =>
        go_wp2
        go_round
        case rel => exact ⟨n, by omega, by go_num, Lib.hid (by rw [HE.out, normL_zero (by omega) (by rw [← HU.out]; simpa using hz0)])⟩
        case measure => simp [intOf]
      case false =>
        have HE0 := Lib.hid (show normL xs = xs.take (n + 1) by rw [HE.out, normL_done (by omega) (by rw [← HU.out]; simpa using hz0)])
        go_wp2_with (first
          | ((with_reducible refine gate_dst (N := 18) rfl ?_); refine Kd.N_lit (Kd.int .u32) (w0 := w) w.heap.size 54 rfl rfl (xs := []) (inner := []) (ok := fun _ => True) (okp := fun _ => False) (by go_simp) (Reps.none _ _) (fun _ h => h.elim) trivial (Below.refl _ _) (Nat.le_refl _) (by simp) ?_; intro v1 w1 hN hB _ _; have HN := Lib.hid hN; have HB := Lib.hid hB; have hz := hB.size; clear hN hB)
          | ((with_reducible refine gate_dst (N := 22) rfl ?_); refine Kd.N_append_rows (Kd.int .u32) (w0 := w) w.heap.size rfl _ _ 23 54 _ 4 rfl Tryz.underlying23 infoU rfl (by decide) (by decide) _ [] (xs.take (n + 1)) (some ad) (n + 1) c (fun _ => True) _ ?_ ?_ HN.out (Kd.F_below FA.out HB.out) (N_apart_old HN.out) (fun _ _ => trivial) HB.out hz ?_ ?_; (case _ => rfl); (case _ => rfl); (case _ => first | (simp; done) | (simp; omega)); intro v2 w2 hN2 hB2 _ _; have HN2 := Lib.hid hN2; have HB2 := Lib.hid hB2; clear hN2 hB2))
        go_ret
        exact ⟨_, rfl, by rw [HE0.out]; simpa using HN2.out, HB2.out⟩
end Go.Proofs.YtlcofdgaidlldaaGreatDoor
namespace Go.Proofs.YtlcofdgaidlldaaGreatDoor
open Go.RowKit Go.Shelf Go.Proofs.YtlcofdgaidlldaaGreatDoorW.PrintWords
set_option linter.unusedVariables false
set_option linter.unusedSimpArgs false
/-- rule.Step's cells. -/
abbrev stepC (r : Int) (A : Option Addr) (n c : Nat) (k : Int) (no : Bool) : List Value := [.int .i64 r, .slice A n c, .int .i64 k, .bool no]
end Go.Proofs.YtlcofdgaidlldaaGreatDoor
