/- Contract: core.free. The walk's conditions: the parameter's memory is older than the two maps; all that is in it is plain; the two maps are two. -/
import Derived.Test.YtlcofdgaidlldaaGreatDoorZi
namespace Go.Proofs.YtlcofdgaidlldaaGreatDoor
open Go.RowKit Go.Shelf Go.Proofs.YtlcofdgaidlldaaGreatDoorW.PrintWords
set_option linter.unusedVariables false
set_option linter.unusedSimpArgs false
set_option maxRecDepth 100000 in
set_option maxHeartbeats 8000000 in
theorem free_calls (n : Nat) : ∀ (x : Ex) (cs : List Value) (w0 w : World) (B : List Int) (bI nI bO nO : Nat) (fO : Int → Bool), x.big < n → kE.K w0 x cs → Below w0.heap.size w0 w → (∀ y ∈ x.all, y.plain = true) → MI w bI nI (fun i => (B.count i : Int)) → MB w bO nO fO → bI ≠ bO → w0.heap.size ≤ bI → w0.heap.size ≤ bO →
    B.length + nI + x.ups ≤ 4611686018427387904 → nO + x.all.length ≤ 4611686018427387904 →
    Calls Tryz.prog 43 #[.agg cs.toArray, .map (some bI), .map (some bO)] w fun e w' => e = .returned (.tuple #[]) ∧ FreeDone x B bI nI bO nO fO w0.heap.size w w' := by
  induction n with
  | zero => intro x cs w0 w B bI nI bO nO fO h; omega
  | succ n ih =>
  intro x cs w0 w B bI nI bO nO fO hn hx hb0 hpl hI hO hne h0I h0O hnI hnO
  have hp := hpl x x.self_mem
  have hs0 := hb0.size
  have hmx : (4611686018427387904 : Nat) < maxLen := by decide
  have HBi : Hid (∀ W2, Below w0.heap.size w0 W2 → Calls Tryz.prog 42 #[.agg cs.toArray] W2 fun e w' => ∃ A n c, e = .returned (.slice A n c) ∧ n = x.binds.length ∧ (Kd.int .i64).C w' A n x.binds ∧ Below W2.heap.size W2 w') := Lib.hid (fun W2 hb => binds_calls x cs W2 (kE.K_below hb hx))
  have IH : Hid (∀ k, k < x.kids.length → ∀ c W B' nI' nO' fO', kE.K w0 (rdE x.kids k) c → Below w0.heap.size w0 W → MI W bI nI' (fun i => (B'.count i : Int)) → MB W bO nO' fO' → B'.length + nI' + (rdE x.kids k).ups ≤ 4611686018427387904 → nO' + (rdE x.kids k).all.length ≤ 4611686018427387904 → Calls Tryz.prog 43 #[.agg c.toArray, .map (some bI), .map (some bO)] W fun e w' => e = .returned (.tuple #[]) ∧ FreeDone (rdE x.kids k) B' bI nI' bO nO' fO' w0.heap.size W w') :=
    Lib.hid (fun k hk c W B' nI' nO' fO' h1 h2 h3 h4 h5 h6 => ih (rdE x.kids k) c w0 W B' bI nI' bO nO' fO' (by have := Ex.big_kid hk; omega) h1 h2 (fun y hy => hpl y (Ex.mem_kid hk y hy)) h3 h4 hne h0I h0O h5 h6)
  have HKl := Lib.hid (kE_len hx)
  have HBr := Lib.hid (plain_binds hp)
  have hal : x.all.length = 1 + (Ex.allL x.kids).length := by rw [x.all_eq]; simp; omega
  obtain ⟨A3, c3, A6, c6, A7, c7, A9, c9, A12, c12, he, l3, g3, l6, g6, l7, g7, l9, g9, l12, g12⟩ := kE_open hx
  have hc0 : cs[0]? = some (.int .i64 x.kind) := by rw [he]; rfl
  have hc8 : cs[8]? = some (.int .i64 x.v) := by rw [he]; rfl
  have hc12 : cs[12]? = some (.slice A12 x.kids.length c12) := by rw [he]; rfl
  have HX := Lib.hid g12
  have hm := Kd.C_max g12
  have hbx : Below w.heap.size w (w.alloc (.cells cs.toArray 32)) := below_alloc (Below.refl _ _) _
  have q0 := new_cell0 w cs 32 0 _ hc0
  have q8 := new_cell0 w cs 32 8 _ hc8
  have q12 := new_cell0 w cs 32 12 _ hc12
  have HQ := Lib.hid (new_cells w cs 32)
  have hI1 := hI.below hbx
  have hO1 := hO.below hbx
  have hsw : w0.heap.size ≤ (w.alloc (.cells cs.toArray 32)).heap.size := by simp; omega
  have HP := Lib.hid hp
  clear he hx ih g3 g6 g7 g9 g12 l3 l6 l7 l9 hc0 hc8 hc12 hpl hI hO hn hp
  have HO : Hid (x.own B = if (x.kind = 2 ∨ x.kind = 3) ∧ x.v ∉ B then [x.v] else []) := Lib.hid rfl
  have hck2 : CK (w.alloc (.cells cs.toArray 32)) (w.alloc (.cells cs.toArray 32)) := CK.refl _
  have hbl2 : Below w0.heap.size w (w.alloc (.cells cs.toArray 32)) := hbx.mono hs0
  cases k2 : x.kind == 2
  case true =>
    have hwf : (Lit.int .i64 x.v).wf = true := wf64 (by have := plain_v HP.out (by simp at k2; omega); omega) (by have := plain_v HP.out (by simp at k2; omega); omega)
    have hlook := hI1.value hwf
    by_cases hB : x.v ∈ B
    · have hz0 : ((B.count x.v : Int) == 0) = false := by have := List.count_pos_iff.2 hB; rw [beq_eq_false_iff_ne]; omega
      obtain ⟨c, hc⟩ : ∃ c, (B.count x.v : Int) = c := ⟨_, rfl⟩
      rw [hc] at hz0 hlook
      have hO2 : MB (w.alloc (.cells cs.toArray 32)) bO (nO + 1) (fun i => fO i || decide (i ∈ x.own B)) := (hO1.wider (by omega)).congr (fun i => by rw [HO.out, if_neg (fun h => h.2 hB)]; simp)
      have hI2 := hI1
      clear hc
      go_enter Tryz.func43, Tryz.ntmps43
      go_wp2
      go_loopw [34] (fun v34 wr => ∃ k : Nat, k ≤ x.kids.length ∧ v34 = .int .i64 k ∧ MI wr bI (nI + Ex.upsL (x.kids.take k) x.kind x.binds 0) (fun i => (B.count i : Int)) ∧ MB wr bO (nO + 1 + (Ex.allL (x.kids.take k)).length) (fun i => fO i || decide (i ∈ x.own B ++ Ex.fvL (x.kids.take k) x.kind x.binds 0 B)) ∧ CK (w.alloc (.cells cs.toArray 32)) wr ∧ Below w0.heap.size w wr) (fun v34 _ => x.kids.length - (intOf v34).toNat)
      case atStart => exact ⟨0, Nat.zero_le _, rfl, by simpa [Ex.upsL] using hI2, by simpa [Ex.fvL, Ex.allL] using hO2, hck2, hbl2⟩
      case round =>
        obtain ⟨k, hk, rfl, hIr, hOr, hckr, hblr⟩ := hrel
        obtain ⟨wa, rfl⟩ : ∃ wa, wa = wr := ⟨_, rfl⟩
        by_cases hlt : k < x.kids.length
        · obtain ⟨ad, cc, hA, hK, hcc0⟩ := elE HX.out hlt
          subst hA
          have hbr : Below w0.heap.size w0 wa := hb0.trans hblr
          have HC : Hid (∀ j u, cc[j]? = some u → wa.cell? ((ad.add (k * 13)).add j) = some u) := Lib.hid (fun j u h => pw_cell_below hbr (hcc0 j u h))
          have hcl := Lib.hid (kE_len hK)
          have hc1 := Lib.hid (kE.K_one hK)
          have hz : w.heap.size < wa.heap.size := by have h_ := hckr.size; simp at h_; omega
          have q0r := hckr.cell q0
          have HU1 := Lib.hid (Ex.upsL_take hlt x.kind x.binds)
          have HU2 := Lib.hid (Nat.le_trans (Ex.upsL_le x.kids (k + 1) x.kind x.binds) (Nat.le_of_eq x.ups_eq.symm))
          have HA1 := Lib.hid (Ex.allL_len hlt)
          have HA2 := Lib.hid (show (Ex.allL (x.kids.take (k + 1))).length + 1 ≤ x.all.length by have h1 := Ex.allL_le x.kids (k + 1); omega)
          have hbe : Below wa.heap.size wa (wa.alloc (.cells cc.toArray 32)) := below_alloc (Below.refl _ _) _
          have hckE : CK (w.alloc (.cells cs.toArray 32)) (wa.alloc (.cells cc.toArray 32)) := hckr.trans (CK.of_below hbe)
          have hblE : Below w0.heap.size w (wa.alloc (.cells cc.toArray 32)) := hblr.trans (hbe.mono (by omega))
          have hbE : Below w0.heap.size w0 (wa.alloc (.cells cc.toArray 32)) := hb0.trans hblE
          clear hcc0 hbr
          have k5 : (x.kind == 5) = false := by simp at k2; simp [k2]
          have k8 : (x.kind == 8) = false := by simp at k2; simp [k2]
          have hins : ins x.kind k = false := by simp [ins, k5, k8]
          have HI := Lib.hid (fun W hb h3 h4 => IH.out k hlt cc W B (nI + Ex.upsL (x.kids.take k) x.kind x.binds 0) (nO + 1 + (Ex.allL (x.kids.take k)).length) (fun i => fO i || decide (i ∈ x.own B ++ Ex.fvL (x.kids.take k) x.kind x.binds 0 B)) hK hb h3 h4 (by have h1 := HU1.out; have h2 := HU2.out; rw [hins] at h1; simp only [Bool.false_eq_true, if_false] at h1; omega) (by have h1 := HA1.out; have h2 := HA2.out; omega))
          have hIe := hIr.below hbe
          have hOe := hOr.below hbe
          go_wp2_with (first
            | ((with_reducible refine load_list 38 rfl ?_ 32 _ rfl (ad.add (k * 13)) ?_ cc _ HC.out Tryz.underlying32 ?_ ?_ ?_); (case _ => rfl); (case _ => rfl); (case _ => rfl); (case _ => rw [hcl.out]; exact size32'))
            | ((with_reducible refine store_new _ none rfl ?_ 32 _ _ rfl _ cc ?_ ?_ ?_ ?_ ?_ ?_); (case _ => rfl); (case _ => rfl); (case _ => rfl); (case _ => rw [hcl.out]; exact size32'); (case _ => rw [hcl.out]; rfl); (case _ => rw [List.all_eq_true]; exact hc1.out))
            | ((with_reducible refine load_list 53 rfl ?_ 32 _ rfl ⟨wa.heap.size, 0, none⟩ ?_ cc _ (new_cells _ _ _) Tryz.underlying32 ?_ ?_ ?_); (case _ => rfl); (case _ => rfl); (case _ => rfl); (case _ => rw [hcl.out]; exact size32'))
            | (go_at_call 43; refine (HI.out _ hbE hIe hOe).mono ?_; rintro e w5 ⟨rfl, hI5, hO5, hck5, hbl5⟩))
          go_roundw
          case rel =>
            refine ⟨k + 1, by omega, by go_num, hI5.wider (by have h1 := HU1.out; rw [hins] at h1; simp only [Bool.false_eq_true, if_false] at h1; omega), (hO5.wider (by have h1 := HA1.out; omega)).congr (fun i => ?_), hckE.trans hck5, hblE.trans hbl5⟩
            rw [Ex.fvL_take hlt, hins]
            simp [List.mem_append, Bool.or_assoc, or_assoc]
          case measure => simp [intOf]; omega
        · go_wp2
          have htk : x.kids.take k = x.kids := List.take_of_length_le (by omega)
          rw [htk] at hIr hOr
          go_end0
          refine ⟨rfl, ?_, (hOr.wider (by omega)).congr (fun i => ?_), (CK.of_below hbx).trans hckr, hblr⟩
          · rw [x.ups_eq]; exact hIr
          · rw [x.fv_eq]
    · have hz0 : ((B.count x.v : Int) == 0) = true := by rw [List.count_eq_zero_of_not_mem hB]; rfl
      obtain ⟨c, hc⟩ : ∃ c, (B.count x.v : Int) = c := ⟨_, rfl⟩
      rw [hc] at hz0 hlook
      have hnn : nO < maxLen := by omega
      have hMo := hO1.other
      clear hc
      go_enter Tryz.func43, Tryz.ntmps43
      go_wp2_with ((with_reducible refine MB.put rfl ?_ _ _ _ rfl hO1 hnn x.v true ?_ ?_ ?_ hwf rfl ?_); (case _ => rfl); (case _ => rfl); (case _ => rfl); (case _ => rfl); intro w2 hO2' hg2; have q12' := (CK.of_grown hg2 hMo).cell q12)
      have hck2 : CK (w.alloc (.cells cs.toArray 32)) w2 := CK.of_grown hg2 hMo
      have hbl2 : Below w0.heap.size w w2 := (hbx.mono hs0).trans (below_grown hg2 hsw h0O)
      have hI2 := hI1.kept hg2 (fun e => by cases e; exact hne rfl)
      have hO2 : MB w2 bO (nO + 1) (fun i => fO i || decide (i ∈ x.own B)) := hO2'.congr (fun i => by
        rw [HO.out, if_pos (show (x.kind = 2 ∨ x.kind = 3) ∧ x.v ∉ B from ⟨by simp at k2; omega, hB⟩)]
        by_cases hi : i = x.v <;> simp [hi])
      clear hO2' hO1 hI1
      go_loopw [34] (fun v34 wr => ∃ k : Nat, k ≤ x.kids.length ∧ v34 = .int .i64 k ∧ MI wr bI (nI + Ex.upsL (x.kids.take k) x.kind x.binds 0) (fun i => (B.count i : Int)) ∧ MB wr bO (nO + 1 + (Ex.allL (x.kids.take k)).length) (fun i => fO i || decide (i ∈ x.own B ++ Ex.fvL (x.kids.take k) x.kind x.binds 0 B)) ∧ CK (w.alloc (.cells cs.toArray 32)) wr ∧ Below w0.heap.size w wr) (fun v34 _ => x.kids.length - (intOf v34).toNat)
      case atStart => exact ⟨0, Nat.zero_le _, rfl, by simpa [Ex.upsL] using hI2, by simpa [Ex.fvL, Ex.allL] using hO2, hck2, hbl2⟩
      case round =>
        obtain ⟨k, hk, rfl, hIr, hOr, hckr, hblr⟩ := hrel
        obtain ⟨wa, rfl⟩ : ∃ wa, wa = wr := ⟨_, rfl⟩
        by_cases hlt : k < x.kids.length
        · obtain ⟨ad, cc, hA, hK, hcc0⟩ := elE HX.out hlt
          subst hA
          have hbr : Below w0.heap.size w0 wa := hb0.trans hblr
          have HC : Hid (∀ j u, cc[j]? = some u → wa.cell? ((ad.add (k * 13)).add j) = some u) := Lib.hid (fun j u h => pw_cell_below hbr (hcc0 j u h))
          have hcl := Lib.hid (kE_len hK)
          have hc1 := Lib.hid (kE.K_one hK)
          have hz : w.heap.size < wa.heap.size := by have h_ := hckr.size; simp at h_; omega
          have q0r := hckr.cell q0
          have HU1 := Lib.hid (Ex.upsL_take hlt x.kind x.binds)
          have HU2 := Lib.hid (Nat.le_trans (Ex.upsL_le x.kids (k + 1) x.kind x.binds) (Nat.le_of_eq x.ups_eq.symm))
          have HA1 := Lib.hid (Ex.allL_len hlt)
          have HA2 := Lib.hid (show (Ex.allL (x.kids.take (k + 1))).length + 1 ≤ x.all.length by have h1 := Ex.allL_le x.kids (k + 1); omega)
          have hbe : Below wa.heap.size wa (wa.alloc (.cells cc.toArray 32)) := below_alloc (Below.refl _ _) _
          have hckE : CK (w.alloc (.cells cs.toArray 32)) (wa.alloc (.cells cc.toArray 32)) := hckr.trans (CK.of_below hbe)
          have hblE : Below w0.heap.size w (wa.alloc (.cells cc.toArray 32)) := hblr.trans (hbe.mono (by omega))
          have hbE : Below w0.heap.size w0 (wa.alloc (.cells cc.toArray 32)) := hb0.trans hblE
          clear hcc0 hbr
          have k5 : (x.kind == 5) = false := by simp at k2; simp [k2]
          have k8 : (x.kind == 8) = false := by simp at k2; simp [k2]
          have hins : ins x.kind k = false := by simp [ins, k5, k8]
          have HI := Lib.hid (fun W hb h3 h4 => IH.out k hlt cc W B (nI + Ex.upsL (x.kids.take k) x.kind x.binds 0) (nO + 1 + (Ex.allL (x.kids.take k)).length) (fun i => fO i || decide (i ∈ x.own B ++ Ex.fvL (x.kids.take k) x.kind x.binds 0 B)) hK hb h3 h4 (by have h1 := HU1.out; have h2 := HU2.out; rw [hins] at h1; simp only [Bool.false_eq_true, if_false] at h1; omega) (by have h1 := HA1.out; have h2 := HA2.out; omega))
          have hIe := hIr.below hbe
          have hOe := hOr.below hbe
          go_wp2_with (first
            | ((with_reducible refine load_list 38 rfl ?_ 32 _ rfl (ad.add (k * 13)) ?_ cc _ HC.out Tryz.underlying32 ?_ ?_ ?_); (case _ => rfl); (case _ => rfl); (case _ => rfl); (case _ => rw [hcl.out]; exact size32'))
            | ((with_reducible refine store_new _ none rfl ?_ 32 _ _ rfl _ cc ?_ ?_ ?_ ?_ ?_ ?_); (case _ => rfl); (case _ => rfl); (case _ => rfl); (case _ => rw [hcl.out]; exact size32'); (case _ => rw [hcl.out]; rfl); (case _ => rw [List.all_eq_true]; exact hc1.out))
            | ((with_reducible refine load_list 53 rfl ?_ 32 _ rfl ⟨wa.heap.size, 0, none⟩ ?_ cc _ (new_cells _ _ _) Tryz.underlying32 ?_ ?_ ?_); (case _ => rfl); (case _ => rfl); (case _ => rfl); (case _ => rw [hcl.out]; exact size32'))
            | (go_at_call 43; refine (HI.out _ hbE hIe hOe).mono ?_; rintro e w5 ⟨rfl, hI5, hO5, hck5, hbl5⟩))
          go_roundw
          case rel =>
            refine ⟨k + 1, by omega, by go_num, hI5.wider (by have h1 := HU1.out; rw [hins] at h1; simp only [Bool.false_eq_true, if_false] at h1; omega), (hO5.wider (by have h1 := HA1.out; omega)).congr (fun i => ?_), hckE.trans hck5, hblE.trans hbl5⟩
            rw [Ex.fvL_take hlt, hins]
            simp [List.mem_append, Bool.or_assoc, or_assoc]
          case measure => simp [intOf]; omega
        · go_wp2
          have htk : x.kids.take k = x.kids := List.take_of_length_le (by omega)
          rw [htk] at hIr hOr
          go_end0
          refine ⟨rfl, ?_, (hOr.wider (by omega)).congr (fun i => ?_), (CK.of_below hbx).trans hckr, hblr⟩
          · rw [x.ups_eq]; exact hIr
          · rw [x.fv_eq]
  cases k3 : x.kind == 3
  case true =>
    have hwf : (Lit.int .i64 x.v).wf = true := wf64 (by have := plain_v HP.out (by simp at k3; omega); omega) (by have := plain_v HP.out (by simp at k3; omega); omega)
    have hlook := hI1.value hwf
    by_cases hB : x.v ∈ B
    · have hz0 : ((B.count x.v : Int) == 0) = false := by have := List.count_pos_iff.2 hB; rw [beq_eq_false_iff_ne]; omega
      obtain ⟨c, hc⟩ : ∃ c, (B.count x.v : Int) = c := ⟨_, rfl⟩
      rw [hc] at hz0 hlook
      have hO2 : MB (w.alloc (.cells cs.toArray 32)) bO (nO + 1) (fun i => fO i || decide (i ∈ x.own B)) := (hO1.wider (by omega)).congr (fun i => by rw [HO.out, if_neg (fun h => h.2 hB)]; simp)
      have hI2 := hI1
      clear hc
      go_enter Tryz.func43, Tryz.ntmps43
      go_wp2
      go_loopw [34] (fun v34 wr => ∃ k : Nat, k ≤ x.kids.length ∧ v34 = .int .i64 k ∧ MI wr bI (nI + Ex.upsL (x.kids.take k) x.kind x.binds 0) (fun i => (B.count i : Int)) ∧ MB wr bO (nO + 1 + (Ex.allL (x.kids.take k)).length) (fun i => fO i || decide (i ∈ x.own B ++ Ex.fvL (x.kids.take k) x.kind x.binds 0 B)) ∧ CK (w.alloc (.cells cs.toArray 32)) wr ∧ Below w0.heap.size w wr) (fun v34 _ => x.kids.length - (intOf v34).toNat)
      case atStart => exact ⟨0, Nat.zero_le _, rfl, by simpa [Ex.upsL] using hI2, by simpa [Ex.fvL, Ex.allL] using hO2, hck2, hbl2⟩
      case round =>
        obtain ⟨k, hk, rfl, hIr, hOr, hckr, hblr⟩ := hrel
        obtain ⟨wa, rfl⟩ : ∃ wa, wa = wr := ⟨_, rfl⟩
        by_cases hlt : k < x.kids.length
        · obtain ⟨ad, cc, hA, hK, hcc0⟩ := elE HX.out hlt
          subst hA
          have hbr : Below w0.heap.size w0 wa := hb0.trans hblr
          have HC : Hid (∀ j u, cc[j]? = some u → wa.cell? ((ad.add (k * 13)).add j) = some u) := Lib.hid (fun j u h => pw_cell_below hbr (hcc0 j u h))
          have hcl := Lib.hid (kE_len hK)
          have hc1 := Lib.hid (kE.K_one hK)
          have hz : w.heap.size < wa.heap.size := by have h_ := hckr.size; simp at h_; omega
          have q0r := hckr.cell q0
          have HU1 := Lib.hid (Ex.upsL_take hlt x.kind x.binds)
          have HU2 := Lib.hid (Nat.le_trans (Ex.upsL_le x.kids (k + 1) x.kind x.binds) (Nat.le_of_eq x.ups_eq.symm))
          have HA1 := Lib.hid (Ex.allL_len hlt)
          have HA2 := Lib.hid (show (Ex.allL (x.kids.take (k + 1))).length + 1 ≤ x.all.length by have h1 := Ex.allL_le x.kids (k + 1); omega)
          have hbe : Below wa.heap.size wa (wa.alloc (.cells cc.toArray 32)) := below_alloc (Below.refl _ _) _
          have hckE : CK (w.alloc (.cells cs.toArray 32)) (wa.alloc (.cells cc.toArray 32)) := hckr.trans (CK.of_below hbe)
          have hblE : Below w0.heap.size w (wa.alloc (.cells cc.toArray 32)) := hblr.trans (hbe.mono (by omega))
          have hbE : Below w0.heap.size w0 (wa.alloc (.cells cc.toArray 32)) := hb0.trans hblE
          clear hcc0 hbr
          have k5 : (x.kind == 5) = false := by simp at k3; simp [k3]
          have k8 : (x.kind == 8) = false := by simp at k3; simp [k3]
          have hins : ins x.kind k = false := by simp [ins, k5, k8]
          have HI := Lib.hid (fun W hb h3 h4 => IH.out k hlt cc W B (nI + Ex.upsL (x.kids.take k) x.kind x.binds 0) (nO + 1 + (Ex.allL (x.kids.take k)).length) (fun i => fO i || decide (i ∈ x.own B ++ Ex.fvL (x.kids.take k) x.kind x.binds 0 B)) hK hb h3 h4 (by have h1 := HU1.out; have h2 := HU2.out; rw [hins] at h1; simp only [Bool.false_eq_true, if_false] at h1; omega) (by have h1 := HA1.out; have h2 := HA2.out; omega))
          have hIe := hIr.below hbe
          have hOe := hOr.below hbe
          go_wp2_with (first
            | ((with_reducible refine load_list 38 rfl ?_ 32 _ rfl (ad.add (k * 13)) ?_ cc _ HC.out Tryz.underlying32 ?_ ?_ ?_); (case _ => rfl); (case _ => rfl); (case _ => rfl); (case _ => rw [hcl.out]; exact size32'))
            | ((with_reducible refine store_new _ none rfl ?_ 32 _ _ rfl _ cc ?_ ?_ ?_ ?_ ?_ ?_); (case _ => rfl); (case _ => rfl); (case _ => rfl); (case _ => rw [hcl.out]; exact size32'); (case _ => rw [hcl.out]; rfl); (case _ => rw [List.all_eq_true]; exact hc1.out))
            | ((with_reducible refine load_list 53 rfl ?_ 32 _ rfl ⟨wa.heap.size, 0, none⟩ ?_ cc _ (new_cells _ _ _) Tryz.underlying32 ?_ ?_ ?_); (case _ => rfl); (case _ => rfl); (case _ => rfl); (case _ => rw [hcl.out]; exact size32'))
            | (go_at_call 43; refine (HI.out _ hbE hIe hOe).mono ?_; rintro e w5 ⟨rfl, hI5, hO5, hck5, hbl5⟩))
          go_roundw
          case rel =>
            refine ⟨k + 1, by omega, by go_num, hI5.wider (by have h1 := HU1.out; rw [hins] at h1; simp only [Bool.false_eq_true, if_false] at h1; omega), (hO5.wider (by have h1 := HA1.out; omega)).congr (fun i => ?_), hckE.trans hck5, hblE.trans hbl5⟩
            rw [Ex.fvL_take hlt, hins]
            simp [List.mem_append, Bool.or_assoc, or_assoc]
          case measure => simp [intOf]; omega
        · go_wp2
          have htk : x.kids.take k = x.kids := List.take_of_length_le (by omega)
          rw [htk] at hIr hOr
          go_end0
          refine ⟨rfl, ?_, (hOr.wider (by omega)).congr (fun i => ?_), (CK.of_below hbx).trans hckr, hblr⟩
          · rw [x.ups_eq]; exact hIr
          · rw [x.fv_eq]
    · have hz0 : ((B.count x.v : Int) == 0) = true := by rw [List.count_eq_zero_of_not_mem hB]; rfl
      obtain ⟨c, hc⟩ : ∃ c, (B.count x.v : Int) = c := ⟨_, rfl⟩
      rw [hc] at hz0 hlook
      have hnn : nO < maxLen := by omega
      have hMo := hO1.other
      clear hc
      go_enter Tryz.func43, Tryz.ntmps43
      go_wp2_with ((with_reducible refine MB.put rfl ?_ _ _ _ rfl hO1 hnn x.v true ?_ ?_ ?_ hwf rfl ?_); (case _ => rfl); (case _ => rfl); (case _ => rfl); (case _ => rfl); intro w2 hO2' hg2; have q12' := (CK.of_grown hg2 hMo).cell q12)
      have hck2 : CK (w.alloc (.cells cs.toArray 32)) w2 := CK.of_grown hg2 hMo
      have hbl2 : Below w0.heap.size w w2 := (hbx.mono hs0).trans (below_grown hg2 hsw h0O)
      have hI2 := hI1.kept hg2 (fun e => by cases e; exact hne rfl)
      have hO2 : MB w2 bO (nO + 1) (fun i => fO i || decide (i ∈ x.own B)) := hO2'.congr (fun i => by
        rw [HO.out, if_pos (show (x.kind = 2 ∨ x.kind = 3) ∧ x.v ∉ B from ⟨by simp at k3; omega, hB⟩)]
        by_cases hi : i = x.v <;> simp [hi])
      clear hO2' hO1 hI1
      go_loopw [34] (fun v34 wr => ∃ k : Nat, k ≤ x.kids.length ∧ v34 = .int .i64 k ∧ MI wr bI (nI + Ex.upsL (x.kids.take k) x.kind x.binds 0) (fun i => (B.count i : Int)) ∧ MB wr bO (nO + 1 + (Ex.allL (x.kids.take k)).length) (fun i => fO i || decide (i ∈ x.own B ++ Ex.fvL (x.kids.take k) x.kind x.binds 0 B)) ∧ CK (w.alloc (.cells cs.toArray 32)) wr ∧ Below w0.heap.size w wr) (fun v34 _ => x.kids.length - (intOf v34).toNat)
      case atStart => exact ⟨0, Nat.zero_le _, rfl, by simpa [Ex.upsL] using hI2, by simpa [Ex.fvL, Ex.allL] using hO2, hck2, hbl2⟩
      case round =>
        obtain ⟨k, hk, rfl, hIr, hOr, hckr, hblr⟩ := hrel
        obtain ⟨wa, rfl⟩ : ∃ wa, wa = wr := ⟨_, rfl⟩
        by_cases hlt : k < x.kids.length
        · obtain ⟨ad, cc, hA, hK, hcc0⟩ := elE HX.out hlt
          subst hA
          have hbr : Below w0.heap.size w0 wa := hb0.trans hblr
          have HC : Hid (∀ j u, cc[j]? = some u → wa.cell? ((ad.add (k * 13)).add j) = some u) := Lib.hid (fun j u h => pw_cell_below hbr (hcc0 j u h))
          have hcl := Lib.hid (kE_len hK)
          have hc1 := Lib.hid (kE.K_one hK)
          have hz : w.heap.size < wa.heap.size := by have h_ := hckr.size; simp at h_; omega
          have q0r := hckr.cell q0
          have HU1 := Lib.hid (Ex.upsL_take hlt x.kind x.binds)
          have HU2 := Lib.hid (Nat.le_trans (Ex.upsL_le x.kids (k + 1) x.kind x.binds) (Nat.le_of_eq x.ups_eq.symm))
          have HA1 := Lib.hid (Ex.allL_len hlt)
          have HA2 := Lib.hid (show (Ex.allL (x.kids.take (k + 1))).length + 1 ≤ x.all.length by have h1 := Ex.allL_le x.kids (k + 1); omega)
          have hbe : Below wa.heap.size wa (wa.alloc (.cells cc.toArray 32)) := below_alloc (Below.refl _ _) _
          have hckE : CK (w.alloc (.cells cs.toArray 32)) (wa.alloc (.cells cc.toArray 32)) := hckr.trans (CK.of_below hbe)
          have hblE : Below w0.heap.size w (wa.alloc (.cells cc.toArray 32)) := hblr.trans (hbe.mono (by omega))
          have hbE : Below w0.heap.size w0 (wa.alloc (.cells cc.toArray 32)) := hb0.trans hblE
          clear hcc0 hbr
          have k5 : (x.kind == 5) = false := by simp at k3; simp [k3]
          have k8 : (x.kind == 8) = false := by simp at k3; simp [k3]
          have hins : ins x.kind k = false := by simp [ins, k5, k8]
          have HI := Lib.hid (fun W hb h3 h4 => IH.out k hlt cc W B (nI + Ex.upsL (x.kids.take k) x.kind x.binds 0) (nO + 1 + (Ex.allL (x.kids.take k)).length) (fun i => fO i || decide (i ∈ x.own B ++ Ex.fvL (x.kids.take k) x.kind x.binds 0 B)) hK hb h3 h4 (by have h1 := HU1.out; have h2 := HU2.out; rw [hins] at h1; simp only [Bool.false_eq_true, if_false] at h1; omega) (by have h1 := HA1.out; have h2 := HA2.out; omega))
          have hIe := hIr.below hbe
          have hOe := hOr.below hbe
          go_wp2_with (first
            | ((with_reducible refine load_list 38 rfl ?_ 32 _ rfl (ad.add (k * 13)) ?_ cc _ HC.out Tryz.underlying32 ?_ ?_ ?_); (case _ => rfl); (case _ => rfl); (case _ => rfl); (case _ => rw [hcl.out]; exact size32'))
            | ((with_reducible refine store_new _ none rfl ?_ 32 _ _ rfl _ cc ?_ ?_ ?_ ?_ ?_ ?_); (case _ => rfl); (case _ => rfl); (case _ => rfl); (case _ => rw [hcl.out]; exact size32'); (case _ => rw [hcl.out]; rfl); (case _ => rw [List.all_eq_true]; exact hc1.out))
            | ((with_reducible refine load_list 53 rfl ?_ 32 _ rfl ⟨wa.heap.size, 0, none⟩ ?_ cc _ (new_cells _ _ _) Tryz.underlying32 ?_ ?_ ?_); (case _ => rfl); (case _ => rfl); (case _ => rfl); (case _ => rw [hcl.out]; exact size32'))
            | (go_at_call 43; refine (HI.out _ hbE hIe hOe).mono ?_; rintro e w5 ⟨rfl, hI5, hO5, hck5, hbl5⟩))
          go_roundw
          case rel =>
            refine ⟨k + 1, by omega, by go_num, hI5.wider (by have h1 := HU1.out; rw [hins] at h1; simp only [Bool.false_eq_true, if_false] at h1; omega), (hO5.wider (by have h1 := HA1.out; omega)).congr (fun i => ?_), hckE.trans hck5, hblE.trans hbl5⟩
            rw [Ex.fvL_take hlt, hins]
            simp [List.mem_append, Bool.or_assoc, or_assoc]
          case measure => simp [intOf]; omega
        · go_wp2
          have htk : x.kids.take k = x.kids := List.take_of_length_le (by omega)
          rw [htk] at hIr hOr
          go_end0
          refine ⟨rfl, ?_, (hOr.wider (by omega)).congr (fun i => ?_), (CK.of_below hbx).trans hckr, hblr⟩
          · rw [x.ups_eq]; exact hIr
          · rw [x.fv_eq]
  have hO2 : MB (w.alloc (.cells cs.toArray 32)) bO (nO + 1) (fun i => fO i || decide (i ∈ x.own B)) := (hO1.wider (by omega)).congr (fun i => by rw [HO.out, if_neg (fun h => by simp at k2 k3; omega)]; simp)
  have hI2 := hI1
  go_enter Tryz.func43, Tryz.ntmps43
  go_wp2
  go_loopw [34] (fun v34 wr => ∃ k : Nat, k ≤ x.kids.length ∧ v34 = .int .i64 k ∧ MI wr bI (nI + Ex.upsL (x.kids.take k) x.kind x.binds 0) (fun i => (B.count i : Int)) ∧ MB wr bO (nO + 1 + (Ex.allL (x.kids.take k)).length) (fun i => fO i || decide (i ∈ x.own B ++ Ex.fvL (x.kids.take k) x.kind x.binds 0 B)) ∧ CK (w.alloc (.cells cs.toArray 32)) wr ∧ Below w0.heap.size w wr) (fun v34 _ => x.kids.length - (intOf v34).toNat)
  case atStart => exact ⟨0, Nat.zero_le _, rfl, by simpa [Ex.upsL] using hI2, by simpa [Ex.fvL, Ex.allL] using hO2, hck2, hbl2⟩
  case round =>
    obtain ⟨k, hk, rfl, hIr, hOr, hckr, hblr⟩ := hrel
    obtain ⟨wa, rfl⟩ : ∃ wa, wa = wr := ⟨_, rfl⟩
    by_cases hlt : k < x.kids.length
    · obtain ⟨ad, cc, hA, hK, hcc0⟩ := elE HX.out hlt
      subst hA
      have hbr : Below w0.heap.size w0 wa := hb0.trans hblr
      have HC : Hid (∀ j u, cc[j]? = some u → wa.cell? ((ad.add (k * 13)).add j) = some u) := Lib.hid (fun j u h => pw_cell_below hbr (hcc0 j u h))
      have hcl := Lib.hid (kE_len hK)
      have hc1 := Lib.hid (kE.K_one hK)
      have hz : w.heap.size < wa.heap.size := by have h_ := hckr.size; simp at h_; omega
      have q0r := hckr.cell q0
      have HU1 := Lib.hid (Ex.upsL_take hlt x.kind x.binds)
      have HU2 := Lib.hid (Nat.le_trans (Ex.upsL_le x.kids (k + 1) x.kind x.binds) (Nat.le_of_eq x.ups_eq.symm))
      have HA1 := Lib.hid (Ex.allL_len hlt)
      have HA2 := Lib.hid (show (Ex.allL (x.kids.take (k + 1))).length + 1 ≤ x.all.length by have h1 := Ex.allL_le x.kids (k + 1); omega)
      have hbe : Below wa.heap.size wa (wa.alloc (.cells cc.toArray 32)) := below_alloc (Below.refl _ _) _
      have hckE : CK (w.alloc (.cells cs.toArray 32)) (wa.alloc (.cells cc.toArray 32)) := hckr.trans (CK.of_below hbe)
      have hblE : Below w0.heap.size w (wa.alloc (.cells cc.toArray 32)) := hblr.trans (hbe.mono (by omega))
      have hbE : Below w0.heap.size w0 (wa.alloc (.cells cc.toArray 32)) := hb0.trans hblE
      clear hcc0 hbr
      cases k5 : x.kind == 5
      case true =>
        have hins : ins x.kind k = true := by simp [ins, k5]
        have hm1 : (rdE x.kids k).ups + 2 * x.binds.length + Ex.upsL (x.kids.take k) x.kind x.binds 0 ≤ x.ups := by have h1 := HU1.out; have h2 := HU2.out; rw [hins] at h1; simp only [if_true] at h1; omega
        go_wp2_with (first
          | ((with_reducible refine load_list 38 rfl ?_ 32 _ rfl (ad.add (k * 13)) ?_ cc _ HC.out Tryz.underlying32 ?_ ?_ ?_); (case _ => rfl); (case _ => rfl); (case _ => rfl); (case _ => rw [hcl.out]; exact size32'))
          | ((with_reducible refine store_new _ none rfl ?_ 32 _ _ rfl _ cc ?_ ?_ ?_ ?_ ?_ ?_); (case _ => rfl); (case _ => rfl); (case _ => rfl); (case _ => rw [hcl.out]; exact size32'); (case _ => rw [hcl.out]; rfl); (case _ => rw [List.all_eq_true]; exact hc1.out))
          | ((with_reducible refine load_list 57 rfl ?_ 32 _ rfl ⟨w.heap.size, 0, none⟩ ?_ cs _ (fun j u hj => hckE.cell (HQ.out j u hj)) Tryz.underlying32 ?_ ?_ ?_); (case _ => rfl); (case _ => rfl); (case _ => rfl); (case _ => rw [HKl.out]; exact size32'))
          | (go_at_call 42; refine (HBi.out _ hbE).mono ?_; rintro e w3 ⟨A, m, cA, rfl, hmm, hC, hb3⟩))
        have HCb := Lib.hid hC
        have hmx2 := Kd.C_max hC
        have hI3 := (hIr.below hbe).below hb3
        have hO3 := (hOr.below hbe).below hb3
        have hs3 := hb3.size
        have hse := hbe.size
        have HM := Lib.hid hmm
        clear hC hIr hOr
        go_loopw [60] (fun v60 w4 => ∃ j : Nat, j ≤ m ∧ v60 = .int .i64 j ∧ MI w4 bI (nI + Ex.upsL (x.kids.take k) x.kind x.binds 0 + j) (fun i => ((B ++ x.binds.take j).count i : Int)) ∧ MB w4 bO (nO + 1 + (Ex.allL (x.kids.take k)).length) (fun i => fO i || decide (i ∈ x.own B ++ Ex.fvL (x.kids.take k) x.kind x.binds 0 B)) ∧ CK w3 w4 ∧ Below w0.heap.size w3 w4) (fun v60 _ => m - (intOf v60).toNat)
        case atStart => exact ⟨0, Nat.zero_le _, rfl, by simpa using hI3, hO3, CK.refl _, Below.refl _ _⟩
        case round =>
          obtain ⟨j, hj, rfl, hI4, hO4, hck4, hbl4⟩ := hrel
          obtain ⟨w4, rfl⟩ : ∃ w4, w4 = wr := ⟨_, rfl⟩
          have hs4 := hck4.size
          by_cases hjl : j < m
          · obtain ⟨ad2, hA2, hc2⟩ := elI HCb.out hjl
            subst hA2
            have hc3 := hck4.cell hc2
            have hjb : j < x.binds.length := by have := HM.out; omega
            have HT := Lib.hid (count_take (B := B) hjb)
            obtain ⟨v, hv⟩ : ∃ v, v = x.binds.getD j 0 := ⟨_, rfl⟩
            have hvm : 1 ≤ v ∧ v ≤ 1000000 := HBr.out v (by rw [hv, List.getD_eq_getElem?_getD, List.getElem?_eq_getElem hjb]; exact List.getElem_mem _)
            rw [← hv] at hc3 HT
            have hwf : (Lit.int .i64 v).wf = true := wf64 (by omega) (by omega)
            obtain ⟨f, hf⟩ : ∃ f : Int → Int, f = fun i => ((B ++ x.binds.take j).count i : Int) := ⟨_, rfl⟩
            rw [← hf] at hI4
            obtain ⟨c, hcv⟩ : ∃ c, f v = c := ⟨_, rfl⟩
            have hcr : 0 ≤ c ∧ c ≤ 4611686018427387904 := by
              rw [← hcv, hf]
              have h1 := List.count_le_length (a := v) (l := B ++ x.binds.take j)
              simp only [List.length_append, List.length_take] at h1 ⊢
              have := HM.out
              omega
            have hwc : (Lit.int .i64 (c + 1)).wf = true := wf64 (by omega) (by omega)
            have HFf := Lib.hid hf
            have hMo := hI4.other
            have hnn : nI + Ex.upsL (x.kids.take k) x.kind x.binds 0 + j < maxLen := by have := HM.out; omega
            have h0c := hcr.1
            have h1c := hcr.2
            clear hf hc2 hv hvm hcr hjb
            go_wp2_with (first
              | ((with_reducible refine MI.look 66 rfl ?_ _ _ rfl hI4 v ?_ ?_ hwf ?_); (case _ => rfl); (case _ => rfl); (case _ => rfl); rw [hcv])
              | ((with_reducible refine MI.put rfl ?_ _ _ _ rfl hI4 hnn v (c + 1) ?_ ?_ ?_ hwf hwc ?_); (case _ => rfl); (case _ => rfl); (case _ => rfl); (case _ => rfl); intro w5 hI5 hg5))
            go_roundw
            case rel =>
              refine ⟨j + 1, by omega, by go_num, hI5.congr (fun i => ?_), hO4.kept hg5 (fun e => by cases e; exact hne rfl), hck4.trans (CK.of_grown hg5 hMo), hbl4.trans (below_grown hg5 (by omega) h0I)⟩
              rw [HT.out, ← hcv, HFf.out]
            case measure => simp [intOf]; omega
          · have hjm : j = m := by omega
            have htk : x.binds.take j = x.binds := List.take_of_length_le (by have := HM.out; omega)
            rw [htk, hjm] at hI4
            have hb4 : Below w0.heap.size w0 w4 := (hbE.trans (hb3.mono (by omega))).trans hbl4
            have HI := Lib.hid (fun W hb h3 h4 => IH.out k hlt cc W (B ++ x.binds) (nI + Ex.upsL (x.kids.take k) x.kind x.binds 0 + m) (nO + 1 + (Ex.allL (x.kids.take k)).length) (fun i => fO i || decide (i ∈ x.own B ++ Ex.fvL (x.kids.take k) x.kind x.binds 0 B)) hK hb h3 h4 (by have := HM.out; rw [List.length_append]; omega) (by have h1 := HA1.out; have h2 := HA2.out; omega))
            go_wp2_with (first
              | ((with_reducible refine load_list 69 rfl ?_ 32 _ rfl ⟨wa.heap.size, 0, none⟩ ?_ cc _ (fun j u hj => hck4.cell (pw_cell_below hb3 (new_cells _ _ _ j u hj))) Tryz.underlying32 ?_ ?_ ?_); (case _ => rfl); (case _ => rfl); (case _ => rfl); (case _ => rw [hcl.out]; exact size32'))
              | (go_at_call 43; refine (HI.out _ hb4 hI4 hO4).mono ?_; rintro e w5 ⟨rfl, hI5, hO5, hck5, hbl5⟩; have hb5 := hb4.trans hbl5; have hs5 := hck5.size)
              | ((with_reducible refine load_list 73 rfl ?_ 32 _ rfl ⟨w.heap.size, 0, none⟩ ?_ cs _ (fun j u hj => hck5.cell (hck4.cell (pw_cell_below hb3 (hckE.cell (HQ.out j u hj))))) Tryz.underlying32 ?_ ?_ ?_); (case _ => rfl); (case _ => rfl); (case _ => rfl); (case _ => rw [HKl.out]; exact size32'))
              | (go_at_call 42; refine (HBi.out _ hb5).mono ?_; rintro e w6 ⟨A', m', cA', rfl, hmm', hC', hb6⟩))
            have HCc := Lib.hid hC'
            have hmx3 := Kd.C_max hC'
            have hI6 := hI5.below hb6
            have hO6 := hO5.below hb6
            have hs6 := hb6.size
            have HM' := Lib.hid hmm'
            clear hC' hI5 hO5 hI4 hO4
            go_loopw [76] (fun v76 w7 => ∃ j' : Nat, j' ≤ m' ∧ v76 = .int .i64 j' ∧ MI w7 bI (nI + Ex.upsL (x.kids.take k) x.kind x.binds 0 + m + (rdE x.kids k).ups + j') (fun i => ((B ++ x.binds.drop j').count i : Int)) ∧ MB w7 bO (nO + 1 + (Ex.allL (x.kids.take k)).length + (rdE x.kids k).all.length) (fun i => (fun i => fO i || decide (i ∈ x.own B ++ Ex.fvL (x.kids.take k) x.kind x.binds 0 B)) i || decide (i ∈ (rdE x.kids k).fv (B ++ x.binds))) ∧ CK w6 w7 ∧ Below w0.heap.size w6 w7) (fun v76 _ => m' - (intOf v76).toNat)
            case atStart => exact ⟨0, Nat.zero_le _, rfl, by simpa using hI6, hO6, CK.refl _, Below.refl _ _⟩
            case round =>
              obtain ⟨j', hj', rfl, hI7, hO7, hck7, hbl7⟩ := hrel
              obtain ⟨w7, rfl⟩ : ∃ w7, w7 = wr := ⟨_, rfl⟩
              have hs7 := hck7.size
              by_cases hjl' : j' < m'
              · obtain ⟨ad2, hA2, hc2⟩ := elI HCc.out hjl'
                subst hA2
                have hc3 := hck7.cell hc2
                have hjb : j' < x.binds.length := by have := HM'.out; omega
                have HT := Lib.hid (count_drop (B := B) hjb)
                have hpos := count_drop_pos (B := B) hjb
                obtain ⟨v, hv⟩ : ∃ v, v = x.binds.getD j' 0 := ⟨_, rfl⟩
                have hvm : 1 ≤ v ∧ v ≤ 1000000 := HBr.out v (by rw [hv, List.getD_eq_getElem?_getD, List.getElem?_eq_getElem hjb]; exact List.getElem_mem _)
                rw [← hv] at hc3 HT hpos
                have hwf : (Lit.int .i64 v).wf = true := wf64 (by omega) (by omega)
                obtain ⟨f, hf⟩ : ∃ f : Int → Int, f = fun i => ((B ++ x.binds.drop j').count i : Int) := ⟨_, rfl⟩
                rw [← hf] at hI7
                obtain ⟨c, hcv⟩ : ∃ c, f v = c := ⟨_, rfl⟩
                have hcr : 1 ≤ c ∧ c ≤ 4611686018427387904 := by
                  rw [← hcv, hf]
                  have h1 := List.count_le_length (a := v) (l := B ++ x.binds.drop j')
                  simp only [List.length_append, List.length_drop] at h1 ⊢
                  have := HM'.out
                  omega
                have hwc : (Lit.int .i64 (c - 1)).wf = true := wf64 (by omega) (by omega)
                have HFf := Lib.hid hf
                have hMo := hI7.other
                have hnn : nI + Ex.upsL (x.kids.take k) x.kind x.binds 0 + m + (rdE x.kids k).ups + j' < maxLen := by have := HM'.out; have := HM.out; omega
                have h0c := hcr.1
                have h1c := hcr.2
                clear hf hc2 hv hvm hcr hjb hpos
                go_wp2_with (first
                  | ((with_reducible refine MI.look 82 rfl ?_ _ _ rfl hI7 v ?_ ?_ hwf ?_); (case _ => rfl); (case _ => rfl); (case _ => rfl); rw [hcv])
                  | ((with_reducible refine MI.put rfl ?_ _ _ _ rfl hI7 hnn v (c - 1) ?_ ?_ ?_ hwf hwc ?_); (case _ => rfl); (case _ => rfl); (case _ => rfl); (case _ => rfl); intro w8 hI8 hg8))
                go_roundw
                case rel =>
                  refine ⟨j' + 1, by omega, by go_num, hI8.congr (fun i => ?_), hO7.kept hg8 (fun e => by cases e; exact hne rfl), hck7.trans (CK.of_grown hg8 hMo), hbl7.trans (below_grown hg8 (by omega) h0I)⟩
                  rw [HT.out, ← hcv, HFf.out]
                case measure => simp [intOf]; omega
              · have hdr : x.binds.drop j' = [] := List.drop_eq_nil_of_le (by have := HM'.out; omega)
                rw [hdr, List.append_nil] at hI7
                go_wp2
                go_roundw
                case rel =>
                  refine ⟨k + 1, by omega, by go_num, hI7.wider (by have h1 := HU1.out; rw [hins] at h1; simp only [if_true] at h1; have := HM'.out; have := HM.out; omega), (hO7.wider (by have h1 := HA1.out; omega)).congr (fun i => ?_), ((hckE.trans (CK.of_below hb3)).trans hck4).trans ((hck5.trans (CK.of_below hb6)).trans hck7), ((hblE.trans (hb3.mono (by omega))).trans hbl4).trans ((hbl5.trans (hb6.mono (by omega))).trans hbl7)⟩
                  rw [Ex.fvL_take hlt, hins]
                  simp [List.mem_append, Bool.or_assoc, or_assoc]
                case measure => simp [intOf]; omega
      cases k8 : x.kind == 8
      case false =>
        have hins : ins x.kind k = false := by simp [ins, k5, k8]
        have HI := Lib.hid (fun W hb h3 h4 => IH.out k hlt cc W B (nI + Ex.upsL (x.kids.take k) x.kind x.binds 0) (nO + 1 + (Ex.allL (x.kids.take k)).length) (fun i => fO i || decide (i ∈ x.own B ++ Ex.fvL (x.kids.take k) x.kind x.binds 0 B)) hK hb h3 h4 (by have h1 := HU1.out; have h2 := HU2.out; rw [hins] at h1; simp only [Bool.false_eq_true, if_false] at h1; omega) (by have h1 := HA1.out; have h2 := HA2.out; omega))
        have hIe := hIr.below hbe
        have hOe := hOr.below hbe
        go_wp2_with (first
          | ((with_reducible refine load_list 38 rfl ?_ 32 _ rfl (ad.add (k * 13)) ?_ cc _ HC.out Tryz.underlying32 ?_ ?_ ?_); (case _ => rfl); (case _ => rfl); (case _ => rfl); (case _ => rw [hcl.out]; exact size32'))
          | ((with_reducible refine store_new _ none rfl ?_ 32 _ _ rfl _ cc ?_ ?_ ?_ ?_ ?_ ?_); (case _ => rfl); (case _ => rfl); (case _ => rfl); (case _ => rw [hcl.out]; exact size32'); (case _ => rw [hcl.out]; rfl); (case _ => rw [List.all_eq_true]; exact hc1.out))
          | ((with_reducible refine load_list 53 rfl ?_ 32 _ rfl ⟨wa.heap.size, 0, none⟩ ?_ cc _ (new_cells _ _ _) Tryz.underlying32 ?_ ?_ ?_); (case _ => rfl); (case _ => rfl); (case _ => rfl); (case _ => rw [hcl.out]; exact size32'))
          | (go_at_call 43; refine (HI.out _ hbE hIe hOe).mono ?_; rintro e w5 ⟨rfl, hI5, hO5, hck5, hbl5⟩))
        go_roundw
        case rel =>
          refine ⟨k + 1, by omega, by go_num, hI5.wider (by have h1 := HU1.out; rw [hins] at h1; simp only [Bool.false_eq_true, if_false] at h1; omega), (hO5.wider (by have h1 := HA1.out; omega)).congr (fun i => ?_), hckE.trans hck5, hblE.trans hbl5⟩
          rw [Ex.fvL_take hlt, hins]
          simp [List.mem_append, Bool.or_assoc, or_assoc]
        case measure => simp [intOf]; omega
      cases ki : ((k : Int) == 1)
      case true =>
        have hins : ins x.kind k = true := by simp only [ins, k5, k8]; simp at ki; simp; omega
        have hm1 : (rdE x.kids k).ups + 2 * x.binds.length + Ex.upsL (x.kids.take k) x.kind x.binds 0 ≤ x.ups := by have h1 := HU1.out; have h2 := HU2.out; rw [hins] at h1; simp only [if_true] at h1; omega
        go_wp2_with (first
          | ((with_reducible refine load_list 38 rfl ?_ 32 _ rfl (ad.add (k * 13)) ?_ cc _ HC.out Tryz.underlying32 ?_ ?_ ?_); (case _ => rfl); (case _ => rfl); (case _ => rfl); (case _ => rw [hcl.out]; exact size32'))
          | ((with_reducible refine store_new _ none rfl ?_ 32 _ _ rfl _ cc ?_ ?_ ?_ ?_ ?_ ?_); (case _ => rfl); (case _ => rfl); (case _ => rfl); (case _ => rw [hcl.out]; exact size32'); (case _ => rw [hcl.out]; rfl); (case _ => rw [List.all_eq_true]; exact hc1.out))
          | ((with_reducible refine load_list 57 rfl ?_ 32 _ rfl ⟨w.heap.size, 0, none⟩ ?_ cs _ (fun j u hj => hckE.cell (HQ.out j u hj)) Tryz.underlying32 ?_ ?_ ?_); (case _ => rfl); (case _ => rfl); (case _ => rfl); (case _ => rw [HKl.out]; exact size32'))
          | (go_at_call 42; refine (HBi.out _ hbE).mono ?_; rintro e w3 ⟨A, m, cA, rfl, hmm, hC, hb3⟩))
        have HCb := Lib.hid hC
        have hmx2 := Kd.C_max hC
        have hI3 := (hIr.below hbe).below hb3
        have hO3 := (hOr.below hbe).below hb3
        have hs3 := hb3.size
        have hse := hbe.size
        have HM := Lib.hid hmm
        clear hC hIr hOr
        go_loopw [60] (fun v60 w4 => ∃ j : Nat, j ≤ m ∧ v60 = .int .i64 j ∧ MI w4 bI (nI + Ex.upsL (x.kids.take k) x.kind x.binds 0 + j) (fun i => ((B ++ x.binds.take j).count i : Int)) ∧ MB w4 bO (nO + 1 + (Ex.allL (x.kids.take k)).length) (fun i => fO i || decide (i ∈ x.own B ++ Ex.fvL (x.kids.take k) x.kind x.binds 0 B)) ∧ CK w3 w4 ∧ Below w0.heap.size w3 w4) (fun v60 _ => m - (intOf v60).toNat)
        case atStart => exact ⟨0, Nat.zero_le _, rfl, by simpa using hI3, hO3, CK.refl _, Below.refl _ _⟩
        case round =>
          obtain ⟨j, hj, rfl, hI4, hO4, hck4, hbl4⟩ := hrel
          obtain ⟨w4, rfl⟩ : ∃ w4, w4 = wr := ⟨_, rfl⟩
          have hs4 := hck4.size
          by_cases hjl : j < m
          · obtain ⟨ad2, hA2, hc2⟩ := elI HCb.out hjl
            subst hA2
            have hc3 := hck4.cell hc2
            have hjb : j < x.binds.length := by have := HM.out; omega
            have HT := Lib.hid (count_take (B := B) hjb)
            obtain ⟨v, hv⟩ : ∃ v, v = x.binds.getD j 0 := ⟨_, rfl⟩
            have hvm : 1 ≤ v ∧ v ≤ 1000000 := HBr.out v (by rw [hv, List.getD_eq_getElem?_getD, List.getElem?_eq_getElem hjb]; exact List.getElem_mem _)
            rw [← hv] at hc3 HT
            have hwf : (Lit.int .i64 v).wf = true := wf64 (by omega) (by omega)
            obtain ⟨f, hf⟩ : ∃ f : Int → Int, f = fun i => ((B ++ x.binds.take j).count i : Int) := ⟨_, rfl⟩
            rw [← hf] at hI4
            obtain ⟨c, hcv⟩ : ∃ c, f v = c := ⟨_, rfl⟩
            have hcr : 0 ≤ c ∧ c ≤ 4611686018427387904 := by
              rw [← hcv, hf]
              have h1 := List.count_le_length (a := v) (l := B ++ x.binds.take j)
              simp only [List.length_append, List.length_take] at h1 ⊢
              have := HM.out
              omega
            have hwc : (Lit.int .i64 (c + 1)).wf = true := wf64 (by omega) (by omega)
            have HFf := Lib.hid hf
            have hMo := hI4.other
            have hnn : nI + Ex.upsL (x.kids.take k) x.kind x.binds 0 + j < maxLen := by have := HM.out; omega
            have h0c := hcr.1
            have h1c := hcr.2
            clear hf hc2 hv hvm hcr hjb
            go_wp2_with (first
              | ((with_reducible refine MI.look 66 rfl ?_ _ _ rfl hI4 v ?_ ?_ hwf ?_); (case _ => rfl); (case _ => rfl); (case _ => rfl); rw [hcv])
              | ((with_reducible refine MI.put rfl ?_ _ _ _ rfl hI4 hnn v (c + 1) ?_ ?_ ?_ hwf hwc ?_); (case _ => rfl); (case _ => rfl); (case _ => rfl); (case _ => rfl); intro w5 hI5 hg5))
            go_roundw
            case rel =>
              refine ⟨j + 1, by omega, by go_num, hI5.congr (fun i => ?_), hO4.kept hg5 (fun e => by cases e; exact hne rfl), hck4.trans (CK.of_grown hg5 hMo), hbl4.trans (below_grown hg5 (by omega) h0I)⟩
              rw [HT.out, ← hcv, HFf.out]
            case measure => simp [intOf]; omega
          · have hjm : j = m := by omega
            have htk : x.binds.take j = x.binds := List.take_of_length_le (by have := HM.out; omega)
            rw [htk, hjm] at hI4
            have hb4 : Below w0.heap.size w0 w4 := (hbE.trans (hb3.mono (by omega))).trans hbl4
            have HI := Lib.hid (fun W hb h3 h4 => IH.out k hlt cc W (B ++ x.binds) (nI + Ex.upsL (x.kids.take k) x.kind x.binds 0 + m) (nO + 1 + (Ex.allL (x.kids.take k)).length) (fun i => fO i || decide (i ∈ x.own B ++ Ex.fvL (x.kids.take k) x.kind x.binds 0 B)) hK hb h3 h4 (by have := HM.out; rw [List.length_append]; omega) (by have h1 := HA1.out; have h2 := HA2.out; omega))
            go_wp2_with (first
              | ((with_reducible refine load_list 69 rfl ?_ 32 _ rfl ⟨wa.heap.size, 0, none⟩ ?_ cc _ (fun j u hj => hck4.cell (pw_cell_below hb3 (new_cells _ _ _ j u hj))) Tryz.underlying32 ?_ ?_ ?_); (case _ => rfl); (case _ => rfl); (case _ => rfl); (case _ => rw [hcl.out]; exact size32'))
              | (go_at_call 43; refine (HI.out _ hb4 hI4 hO4).mono ?_; rintro e w5 ⟨rfl, hI5, hO5, hck5, hbl5⟩; have hb5 := hb4.trans hbl5; have hs5 := hck5.size)
              | ((with_reducible refine load_list 73 rfl ?_ 32 _ rfl ⟨w.heap.size, 0, none⟩ ?_ cs _ (fun j u hj => hck5.cell (hck4.cell (pw_cell_below hb3 (hckE.cell (HQ.out j u hj))))) Tryz.underlying32 ?_ ?_ ?_); (case _ => rfl); (case _ => rfl); (case _ => rfl); (case _ => rw [HKl.out]; exact size32'))
              | (go_at_call 42; refine (HBi.out _ hb5).mono ?_; rintro e w6 ⟨A', m', cA', rfl, hmm', hC', hb6⟩))
            have HCc := Lib.hid hC'
            have hmx3 := Kd.C_max hC'
            have hI6 := hI5.below hb6
            have hO6 := hO5.below hb6
            have hs6 := hb6.size
            have HM' := Lib.hid hmm'
            clear hC' hI5 hO5 hI4 hO4
            go_loopw [76] (fun v76 w7 => ∃ j' : Nat, j' ≤ m' ∧ v76 = .int .i64 j' ∧ MI w7 bI (nI + Ex.upsL (x.kids.take k) x.kind x.binds 0 + m + (rdE x.kids k).ups + j') (fun i => ((B ++ x.binds.drop j').count i : Int)) ∧ MB w7 bO (nO + 1 + (Ex.allL (x.kids.take k)).length + (rdE x.kids k).all.length) (fun i => (fun i => fO i || decide (i ∈ x.own B ++ Ex.fvL (x.kids.take k) x.kind x.binds 0 B)) i || decide (i ∈ (rdE x.kids k).fv (B ++ x.binds))) ∧ CK w6 w7 ∧ Below w0.heap.size w6 w7) (fun v76 _ => m' - (intOf v76).toNat)
            case atStart => exact ⟨0, Nat.zero_le _, rfl, by simpa using hI6, hO6, CK.refl _, Below.refl _ _⟩
            case round =>
              obtain ⟨j', hj', rfl, hI7, hO7, hck7, hbl7⟩ := hrel
              obtain ⟨w7, rfl⟩ : ∃ w7, w7 = wr := ⟨_, rfl⟩
              have hs7 := hck7.size
              by_cases hjl' : j' < m'
              · obtain ⟨ad2, hA2, hc2⟩ := elI HCc.out hjl'
                subst hA2
                have hc3 := hck7.cell hc2
                have hjb : j' < x.binds.length := by have := HM'.out; omega
                have HT := Lib.hid (count_drop (B := B) hjb)
                have hpos := count_drop_pos (B := B) hjb
                obtain ⟨v, hv⟩ : ∃ v, v = x.binds.getD j' 0 := ⟨_, rfl⟩
                have hvm : 1 ≤ v ∧ v ≤ 1000000 := HBr.out v (by rw [hv, List.getD_eq_getElem?_getD, List.getElem?_eq_getElem hjb]; exact List.getElem_mem _)
                rw [← hv] at hc3 HT hpos
                have hwf : (Lit.int .i64 v).wf = true := wf64 (by omega) (by omega)
                obtain ⟨f, hf⟩ : ∃ f : Int → Int, f = fun i => ((B ++ x.binds.drop j').count i : Int) := ⟨_, rfl⟩
                rw [← hf] at hI7
                obtain ⟨c, hcv⟩ : ∃ c, f v = c := ⟨_, rfl⟩
                have hcr : 1 ≤ c ∧ c ≤ 4611686018427387904 := by
                  rw [← hcv, hf]
                  have h1 := List.count_le_length (a := v) (l := B ++ x.binds.drop j')
                  simp only [List.length_append, List.length_drop] at h1 ⊢
                  have := HM'.out
                  omega
                have hwc : (Lit.int .i64 (c - 1)).wf = true := wf64 (by omega) (by omega)
                have HFf := Lib.hid hf
                have hMo := hI7.other
                have hnn : nI + Ex.upsL (x.kids.take k) x.kind x.binds 0 + m + (rdE x.kids k).ups + j' < maxLen := by have := HM'.out; have := HM.out; omega
                have h0c := hcr.1
                have h1c := hcr.2
                clear hf hc2 hv hvm hcr hjb hpos
                go_wp2_with (first
                  | ((with_reducible refine MI.look 82 rfl ?_ _ _ rfl hI7 v ?_ ?_ hwf ?_); (case _ => rfl); (case _ => rfl); (case _ => rfl); rw [hcv])
                  | ((with_reducible refine MI.put rfl ?_ _ _ _ rfl hI7 hnn v (c - 1) ?_ ?_ ?_ hwf hwc ?_); (case _ => rfl); (case _ => rfl); (case _ => rfl); (case _ => rfl); intro w8 hI8 hg8))
                go_roundw
                case rel =>
                  refine ⟨j' + 1, by omega, by go_num, hI8.congr (fun i => ?_), hO7.kept hg8 (fun e => by cases e; exact hne rfl), hck7.trans (CK.of_grown hg8 hMo), hbl7.trans (below_grown hg8 (by omega) h0I)⟩
                  rw [HT.out, ← hcv, HFf.out]
                case measure => simp [intOf]; omega
              · have hdr : x.binds.drop j' = [] := List.drop_eq_nil_of_le (by have := HM'.out; omega)
                rw [hdr, List.append_nil] at hI7
                go_wp2
                go_roundw
                case rel =>
                  refine ⟨k + 1, by omega, by go_num, hI7.wider (by have h1 := HU1.out; rw [hins] at h1; simp only [if_true] at h1; have := HM'.out; have := HM.out; omega), (hO7.wider (by have h1 := HA1.out; omega)).congr (fun i => ?_), ((hckE.trans (CK.of_below hb3)).trans hck4).trans ((hck5.trans (CK.of_below hb6)).trans hck7), ((hblE.trans (hb3.mono (by omega))).trans hbl4).trans ((hbl5.trans (hb6.mono (by omega))).trans hbl7)⟩
                  rw [Ex.fvL_take hlt, hins]
                  simp [List.mem_append, Bool.or_assoc, or_assoc]
                case measure => simp [intOf]; omega
      have hins : ins x.kind k = false := by simp only [ins, k5, k8]; simp at ki; simp; omega
      have HI := Lib.hid (fun W hb h3 h4 => IH.out k hlt cc W B (nI + Ex.upsL (x.kids.take k) x.kind x.binds 0) (nO + 1 + (Ex.allL (x.kids.take k)).length) (fun i => fO i || decide (i ∈ x.own B ++ Ex.fvL (x.kids.take k) x.kind x.binds 0 B)) hK hb h3 h4 (by have h1 := HU1.out; have h2 := HU2.out; rw [hins] at h1; simp only [Bool.false_eq_true, if_false] at h1; omega) (by have h1 := HA1.out; have h2 := HA2.out; omega))
      have hIe := hIr.below hbe
      have hOe := hOr.below hbe
      go_wp2_with (first
        | ((with_reducible refine load_list 38 rfl ?_ 32 _ rfl (ad.add (k * 13)) ?_ cc _ HC.out Tryz.underlying32 ?_ ?_ ?_); (case _ => rfl); (case _ => rfl); (case _ => rfl); (case _ => rw [hcl.out]; exact size32'))
        | ((with_reducible refine store_new _ none rfl ?_ 32 _ _ rfl _ cc ?_ ?_ ?_ ?_ ?_ ?_); (case _ => rfl); (case _ => rfl); (case _ => rfl); (case _ => rw [hcl.out]; exact size32'); (case _ => rw [hcl.out]; rfl); (case _ => rw [List.all_eq_true]; exact hc1.out))
        | ((with_reducible refine load_list 53 rfl ?_ 32 _ rfl ⟨wa.heap.size, 0, none⟩ ?_ cc _ (new_cells _ _ _) Tryz.underlying32 ?_ ?_ ?_); (case _ => rfl); (case _ => rfl); (case _ => rfl); (case _ => rw [hcl.out]; exact size32'))
        | (go_at_call 43; refine (HI.out _ hbE hIe hOe).mono ?_; rintro e w5 ⟨rfl, hI5, hO5, hck5, hbl5⟩))
      go_roundw
      case rel =>
        refine ⟨k + 1, by omega, by go_num, hI5.wider (by have h1 := HU1.out; rw [hins] at h1; simp only [Bool.false_eq_true, if_false] at h1; omega), (hO5.wider (by have h1 := HA1.out; omega)).congr (fun i => ?_), hckE.trans hck5, hblE.trans hbl5⟩
        rw [Ex.fvL_take hlt, hins]
        simp [List.mem_append, Bool.or_assoc, or_assoc]
      case measure => simp [intOf]; omega
    · go_wp2
      have htk : x.kids.take k = x.kids := List.take_of_length_le (by omega)
      rw [htk] at hIr hOr
      go_end0
      refine ⟨rfl, ?_, (hOr.wider (by omega)).congr (fun i => ?_), (CK.of_below hbx).trans hckr, hblr⟩
      · rw [x.ups_eq]; exact hIr
      · rw [x.fv_eq]
end Go.Proofs.YtlcofdgaidlldaaGreatDoor
