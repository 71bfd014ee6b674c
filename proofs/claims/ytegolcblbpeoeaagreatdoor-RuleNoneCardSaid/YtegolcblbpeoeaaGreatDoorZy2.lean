/- Contract: pavanelaw11.RuleNone. The walk's conditions: the parameters' memory; the tables. -/
import Derived.Test.YtegolcblbpeoeaaGreatDoorZx
import Derived.Test.YtegolcblbpeoeaaGreatDoorZy1
namespace Go.Proofs.YtegolcblbpeoeaaGreatDoor
open Go.RowKit Go.Shelf Go.Proofs.YtegolcblbpeoeaaGreatDoorW.PrintWords
set_option linter.unusedVariables false
set_option linter.unusedSimpArgs false
theorem infoInt : (Tryz.prog.info? 3).map (fun i => (i.zero, i.size, i.bytes)) = some (some (.int .i64 0), (Kd.int .i64).sz, 8) := by kernel_rfl
abbrev zSt : List Value := [.int .i64 0, .slice none 0 0, .int .i64 0, .bool false]
set_option maxRecDepth 100000 in
set_option maxHeartbeats 8000000 in
theorem RuleNone_calls (x : Ex) (cs : List Value) (r : Int) (path : List Int) (A : Option Addr) (c : Nat) (k : Int) (no : Bool) (w : World) (hx : kE.K w x cs) (hp : (Kd.int .i64).C w A path.length path) (hpc : path.length ≤ c) (hL : Laid w) :
    Calls Tryz.prog 3 #[.agg cs.toArray, .agg (stepC r A path.length c k no).toArray] w fun e w' => e = .returned (.bool true) ∧ Below w.heap.size w w' := by
  have HXl := Lib.hid (kE_len hx)
  have HX := Lib.hid hx
  have HP := Lib.hid (Kd.C_F (Kd.heap_int .i64) hp)
  have HPC := Lib.hid (fun (W : World) (h : Below w.heap.size w W) => Kd.C_below hp h)
  have HLi := Lib.hid (fun (W : World) (h : Below w.heap.size w W) => light_calls x cs r A path.length c k no W (kE.K_below h hx) (Kd.C_max hp))
  have HM := Lib.hid (fun (W : World) (h : Below w.heap.size w W) => May_calls x cs W (kE.K_below h hx) (hL.below h))
  have HLv := Lib.hid (fun (W : World) (h : Below w.heap.size w W) => lives_calls W (hL.below h))
  have HLW := Lib.hid (fun (W : World) (h : Below w.heap.size w W) => hL.below h)
  have HF := Lib.hid (show lightB x path.length = true → x.all.length ≤ 400 ∧ path.length ≤ 50 by
    intro h
    rw [lightB, Bool.and_eq_true, Bool.and_eq_true, decide_eq_true_eq, decide_eq_true_eq] at h
    exact ⟨few_all h.1.1, by omega⟩)
  have HAo := Lib.hid (fun (A : Option Addr) (c : Nat) (W : World) => Apply_over x cs r path A c k no W)
  have hpl := Kd.C_max hp
  obtain ⟨lt, hlt⟩ : ∃ lt, lt = lightB x path.length := ⟨_, rfl⟩
  obtain ⟨my, hmy⟩ : ∃ my, my = x.may := ⟨_, rfl⟩
  rw [← hlt] at HLi HF
  rw [← hmy] at HM
  have HMY := Lib.hid hmy
  have hX0 : BX 31 ((w.alloc (.cells cs.toArray 31)).alloc (.cells (stepC r A path.length c k no).toArray 33)) w.heap.size cs := (BX.new w _).alloc _
  have hS0 : BX 33 ((w.alloc (.cells cs.toArray 31)).alloc (.cells (stepC r A path.length c k no).toArray 33)) (w.heap.size + 1) (stepC r A path.length c k no) := by simpa using BX.new (t := 33) (w.alloc (.cells cs.toArray 31)) (stepC r A path.length c k no)
  have hW0 : Below w.heap.size w ((w.alloc (.cells cs.toArray 31)).alloc (.cells (stepC r A path.length c k no).toArray 33)) := below_alloc (below_alloc (Below.refl _ _) _) _
  have hs0 : w.heap.size + 2 = ((w.alloc (.cells cs.toArray 31)).alloc (.cells (stepC r A path.length c k no).toArray 33)).heap.size := by simp
  clear hx hp hlt hmy
  have hcase : lt = false ∨ lt = true ∧ my = false ∨ lt = true ∧ my = true := by cases lt <;> cases my <;> simp
  rcases hcase with rfl | ⟨rfl, rfl⟩ | ⟨rfl, rfl⟩
  · go_enter Tryz.func3, Tryz.ntmps3
    go_wp2_with (first
      | ((with_reducible refine ldE 12 hX0 HXl rfl ?_ _ rfl ?_ ?_); (case _ => rfl); (case _ => rfl))
      | ((with_reducible refine ldSt 13 hS0 rfl ?_ _ rfl ?_ ?_); (case _ => rfl); (case _ => rfl))
      | (go_at_call 4; (with_reducible refine (HLi.out _ hW0).mono ?_); rintro e w1 ⟨rfl, hb1⟩; have hw1 := below_then hW0 (by omega) hb1)
      | (go_at_call 6; (with_reducible refine (HLv.out _ hw1).mono ?_); rintro e w2 ⟨rfl, hb2⟩; have hw2 := below_then hw1 hw1.size hb2))
    go_ret
    exact ⟨rfl, hw2⟩
  · go_enter Tryz.func3, Tryz.ntmps3
    go_wp2_with (first
      | ((with_reducible refine ldE 12 hX0 HXl rfl ?_ _ rfl ?_ ?_); (case _ => rfl); (case _ => rfl))
      | ((with_reducible refine ldSt 13 hS0 rfl ?_ _ rfl ?_ ?_); (case _ => rfl); (case _ => rfl))
      | ((with_reducible refine ldEg 17 hX1 HXl rfl ?_ _ rfl ?_ ?_); (case _ => rfl); (case _ => rfl))
      | (go_at_call 4; (with_reducible refine (HLi.out _ hW0).mono ?_); rintro e w1 ⟨rfl, hb1⟩; have hw1 := below_then hW0 (by omega) hb1; have hX1 := hX0.below hb1)
      | (go_at_call 5; (with_reducible refine (HM.out _ hw1).mono ?_); rintro e w2 ⟨rfl, hb2⟩; have hw2 := below_then hw1 hw1.size hb2)
      | (go_at_call 6; (with_reducible refine (HLv.out _ hw2).mono ?_); rintro e w3 ⟨rfl, hb3⟩; have hw3 := below_then hw2 hw2.size hb3))
    go_ret
    exact ⟨rfl, hw3⟩
  · have hF := HF.out rfl
    have HA4 := Lib.hid hF.1
    have hp50 := hF.2
    obtain ⟨xs7, hxs7⟩ : ∃ xs7, xs7 = path ++ [1000] := ⟨_, rfl⟩
    rw [← hxs7] at HAo
    have HXS := Lib.hid hxs7
    clear hF hxs7
    have HS0 := Lib.hid (fun (cz : List Value) (W : World) (h : kE.K W zE cz) => (show Calls Tryz.prog 9 #[.agg cz.toArray, .agg zEc.toArray] W fun e w' => e = .returned (.bool true) ∧ Below W.heap.size W w' by
      have := rSame8_calls zE zE cz zEc W h (zE_K W) slim_0 slim_0
      rwa [same_0] at this))
    have hrc : (1 ≤ r ∧ r ≤ 13) ∨ (¬ 1 ≤ r) ∨ (1 ≤ r ∧ ¬ r ≤ 13) := by omega
    rcases hrc with ⟨hr1, hr2⟩ | hr1 | ⟨hr1, hr2⟩
    · have d1 : decide (1 ≤ r) = true := decide_eq_true hr1
      have d2 : decide (r ≤ 13) = true := decide_eq_true hr2
      clear HS0
      go_enter Tryz.func3, Tryz.ntmps3
      go_wp2_with (first
        | ((with_reducible refine ldE 12 hX0 HXl rfl ?_ _ rfl ?_ ?_); (case _ => rfl); (case _ => rfl))
        | ((with_reducible refine ldSt 13 hS0 rfl ?_ _ rfl ?_ ?_); (case _ => rfl); (case _ => rfl))
        | ((with_reducible refine ldEg 17 hX1 HXl rfl ?_ _ rfl ?_ ?_); (case _ => rfl); (case _ => rfl))
        | (go_at_call 4; (with_reducible refine (HLi.out _ hW0).mono ?_); rintro e w1 ⟨rfl, hb1⟩; have hw1 := below_then hW0 (by omega) hb1; have hX1 := hX0.below hb1; have hS1 := hS0.below hb1; have hs1 := hb1.size)
        | (go_at_call 5; (with_reducible refine (HM.out _ hw1).mono ?_); rintro e w2 ⟨rfl, hb2⟩; have hw2 := below_then hw1 hw1.size hb2; have hX2 := hX1.below hb2; have hS2 := hS1.below hb2; have hs2 := hb2.size; have hS2l := hS2.lt)
        | ((with_reducible refine ldSt 22 hS2 rfl ?_ _ rfl ?_ ?_); (case _ => rfl); (case _ => rfl))
        | ((with_reducible refine store_bx (BX.new w2 zSt) none rfl ?_ _ _ rfl (stepC r A path.length c k no) ?_ ?_ ?_ ?_ ?_ ?_); (case _ => rfl); (case _ => rfl); (case _ => rfl); (case _ => exact sizeSt); (case _ => rfl); (case _ => simp [Value.oneCell']); intro w3 hT3 hg3; have hb3 : Below w2.heap.size w2 w3 := (below_alloc (Below.refl _ _) _).trans (below_grown hg3 (by simp) (Nat.le_refl _)); have hX3 := hX2.below hb3; have hS3 := hS2.below hb3; have q3 := hS3.cell (j := 1) (u := .slice A path.length c) rfl; have hw3 := below_then hw2 hw2.size hb3; have HP3 := Lib.hid (Kd.F_below HP.out hw3); have hs3 : w2.heap.size + 1 ≤ w3.heap.size := hT3.lt; have hws3 := hw3.size)
        | ((with_reducible refine gate_dst (N := 23) rfl ?_); refine Kd.N_lit (Kd.int .i64) (w0 := w3) w3.heap.size 3 rfl rfl (xs := []) (inner := []) (ok := fun _ => True) (okp := fun _ => False) (by go_simp) (Reps.none _ _) (fun _ h => h.elim) trivial (Below.refl _ _) (Nat.le_refl _) (by simp) ?_; intro v4 w4 hN hB _ _; have HN4 := Lib.hid hN; have HB4 := Lib.hid hB; have hs4 := hB.size; have q4 := pw_cell_below hB q3; clear hN hB)
        | ((with_reducible refine gate_dst (N := 26) rfl ?_); refine Kd.N_append_rows (Kd.int .i64) (w0 := w3) w3.heap.size rfl _ _ 28 3 _ 8 rfl Tryz.underlying28 infoInt rfl (by decide) (by decide) _ [] path A path.length c (fun _ => True) _ ?_ ?_ HN4.out (Kd.F_below HP3.out HB4.out) (fun q hq => N_apart_old HN4.out q (Nat.lt_of_lt_of_le hq hws3)) (fun _ _ => trivial) HB4.out hs4 ?_ ?_; (case _ => rfl); (case _ => rfl); (case _ => first | (simp; done) | (simp; omega)); intro v5 w5 hN hB _ _; have HN5 : Hid (Kd.N (Kd.int .i64) 3 w5 w3.heap.size (fun _ => True) v5 path) := Lib.hid hN; have HB5 := Lib.hid hB; have hs5 := hB.size; clear hN hB)
        | ((with_reducible refine gate_dst (N := 27) rfl ?_); refine Kd.N_lit (Kd.int .i64) (w0 := w3) w3.heap.size 3 rfl rfl (xs := [1000]) (inner := [.int .i64 1000]) (ok := fun q => w5.heap.size ≤ q) (okp := fun _ => False) (by go_simp) ((reps_nums w5 .i64 [1000]).imp_ (fun _ _ hp _ _ => hp)) (fun _ h => h.elim) (Nat.le_refl _) HB5.out hs5 (by simp) ?_; intro v6 w6 hN hB hg6 _; obtain ⟨g6, cap6, hv6, _⟩ := Kd.N_form hN (by simp); subst hv6; have HN6 := Lib.hid hN; have HB6 := Lib.hid hB; have hs6 := hB.size; have HN5b := Lib.hid (Kd.N_grown HN5.out hg6 (fun _ _ e => by cases e)); clear hN hB hg6)
        | ((with_reducible refine gate_dst (N := 28) rfl ?_); refine Kd.N_append_rows (Kd.int .i64) (w0 := w3) w3.heap.size rfl _ _ 28 3 _ 8 rfl Tryz.underlying28 infoInt rfl (by decide) (by decide) _ path [1000] (some ⟨g6, 0, none⟩) 1 cap6 (fun _ => True) _ ?_ ?_ HN5b.out (Kd.N_F HN6.out) (fun q hq => ⟨trivial, fun he => by have := Kd.N_lt HN5.out q he.symm; omega⟩) (fun _ _ => trivial) HB6.out hs6 ?_ ?_; (case _ => rfl); (case _ => rfl); (case _ => first | omega | (simp; omega)); intro v7 w7 hN hB _ _; rw [← HXS.out] at hN; obtain ⟨A7, c7, hv7⟩ := Kd.N_slice hN; subst hv7; have HT7 := Lib.hid (hT3.below hB); have qt := HT7.out.cell (j := 1) (u := .slice A path.length c) rfl; have qf := BX.frozen HT7.out 1; have hg8 := grown_setCell w7 w2.heap.size 1 (.slice A7 xs7.length c7); have hX8 := (hX3.below hB).kept hg8 (fun e => by injection e; omega); have hS8 := (hS3.below hB).kept hg8 (fun e => by injection e; omega); have hw8 : Below w.heap.size w (w7.setCell ⟨w2.heap.size, 1, none⟩ (.slice A7 xs7.length c7)) := (below_then hw3 hws3 hB).trans (below_grown hg8 (by have := hB.size; omega) (by omega)); have hT8 : BX 33 (w7.setCell ⟨w2.heap.size, 1, none⟩ (.slice A7 xs7.length c7)) w2.heap.size (stepC r A7 xs7.length c7 k no) := BX.setCell HT7.out 1 _; have HC8 := Lib.hid (Kd.N_reads' (Kd.N_far (N_int_fresh hN) (p := ⟨w2.heap.size, 1, none⟩) (fun q hq => by show q ≠ w2.heap.size; omega) (.slice A7 xs7.length c7))); have hw8s := hw8.size; clear hN hB)
        | ((with_reducible refine ldE 31 hX8 HXl rfl ?_ _ rfl ?_ ?_); (case _ => rfl); (case _ => rfl))
        | ((with_reducible refine ldSt 32 hT8 rfl ?_ _ rfl ?_ ?_); (case _ => rfl); (case _ => rfl))
        | (go_at_call 7; (with_reducible refine (HAo.out A7 c7 _ (kE.K_below hw8 HX.out) HC8.out.2.2 HC8.out.2.1 (HLW.out _ hw8) HA4.out HMY.out.symm).mono ?_); rintro e w9 ⟨c9, rfl, hK9, hb9⟩; have H9l := Lib.hid (kE_len hK9); have H91 := Lib.hid (kE.K_one hK9); have hX9 := hX8.below hb9; have hS9 := hS8.below hb9; have hw9 := below_then hw8 hw8s hb9; clear hK9)
        | ((with_reducible refine stE (BX.new w9 zEc) rfl H9l H91 none rfl ?_ _ _ rfl ?_ ?_ ?_); (case _ => rfl); (case _ => rfl); (case _ => rfl); intro wa hTa hga; have hba : Below w9.heap.size w9 wa := (below_alloc (Below.refl _ _) _).trans (below_grown hga (by simp) (Nat.le_refl _)); have hXa := hX9.below hba; have hSa := hS9.below hba; have qr := hSa.cell (j := 0) (u := .int .i64 r) rfl; have hwa := below_then hw9 hw9.size hba)
        | (go_at_call 6; (with_reducible refine (HLv.out _ hwa).mono ?_); rintro e wz ⟨rfl, hbz⟩; have hwz := below_then hwa hwa.size hbz))
      go_ret
      exact ⟨rfl, hwz⟩
    · have d1 : decide (1 ≤ r) = false := decide_eq_false hr1
      have HR := Lib.hid (show ¬ (1 ≤ r ∧ r ≤ 13) from fun h => hr1 h.1)
      clear hr1
      go_enter Tryz.func3, Tryz.ntmps3
      go_wp2_with (first
        | ((with_reducible refine ldE 12 hX0 HXl rfl ?_ _ rfl ?_ ?_); (case _ => rfl); (case _ => rfl))
        | ((with_reducible refine ldSt 13 hS0 rfl ?_ _ rfl ?_ ?_); (case _ => rfl); (case _ => rfl))
        | ((with_reducible refine ldEg 17 hX1 HXl rfl ?_ _ rfl ?_ ?_); (case _ => rfl); (case _ => rfl))
        | (go_at_call 4; (with_reducible refine (HLi.out _ hW0).mono ?_); rintro e w1 ⟨rfl, hb1⟩; have hw1 := below_then hW0 (by omega) hb1; have hX1 := hX0.below hb1; have hS1 := hS0.below hb1; have hs1 := hb1.size)
        | (go_at_call 5; (with_reducible refine (HM.out _ hw1).mono ?_); rintro e w2 ⟨rfl, hb2⟩; have hw2 := below_then hw1 hw1.size hb2; have hX2 := hX1.below hb2; have hS2 := hS1.below hb2; have hs2 := hb2.size; have hS2l := hS2.lt)
        | ((with_reducible refine ldSt 22 hS2 rfl ?_ _ rfl ?_ ?_); (case _ => rfl); (case _ => rfl))
        | ((with_reducible refine store_bx (BX.new w2 zSt) none rfl ?_ _ _ rfl (stepC r A path.length c k no) ?_ ?_ ?_ ?_ ?_ ?_); (case _ => rfl); (case _ => rfl); (case _ => rfl); (case _ => exact sizeSt); (case _ => rfl); (case _ => simp [Value.oneCell']); intro w3 hT3 hg3; have hb3 : Below w2.heap.size w2 w3 := (below_alloc (Below.refl _ _) _).trans (below_grown hg3 (by simp) (Nat.le_refl _)); have hX3 := hX2.below hb3; have hS3 := hS2.below hb3; have q3 := hS3.cell (j := 1) (u := .slice A path.length c) rfl; have hw3 := below_then hw2 hw2.size hb3; have HP3 := Lib.hid (Kd.F_below HP.out hw3); have hs3 : w2.heap.size + 1 ≤ w3.heap.size := hT3.lt; have hws3 := hw3.size)
        | ((with_reducible refine gate_dst (N := 23) rfl ?_); refine Kd.N_lit (Kd.int .i64) (w0 := w3) w3.heap.size 3 rfl rfl (xs := []) (inner := []) (ok := fun _ => True) (okp := fun _ => False) (by go_simp) (Reps.none _ _) (fun _ h => h.elim) trivial (Below.refl _ _) (Nat.le_refl _) (by simp) ?_; intro v4 w4 hN hB _ _; have HN4 := Lib.hid hN; have HB4 := Lib.hid hB; have hs4 := hB.size; have q4 := pw_cell_below hB q3; clear hN hB)
        | ((with_reducible refine gate_dst (N := 26) rfl ?_); refine Kd.N_append_rows (Kd.int .i64) (w0 := w3) w3.heap.size rfl _ _ 28 3 _ 8 rfl Tryz.underlying28 infoInt rfl (by decide) (by decide) _ [] path A path.length c (fun _ => True) _ ?_ ?_ HN4.out (Kd.F_below HP3.out HB4.out) (fun q hq => N_apart_old HN4.out q (Nat.lt_of_lt_of_le hq hws3)) (fun _ _ => trivial) HB4.out hs4 ?_ ?_; (case _ => rfl); (case _ => rfl); (case _ => first | (simp; done) | (simp; omega)); intro v5 w5 hN hB _ _; have HN5 : Hid (Kd.N (Kd.int .i64) 3 w5 w3.heap.size (fun _ => True) v5 path) := Lib.hid hN; have HB5 := Lib.hid hB; have hs5 := hB.size; clear hN hB)
        | ((with_reducible refine gate_dst (N := 27) rfl ?_); refine Kd.N_lit (Kd.int .i64) (w0 := w3) w3.heap.size 3 rfl rfl (xs := [1000]) (inner := [.int .i64 1000]) (ok := fun q => w5.heap.size ≤ q) (okp := fun _ => False) (by go_simp) ((reps_nums w5 .i64 [1000]).imp_ (fun _ _ hp _ _ => hp)) (fun _ h => h.elim) (Nat.le_refl _) HB5.out hs5 (by simp) ?_; intro v6 w6 hN hB hg6 _; obtain ⟨g6, cap6, hv6, _⟩ := Kd.N_form hN (by simp); subst hv6; have HN6 := Lib.hid hN; have HB6 := Lib.hid hB; have hs6 := hB.size; have HN5b := Lib.hid (Kd.N_grown HN5.out hg6 (fun _ _ e => by cases e)); clear hN hB hg6)
        | ((with_reducible refine gate_dst (N := 28) rfl ?_); refine Kd.N_append_rows (Kd.int .i64) (w0 := w3) w3.heap.size rfl _ _ 28 3 _ 8 rfl Tryz.underlying28 infoInt rfl (by decide) (by decide) _ path [1000] (some ⟨g6, 0, none⟩) 1 cap6 (fun _ => True) _ ?_ ?_ HN5b.out (Kd.N_F HN6.out) (fun q hq => ⟨trivial, fun he => by have := Kd.N_lt HN5.out q he.symm; omega⟩) (fun _ _ => trivial) HB6.out hs6 ?_ ?_; (case _ => rfl); (case _ => rfl); (case _ => first | omega | (simp; omega)); intro v7 w7 hN hB _ _; rw [← HXS.out] at hN; obtain ⟨A7, c7, hv7⟩ := Kd.N_slice hN; subst hv7; have HT7 := Lib.hid (hT3.below hB); have qt := HT7.out.cell (j := 1) (u := .slice A path.length c) rfl; have qf := BX.frozen HT7.out 1; have hg8 := grown_setCell w7 w2.heap.size 1 (.slice A7 xs7.length c7); have hX8 := (hX3.below hB).kept hg8 (fun e => by injection e; omega); have hS8 := (hS3.below hB).kept hg8 (fun e => by injection e; omega); have hw8 : Below w.heap.size w (w7.setCell ⟨w2.heap.size, 1, none⟩ (.slice A7 xs7.length c7)) := (below_then hw3 hws3 hB).trans (below_grown hg8 (by have := hB.size; omega) (by omega)); have hT8 : BX 33 (w7.setCell ⟨w2.heap.size, 1, none⟩ (.slice A7 xs7.length c7)) w2.heap.size (stepC r A7 xs7.length c7 k no) := BX.setCell HT7.out 1 _; have HC8 := Lib.hid (Kd.N_reads' (Kd.N_far (N_int_fresh hN) (p := ⟨w2.heap.size, 1, none⟩) (fun q hq => by show q ≠ w2.heap.size; omega) (.slice A7 xs7.length c7))); have hw8s := hw8.size; clear hN hB)
        | ((with_reducible refine ldE 31 hX8 HXl rfl ?_ _ rfl ?_ ?_); (case _ => rfl); (case _ => rfl))
        | ((with_reducible refine ldSt 32 hT8 rfl ?_ _ rfl ?_ ?_); (case _ => rfl); (case _ => rfl))
        | (go_at_call 7; (with_reducible refine (HAo.out A7 c7 _ (kE.K_below hw8 HX.out) HC8.out.2.2 HC8.out.2.1 (HLW.out _ hw8) HA4.out HMY.out.symm).mono ?_); rintro e w9 ⟨c9, rfl, hK9, hb9⟩; have H9l := Lib.hid (kE_len hK9); have H91 := Lib.hid (kE.K_one hK9); have hX9 := hX8.below hb9; have hS9 := hS8.below hb9; have hw9 := below_then hw8 hw8s hb9; clear hK9)
        | ((with_reducible refine stE (BX.new w9 zEc) rfl H9l H91 none rfl ?_ _ _ rfl ?_ ?_ ?_); (case _ => rfl); (case _ => rfl); (case _ => rfl); intro wa hTa hga; have hba : Below w9.heap.size w9 wa := (below_alloc (Below.refl _ _) _).trans (below_grown hga (by simp) (Nat.le_refl _)); have hXa := hX9.below hba; have hSa := hS9.below hba; have qr := hSa.cell (j := 0) (u := .int .i64 r) rfl; have hwa := below_then hw9 hw9.size hba)
        | ((with_reducible refine ldE 48 hXa HXl rfl ?_ _ rfl ?_ ?_); (case _ => rfl); (case _ => rfl))
        | ((with_reducible refine ldSt 49 hSa rfl ?_ _ rfl ?_ ?_); (case _ => rfl); (case _ => rfl))
        | (go_at_call 7; (with_reducible refine (Apply_off x cs r path A c k no wa (kE.K_below hwa HX.out) (HPC.out _ hwa) hpc (HLW.out _ hwa) HA4.out HMY.out.symm HR.out).mono ?_); rintro e wb ⟨cb, rfl, hKb, hbb⟩; have Hbl := Lib.hid (kE_len hKb); have Hb1 := Lib.hid (kE.K_one hKb); have HKb := Lib.hid hKb; have hXb := hXa.below hbb; have hSb := hSa.below hbb; have hwb := below_then hwa hwa.size hbb; clear hKb)
        | ((with_reducible refine stE (BX.new wb zEc) rfl Hbl Hb1 none rfl ?_ _ _ rfl ?_ ?_ ?_); (case _ => rfl); (case _ => rfl); (case _ => rfl); intro wd hTd hgd; have hbd : Below wb.heap.size wb wd := (below_alloc (Below.refl _ _) _).trans (below_grown hgd (by simp) (Nat.le_refl _)); have HKd := Lib.hid (kE.K_below hbd HKb.out); have hXd := hXb.below hbd; have hSd := hSb.below hbd; have hwd := below_then hwb hwb.size hbd)
        | ((with_reducible refine ldE 54 hXd HXl rfl ?_ _ rfl ?_ ?_); (case _ => rfl); (case _ => rfl))
        | ((with_reducible refine ldSt 55 hSd rfl ?_ _ rfl ?_ ?_); (case _ => rfl); (case _ => rfl))
        | (go_at_call 8; (with_reducible refine (Here_off x cs r A path.length c k no 1000000 wd (fun q => q < wd.heap.size) (fun _ h => h) (K_FK (kE.K_below hwd HX.out)) (HLW.out _ hwd) HR.out).mono ?_); rintro e we ⟨ce, rfl, hKe, hbe⟩; have hKe := Kd.FK_now hKe; have Hel := Lib.hid (kE_len hKe); have He1 := Lib.hid (kE.K_one hKe); have HKe := Lib.hid hKe; have hTe := hTd.below hbe; have HKde := Lib.hid (kE.K_below hbe HKd.out); have hwe := below_then hwd hwd.size hbe; clear hKe)
        | ((with_reducible refine stE (BX.new we zEc) rfl Hel He1 none rfl ?_ _ _ rfl ?_ ?_ ?_); (case _ => rfl); (case _ => rfl); (case _ => rfl); intro wf hTf hgf; have hbf : Below we.heap.size we wf := (below_alloc (Below.refl _ _) _).trans (below_grown hgf (by simp) (Nat.le_refl _)); have HKf := Lib.hid (kE.K_below hbf HKe.out); have HKdf := Lib.hid (kE.K_below hbf HKde.out); have hTdf := hTe.below hbf; have hwf := below_then hwe hwe.size hbf)
        | ((with_reducible refine ldEg 66 hTdf Hbl rfl ?_ _ rfl ?_ ?_); (case _ => rfl); (case _ => rfl))
        | (go_at_call 9; (with_reducible refine (HS0.out cb wf HKdf.out).mono ?_); rintro e wg ⟨rfl, hbg⟩; have hTg := hTf.below hbg; have HKg := Lib.hid (kE.K_below hbg HKf.out); have hwg := below_then hwf hwf.size hbg)
        | ((with_reducible refine ldEg 71 hTg Hel rfl ?_ _ rfl ?_ ?_); (case _ => rfl); (case _ => rfl))
        | (go_at_call 9; (with_reducible refine (HS0.out ce wg HKg.out).mono ?_); rintro e wh ⟨rfl, hbh⟩; have hwh := below_then hwg hwg.size hbh)
        | (go_at_call 6; (with_reducible refine (HLv.out _ hwh).mono ?_); rintro e wz ⟨rfl, hbz⟩; have hwz := below_then hwh hwh.size hbz))
      go_ret
      exact ⟨rfl, hwz⟩
    · have d1 : decide (1 ≤ r) = true := decide_eq_true hr1
      have d2 : decide (r ≤ 13) = false := decide_eq_false hr2
      have HR := Lib.hid (show ¬ (1 ≤ r ∧ r ≤ 13) from fun h => hr2 h.2)
      clear hr1 hr2
      go_enter Tryz.func3, Tryz.ntmps3
      go_wp2_with (first
        | ((with_reducible refine ldE 12 hX0 HXl rfl ?_ _ rfl ?_ ?_); (case _ => rfl); (case _ => rfl))
        | ((with_reducible refine ldSt 13 hS0 rfl ?_ _ rfl ?_ ?_); (case _ => rfl); (case _ => rfl))
        | ((with_reducible refine ldEg 17 hX1 HXl rfl ?_ _ rfl ?_ ?_); (case _ => rfl); (case _ => rfl))
        | (go_at_call 4; (with_reducible refine (HLi.out _ hW0).mono ?_); rintro e w1 ⟨rfl, hb1⟩; have hw1 := below_then hW0 (by omega) hb1; have hX1 := hX0.below hb1; have hS1 := hS0.below hb1; have hs1 := hb1.size)
        | (go_at_call 5; (with_reducible refine (HM.out _ hw1).mono ?_); rintro e w2 ⟨rfl, hb2⟩; have hw2 := below_then hw1 hw1.size hb2; have hX2 := hX1.below hb2; have hS2 := hS1.below hb2; have hs2 := hb2.size; have hS2l := hS2.lt)
        | ((with_reducible refine ldSt 22 hS2 rfl ?_ _ rfl ?_ ?_); (case _ => rfl); (case _ => rfl))
        | ((with_reducible refine store_bx (BX.new w2 zSt) none rfl ?_ _ _ rfl (stepC r A path.length c k no) ?_ ?_ ?_ ?_ ?_ ?_); (case _ => rfl); (case _ => rfl); (case _ => rfl); (case _ => exact sizeSt); (case _ => rfl); (case _ => simp [Value.oneCell']); intro w3 hT3 hg3; have hb3 : Below w2.heap.size w2 w3 := (below_alloc (Below.refl _ _) _).trans (below_grown hg3 (by simp) (Nat.le_refl _)); have hX3 := hX2.below hb3; have hS3 := hS2.below hb3; have q3 := hS3.cell (j := 1) (u := .slice A path.length c) rfl; have hw3 := below_then hw2 hw2.size hb3; have HP3 := Lib.hid (Kd.F_below HP.out hw3); have hs3 : w2.heap.size + 1 ≤ w3.heap.size := hT3.lt; have hws3 := hw3.size)
        | ((with_reducible refine gate_dst (N := 23) rfl ?_); refine Kd.N_lit (Kd.int .i64) (w0 := w3) w3.heap.size 3 rfl rfl (xs := []) (inner := []) (ok := fun _ => True) (okp := fun _ => False) (by go_simp) (Reps.none _ _) (fun _ h => h.elim) trivial (Below.refl _ _) (Nat.le_refl _) (by simp) ?_; intro v4 w4 hN hB _ _; have HN4 := Lib.hid hN; have HB4 := Lib.hid hB; have hs4 := hB.size; have q4 := pw_cell_below hB q3; clear hN hB)
        | ((with_reducible refine gate_dst (N := 26) rfl ?_); refine Kd.N_append_rows (Kd.int .i64) (w0 := w3) w3.heap.size rfl _ _ 28 3 _ 8 rfl Tryz.underlying28 infoInt rfl (by decide) (by decide) _ [] path A path.length c (fun _ => True) _ ?_ ?_ HN4.out (Kd.F_below HP3.out HB4.out) (fun q hq => N_apart_old HN4.out q (Nat.lt_of_lt_of_le hq hws3)) (fun _ _ => trivial) HB4.out hs4 ?_ ?_; (case _ => rfl); (case _ => rfl); (case _ => first | (simp; done) | (simp; omega)); intro v5 w5 hN hB _ _; have HN5 : Hid (Kd.N (Kd.int .i64) 3 w5 w3.heap.size (fun _ => True) v5 path) := Lib.hid hN; have HB5 := Lib.hid hB; have hs5 := hB.size; clear hN hB)
        | ((with_reducible refine gate_dst (N := 27) rfl ?_); refine Kd.N_lit (Kd.int .i64) (w0 := w3) w3.heap.size 3 rfl rfl (xs := [1000]) (inner := [.int .i64 1000]) (ok := fun q => w5.heap.size ≤ q) (okp := fun _ => False) (by go_simp) ((reps_nums w5 .i64 [1000]).imp_ (fun _ _ hp _ _ => hp)) (fun _ h => h.elim) (Nat.le_refl _) HB5.out hs5 (by simp) ?_; intro v6 w6 hN hB hg6 _; obtain ⟨g6, cap6, hv6, _⟩ := Kd.N_form hN (by simp); subst hv6; have HN6 := Lib.hid hN; have HB6 := Lib.hid hB; have hs6 := hB.size; have HN5b := Lib.hid (Kd.N_grown HN5.out hg6 (fun _ _ e => by cases e)); clear hN hB hg6)
        | ((with_reducible refine gate_dst (N := 28) rfl ?_); refine Kd.N_append_rows (Kd.int .i64) (w0 := w3) w3.heap.size rfl _ _ 28 3 _ 8 rfl Tryz.underlying28 infoInt rfl (by decide) (by decide) _ path [1000] (some ⟨g6, 0, none⟩) 1 cap6 (fun _ => True) _ ?_ ?_ HN5b.out (Kd.N_F HN6.out) (fun q hq => ⟨trivial, fun he => by have := Kd.N_lt HN5.out q he.symm; omega⟩) (fun _ _ => trivial) HB6.out hs6 ?_ ?_; (case _ => rfl); (case _ => rfl); (case _ => first | omega | (simp; omega)); intro v7 w7 hN hB _ _; rw [← HXS.out] at hN; obtain ⟨A7, c7, hv7⟩ := Kd.N_slice hN; subst hv7; have HT7 := Lib.hid (hT3.below hB); have qt := HT7.out.cell (j := 1) (u := .slice A path.length c) rfl; have qf := BX.frozen HT7.out 1; have hg8 := grown_setCell w7 w2.heap.size 1 (.slice A7 xs7.length c7); have hX8 := (hX3.below hB).kept hg8 (fun e => by injection e; omega); have hS8 := (hS3.below hB).kept hg8 (fun e => by injection e; omega); have hw8 : Below w.heap.size w (w7.setCell ⟨w2.heap.size, 1, none⟩ (.slice A7 xs7.length c7)) := (below_then hw3 hws3 hB).trans (below_grown hg8 (by have := hB.size; omega) (by omega)); have hT8 : BX 33 (w7.setCell ⟨w2.heap.size, 1, none⟩ (.slice A7 xs7.length c7)) w2.heap.size (stepC r A7 xs7.length c7 k no) := BX.setCell HT7.out 1 _; have HC8 := Lib.hid (Kd.N_reads' (Kd.N_far (N_int_fresh hN) (p := ⟨w2.heap.size, 1, none⟩) (fun q hq => by show q ≠ w2.heap.size; omega) (.slice A7 xs7.length c7))); have hw8s := hw8.size; clear hN hB)
        | ((with_reducible refine ldE 31 hX8 HXl rfl ?_ _ rfl ?_ ?_); (case _ => rfl); (case _ => rfl))
        | ((with_reducible refine ldSt 32 hT8 rfl ?_ _ rfl ?_ ?_); (case _ => rfl); (case _ => rfl))
        | (go_at_call 7; (with_reducible refine (HAo.out A7 c7 _ (kE.K_below hw8 HX.out) HC8.out.2.2 HC8.out.2.1 (HLW.out _ hw8) HA4.out HMY.out.symm).mono ?_); rintro e w9 ⟨c9, rfl, hK9, hb9⟩; have H9l := Lib.hid (kE_len hK9); have H91 := Lib.hid (kE.K_one hK9); have hX9 := hX8.below hb9; have hS9 := hS8.below hb9; have hw9 := below_then hw8 hw8s hb9; clear hK9)
        | ((with_reducible refine stE (BX.new w9 zEc) rfl H9l H91 none rfl ?_ _ _ rfl ?_ ?_ ?_); (case _ => rfl); (case _ => rfl); (case _ => rfl); intro wa hTa hga; have hba : Below w9.heap.size w9 wa := (below_alloc (Below.refl _ _) _).trans (below_grown hga (by simp) (Nat.le_refl _)); have hXa := hX9.below hba; have hSa := hS9.below hba; have qr := hSa.cell (j := 0) (u := .int .i64 r) rfl; have hwa := below_then hw9 hw9.size hba)
        | ((with_reducible refine ldE 48 hXa HXl rfl ?_ _ rfl ?_ ?_); (case _ => rfl); (case _ => rfl))
        | ((with_reducible refine ldSt 49 hSa rfl ?_ _ rfl ?_ ?_); (case _ => rfl); (case _ => rfl))
        | (go_at_call 7; (with_reducible refine (Apply_off x cs r path A c k no wa (kE.K_below hwa HX.out) (HPC.out _ hwa) hpc (HLW.out _ hwa) HA4.out HMY.out.symm HR.out).mono ?_); rintro e wb ⟨cb, rfl, hKb, hbb⟩; have Hbl := Lib.hid (kE_len hKb); have Hb1 := Lib.hid (kE.K_one hKb); have HKb := Lib.hid hKb; have hXb := hXa.below hbb; have hSb := hSa.below hbb; have hwb := below_then hwa hwa.size hbb; clear hKb)
        | ((with_reducible refine stE (BX.new wb zEc) rfl Hbl Hb1 none rfl ?_ _ _ rfl ?_ ?_ ?_); (case _ => rfl); (case _ => rfl); (case _ => rfl); intro wd hTd hgd; have hbd : Below wb.heap.size wb wd := (below_alloc (Below.refl _ _) _).trans (below_grown hgd (by simp) (Nat.le_refl _)); have HKd := Lib.hid (kE.K_below hbd HKb.out); have hXd := hXb.below hbd; have hSd := hSb.below hbd; have hwd := below_then hwb hwb.size hbd)
        | ((with_reducible refine ldE 54 hXd HXl rfl ?_ _ rfl ?_ ?_); (case _ => rfl); (case _ => rfl))
        | ((with_reducible refine ldSt 55 hSd rfl ?_ _ rfl ?_ ?_); (case _ => rfl); (case _ => rfl))
        | (go_at_call 8; (with_reducible refine (Here_off x cs r A path.length c k no 1000000 wd (fun q => q < wd.heap.size) (fun _ h => h) (K_FK (kE.K_below hwd HX.out)) (HLW.out _ hwd) HR.out).mono ?_); rintro e we ⟨ce, rfl, hKe, hbe⟩; have hKe := Kd.FK_now hKe; have Hel := Lib.hid (kE_len hKe); have He1 := Lib.hid (kE.K_one hKe); have HKe := Lib.hid hKe; have hTe := hTd.below hbe; have HKde := Lib.hid (kE.K_below hbe HKd.out); have hwe := below_then hwd hwd.size hbe; clear hKe)
        | ((with_reducible refine stE (BX.new we zEc) rfl Hel He1 none rfl ?_ _ _ rfl ?_ ?_ ?_); (case _ => rfl); (case _ => rfl); (case _ => rfl); intro wf hTf hgf; have hbf : Below we.heap.size we wf := (below_alloc (Below.refl _ _) _).trans (below_grown hgf (by simp) (Nat.le_refl _)); have HKf := Lib.hid (kE.K_below hbf HKe.out); have HKdf := Lib.hid (kE.K_below hbf HKde.out); have hTdf := hTe.below hbf; have hwf := below_then hwe hwe.size hbf)
        | ((with_reducible refine ldEg 66 hTdf Hbl rfl ?_ _ rfl ?_ ?_); (case _ => rfl); (case _ => rfl))
        | (go_at_call 9; (with_reducible refine (HS0.out cb wf HKdf.out).mono ?_); rintro e wg ⟨rfl, hbg⟩; have hTg := hTf.below hbg; have HKg := Lib.hid (kE.K_below hbg HKf.out); have hwg := below_then hwf hwf.size hbg)
        | ((with_reducible refine ldEg 71 hTg Hel rfl ?_ _ rfl ?_ ?_); (case _ => rfl); (case _ => rfl))
        | (go_at_call 9; (with_reducible refine (HS0.out ce wg HKg.out).mono ?_); rintro e wh ⟨rfl, hbh⟩; have hwh := below_then hwg hwg.size hbh)
        | (go_at_call 6; (with_reducible refine (HLv.out _ hwh).mono ?_); rintro e wz ⟨rfl, hbz⟩; have hwz := below_then hwh hwh.size hbz))
      go_ret
      exact ⟨rfl, hwz⟩
end Go.Proofs.YtegolcblbpeoeaaGreatDoor
