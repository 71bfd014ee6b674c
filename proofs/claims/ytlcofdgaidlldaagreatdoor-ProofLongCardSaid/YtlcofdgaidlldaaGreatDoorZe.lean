/- Contracts: datum.good, at single kinds. Contracts: datum.good, at single kinds. -/
import Derived.Test.YtlcofdgaidlldaaGreatDoorZd
namespace Go.Proofs.YtlcofdgaidlldaaGreatDoor
open Go.RowKit Go.Proofs.YtlcofdgaidlldaaGreatDoorW.PrintWords
set_option linter.unusedVariables false
set_option linter.unusedSimpArgs false
set_option maxRecDepth 100000 in
set_option maxHeartbeats 2000000 in
theorem dgood_k0 (neg : Bool) (l : List Int) (b : Bool) (s : ByteArray) (items tail : List Dt) (A2 : Option Addr) (c2 : Nat) (A5 : Option Addr) (c5 : Nat) (A6 : Option Addr) (c6 : Nat) (w : World) (hm2 : l.length ≤ 9223372036854775807) (hl : items.length + tail.length ≤ 1000000) :
    Calls Tryz.prog 72 #[.agg #[.int .i64 0, .bool neg, .slice A2 l.length c2, .bool b, .string s, .slice A5 items.length c5, .slice A6 tail.length c6]] w fun e w' => e = .returned (.bool (Dt.mk 0 ⟨neg, l⟩ b s items tail).good) ∧ Below w.heap.size w w' := by
  have HR := Lib.hid ((Dt.mk 0 ⟨neg, l⟩ b s items tail).good_eq)
  have HB := Lib.hid (show (Dt.mk 0 ⟨neg, l⟩ b s items tail).blanked = (((0 : Int) == 1 || (!neg && decide (l.length = 0))) && ((0 : Int) == 2 || !b) && ((0 : Int) == 3 || (0 : Int) == 4 || decide (s.size = 0)) && ((0 : Int) == 5 || decide (items.length + tail.length = 0))) from rfl)
  have HS := Lib.hid (str_empty s)
  cases neg
  case true =>
    go_enter Tryz.func72, Tryz.ntmps72
    go_wp2_with (go_at_call 104; refine (blank_calls _ _ _ _ _ _ _ _ _ _ _ _ _ _).mono ?_; rintro e w1 ⟨rfl, hb1⟩; rw [show blankV 0 true A2 l.length c2 b s A5 items.length c5 A6 tail.length c6 = .agg #[.int .i64 0, .bool true, .slice A2 l.length c2, .bool b, .string s, .slice A5 items.length c5, .slice A6 tail.length c6] from rfl]; have hz : w.heap.size < w1.heap.size := (by have h_ := hb1.size; simp at h_; omega))
    go_ret
    exact ⟨retB (by rw [HR.out, HB.out]; simp), below_alloc (below_then (below_alloc (Below.refl _ _) _) (by simp) hb1) _⟩
  by_cases hl0 : 0 < l.length
  · go_enter Tryz.func72, Tryz.ntmps72
    go_wp2_with (go_at_call 104; refine (blank_calls _ _ _ _ _ _ _ _ _ _ _ _ _ _).mono ?_; rintro e w1 ⟨rfl, hb1⟩; rw [show blankV 0 false A2 l.length c2 b s A5 items.length c5 A6 tail.length c6 = .agg #[.int .i64 0, .bool false, .slice A2 l.length c2, .bool b, .string s, .slice A5 items.length c5, .slice A6 tail.length c6] from rfl]; have hz : w.heap.size < w1.heap.size := (by have h_ := hb1.size; simp at h_; omega))
    go_ret
    exact ⟨retB (by rw [HR.out, HB.out, decide_eq_false (show ¬ l.length = 0 by omega)]; simp), below_alloc (below_then (below_alloc (Below.refl _ _) _) (by simp) hb1) _⟩
  obtain rfl : l = [] := List.eq_nil_of_length_eq_zero (by omega)
  clear hl0
  cases b
  case true =>
    go_enter Tryz.func72, Tryz.ntmps72
    go_wp2_with (go_at_call 104; refine (blank_calls _ _ _ _ _ _ _ _ _ _ _ _ _ _).mono ?_; rintro e w1 ⟨rfl, hb1⟩; rw [show blankV 0 false A2 0 c2 true s A5 items.length c5 A6 tail.length c6 = .agg #[.int .i64 0, .bool false, .slice A2 0 c2, .bool true, .string s, .slice A5 items.length c5, .slice A6 tail.length c6] from rfl]; have hz : w.heap.size < w1.heap.size := (by have h_ := hb1.size; simp at h_; omega))
    go_ret
    exact ⟨retB (by rw [HR.out, HB.out]; simp), below_alloc (below_then (below_alloc (Below.refl _ _) _) (by simp) hb1) _⟩
  by_cases hs : s.toList = []
  case neg =>
    have hs1 : (s.toList.isEmpty) = false := by simpa using hs
    have hs2 : ¬ s.size = 0 := fun h => hs (HS.out.2 h)
    have HS2 := Lib.hid hs2
    clear hs2
    go_enter Tryz.func72, Tryz.ntmps72
    go_wp2_with (go_at_call 104; refine (blank_calls _ _ _ _ _ _ _ _ _ _ _ _ _ _).mono ?_; rintro e w1 ⟨rfl, hb1⟩; rw [show blankV 0 false A2 0 c2 false s A5 items.length c5 A6 tail.length c6 = .agg #[.int .i64 0, .bool false, .slice A2 0 c2, .bool false, .string s, .slice A5 items.length c5, .slice A6 tail.length c6] from rfl]; have hz : w.heap.size < w1.heap.size := (by have h_ := hb1.size; simp at h_; omega))
    go_ret
    exact ⟨retB (by rw [HR.out, HB.out, decide_eq_false HS2.out]; simp), below_alloc (below_then (below_alloc (Below.refl _ _) _) (by simp) hb1) _⟩
  have HS2 := Lib.hid (decide_eq_true (HS.out.1 hs))
  by_cases hsum : 0 < (items.length : Int) + tail.length
  · go_enter Tryz.func72, Tryz.ntmps72
    go_wp2_with (go_at_call 104; refine (blank_calls _ _ _ _ _ _ _ _ _ _ _ _ _ _).mono ?_; rintro e w1 ⟨rfl, hb1⟩; rw [show blankV 0 false A2 0 c2 false s A5 items.length c5 A6 tail.length c6 = .agg #[.int .i64 0, .bool false, .slice A2 0 c2, .bool false, .string s, .slice A5 items.length c5, .slice A6 tail.length c6] from rfl]; have hz : w.heap.size < w1.heap.size := (by have h_ := hb1.size; simp at h_; omega))
    go_ret
    exact ⟨retB (by rw [HR.out, HB.out, decide_eq_false (show ¬ items.length + tail.length = 0 by omega)]; simp), below_alloc (below_then (below_alloc (Below.refl _ _) _) (by simp) hb1) _⟩
  have HU := Lib.hid (decide_eq_true (show items.length + tail.length = 0 by omega))
  go_enter Tryz.func72, Tryz.ntmps72
  go_wp2_with (go_at_call 104; refine (blank_calls _ _ _ _ _ _ _ _ _ _ _ _ _ _).mono ?_; rintro e w1 ⟨rfl, hb1⟩; rw [show blankV 0 false A2 0 c2 false s A5 items.length c5 A6 tail.length c6 = .agg #[.int .i64 0, .bool false, .slice A2 0 c2, .bool false, .string s, .slice A5 items.length c5, .slice A6 tail.length c6] from rfl]; have hz : w.heap.size < w1.heap.size := (by have h_ := hb1.size; simp at h_; omega); have q0 := pw_cell_below hb1 (a := ⟨w.heap.size, 0, none⟩) (v := .int .i64 0) (by go_simp); have q1 := pw_cell_below hb1 (a := ⟨w.heap.size, 1, none⟩) (v := .bool false) (by go_simp); have q2 := pw_cell_below hb1 (a := ⟨w.heap.size, 2, none⟩) (v := .slice A2 0 c2) (by go_simp); have q3 := pw_cell_below hb1 (a := ⟨w.heap.size, 3, none⟩) (v := .bool false) (by go_simp); have q4 := pw_cell_below hb1 (a := ⟨w.heap.size, 4, none⟩) (v := .string s) (by go_simp); have q5 := pw_cell_below hb1 (a := ⟨w.heap.size, 5, none⟩) (v := .slice A5 items.length c5) (by go_simp); have q6 := pw_cell_below hb1 (a := ⟨w.heap.size, 6, none⟩) (v := .slice A6 tail.length c6) (by go_simp))
  go_ret
  exact ⟨retB (by rw [HR.out, HB.out, HS2.out, HU.out]; simp), below_alloc (below_then (below_alloc (Below.refl _ _) _) (by simp) hb1) _⟩
set_option maxRecDepth 100000 in
set_option maxHeartbeats 2000000 in
theorem dgood_k2 (neg : Bool) (l : List Int) (b : Bool) (s : ByteArray) (items tail : List Dt) (A2 : Option Addr) (c2 : Nat) (A5 : Option Addr) (c5 : Nat) (A6 : Option Addr) (c6 : Nat) (w : World) (hm2 : l.length ≤ 9223372036854775807) (hl : items.length + tail.length ≤ 1000000) :
    Calls Tryz.prog 72 #[.agg #[.int .i64 2, .bool neg, .slice A2 l.length c2, .bool b, .string s, .slice A5 items.length c5, .slice A6 tail.length c6]] w fun e w' => e = .returned (.bool (Dt.mk 2 ⟨neg, l⟩ b s items tail).good) ∧ Below w.heap.size w w' := by
  have HR := Lib.hid ((Dt.mk 2 ⟨neg, l⟩ b s items tail).good_eq)
  have HB := Lib.hid (show (Dt.mk 2 ⟨neg, l⟩ b s items tail).blanked = (((2 : Int) == 1 || (!neg && decide (l.length = 0))) && ((2 : Int) == 2 || !b) && ((2 : Int) == 3 || (2 : Int) == 4 || decide (s.size = 0)) && ((2 : Int) == 5 || decide (items.length + tail.length = 0))) from rfl)
  have HS := Lib.hid (str_empty s)
  cases neg
  case true =>
    go_enter Tryz.func72, Tryz.ntmps72
    go_wp2_with (go_at_call 104; refine (blank_calls _ _ _ _ _ _ _ _ _ _ _ _ _ _).mono ?_; rintro e w1 ⟨rfl, hb1⟩; rw [show blankV 2 true A2 l.length c2 b s A5 items.length c5 A6 tail.length c6 = .agg #[.int .i64 2, .bool true, .slice A2 l.length c2, .bool false, .string s, .slice A5 items.length c5, .slice A6 tail.length c6] from rfl]; have hz : w.heap.size < w1.heap.size := (by have h_ := hb1.size; simp at h_; omega))
    go_ret
    exact ⟨retB (by rw [HR.out, HB.out]; simp), below_alloc (below_then (below_alloc (Below.refl _ _) _) (by simp) hb1) _⟩
  by_cases hl0 : 0 < l.length
  · go_enter Tryz.func72, Tryz.ntmps72
    go_wp2_with (go_at_call 104; refine (blank_calls _ _ _ _ _ _ _ _ _ _ _ _ _ _).mono ?_; rintro e w1 ⟨rfl, hb1⟩; rw [show blankV 2 false A2 l.length c2 b s A5 items.length c5 A6 tail.length c6 = .agg #[.int .i64 2, .bool false, .slice A2 l.length c2, .bool false, .string s, .slice A5 items.length c5, .slice A6 tail.length c6] from rfl]; have hz : w.heap.size < w1.heap.size := (by have h_ := hb1.size; simp at h_; omega))
    go_ret
    exact ⟨retB (by rw [HR.out, HB.out, decide_eq_false (show ¬ l.length = 0 by omega)]; simp), below_alloc (below_then (below_alloc (Below.refl _ _) _) (by simp) hb1) _⟩
  obtain rfl : l = [] := List.eq_nil_of_length_eq_zero (by omega)
  clear hl0
  by_cases hs : s.toList = []
  case neg =>
    have hs1 : (s.toList.isEmpty) = false := by simpa using hs
    have hs2 : ¬ s.size = 0 := fun h => hs (HS.out.2 h)
    have HS2 := Lib.hid hs2
    clear hs2
    go_enter Tryz.func72, Tryz.ntmps72
    go_wp2_with (go_at_call 104; refine (blank_calls _ _ _ _ _ _ _ _ _ _ _ _ _ _).mono ?_; rintro e w1 ⟨rfl, hb1⟩; rw [show blankV 2 false A2 0 c2 b s A5 items.length c5 A6 tail.length c6 = .agg #[.int .i64 2, .bool false, .slice A2 0 c2, .bool false, .string s, .slice A5 items.length c5, .slice A6 tail.length c6] from rfl]; have hz : w.heap.size < w1.heap.size := (by have h_ := hb1.size; simp at h_; omega))
    go_ret
    exact ⟨retB (by rw [HR.out, HB.out, decide_eq_false HS2.out]; simp), below_alloc (below_then (below_alloc (Below.refl _ _) _) (by simp) hb1) _⟩
  have HS2 := Lib.hid (decide_eq_true (HS.out.1 hs))
  by_cases hsum : 0 < (items.length : Int) + tail.length
  · go_enter Tryz.func72, Tryz.ntmps72
    go_wp2_with (go_at_call 104; refine (blank_calls _ _ _ _ _ _ _ _ _ _ _ _ _ _).mono ?_; rintro e w1 ⟨rfl, hb1⟩; rw [show blankV 2 false A2 0 c2 b s A5 items.length c5 A6 tail.length c6 = .agg #[.int .i64 2, .bool false, .slice A2 0 c2, .bool false, .string s, .slice A5 items.length c5, .slice A6 tail.length c6] from rfl]; have hz : w.heap.size < w1.heap.size := (by have h_ := hb1.size; simp at h_; omega))
    go_ret
    exact ⟨retB (by rw [HR.out, HB.out, decide_eq_false (show ¬ items.length + tail.length = 0 by omega)]; simp), below_alloc (below_then (below_alloc (Below.refl _ _) _) (by simp) hb1) _⟩
  have HU := Lib.hid (decide_eq_true (show items.length + tail.length = 0 by omega))
  go_enter Tryz.func72, Tryz.ntmps72
  go_wp2_with (go_at_call 104; refine (blank_calls _ _ _ _ _ _ _ _ _ _ _ _ _ _).mono ?_; rintro e w1 ⟨rfl, hb1⟩; rw [show blankV 2 false A2 0 c2 b s A5 items.length c5 A6 tail.length c6 = .agg #[.int .i64 2, .bool false, .slice A2 0 c2, .bool false, .string s, .slice A5 items.length c5, .slice A6 tail.length c6] from rfl]; have hz : w.heap.size < w1.heap.size := (by have h_ := hb1.size; simp at h_; omega); have q0 := pw_cell_below hb1 (a := ⟨w.heap.size, 0, none⟩) (v := .int .i64 2) (by go_simp); have q1 := pw_cell_below hb1 (a := ⟨w.heap.size, 1, none⟩) (v := .bool false) (by go_simp); have q2 := pw_cell_below hb1 (a := ⟨w.heap.size, 2, none⟩) (v := .slice A2 0 c2) (by go_simp); have q3 := pw_cell_below hb1 (a := ⟨w.heap.size, 3, none⟩) (v := .bool b) (by go_simp); have q4 := pw_cell_below hb1 (a := ⟨w.heap.size, 4, none⟩) (v := .string s) (by go_simp); have q5 := pw_cell_below hb1 (a := ⟨w.heap.size, 5, none⟩) (v := .slice A5 items.length c5) (by go_simp); have q6 := pw_cell_below hb1 (a := ⟨w.heap.size, 6, none⟩) (v := .slice A6 tail.length c6) (by go_simp))
  go_ret
  exact ⟨retB (by rw [HR.out, HB.out, HS2.out, HU.out]; simp), below_alloc (below_then (below_alloc (Below.refl _ _) _) (by simp) hb1) _⟩
set_option maxRecDepth 100000 in
set_option maxHeartbeats 2000000 in
theorem dgood_k1 (neg : Bool) (l : List Int) (b : Bool) (s : ByteArray) (items tail : List Dt) (A2 : Option Addr) (c2 : Nat) (A5 : Option Addr) (c5 : Nat) (A6 : Option Addr) (c6 : Nat) (w : World) (hm2 : l.length ≤ 9223372036854775807) (hl : items.length + tail.length ≤ 1000000)
    (HW : Hid (∀ (W : World), Below w.heap.size w W → Calls Tryz.prog 105 #[.agg #[.bool neg, .slice A2 l.length c2]] W fun e w' => e = .returned (.bool (BI.mk neg l).good) ∧ Below W.heap.size W w')) :
    Calls Tryz.prog 72 #[.agg #[.int .i64 1, .bool neg, .slice A2 l.length c2, .bool b, .string s, .slice A5 items.length c5, .slice A6 tail.length c6]] w fun e w' => e = .returned (.bool (Dt.mk 1 ⟨neg, l⟩ b s items tail).good) ∧ Below w.heap.size w w' := by
  have HR := Lib.hid ((Dt.mk 1 ⟨neg, l⟩ b s items tail).good_eq)
  have HB := Lib.hid (show (Dt.mk 1 ⟨neg, l⟩ b s items tail).blanked = (((1 : Int) == 1 || (!neg && decide (l.length = 0))) && ((1 : Int) == 2 || !b) && ((1 : Int) == 3 || (1 : Int) == 4 || decide (s.size = 0)) && ((1 : Int) == 5 || decide (items.length + tail.length = 0))) from rfl)
  have HS := Lib.hid (str_empty s)
  cases b
  case true =>
    go_enter Tryz.func72, Tryz.ntmps72
    go_wp2_with (go_at_call 104; refine (blank_calls _ _ _ _ _ _ _ _ _ _ _ _ _ _).mono ?_; rintro e w1 ⟨rfl, hb1⟩; rw [show blankV 1 neg A2 l.length c2 true s A5 items.length c5 A6 tail.length c6 = .agg #[.int .i64 1, .bool false, .slice none 0 0, .bool true, .string s, .slice A5 items.length c5, .slice A6 tail.length c6] from rfl]; have hz : w.heap.size < w1.heap.size := (by have h_ := hb1.size; simp at h_; omega))
    go_ret
    exact ⟨retB (by rw [HR.out, HB.out]; simp), below_alloc (below_then (below_alloc (Below.refl _ _) _) (by simp) hb1) _⟩
  by_cases hs : s.toList = []
  case neg =>
    have hs1 : (s.toList.isEmpty) = false := by simpa using hs
    have hs2 : ¬ s.size = 0 := fun h => hs (HS.out.2 h)
    have HS2 := Lib.hid hs2
    clear hs2
    go_enter Tryz.func72, Tryz.ntmps72
    go_wp2_with (go_at_call 104; refine (blank_calls _ _ _ _ _ _ _ _ _ _ _ _ _ _).mono ?_; rintro e w1 ⟨rfl, hb1⟩; rw [show blankV 1 neg A2 l.length c2 false s A5 items.length c5 A6 tail.length c6 = .agg #[.int .i64 1, .bool false, .slice none 0 0, .bool false, .string s, .slice A5 items.length c5, .slice A6 tail.length c6] from rfl]; have hz : w.heap.size < w1.heap.size := (by have h_ := hb1.size; simp at h_; omega))
    go_ret
    exact ⟨retB (by rw [HR.out, HB.out, decide_eq_false HS2.out]; simp), below_alloc (below_then (below_alloc (Below.refl _ _) _) (by simp) hb1) _⟩
  have HS2 := Lib.hid (decide_eq_true (HS.out.1 hs))
  by_cases hsum : 0 < (items.length : Int) + tail.length
  · go_enter Tryz.func72, Tryz.ntmps72
    go_wp2_with (go_at_call 104; refine (blank_calls _ _ _ _ _ _ _ _ _ _ _ _ _ _).mono ?_; rintro e w1 ⟨rfl, hb1⟩; rw [show blankV 1 neg A2 l.length c2 false s A5 items.length c5 A6 tail.length c6 = .agg #[.int .i64 1, .bool false, .slice none 0 0, .bool false, .string s, .slice A5 items.length c5, .slice A6 tail.length c6] from rfl]; have hz : w.heap.size < w1.heap.size := (by have h_ := hb1.size; simp at h_; omega))
    go_ret
    exact ⟨retB (by rw [HR.out, HB.out, decide_eq_false (show ¬ items.length + tail.length = 0 by omega)]; simp), below_alloc (below_then (below_alloc (Below.refl _ _) _) (by simp) hb1) _⟩
  have HU := Lib.hid (decide_eq_true (show items.length + tail.length = 0 by omega))
  cases hg : (BI.mk neg l).good
  all_goals
    go_enter Tryz.func72, Tryz.ntmps72
    go_wp2_with (first | (go_at_call 104; refine (blank_calls _ _ _ _ _ _ _ _ _ _ _ _ _ _).mono ?_; rintro e w1 ⟨rfl, hb1⟩; rw [show blankV 1 neg A2 l.length c2 false s A5 items.length c5 A6 tail.length c6 = .agg #[.int .i64 1, .bool false, .slice none 0 0, .bool false, .string s, .slice A5 items.length c5, .slice A6 tail.length c6] from rfl]; have hz : w.heap.size < w1.heap.size := (by have h_ := hb1.size; simp at h_; omega); have q0 := pw_cell_below hb1 (a := ⟨w.heap.size, 0, none⟩) (v := .int .i64 1) (by go_simp); have q1 := pw_cell_below hb1 (a := ⟨w.heap.size, 1, none⟩) (v := .bool neg) (by go_simp); have q2 := pw_cell_below hb1 (a := ⟨w.heap.size, 2, none⟩) (v := .slice A2 l.length c2) (by go_simp); have q3 := pw_cell_below hb1 (a := ⟨w.heap.size, 3, none⟩) (v := .bool false) (by go_simp); have q4 := pw_cell_below hb1 (a := ⟨w.heap.size, 4, none⟩) (v := .string s) (by go_simp); have q5 := pw_cell_below hb1 (a := ⟨w.heap.size, 5, none⟩) (v := .slice A5 items.length c5) (by go_simp); have q6 := pw_cell_below hb1 (a := ⟨w.heap.size, 6, none⟩) (v := .slice A6 tail.length c6) (by go_simp)) | (go_at_call 105; refine (HW.out _ (below_alloc (below_then (below_alloc (Below.refl _ _) _) (by simp) hb1) _)).mono ?_; rintro e w2 ⟨rfl, hb2⟩; rw [hg]; have hz2 : w.heap.size < w2.heap.size := (by have h_ := hb2.size; simp at h_; omega); have r2 := pw_cell_below hb2 (a := ⟨w.heap.size, 2, none⟩) (v := .slice A2 l.length c2) (by go_simp)))
    go_ret
    exact ⟨retB (by rw [HR.out, HB.out, HS2.out, HU.out]; first | (simp [hg]; done) | (simp [hg]; omega)), below_then (below_alloc (below_then (below_alloc (Below.refl _ _) _) (by simp) hb1) _) (by simp; omega) hb2⟩
end Go.Proofs.YtlcofdgaidlldaaGreatDoor
namespace Go.Proofs.YtlcofdgaidlldaaGreatDoor
open Go.RowKit Go.Proofs.YtlcofdgaidlldaaGreatDoorW.PrintWords
set_option linter.unusedVariables false
set_option linter.unusedSimpArgs false
set_option maxRecDepth 100000 in
set_option maxHeartbeats 2000000 in
theorem dgood_k3 (neg : Bool) (l : List Int) (b : Bool) (s : ByteArray) (items tail : List Dt) (A2 : Option Addr) (c2 : Nat) (A5 : Option Addr) (c5 : Nat) (A6 : Option Addr) (c6 : Nat) (w : World) (hm2 : l.length ≤ 9223372036854775807) (hl : items.length + tail.length ≤ 1000000) :
    Calls Tryz.prog 72 #[.agg #[.int .i64 3, .bool neg, .slice A2 l.length c2, .bool b, .string s, .slice A5 items.length c5, .slice A6 tail.length c6]] w fun e w' => e = .returned (.bool (Dt.mk 3 ⟨neg, l⟩ b s items tail).good) ∧ Below w.heap.size w w' := by
  have HR := Lib.hid ((Dt.mk 3 ⟨neg, l⟩ b s items tail).good_eq)
  have HB := Lib.hid (show (Dt.mk 3 ⟨neg, l⟩ b s items tail).blanked = (((3 : Int) == 1 || (!neg && decide (l.length = 0))) && ((3 : Int) == 2 || !b) && ((3 : Int) == 3 || (3 : Int) == 4 || decide (s.size = 0)) && ((3 : Int) == 5 || decide (items.length + tail.length = 0))) from rfl)
  have HS := Lib.hid (str_empty s)
  cases neg
  case true =>
    go_enter Tryz.func72, Tryz.ntmps72
    go_wp2_with (go_at_call 104; refine (blank_calls _ _ _ _ _ _ _ _ _ _ _ _ _ _).mono ?_; rintro e w1 ⟨rfl, hb1⟩; rw [show blankV 3 true A2 l.length c2 b s A5 items.length c5 A6 tail.length c6 = .agg #[.int .i64 3, .bool true, .slice A2 l.length c2, .bool b, .string ⟨#[]⟩, .slice A5 items.length c5, .slice A6 tail.length c6] from rfl]; have hz : w.heap.size < w1.heap.size := (by have h_ := hb1.size; simp at h_; omega))
    go_ret
    exact ⟨retB (by rw [HR.out, HB.out]; simp), below_alloc (below_then (below_alloc (Below.refl _ _) _) (by simp) hb1) _⟩
  by_cases hl0 : 0 < l.length
  · go_enter Tryz.func72, Tryz.ntmps72
    go_wp2_with (go_at_call 104; refine (blank_calls _ _ _ _ _ _ _ _ _ _ _ _ _ _).mono ?_; rintro e w1 ⟨rfl, hb1⟩; rw [show blankV 3 false A2 l.length c2 b s A5 items.length c5 A6 tail.length c6 = .agg #[.int .i64 3, .bool false, .slice A2 l.length c2, .bool b, .string ⟨#[]⟩, .slice A5 items.length c5, .slice A6 tail.length c6] from rfl]; have hz : w.heap.size < w1.heap.size := (by have h_ := hb1.size; simp at h_; omega))
    go_ret
    exact ⟨retB (by rw [HR.out, HB.out, decide_eq_false (show ¬ l.length = 0 by omega)]; simp), below_alloc (below_then (below_alloc (Below.refl _ _) _) (by simp) hb1) _⟩
  obtain rfl : l = [] := List.eq_nil_of_length_eq_zero (by omega)
  clear hl0
  cases b
  case true =>
    go_enter Tryz.func72, Tryz.ntmps72
    go_wp2_with (go_at_call 104; refine (blank_calls _ _ _ _ _ _ _ _ _ _ _ _ _ _).mono ?_; rintro e w1 ⟨rfl, hb1⟩; rw [show blankV 3 false A2 0 c2 true s A5 items.length c5 A6 tail.length c6 = .agg #[.int .i64 3, .bool false, .slice A2 0 c2, .bool true, .string ⟨#[]⟩, .slice A5 items.length c5, .slice A6 tail.length c6] from rfl]; have hz : w.heap.size < w1.heap.size := (by have h_ := hb1.size; simp at h_; omega))
    go_ret
    exact ⟨retB (by rw [HR.out, HB.out]; simp), below_alloc (below_then (below_alloc (Below.refl _ _) _) (by simp) hb1) _⟩
  by_cases hsum : 0 < (items.length : Int) + tail.length
  · go_enter Tryz.func72, Tryz.ntmps72
    go_wp2_with (go_at_call 104; refine (blank_calls _ _ _ _ _ _ _ _ _ _ _ _ _ _).mono ?_; rintro e w1 ⟨rfl, hb1⟩; rw [show blankV 3 false A2 0 c2 false s A5 items.length c5 A6 tail.length c6 = .agg #[.int .i64 3, .bool false, .slice A2 0 c2, .bool false, .string ⟨#[]⟩, .slice A5 items.length c5, .slice A6 tail.length c6] from rfl]; have hz : w.heap.size < w1.heap.size := (by have h_ := hb1.size; simp at h_; omega))
    go_ret
    exact ⟨retB (by rw [HR.out, HB.out, decide_eq_false (show ¬ items.length + tail.length = 0 by omega)]; simp), below_alloc (below_then (below_alloc (Below.refl _ _) _) (by simp) hb1) _⟩
  have HU := Lib.hid (decide_eq_true (show items.length + tail.length = 0 by omega))
  by_cases hs : s.toList = []
  case pos =>
    have HS2 := Lib.hid (HS.out.1 hs)
    go_enter Tryz.func72, Tryz.ntmps72
    go_wp2_with (go_at_call 104; refine (blank_calls _ _ _ _ _ _ _ _ _ _ _ _ _ _).mono ?_; rintro e w1 ⟨rfl, hb1⟩; rw [show blankV 3 false A2 0 c2 false s A5 items.length c5 A6 tail.length c6 = .agg #[.int .i64 3, .bool false, .slice A2 0 c2, .bool false, .string ⟨#[]⟩, .slice A5 items.length c5, .slice A6 tail.length c6] from rfl]; have hz : w.heap.size < w1.heap.size := (by have h_ := hb1.size; simp at h_; omega); have q0 := pw_cell_below hb1 (a := ⟨w.heap.size, 0, none⟩) (v := .int .i64 3) (by go_simp); have q1 := pw_cell_below hb1 (a := ⟨w.heap.size, 1, none⟩) (v := .bool false) (by go_simp); have q2 := pw_cell_below hb1 (a := ⟨w.heap.size, 2, none⟩) (v := .slice A2 0 c2) (by go_simp); have q3 := pw_cell_below hb1 (a := ⟨w.heap.size, 3, none⟩) (v := .bool false) (by go_simp); have q4 := pw_cell_below hb1 (a := ⟨w.heap.size, 4, none⟩) (v := .string s) (by go_simp); have q5 := pw_cell_below hb1 (a := ⟨w.heap.size, 5, none⟩) (v := .slice A5 items.length c5) (by go_simp); have q6 := pw_cell_below hb1 (a := ⟨w.heap.size, 6, none⟩) (v := .slice A6 tail.length c6) (by go_simp))
    go_ret
    exact ⟨retB (by rw [HR.out]; simp [HS2.out]), below_alloc (below_then (below_alloc (Below.refl _ _) _) (by simp) hb1) _⟩
  have hs1 : (s.toList.isEmpty) = false := by simpa using hs
  have HS2 := Lib.hid (show ¬ s.size = 0 from fun h => hs (HS.out.2 h))
  go_enter Tryz.func72, Tryz.ntmps72
  go_wp2_with (go_at_call 104; refine (blank_calls _ _ _ _ _ _ _ _ _ _ _ _ _ _).mono ?_; rintro e w1 ⟨rfl, hb1⟩; rw [show blankV 3 false A2 0 c2 false s A5 items.length c5 A6 tail.length c6 = .agg #[.int .i64 3, .bool false, .slice A2 0 c2, .bool false, .string ⟨#[]⟩, .slice A5 items.length c5, .slice A6 tail.length c6] from rfl]; have hz : w.heap.size < w1.heap.size := (by have h_ := hb1.size; simp at h_; omega); have q0 := pw_cell_below hb1 (a := ⟨w.heap.size, 0, none⟩) (v := .int .i64 3) (by go_simp); have q1 := pw_cell_below hb1 (a := ⟨w.heap.size, 1, none⟩) (v := .bool false) (by go_simp); have q2 := pw_cell_below hb1 (a := ⟨w.heap.size, 2, none⟩) (v := .slice A2 0 c2) (by go_simp); have q3 := pw_cell_below hb1 (a := ⟨w.heap.size, 3, none⟩) (v := .bool false) (by go_simp); have q4 := pw_cell_below hb1 (a := ⟨w.heap.size, 4, none⟩) (v := .string s) (by go_simp); have q5 := pw_cell_below hb1 (a := ⟨w.heap.size, 5, none⟩) (v := .slice A5 items.length c5) (by go_simp); have q6 := pw_cell_below hb1 (a := ⟨w.heap.size, 6, none⟩) (v := .slice A6 tail.length c6) (by go_simp))
  go_ret
  exact ⟨retB (by rw [HR.out, HB.out, HU.out, show decide (1 ≤ s.size) = true from decide_eq_true (by have := HS2.out; omega)]; simp; omega), below_alloc (below_then (below_alloc (Below.refl _ _) _) (by simp) hb1) _⟩
set_option maxRecDepth 100000 in
set_option maxHeartbeats 2000000 in
theorem dgood_k4 (neg : Bool) (l : List Int) (b : Bool) (s : ByteArray) (items tail : List Dt) (A2 : Option Addr) (c2 : Nat) (A5 : Option Addr) (c5 : Nat) (A6 : Option Addr) (c6 : Nat) (w : World) (hm2 : l.length ≤ 9223372036854775807) (hl : items.length + tail.length ≤ 1000000) :
    Calls Tryz.prog 72 #[.agg #[.int .i64 4, .bool neg, .slice A2 l.length c2, .bool b, .string s, .slice A5 items.length c5, .slice A6 tail.length c6]] w fun e w' => e = .returned (.bool (Dt.mk 4 ⟨neg, l⟩ b s items tail).good) ∧ Below w.heap.size w w' := by
  have HR := Lib.hid ((Dt.mk 4 ⟨neg, l⟩ b s items tail).good_eq)
  have HB := Lib.hid (show (Dt.mk 4 ⟨neg, l⟩ b s items tail).blanked = (((4 : Int) == 1 || (!neg && decide (l.length = 0))) && ((4 : Int) == 2 || !b) && ((4 : Int) == 3 || (4 : Int) == 4 || decide (s.size = 0)) && ((4 : Int) == 5 || decide (items.length + tail.length = 0))) from rfl)
  have HS := Lib.hid (str_empty s)
  cases neg
  case true =>
    go_enter Tryz.func72, Tryz.ntmps72
    go_wp2_with (go_at_call 104; refine (blank_calls _ _ _ _ _ _ _ _ _ _ _ _ _ _).mono ?_; rintro e w1 ⟨rfl, hb1⟩; rw [show blankV 4 true A2 l.length c2 b s A5 items.length c5 A6 tail.length c6 = .agg #[.int .i64 4, .bool true, .slice A2 l.length c2, .bool b, .string ⟨#[]⟩, .slice A5 items.length c5, .slice A6 tail.length c6] from rfl]; have hz : w.heap.size < w1.heap.size := (by have h_ := hb1.size; simp at h_; omega))
    go_ret
    exact ⟨retB (by rw [HR.out, HB.out]; simp), below_alloc (below_then (below_alloc (Below.refl _ _) _) (by simp) hb1) _⟩
  by_cases hl0 : 0 < l.length
  · go_enter Tryz.func72, Tryz.ntmps72
    go_wp2_with (go_at_call 104; refine (blank_calls _ _ _ _ _ _ _ _ _ _ _ _ _ _).mono ?_; rintro e w1 ⟨rfl, hb1⟩; rw [show blankV 4 false A2 l.length c2 b s A5 items.length c5 A6 tail.length c6 = .agg #[.int .i64 4, .bool false, .slice A2 l.length c2, .bool b, .string ⟨#[]⟩, .slice A5 items.length c5, .slice A6 tail.length c6] from rfl]; have hz : w.heap.size < w1.heap.size := (by have h_ := hb1.size; simp at h_; omega))
    go_ret
    exact ⟨retB (by rw [HR.out, HB.out, decide_eq_false (show ¬ l.length = 0 by omega)]; simp), below_alloc (below_then (below_alloc (Below.refl _ _) _) (by simp) hb1) _⟩
  obtain rfl : l = [] := List.eq_nil_of_length_eq_zero (by omega)
  clear hl0
  cases b
  case true =>
    go_enter Tryz.func72, Tryz.ntmps72
    go_wp2_with (go_at_call 104; refine (blank_calls _ _ _ _ _ _ _ _ _ _ _ _ _ _).mono ?_; rintro e w1 ⟨rfl, hb1⟩; rw [show blankV 4 false A2 0 c2 true s A5 items.length c5 A6 tail.length c6 = .agg #[.int .i64 4, .bool false, .slice A2 0 c2, .bool true, .string ⟨#[]⟩, .slice A5 items.length c5, .slice A6 tail.length c6] from rfl]; have hz : w.heap.size < w1.heap.size := (by have h_ := hb1.size; simp at h_; omega))
    go_ret
    exact ⟨retB (by rw [HR.out, HB.out]; simp), below_alloc (below_then (below_alloc (Below.refl _ _) _) (by simp) hb1) _⟩
  by_cases hsum : 0 < (items.length : Int) + tail.length
  · go_enter Tryz.func72, Tryz.ntmps72
    go_wp2_with (go_at_call 104; refine (blank_calls _ _ _ _ _ _ _ _ _ _ _ _ _ _).mono ?_; rintro e w1 ⟨rfl, hb1⟩; rw [show blankV 4 false A2 0 c2 false s A5 items.length c5 A6 tail.length c6 = .agg #[.int .i64 4, .bool false, .slice A2 0 c2, .bool false, .string ⟨#[]⟩, .slice A5 items.length c5, .slice A6 tail.length c6] from rfl]; have hz : w.heap.size < w1.heap.size := (by have h_ := hb1.size; simp at h_; omega))
    go_ret
    exact ⟨retB (by rw [HR.out, HB.out, decide_eq_false (show ¬ items.length + tail.length = 0 by omega)]; simp), below_alloc (below_then (below_alloc (Below.refl _ _) _) (by simp) hb1) _⟩
  have HU := Lib.hid (decide_eq_true (show items.length + tail.length = 0 by omega))
  go_enter Tryz.func72, Tryz.ntmps72
  go_wp2_with (go_at_call 104; refine (blank_calls _ _ _ _ _ _ _ _ _ _ _ _ _ _).mono ?_; rintro e w1 ⟨rfl, hb1⟩; rw [show blankV 4 false A2 0 c2 false s A5 items.length c5 A6 tail.length c6 = .agg #[.int .i64 4, .bool false, .slice A2 0 c2, .bool false, .string ⟨#[]⟩, .slice A5 items.length c5, .slice A6 tail.length c6] from rfl]; have hz : w.heap.size < w1.heap.size := (by have h_ := hb1.size; simp at h_; omega); have q0 := pw_cell_below hb1 (a := ⟨w.heap.size, 0, none⟩) (v := .int .i64 4) (by go_simp); have q1 := pw_cell_below hb1 (a := ⟨w.heap.size, 1, none⟩) (v := .bool false) (by go_simp); have q2 := pw_cell_below hb1 (a := ⟨w.heap.size, 2, none⟩) (v := .slice A2 0 c2) (by go_simp); have q3 := pw_cell_below hb1 (a := ⟨w.heap.size, 3, none⟩) (v := .bool false) (by go_simp); have q4 := pw_cell_below hb1 (a := ⟨w.heap.size, 4, none⟩) (v := .string s) (by go_simp); have q5 := pw_cell_below hb1 (a := ⟨w.heap.size, 5, none⟩) (v := .slice A5 items.length c5) (by go_simp); have q6 := pw_cell_below hb1 (a := ⟨w.heap.size, 6, none⟩) (v := .slice A6 tail.length c6) (by go_simp))
  go_ret
  exact ⟨retB (by rw [HR.out, HB.out, HU.out]; simp; omega), below_alloc (below_then (below_alloc (Below.refl _ _) _) (by simp) hb1) _⟩
set_option maxRecDepth 100000 in
set_option maxHeartbeats 2000000 in
theorem dgood_kx (kind : Int) (e0 : (kind == 0) = false) (e1 : (kind == 1) = false) (e2 : (kind == 2) = false) (e3 : (kind == 3) = false) (e4 : (kind == 4) = false) (e5 : (kind == 5) = false) (neg : Bool) (l : List Int) (b : Bool) (s : ByteArray) (items tail : List Dt) (A2 : Option Addr) (c2 : Nat) (A5 : Option Addr) (c5 : Nat) (A6 : Option Addr) (c6 : Nat) (w : World) (hm2 : l.length ≤ 9223372036854775807) (hl : items.length + tail.length ≤ 1000000) :
    Calls Tryz.prog 72 #[.agg #[.int .i64 kind, .bool neg, .slice A2 l.length c2, .bool b, .string s, .slice A5 items.length c5, .slice A6 tail.length c6]] w fun e w' => e = .returned (.bool (Dt.mk kind ⟨neg, l⟩ b s items tail).good) ∧ Below w.heap.size w w' := by
  have HR := Lib.hid ((Dt.mk kind ⟨neg, l⟩ b s items tail).good_eq)
  have HB := Lib.hid (show (Dt.mk kind ⟨neg, l⟩ b s items tail).blanked = (((kind : Int) == 1 || (!neg && decide (l.length = 0))) && ((kind : Int) == 2 || !b) && ((kind : Int) == 3 || (kind : Int) == 4 || decide (s.size = 0)) && ((kind : Int) == 5 || decide (items.length + tail.length = 0))) from rfl)
  have HS := Lib.hid (str_empty s)
  cases neg
  case true =>
    go_enter Tryz.func72, Tryz.ntmps72
    go_wp2_with (go_at_call 104; refine (blank_calls _ _ _ _ _ _ _ _ _ _ _ _ _ _).mono ?_; rintro e w1 ⟨rfl, hb1⟩; rw [show blankV kind true A2 l.length c2 b s A5 items.length c5 A6 tail.length c6 = .agg #[.int .i64 kind, .bool true, .slice A2 l.length c2, .bool b, .string s, .slice A5 items.length c5, .slice A6 tail.length c6] from (by unfold blankV; simp [e1, e2, e3, e4, e5])]; have hz : w.heap.size < w1.heap.size := (by have h_ := hb1.size; simp at h_; omega))
    go_ret
    exact ⟨retB (by rw [HR.out, HB.out]; simp [e1, e2, e3, e4, e5]), below_alloc (below_then (below_alloc (Below.refl _ _) _) (by simp) hb1) _⟩
  by_cases hl0 : 0 < l.length
  · go_enter Tryz.func72, Tryz.ntmps72
    go_wp2_with (go_at_call 104; refine (blank_calls _ _ _ _ _ _ _ _ _ _ _ _ _ _).mono ?_; rintro e w1 ⟨rfl, hb1⟩; rw [show blankV kind false A2 l.length c2 b s A5 items.length c5 A6 tail.length c6 = .agg #[.int .i64 kind, .bool false, .slice A2 l.length c2, .bool b, .string s, .slice A5 items.length c5, .slice A6 tail.length c6] from (by unfold blankV; simp [e1, e2, e3, e4, e5])]; have hz : w.heap.size < w1.heap.size := (by have h_ := hb1.size; simp at h_; omega))
    go_ret
    exact ⟨retB (by rw [HR.out, HB.out, decide_eq_false (show ¬ l.length = 0 by omega)]; simp [e1, e2, e3, e4, e5]), below_alloc (below_then (below_alloc (Below.refl _ _) _) (by simp) hb1) _⟩
  obtain rfl : l = [] := List.eq_nil_of_length_eq_zero (by omega)
  clear hl0
  cases b
  case true =>
    go_enter Tryz.func72, Tryz.ntmps72
    go_wp2_with (go_at_call 104; refine (blank_calls _ _ _ _ _ _ _ _ _ _ _ _ _ _).mono ?_; rintro e w1 ⟨rfl, hb1⟩; rw [show blankV kind false A2 0 c2 true s A5 items.length c5 A6 tail.length c6 = .agg #[.int .i64 kind, .bool false, .slice A2 0 c2, .bool true, .string s, .slice A5 items.length c5, .slice A6 tail.length c6] from (by unfold blankV; simp [e1, e2, e3, e4, e5])]; have hz : w.heap.size < w1.heap.size := (by have h_ := hb1.size; simp at h_; omega))
    go_ret
    exact ⟨retB (by rw [HR.out, HB.out]; simp [e1, e2, e3, e4, e5]), below_alloc (below_then (below_alloc (Below.refl _ _) _) (by simp) hb1) _⟩
  by_cases hs : s.toList = []
  case neg =>
    have hs1 : (s.toList.isEmpty) = false := by simpa using hs
    have hs2 : ¬ s.size = 0 := fun h => hs (HS.out.2 h)
    have HS2 := Lib.hid hs2
    clear hs2
    go_enter Tryz.func72, Tryz.ntmps72
    go_wp2_with (go_at_call 104; refine (blank_calls _ _ _ _ _ _ _ _ _ _ _ _ _ _).mono ?_; rintro e w1 ⟨rfl, hb1⟩; rw [show blankV kind false A2 0 c2 false s A5 items.length c5 A6 tail.length c6 = .agg #[.int .i64 kind, .bool false, .slice A2 0 c2, .bool false, .string s, .slice A5 items.length c5, .slice A6 tail.length c6] from (by unfold blankV; simp [e1, e2, e3, e4, e5])]; have hz : w.heap.size < w1.heap.size := (by have h_ := hb1.size; simp at h_; omega))
    go_ret
    exact ⟨retB (by rw [HR.out, HB.out, decide_eq_false HS2.out]; simp [e1, e2, e3, e4, e5]), below_alloc (below_then (below_alloc (Below.refl _ _) _) (by simp) hb1) _⟩
  have HS2 := Lib.hid (decide_eq_true (HS.out.1 hs))
  by_cases hsum : 0 < (items.length : Int) + tail.length
  · go_enter Tryz.func72, Tryz.ntmps72
    go_wp2_with (go_at_call 104; refine (blank_calls _ _ _ _ _ _ _ _ _ _ _ _ _ _).mono ?_; rintro e w1 ⟨rfl, hb1⟩; rw [show blankV kind false A2 0 c2 false s A5 items.length c5 A6 tail.length c6 = .agg #[.int .i64 kind, .bool false, .slice A2 0 c2, .bool false, .string s, .slice A5 items.length c5, .slice A6 tail.length c6] from (by unfold blankV; simp [e1, e2, e3, e4, e5])]; have hz : w.heap.size < w1.heap.size := (by have h_ := hb1.size; simp at h_; omega))
    go_ret
    exact ⟨retB (by rw [HR.out, HB.out, decide_eq_false (show ¬ items.length + tail.length = 0 by omega)]; simp [e1, e2, e3, e4, e5]), below_alloc (below_then (below_alloc (Below.refl _ _) _) (by simp) hb1) _⟩
  have HU := Lib.hid (decide_eq_true (show items.length + tail.length = 0 by omega))
  go_enter Tryz.func72, Tryz.ntmps72
  go_wp2_with (go_at_call 104; refine (blank_calls _ _ _ _ _ _ _ _ _ _ _ _ _ _).mono ?_; rintro e w1 ⟨rfl, hb1⟩; rw [show blankV kind false A2 0 c2 false s A5 items.length c5 A6 tail.length c6 = .agg #[.int .i64 kind, .bool false, .slice A2 0 c2, .bool false, .string s, .slice A5 items.length c5, .slice A6 tail.length c6] from (by unfold blankV; simp [e1, e2, e3, e4, e5])]; have hz : w.heap.size < w1.heap.size := (by have h_ := hb1.size; simp at h_; omega); have q0 := pw_cell_below hb1 (a := ⟨w.heap.size, 0, none⟩) (v := .int .i64 kind) (by go_simp); have q1 := pw_cell_below hb1 (a := ⟨w.heap.size, 1, none⟩) (v := .bool false) (by go_simp); have q2 := pw_cell_below hb1 (a := ⟨w.heap.size, 2, none⟩) (v := .slice A2 0 c2) (by go_simp); have q3 := pw_cell_below hb1 (a := ⟨w.heap.size, 3, none⟩) (v := .bool false) (by go_simp); have q4 := pw_cell_below hb1 (a := ⟨w.heap.size, 4, none⟩) (v := .string s) (by go_simp); have q5 := pw_cell_below hb1 (a := ⟨w.heap.size, 5, none⟩) (v := .slice A5 items.length c5) (by go_simp); have q6 := pw_cell_below hb1 (a := ⟨w.heap.size, 6, none⟩) (v := .slice A6 tail.length c6) (by go_simp))
  go_ret
  have n0 := ne_of_beq_false e0
  have n1 := ne_of_beq_false e1
  have n2 := ne_of_beq_false e2
  have n3 := ne_of_beq_false e3
  have n4 := ne_of_beq_false e4
  have n5 := ne_of_beq_false e5
  exact ⟨retB (by rw [HR.out]; simp [n0, n1, n2, n3, n4, n5]), below_alloc (below_then (below_alloc (Below.refl _ _) _) (by simp) hb1) _⟩
end Go.Proofs.YtlcofdgaidlldaaGreatDoor
