/- Contracts: datum.good, at single kinds. Contracts: datum.good, Good. Contracts: core.kids, plain and what they lean on; core.binds; core.few. -/
import Derived.Test.YtlcofdgaidlldaaGreatDoorZb
import Derived.Test.YtlcofdgaidlldaaGreatDoorZd
import Derived.Test.YtlcofdgaidlldaaGreatDoorZe
namespace Go.Proofs.YtlcofdgaidlldaaGreatDoor
open Go.RowKit Go.Proofs.YtlcofdgaidlldaaGreatDoorW.PrintWords
set_option linter.unusedVariables false
set_option linter.unusedSimpArgs false
set_option maxRecDepth 100000 in
set_option maxHeartbeats 2000000 in
theorem dgood_k5 (neg : Bool) (l : List Int) (b : Bool) (s : ByteArray) (items tail : List Dt) (A2 : Option Addr) (c2 : Nat) (A5 : Option Addr) (c5 : Nat) (A6 : Option Addr) (c6 : Nat) (w : World) (hm2 : l.length ≤ 9223372036854775807) (hl : items.length + tail.length ≤ 1000000)
    (HP : Hid (∀ (W : World), Below w.heap.size w W → Calls Tryz.prog 107 #[.agg #[.int .i64 5, .bool neg, .slice A2 l.length c2, .bool b, .string s, .slice A5 items.length c5, .slice A6 tail.length c6]] W fun e w' => ∃ V n cv, e = .returned (.slice V n cv) ∧ n = (items ++ tail).length ∧ kD.C w' V n (items ++ tail) ∧ Below W.heap.size W w'))
    (HF : Hid (∀ (W : World) (V : Option Addr) (n cv : Nat), Below w.heap.size w W → n = (items ++ tail).length → kD.C W V n (items ++ tail) → Calls Tryz.prog 106 #[.slice V n cv, .func (.func 108) #[] #[]] W fun e w' => e = .returned (.bool ((items ++ tail).any fun k => !k.good)) ∧ Below W.heap.size W w'))
    (g6 : kD.C w A6 tail.length tail) :
    Calls Tryz.prog 72 #[.agg #[.int .i64 5, .bool neg, .slice A2 l.length c2, .bool b, .string s, .slice A5 items.length c5, .slice A6 tail.length c6]] w fun e w' => e = .returned (.bool (Dt.mk 5 ⟨neg, l⟩ b s items tail).good) ∧ Below w.heap.size w w' := by
  have HR := Lib.hid ((Dt.mk 5 ⟨neg, l⟩ b s items tail).good_eq)
  have HB := Lib.hid (show (Dt.mk 5 ⟨neg, l⟩ b s items tail).blanked = (((5 : Int) == 1 || (!neg && decide (l.length = 0))) && ((5 : Int) == 2 || !b) && ((5 : Int) == 3 || (5 : Int) == 4 || decide (s.size = 0)) && ((5 : Int) == 5 || decide (items.length + tail.length = 0))) from rfl)
  have HS := Lib.hid (str_empty s)
  have HT := Lib.hid (show (Dt.mk 5 ⟨neg, l⟩ b s items tail).tailBad = (decide (1 < tail.length) || (decide (tail.length = 1) && (decide (items.length = 0) || (rdD tail 0).kind == 5))) from rfl)
  have G6 := Lib.hid g6
  clear g6
  cases neg
  case true =>
    go_enter Tryz.func72, Tryz.ntmps72
    go_wp2_with (go_at_call 104; refine (blank_calls _ _ _ _ _ _ _ _ _ _ _ _ _ _).mono ?_; rintro e w1 ⟨rfl, hb1⟩; rw [show blankV 5 true A2 l.length c2 b s A5 items.length c5 A6 tail.length c6 = .agg #[.int .i64 5, .bool true, .slice A2 l.length c2, .bool b, .string s, .slice none 0 0, .slice none 0 0] from rfl]; have hz : w.heap.size < w1.heap.size := (by have h_ := hb1.size; simp at h_; omega))
    go_ret
    exact ⟨retB (by rw [HR.out, HB.out]; simp), below_alloc (below_then (below_alloc (Below.refl _ _) _) (by simp) hb1) _⟩
  by_cases hl0 : 0 < l.length
  · go_enter Tryz.func72, Tryz.ntmps72
    go_wp2_with (go_at_call 104; refine (blank_calls _ _ _ _ _ _ _ _ _ _ _ _ _ _).mono ?_; rintro e w1 ⟨rfl, hb1⟩; rw [show blankV 5 false A2 l.length c2 b s A5 items.length c5 A6 tail.length c6 = .agg #[.int .i64 5, .bool false, .slice A2 l.length c2, .bool b, .string s, .slice none 0 0, .slice none 0 0] from rfl]; have hz : w.heap.size < w1.heap.size := (by have h_ := hb1.size; simp at h_; omega))
    go_ret
    exact ⟨retB (by rw [HR.out, HB.out, decide_eq_false (show ¬ l.length = 0 by omega)]; simp), below_alloc (below_then (below_alloc (Below.refl _ _) _) (by simp) hb1) _⟩
  obtain rfl : l = [] := List.eq_nil_of_length_eq_zero (by omega)
  clear hl0
  cases b
  case true =>
    go_enter Tryz.func72, Tryz.ntmps72
    go_wp2_with (go_at_call 104; refine (blank_calls _ _ _ _ _ _ _ _ _ _ _ _ _ _).mono ?_; rintro e w1 ⟨rfl, hb1⟩; rw [show blankV 5 false A2 0 c2 true s A5 items.length c5 A6 tail.length c6 = .agg #[.int .i64 5, .bool false, .slice A2 0 c2, .bool true, .string s, .slice none 0 0, .slice none 0 0] from rfl]; have hz : w.heap.size < w1.heap.size := (by have h_ := hb1.size; simp at h_; omega))
    go_ret
    exact ⟨retB (by rw [HR.out, HB.out]; simp), below_alloc (below_then (below_alloc (Below.refl _ _) _) (by simp) hb1) _⟩
  by_cases hs : s.toList = []
  case neg =>
    have hs1 : (s.toList.isEmpty) = false := by simpa using hs
    have hs2 : ¬ s.size = 0 := fun h => hs (HS.out.2 h)
    have HS2 := Lib.hid hs2
    clear hs2
    go_enter Tryz.func72, Tryz.ntmps72
    go_wp2_with (go_at_call 104; refine (blank_calls _ _ _ _ _ _ _ _ _ _ _ _ _ _).mono ?_; rintro e w1 ⟨rfl, hb1⟩; rw [show blankV 5 false A2 0 c2 false s A5 items.length c5 A6 tail.length c6 = .agg #[.int .i64 5, .bool false, .slice A2 0 c2, .bool false, .string s, .slice none 0 0, .slice none 0 0] from rfl]; have hz : w.heap.size < w1.heap.size := (by have h_ := hb1.size; simp at h_; omega))
    go_ret
    exact ⟨retB (by rw [HR.out, HB.out, decide_eq_false HS2.out]; simp), below_alloc (below_then (below_alloc (Below.refl _ _) _) (by simp) hb1) _⟩
  have HS2 := Lib.hid (decide_eq_true (HS.out.1 hs))
  by_cases t1 : 1 < tail.length
  · have T1 := Lib.hid (decide_eq_true t1)
    go_enter Tryz.func72, Tryz.ntmps72
    go_wp2_with (go_at_call 104; refine (blank_calls _ _ _ _ _ _ _ _ _ _ _ _ _ _).mono ?_; rintro e w1 ⟨rfl, hb1⟩; rw [show blankV 5 false A2 0 c2 false s A5 items.length c5 A6 tail.length c6 = .agg #[.int .i64 5, .bool false, .slice A2 0 c2, .bool false, .string s, .slice none 0 0, .slice none 0 0] from rfl]; have hz : w.heap.size < w1.heap.size := (by have h_ := hb1.size; simp at h_; omega); have q0 := pw_cell_below hb1 (a := ⟨w.heap.size, 0, none⟩) (v := .int .i64 5) (by go_simp); have q1 := pw_cell_below hb1 (a := ⟨w.heap.size, 1, none⟩) (v := .bool false) (by go_simp); have q2 := pw_cell_below hb1 (a := ⟨w.heap.size, 2, none⟩) (v := .slice A2 0 c2) (by go_simp); have q3 := pw_cell_below hb1 (a := ⟨w.heap.size, 3, none⟩) (v := .bool false) (by go_simp); have q4 := pw_cell_below hb1 (a := ⟨w.heap.size, 4, none⟩) (v := .string s) (by go_simp); have q5 := pw_cell_below hb1 (a := ⟨w.heap.size, 5, none⟩) (v := .slice A5 items.length c5) (by go_simp); have q6 := pw_cell_below hb1 (a := ⟨w.heap.size, 6, none⟩) (v := .slice A6 tail.length c6) (by go_simp))
    go_ret
    exact ⟨retB (by rw [HR.out, HB.out, HS2.out, HT.out, T1.out]; simp), below_alloc (below_then (below_alloc (Below.refl _ _) _) (by simp) hb1) _⟩
  have T1 := Lib.hid (decide_eq_false t1)
  by_cases t2 : tail.length = 1
  · obtain ⟨ad, c, hA, hK, hcc⟩ := elD (k := 0) G6.out (by omega)
    subst hA
    obtain ⟨B2, d2, B5, d5, B6, d6, rfl, _⟩ := kD_open hK
    have hk0 : w.cell? ad = some (.int .i64 (rdD tail 0).kind) := by have := hcc 0 _ rfl; simpa [Addr.add] using this
    have hlt := World.block_lt_of_cell? w _ hk0
    clear hK hcc
    have T2 := Lib.hid (decide_eq_true t2)
    have t2b : ((tail.length : Int) == 1) = true := by rw [beq_iff_eq]; omega
    obtain ⟨kk, hkk⟩ : ∃ kk, kk = (rdD tail 0).kind := ⟨_, rfl⟩
    rw [← hkk] at HT hk0
    clear hkk
    by_cases t3 : items.length = 0
    · have t3b : ((items.length : Int) == 0) = true := by rw [beq_iff_eq]; omega
      have T3 := Lib.hid (decide_eq_true t3)
      clear t2 t3
      go_enter Tryz.func72, Tryz.ntmps72
      go_wp2_with (go_at_call 104; refine (blank_calls _ _ _ _ _ _ _ _ _ _ _ _ _ _).mono ?_; rintro e w1 ⟨rfl, hb1⟩; rw [show blankV 5 false A2 0 c2 false s A5 items.length c5 (some ad) tail.length c6 = .agg #[.int .i64 5, .bool false, .slice A2 0 c2, .bool false, .string s, .slice none 0 0, .slice none 0 0] from rfl]; have hz : w.heap.size < w1.heap.size := (by have h_ := hb1.size; simp at h_; omega); have q0 := pw_cell_below hb1 (a := ⟨w.heap.size, 0, none⟩) (v := .int .i64 5) (by go_simp); have q1 := pw_cell_below hb1 (a := ⟨w.heap.size, 1, none⟩) (v := .bool false) (by go_simp); have q2 := pw_cell_below hb1 (a := ⟨w.heap.size, 2, none⟩) (v := .slice A2 0 c2) (by go_simp); have q3 := pw_cell_below hb1 (a := ⟨w.heap.size, 3, none⟩) (v := .bool false) (by go_simp); have q4 := pw_cell_below hb1 (a := ⟨w.heap.size, 4, none⟩) (v := .string s) (by go_simp); have q5 := pw_cell_below hb1 (a := ⟨w.heap.size, 5, none⟩) (v := .slice A5 items.length c5) (by go_simp); have q6 := pw_cell_below hb1 (a := ⟨w.heap.size, 6, none⟩) (v := .slice (some ad) tail.length c6) (by go_simp))
      go_ret
      exact ⟨retB (by rw [HR.out, HB.out, HS2.out, HT.out, T1.out, T2.out, T3.out]; simp), below_alloc (below_then (below_alloc (Below.refl _ _) _) (by simp) hb1) _⟩
    have t3b : ((items.length : Int) == 0) = false := by rw [beq_eq_false_iff_ne]; omega
    have T3 := Lib.hid (decide_eq_false t3)
    have hp0 : 0 < tail.length := by omega
    clear t2 t3
    have hk1 : ∀ W, Below (w.heap.size + 1) (w.alloc (.cells #[.int .i64 5, .bool false, .slice A2 0 c2, .bool false, .string s, .slice A5 items.length c5, .slice (some ad) tail.length c6] 28)) W → W.cell? ad = some (.int .i64 kk) := fun W hb => pw_cell_below (w := w.alloc _) (by simpa using hb) (pw_cell_below (below_alloc (Below.refl _ _) _) hk0)
    have HK1 := Lib.hid hk1
    clear hk1
    cases t4 : kk == 5
    · go_enter Tryz.func72, Tryz.ntmps72
      go_wp2_with (first | (go_at_call 104; refine (blank_calls _ _ _ _ _ _ _ _ _ _ _ _ _ _).mono ?_; rintro e w1 ⟨rfl, hb1⟩; rw [show blankV 5 false A2 0 c2 false s A5 items.length c5 (some ad) tail.length c6 = .agg #[.int .i64 5, .bool false, .slice A2 0 c2, .bool false, .string s, .slice none 0 0, .slice none 0 0] from rfl]; have hz : w.heap.size < w1.heap.size := (by have h_ := hb1.size; simp at h_; omega); have q0 := pw_cell_below hb1 (a := ⟨w.heap.size, 0, none⟩) (v := .int .i64 5) (by go_simp); have q1 := pw_cell_below hb1 (a := ⟨w.heap.size, 1, none⟩) (v := .bool false) (by go_simp); have q2 := pw_cell_below hb1 (a := ⟨w.heap.size, 2, none⟩) (v := .slice A2 0 c2) (by go_simp); have q3 := pw_cell_below hb1 (a := ⟨w.heap.size, 3, none⟩) (v := .bool false) (by go_simp); have q4 := pw_cell_below hb1 (a := ⟨w.heap.size, 4, none⟩) (v := .string s) (by go_simp); have q5 := pw_cell_below hb1 (a := ⟨w.heap.size, 5, none⟩) (v := .slice A5 items.length c5) (by go_simp); have q6 := pw_cell_below hb1 (a := ⟨w.heap.size, 6, none⟩) (v := .slice (some ad) tail.length c6) (by go_simp); have q7 := HK1.out w1 (by simpa using hb1); have hz0 : ad.block < w1.heap.size := (by omega)) | (go_at_call 107; refine (HP.out _ (below_alloc (below_then (below_alloc (Below.refl _ _) _) (by simp) hb1) _)).mono ?_; rintro e w2 ⟨V, n, cv, rfl, hn, hC, hb2⟩; have HNN := Lib.hid hn; clear hn; have HCC := Lib.hid hC; clear hC) | (go_at_call 106; refine (HF.out _ V n cv (below_then (below_alloc (below_then (below_alloc (Below.refl _ _) _) (by simp) hb1) _) (by simp; omega) hb2) HNN.out HCC.out).mono ?_; rintro e w3 ⟨rfl, hb3⟩))
      go_ret
      exact ⟨retB (by rw [HR.out, HB.out, HS2.out, HT.out, T1.out, T2.out, T3.out, t4]; simp), below_then (below_then (below_alloc (below_then (below_alloc (Below.refl _ _) _) (by simp) hb1) _) (by simp; omega) hb2) (by have h_ := hb2.size; simp at h_; omega) hb3⟩
    · go_enter Tryz.func72, Tryz.ntmps72
      go_wp2_with (go_at_call 104; refine (blank_calls _ _ _ _ _ _ _ _ _ _ _ _ _ _).mono ?_; rintro e w1 ⟨rfl, hb1⟩; rw [show blankV 5 false A2 0 c2 false s A5 items.length c5 (some ad) tail.length c6 = .agg #[.int .i64 5, .bool false, .slice A2 0 c2, .bool false, .string s, .slice none 0 0, .slice none 0 0] from rfl]; have hz : w.heap.size < w1.heap.size := (by have h_ := hb1.size; simp at h_; omega); have q0 := pw_cell_below hb1 (a := ⟨w.heap.size, 0, none⟩) (v := .int .i64 5) (by go_simp); have q1 := pw_cell_below hb1 (a := ⟨w.heap.size, 1, none⟩) (v := .bool false) (by go_simp); have q2 := pw_cell_below hb1 (a := ⟨w.heap.size, 2, none⟩) (v := .slice A2 0 c2) (by go_simp); have q3 := pw_cell_below hb1 (a := ⟨w.heap.size, 3, none⟩) (v := .bool false) (by go_simp); have q4 := pw_cell_below hb1 (a := ⟨w.heap.size, 4, none⟩) (v := .string s) (by go_simp); have q5 := pw_cell_below hb1 (a := ⟨w.heap.size, 5, none⟩) (v := .slice A5 items.length c5) (by go_simp); have q6 := pw_cell_below hb1 (a := ⟨w.heap.size, 6, none⟩) (v := .slice (some ad) tail.length c6) (by go_simp); have q7 := HK1.out w1 (by simpa using hb1); have hz0 : ad.block < w1.heap.size := (by omega))
      go_ret
      exact ⟨retB (by rw [HR.out, HB.out, HS2.out, HT.out, T1.out, T2.out, T3.out, t4]; simp), below_alloc (below_then (below_alloc (Below.refl _ _) _) (by simp) hb1) _⟩
  · have T2 := Lib.hid (decide_eq_false t2)
    have t2b : ((tail.length : Int) == 1) = false := by rw [beq_eq_false_iff_ne]; omega
    clear t2
    go_enter Tryz.func72, Tryz.ntmps72
    go_wp2_with (first | (go_at_call 104; refine (blank_calls _ _ _ _ _ _ _ _ _ _ _ _ _ _).mono ?_; rintro e w1 ⟨rfl, hb1⟩; rw [show blankV 5 false A2 0 c2 false s A5 items.length c5 A6 tail.length c6 = .agg #[.int .i64 5, .bool false, .slice A2 0 c2, .bool false, .string s, .slice none 0 0, .slice none 0 0] from rfl]; have hz : w.heap.size < w1.heap.size := (by have h_ := hb1.size; simp at h_; omega); have q0 := pw_cell_below hb1 (a := ⟨w.heap.size, 0, none⟩) (v := .int .i64 5) (by go_simp); have q1 := pw_cell_below hb1 (a := ⟨w.heap.size, 1, none⟩) (v := .bool false) (by go_simp); have q2 := pw_cell_below hb1 (a := ⟨w.heap.size, 2, none⟩) (v := .slice A2 0 c2) (by go_simp); have q3 := pw_cell_below hb1 (a := ⟨w.heap.size, 3, none⟩) (v := .bool false) (by go_simp); have q4 := pw_cell_below hb1 (a := ⟨w.heap.size, 4, none⟩) (v := .string s) (by go_simp); have q5 := pw_cell_below hb1 (a := ⟨w.heap.size, 5, none⟩) (v := .slice A5 items.length c5) (by go_simp); have q6 := pw_cell_below hb1 (a := ⟨w.heap.size, 6, none⟩) (v := .slice A6 tail.length c6) (by go_simp)) | (go_at_call 107; refine (HP.out _ (below_alloc (below_then (below_alloc (Below.refl _ _) _) (by simp) hb1) _)).mono ?_; rintro e w2 ⟨V, n, cv, rfl, hn, hC, hb2⟩; have HNN := Lib.hid hn; clear hn; have HCC := Lib.hid hC; clear hC) | (go_at_call 106; refine (HF.out _ V n cv (below_then (below_alloc (below_then (below_alloc (Below.refl _ _) _) (by simp) hb1) _) (by simp; omega) hb2) HNN.out HCC.out).mono ?_; rintro e w3 ⟨rfl, hb3⟩))
    go_ret
    exact ⟨retB (by rw [HR.out, HB.out, HS2.out, HT.out, T1.out, T2.out]; simp), below_then (below_then (below_alloc (below_then (below_alloc (Below.refl _ _) _) (by simp) hb1) _) (by simp; omega) hb2) (by have h_ := hb2.size; simp at h_; omega) hb3⟩
end Go.Proofs.YtlcofdgaidlldaaGreatDoor
namespace Go.Proofs.YtlcofdgaidlldaaGreatDoor
open Go.RowKit Go.Proofs.YtlcofdgaidlldaaGreatDoorW.PrintWords
set_option linter.unusedVariables false
set_option linter.unusedSimpArgs false
theorem beq_false_of_ne' {a b : Int} (h : ¬ a = b) : (a == b) = false := by simpa using h
set_option maxHeartbeats 1000000 in
theorem dgood_calls (n : Nat) : (∀ (x : Dt) (cs : List Value) (w : World), x.big < n → x.few → kD.K w x cs → Calls Tryz.prog 72 #[.agg cs.toArray] w fun e w' => e = .returned (.bool x.good) ∧ Below w.heap.size w w') ∧
    (∀ (x : Dt) (cs : List Value) (w : World), x.big < n → x.few → kD.K w x cs → Calls Tryz.prog 108 #[.agg cs.toArray] w fun e w' => e = .returned (.bool (!x.good)) ∧ Below w.heap.size w w') := by
  induction n with
  | zero => exact ⟨fun x cs w h => by omega, fun x cs w h => by omega⟩
  | succ n ih =>
  have h1 : ∀ (x : Dt) (cs : List Value) (w : World), x.big < n + 1 → x.few → kD.K w x cs → Calls Tryz.prog 72 #[.agg cs.toArray] w fun e w' => e = .returned (.bool x.good) ∧ Below w.heap.size w w' := by
    intro x cs w hn hfew hx
    have hl := Dt.few_lens hfew
    have HF : Hid (∀ (W : World) (V : Option Addr) (n cv : Nat), Below w.heap.size w W → n = (x.items ++ x.tail).length → kD.C W V n (x.items ++ x.tail) → Calls Tryz.prog 106 #[.slice V n cv, .func (.func 108) #[] #[]] W fun e w' => e = .returned (.bool ((x.items ++ x.tail).any fun k => !k.good)) ∧ Below W.heap.size W w') :=
      Lib.hid (fun W V m cv hb hm hC => by
        subst hm
        exact ContainsFunc_D_calls (fun k => !k.good) (x.items ++ x.tail) V cv W hC (fun k hk W2 c _ hK => ih.2 (rdD (x.items ++ x.tail) k) c W2 (by have := (Dt.few_part hfew hk).2; omega) (Dt.few_part hfew hk).1 hK))
    have HP := Lib.hid (fun (W : World) (hb : Below w.heap.size w W) => parts_calls x cs W (kD.K_below hb hx) (by omega))
    obtain ⟨A2, c2, A5, c5, A6, c6, rfl, l2, g2, l5, g5, l6, g6⟩ := kD_open hx
    have HW := Lib.hid (fun (W : World) (hb : Below w.heap.size w W) => wGood_calls x.i _ W (kI_mk W x.i l2 (Kd.C_below g2 hb)))
    have hm2 := Kd.C_max g2
    clear hx ih hfew
    obtain ⟨kind, ⟨neg, l⟩, b, s, items, tail⟩ := x
    simp only at *
    by_cases k0 : kind = 0
    · subst k0; exact dgood_k0 neg l b s items tail A2 c2 A5 c5 A6 c6 w hm2 (by omega)
    by_cases k1 : kind = 1
    · subst k1; exact dgood_k1 neg l b s items tail A2 c2 A5 c5 A6 c6 w hm2 (by omega) HW
    by_cases k2 : kind = 2
    · subst k2; exact dgood_k2 neg l b s items tail A2 c2 A5 c5 A6 c6 w hm2 (by omega)
    by_cases k3 : kind = 3
    · subst k3; exact dgood_k3 neg l b s items tail A2 c2 A5 c5 A6 c6 w hm2 (by omega)
    by_cases k4 : kind = 4
    · subst k4; exact dgood_k4 neg l b s items tail A2 c2 A5 c5 A6 c6 w hm2 (by omega)
    by_cases k5 : kind = 5
    · subst k5; exact dgood_k5 neg l b s items tail A2 c2 A5 c5 A6 c6 w hm2 (by omega) HP HF g6
    exact dgood_kx kind (beq_false_of_ne' k0) (beq_false_of_ne' k1) (beq_false_of_ne' k2) (beq_false_of_ne' k3) (beq_false_of_ne' k4) (beq_false_of_ne' k5) neg l b s items tail A2 c2 A5 c5 A6 c6 w hm2 (by omega)
  refine ⟨h1, ?_⟩
  intro x cs w hn hfew hx
  have HC := Lib.hid (fun (W : World) (hb : Below w.heap.size w W) => h1 x cs W hn hfew (kD.K_below hb hx))
  obtain ⟨A2, c2, A5, c5, A6, c6, rfl, l2, g2, l5, g5, l6, g6⟩ := kD_open hx
  clear hx g2 g5 g6 ih h1
  go_enter Tryz.func108, Tryz.ntmps108
  go_wp2_with (go_at_call 72; refine (HC.out _ (below_alloc (Below.refl _ _) _)).mono ?_; rintro e w1 ⟨rfl, hb1⟩)
  go_ret
  exact ⟨rfl, below_then (below_alloc (Below.refl _ _) _) (by simp) hb1⟩
set_option maxHeartbeats 1000000 in
theorem dGood_calls (x : Dt) (cs : List Value) (w : World) (hx : kD.K w x cs) : Calls Tryz.prog 57 #[.agg cs.toArray] w fun e w' => e = .returned (.bool x.Good) ∧ Below w.heap.size w w' := by
  have HW := Lib.hid (fun (W : World) (hb : Below w.heap.size w W) => dwithin_calls (x.big + 1) x cs 5000 200 W (by omega) (kD.K_below hb hx) (by omega) (by omega) (by omega) (by omega))
  have HG := Lib.hid (fun (W : World) (hb : Below w.heap.size w W) (hf : x.few) => (dgood_calls (x.big + 1)).1 x cs W (by omega) hf (kD.K_below hb hx))
  have HR := Lib.hid (show x.Good = (decide (0 ≤ x.within 5000 200) && x.good) from rfl)
  obtain ⟨A2, c2, A5, c5, A6, c6, rfl, l2, g2, l5, g5, l6, g6⟩ := kD_open hx
  clear hx g2 g5 g6
  by_cases h0 : 0 ≤ x.within 5000 200
  · have hf : Hid x.few := Lib.hid ⟨5000, 200, by omega, h0⟩
    go_enter Tryz.func57, Tryz.ntmps57
    go_wp2_with (first
      | (go_at_call 67; refine (HW.out _ (below_alloc (Below.refl _ _) _)).mono ?_; rintro e w1 ⟨rfl, hb1⟩; have hz : w.heap.size < w1.heap.size := (by have h_ := hb1.size; simp at h_; omega); have q0 := pw_cell_below hb1 (a := ⟨w.heap.size, 0, none⟩) (v := .int .i64 x.kind) (by go_simp); have q1 := pw_cell_below hb1 (a := ⟨w.heap.size, 1, none⟩) (v := .bool x.i.neg) (by go_simp); have q2 := pw_cell_below hb1 (a := ⟨w.heap.size, 2, none⟩) (v := .slice A2 x.i.l.length c2) (by go_simp); have q3 := pw_cell_below hb1 (a := ⟨w.heap.size, 3, none⟩) (v := .bool x.b) (by go_simp); have q4 := pw_cell_below hb1 (a := ⟨w.heap.size, 4, none⟩) (v := .string x.s) (by go_simp); have q5 := pw_cell_below hb1 (a := ⟨w.heap.size, 5, none⟩) (v := .slice A5 x.items.length c5) (by go_simp); have q6 := pw_cell_below hb1 (a := ⟨w.heap.size, 6, none⟩) (v := .slice A6 x.tail.length c6) (by go_simp))
      | (go_at_call 72; refine (HG.out _ (below_then (below_alloc (Below.refl _ _) _) (by simp) hb1) hf).mono ?_; rintro e w2 ⟨rfl, hb2⟩))
    go_ret
    exact ⟨retB (by rw [HR.out]; simp [h0]), below_then (below_then (below_alloc (Below.refl _ _) _) (by simp) hb1) (by omega) hb2⟩
  · go_enter Tryz.func57, Tryz.ntmps57
    go_wp2_with (go_at_call 67; refine (HW.out _ (below_alloc (Below.refl _ _) _)).mono ?_; rintro e w1 ⟨rfl, hb1⟩)
    go_ret
    exact ⟨retB (by rw [HR.out]; simp; omega), below_then (below_alloc (Below.refl _ _) _) (by simp) hb1⟩
end Go.Proofs.YtlcofdgaidlldaaGreatDoor
namespace Go.Proofs.YtlcofdgaidlldaaGreatDoor
open Go.RowKit Go.Proofs.YtlcofdgaidlldaaGreatDoorW.PrintWords
set_option linter.unusedVariables false
set_option linter.unusedSimpArgs false
set_option maxHeartbeats 400000 in
theorem plain1_calls (v : Int) (w : World) : Calls Tryz.prog 55 #[.int .i64 v] w fun e w' => e = .returned (.bool (outV v)) ∧ w = w' := by
  have HR := Lib.hid (show outV v = (decide (v < 1) || decide (1000000 < v)) from rfl)
  by_cases h : v < 1
  all_goals
    go_enter Tryz.func55, Tryz.ntmps55
    go_wp2
    go_ret
    exact ⟨retB (by rw [HR.out]; simp [h] <;> omega), rfl⟩
set_option maxHeartbeats 400000 in
theorem IndexFunc_int_calls (xs : List Int) (A : Option Addr) (c : Nat) (w : World) (hx : (Kd.int .i64).C w A xs.length xs) :
    Calls Tryz.prog 71 #[.slice A xs.length c, .func (.func 55) #[] #[]] w fun e w' => e = .returned (.int .i64 (idxOf outV xs 0)) ∧ w = w' := by
  have HX := Lib.hid hx
  have hm := Kd.C_max hx
  have HP := Lib.hid plain1_calls
  clear hx
  go_enter Tryz.func71, Tryz.ntmps71
  go_wp2
  go_loop [8] (fun v8 => ∃ k : Nat, k ≤ xs.length ∧ v8 = .int .i64 k ∧ Hid (idxOf outV xs 0 = idxOf outV (xs.drop k) k)) (fun v8 => xs.length - (intOf v8).toNat)
  case atStart => exact ⟨0, Nat.zero_le _, rfl, Lib.hid (by simp)⟩
  case round =>
    obtain ⟨k, hk, rfl, HE⟩ := hrel
    by_cases hlt : k < xs.length
    · obtain ⟨ad, hA, hc⟩ := elI HX.out hlt
      subst hA
      obtain ⟨y, hy⟩ : ∃ y, y = xs.getD k 0 := ⟨_, rfl⟩
      rw [← hy] at hc
      have HE2 := Lib.hid (HE.out.trans (show _ = if outV y then (k : Int) else idxOf outV (xs.drop (k + 1)) (k + 1) by rw [List.drop_eq_getElem_cons hlt, idxOf, hy]; simp [List.getD_eq_getElem?_getD, hlt]))
      clear hy
      cases hv : outV y
      all_goals
        have HV := Lib.hid (fun W => hv ▸ HP.out y W)
        go_wp2_with (go_at_call 55; refine (HP.out y _).mono ?_; rw [hv]; rintro e w' ⟨rfl, rfl⟩)
      · go_round
        case rel => exact ⟨k + 1, by omega, by go_num, Lib.hid (by rw [HE2.out, hv]; rfl)⟩
        case measure => simp [intOf]; omega
      · go_ret
        exact ⟨retI (by rw [HE2.out, hv]; rfl), rfl⟩
    · go_wp2
      go_ret
      exact ⟨retI (by rw [HE.out, List.drop_eq_nil_of_le (by omega), idxOf]), rfl⟩
set_option maxHeartbeats 400000 in
theorem ContainsFunc_int_calls (xs : List Int) (A : Option Addr) (c : Nat) (w : World) (hx : (Kd.int .i64).C w A xs.length xs) :
    Calls Tryz.prog 56 #[.slice A xs.length c, .func (.func 55) #[] #[]] w fun e w' => e = .returned (.bool (xs.any outV)) ∧ w = w' := by
  have HX := Lib.hid (IndexFunc_int_calls xs A c w hx)
  have HI := Lib.hid (idxOf_any outV xs 0 (by omega))
  clear hx
  go_enter Tryz.func56, Tryz.ntmps56
  go_wp2_with (go_at_call 71; refine HX.out.mono ?_; rintro e w' ⟨rfl, rfl⟩)
  go_ret
  exact ⟨retB HI.out, rfl⟩
theorem arity_same (p : Int) : arityF p = arityP p := rfl
set_option maxHeartbeats 1000000 in
theorem kids_calls (x : Ex) (cs : List Value) (w : World) (hx : kE.K w x cs) (hL : Laid w) : Calls Tryz.prog 54 #[.agg cs.toArray] w fun e w' => e = .returned (.int .i64 x.nkids) ∧ Below w.heap.size w w' := by
  obtain ⟨A3, c3, A6, c6, A7, c7, A9, c9, A12, c12, rfl, l3, g3, l6, g6, l7, g7, l9, g9, l12, g12⟩ := kE_open hx
  clear hx g3 g6 g7 g9 g12
  have HA := Lib.hid (fun (W : World) (hb : Below w.heap.size w W) => Arity_calls x.p W (hL.below hb))
  have HR := Lib.hid (show x.nkids = if x.kind = 1 ∨ x.kind = 2 then 0 else if x.kind = 3 ∨ x.kind = 5 then 1 else if x.kind = 4 then 3 else if x.kind = 6 then -2 else if x.kind = 7 then arityP x.p else if x.kind = 8 ∨ x.kind = 9 then 2 else -1 from rfl)
  obtain ⟨k, hk⟩ : ∃ k, k = x.kind := ⟨_, rfl⟩
  rw [← hk] at HR ⊢
  clear hk hL
  rcases (show k = 1 ∨ k = 2 ∨ k = 3 ∨ k = 5 ∨ k = 4 ∨ k = 6 ∨ k = 7 ∨ k = 8 ∨ k = 9 ∨ (¬ k = 1 ∧ ¬ k = 2 ∧ ¬ k = 3 ∧ ¬ k = 5 ∧ ¬ k = 4 ∧ ¬ k = 6 ∧ ¬ k = 7 ∧ ¬ k = 8 ∧ ¬ k = 9) by omega) with rfl | rfl | rfl | rfl | rfl | rfl | rfl | rfl | rfl | ⟨k1, k2, k3, k5, k4, k6, k7, k8, k9⟩
  case inr.inr.inr.inr.inr.inr.inr.inr.inr =>
    have e1 := beq_false_of_ne' k1
    have e2 := beq_false_of_ne' k2
    have e3 := beq_false_of_ne' k3
    have e4 := beq_false_of_ne' k4
    have e5 := beq_false_of_ne' k5
    have e6 := beq_false_of_ne' k6
    have e7 := beq_false_of_ne' k7
    have e8 := beq_false_of_ne' k8
    have e9 := beq_false_of_ne' k9
    have HR2 := Lib.hid (HR.out.trans (show _ = (-1 : Int) by simp [k1, k2, k3, k4, k5, k6, k7, k8, k9]))
    clear k1 k2 k3 k4 k5 k6 k7 k8 k9
    go_enter Tryz.func54, Tryz.ntmps54
    go_wp2
    go_ret
    exact ⟨retI HR2.out.symm, by exact below_alloc (Below.refl _ _) _⟩
  case inr.inr.inr.inr.inr.inr.inl =>
    go_enter Tryz.func54, Tryz.ntmps54
    go_wp2_with (go_at_call 70; refine (HA.out _ (below_alloc (Below.refl _ _) _)).mono ?_; rintro e w1 ⟨rfl, hb1⟩)
    go_ret
    exact ⟨retI (by rw [HR.out, arity_same]; rfl), below_then (below_alloc (Below.refl _ _) _) (by simp) hb1⟩
  all_goals
    go_enter Tryz.func54, Tryz.ntmps54
    go_wp2
    go_ret
    exact ⟨retI (by rw [HR.out]; rfl), by exact below_alloc (Below.refl _ _) _⟩
set_option maxHeartbeats 400000 in
theorem binds_calls (x : Ex) (cs : List Value) (w : World) (hx : kE.K w x cs) : Calls Tryz.prog 42 #[.agg cs.toArray] w fun e w' => ∃ A n c, e = .returned (.slice A n c) ∧ n = x.binds.length ∧ (Kd.int .i64).C w' A n x.binds ∧ Below w.heap.size w w' := by
  obtain ⟨A3, c3, A6, c6, A7, c7, A9, c9, A12, c12, rfl, l3, g3, l6, g6, l7, g7, l9, g9, l12, g12⟩ := kE_open hx
  have G9 := Lib.hid g9
  clear hx g3 g6 g7 g9 g12
  have HR := Lib.hid (show x.binds = if x.kind = 8 then [x.v] else if x.kind = 5 then x.vars else [] from rfl)
  cases k8 : x.kind == 8
  case true =>
    have HR2 := Lib.hid (HR.out.trans (if_pos (by simpa using k8)))
    go_enter Tryz.func42, Tryz.ntmps42
    go_wp2
    go_ret
    refine ⟨_, _, _, rfl, by rw [HR2.out]; rfl, ?_, by exact below_alloc (below_alloc (Below.refl _ _) _) _⟩
    rw [HR2.out]
    exact C_block (d := Kd.int .i64) _ _ 3 (0, 0) [x.v] (nums .i64 [x.v]) (by exact heap_alloc2_new _ _ _) (reps_nums _ _ _) (by simp)
  have HR1 := Lib.hid (HR.out.trans (if_neg (by simpa using k8)))
  cases k5 : x.kind == 5
  case true =>
    have HR2 := Lib.hid (HR1.out.trans (if_pos (by simpa using k5)))
    go_enter Tryz.func42, Tryz.ntmps42
    go_wp2
    go_ret
    refine ⟨_, _, _, rfl, by rw [HR2.out], ?_, by exact below_alloc (Below.refl _ _) _⟩
    rw [HR2.out]
    exact Kd.C_alloc G9.out _
  have HR2 := Lib.hid (HR1.out.trans (if_neg (by simpa using k5)))
  go_enter Tryz.func42, Tryz.ntmps42
  go_wp2
  go_ret
  refine ⟨_, _, _, rfl, by rw [HR2.out]; rfl, ?_, by exact below_alloc (Below.refl _ _) _⟩
  rw [HR2.out]
  exact Kd.C_nil _ _
set_option maxHeartbeats 400000 in
theorem few_calls (x : Ex) (cs : List Value) (w : World) (hx : kE.K w x cs) : Calls Tryz.prog 20 #[.agg cs.toArray] w fun e w' => e = .returned (.bool x.few) ∧ Below w.heap.size w w' := by
  have HW := Lib.hid (fun (W : World) (hb : Below w.heap.size w W) => within_calls (x.big + 1) x cs 100000 10000 W (by omega) (kE.K_below hb hx) (by omega) (by omega) (by omega) (by omega))
  obtain ⟨A3, c3, A6, c6, A7, c7, A9, c9, A12, c12, rfl, l3, g3, l6, g6, l7, g7, l9, g9, l12, g12⟩ := kE_open hx
  clear hx g3 g6 g7 g9 g12
  go_enter Tryz.func20, Tryz.ntmps20
  go_wp2_with (go_at_call 34; refine (HW.out _ (below_alloc (Below.refl _ _) _)).mono ?_; rintro e w1 ⟨rfl, hb1⟩)
  go_ret
  exact ⟨rfl, below_then (below_alloc (Below.refl _ _) _) (by simp) hb1⟩
end Go.Proofs.YtlcofdgaidlldaaGreatDoor
