/- Contracts: pavaneref02.Norm, Same. The walks' conditions: the parameters' memory; not more than a million limbs. Contracts, with footprints: pavaneref02.Norm; pavaneref02.Of at 1, 2, 3 and 5. The walks' conditions: the parameters' memory; not more than a million limbs. Plain: pavaneref03's sameness of data. Plain: pavaneref08's sameness of expressions. -/
import Derived.Test.YtlcofdgaidlldaaGreatDoorZn
import Derived.Test.YtlcofdgaidlldaaGreatDoorZq
namespace Go.Proofs.YtlcofdgaidlldaaGreatDoor
open Go.RowKit Go.Shelf Go.Proofs.YtlcofdgaidlldaaGreatDoorW.PrintWords
set_option linter.unusedVariables false
set_option linter.unusedSimpArgs false
theorem C_int_grown {k : IntKind} {W W1 : World} {A : Option Addr} {n r : Nat} {xs : List Int} (h : (Kd.int k).C W A n xs) (hg : W.grownBy W1 (some r)) (hne : 0 < n → ∀ ad, A = some ad → ad.block ≠ r) : (Kd.int k).C W1 A n xs :=
  ⟨h.1, h.2.1, fun hn => by
    obtain ⟨ad, e, hj⟩ := h.2.2 hn
    refine ⟨ad, e, fun j p hp => ?_⟩
    obtain ⟨c, h1, h2, h3⟩ := hj j p hp
    refine ⟨c, h1, h2, fun i u hu => cell_grown hg (h3 i u hu) (fun he => hne hn ad e ?_)⟩
    have he := Option.some.inj he
    rw [← he]
    unfold Addr.add
    split <;> rfl⟩
/-- As it is written. -/
def normI (a : BI) : BI := ⟨a.neg && decide (0 < (normL a.l).length), normL a.l⟩
/-- The same number, as written. -/
def sameI (a b : BI) : Bool := a.neg == b.neg && decide (a.l = b.l)
set_option maxRecDepth 100000 in
set_option maxHeartbeats 2000000 in
theorem rNorm2_calls (a : BI) (cs : List Value) (w : World) (hK : kI.K w a cs) (hl : a.l.length ≤ 1000000) :
    Calls Tryz.prog 15 #[.agg cs.toArray] w fun e w' => ∃ cs', e = .returned (.agg cs'.toArray) ∧ kI.K w' (normI a) cs' ∧ Below w.heap.size w w' := by
  obtain ⟨A1, c1, rfl, l1, g1⟩ := kI_open hK
  have HN := Lib.hid (fun (W : World) (hb : Below w.heap.size w W) => rNorm1_calls a.l A1 c1 W (Kd.C_below g1 hb) l1 hl)
  have HR : Hid (∀ (W : World) (B : Option Addr) (d : Nat), (normL a.l).length ≤ d → (Kd.int .u32).C W B (normL a.l).length (normL a.l) → kI.K W (normI a) [.bool (a.neg && decide (0 < (normL a.l).length)), .slice B (normL a.l).length d]) := Lib.hid (fun W B d h1 h2 => kI_mk W (normI a) h1 h2)
  obtain ⟨r, hr⟩ : ∃ r, r = normI a := ⟨_, rfl⟩
  obtain ⟨l, hl0⟩ : ∃ l, l = normL a.l := ⟨_, rfl⟩
  rw [← hr, ← hl0] at HR
  rw [← hr]
  rw [← hl0] at HN
  have hR0 : BX 25 ((w.alloc (.cells [.bool a.neg, .slice A1 a.l.length c1].toArray 25)).alloc (.cells zIc.toArray 25)) (w.heap.size + 1) zIc := by simpa using BX.new (t := 25) (w.alloc (.cells [.bool a.neg, .slice A1 a.l.length c1].toArray 25)) zIc
  have hB0 : BX 25 ((w.alloc (.cells [.bool a.neg, .slice A1 a.l.length c1].toArray 25)).alloc (.cells zIc.toArray 25)) w.heap.size [.bool a.neg, .slice A1 a.l.length c1] := (BX.new w _).alloc _
  have hW0 : Below w.heap.size w ((w.alloc (.cells [.bool a.neg, .slice A1 a.l.length c1].toArray 25)).alloc (.cells zIc.toArray 25)) := below_alloc (below_alloc (Below.refl _ _) _) _
  have hs0 : ((w.alloc (.cells [.bool a.neg, .slice A1 a.l.length c1].toArray 25)).alloc (.cells zIc.toArray 25)).heap.size = w.heap.size + 2 := by simp
  clear hr hK g1 hl0
  obtain ⟨ng, hng⟩ : ∃ ng, ng = a.neg := ⟨_, rfl⟩
  rw [← hng] at HR hR0 hB0 hW0 hs0 ⊢
  clear hng
  have hp : ng = false ∨ ng = true ∧ 0 < l.length ∨ ng = true ∧ ¬ 0 < l.length := by
    cases ng
    · exact .inl rfl
    · rcases Nat.lt_or_ge 0 l.length with h | h
      · exact .inr (.inl ⟨rfl, h⟩)
      · exact .inr (.inr ⟨rfl, by omega⟩)
  rcases hp with rfl | ⟨rfl, hp⟩ | ⟨rfl, hp⟩
  · skip
    go_enter Tryz.func15, Tryz.ntmps15
    go_wp2_with (first
      | (go_at_call 26; ((with_reducible refine (HN.out _ hW0).mono ?_); rintro e w1 ⟨v, rfl, hNv, hb1⟩; obtain ⟨B, d, hv, hld, hC⟩ := Kd.N_reads hNv; subst hv; have hBn : 0 < l.length → ∀ ad, B = some ad → ad.block ≠ w.heap.size + 1 := (fun h0 ad he => by obtain ⟨g, cap, h1, h2, _⟩ := Kd.N_form hNv h0; injection h1 with h1; rw [he] at h1; injection h1 with h1; rw [h1]; show g ≠ _; omega); have hR1 := hR0.below hb1; have q0 := (hB0.below hb1).cell (j := 0) (u := .bool false) rfl; have HC := Lib.hid hC; clear hC hNv; have hs1 := hb1.size))
      | ((with_reducible refine store_bx hR1 none rfl ?_ _ _ rfl [.bool false, .slice B l.length d] ?_ ?_ ?_ ?_ ?_ ?_); (case _ => rfl); (case _ => rfl); (case _ => rfl); (case _ => exact size25'); (case _ => rfl); (case _ => simp [Value.oneCell']); intro w2 hR2 hg2))
    have hload := hR2.load (P := Tryz.prog) Tryz.underlying25 (by exact size25')
    have hb1' := below_then hW0 (by omega) hb1
    have hb2 : Below w.heap.size w w2 := hb1'.trans (grown_below hg2 (by omega) (by omega))
    refine bodyPost_ret (v := .agg ([.bool false, .slice B l.length d] : List Value).toArray) ?_ rfl ⟨_, rfl, HR.out w2 B d hld (C_int_grown HC.out hg2 hBn), hb2⟩
    simp [results, Tryz.f15, asAddr, Result.andThen, Act.put, hload]
  · (rw [Bool.true_and, decide_eq_true hp] at HR)
    go_enter Tryz.func15, Tryz.ntmps15
    go_wp2_with (first
      | (go_at_call 26; ((with_reducible refine (HN.out _ hW0).mono ?_); rintro e w1 ⟨v, rfl, hNv, hb1⟩; obtain ⟨B, d, hv, hld, hC⟩ := Kd.N_reads hNv; subst hv; have hBn : 0 < l.length → ∀ ad, B = some ad → ad.block ≠ w.heap.size + 1 := (fun h0 ad he => by obtain ⟨g, cap, h1, h2, _⟩ := Kd.N_form hNv h0; injection h1 with h1; rw [he] at h1; injection h1 with h1; rw [h1]; show g ≠ _; omega); have hR1 := hR0.below hb1; have q0 := (hB0.below hb1).cell (j := 0) (u := .bool true) rfl; have HC := Lib.hid hC; clear hC hNv; have hs1 := hb1.size))
      | ((with_reducible refine store_bx hR1 none rfl ?_ _ _ rfl [.bool true, .slice B l.length d] ?_ ?_ ?_ ?_ ?_ ?_); (case _ => rfl); (case _ => rfl); (case _ => rfl); (case _ => exact size25'); (case _ => rfl); (case _ => simp [Value.oneCell']); intro w2 hR2 hg2))
    have hload := hR2.load (P := Tryz.prog) Tryz.underlying25 (by exact size25')
    have hb1' := below_then hW0 (by omega) hb1
    have hb2 : Below w.heap.size w w2 := hb1'.trans (grown_below hg2 (by omega) (by omega))
    refine bodyPost_ret (v := .agg ([.bool true, .slice B l.length d] : List Value).toArray) ?_ rfl ⟨_, rfl, HR.out w2 B d hld (C_int_grown HC.out hg2 hBn), hb2⟩
    simp [results, Tryz.f15, asAddr, Result.andThen, Act.put, hload]
  · (rw [Bool.true_and, decide_eq_false hp] at HR)
    go_enter Tryz.func15, Tryz.ntmps15
    go_wp2_with (first
      | (go_at_call 26; ((with_reducible refine (HN.out _ hW0).mono ?_); rintro e w1 ⟨v, rfl, hNv, hb1⟩; obtain ⟨B, d, hv, hld, hC⟩ := Kd.N_reads hNv; subst hv; have hBn : 0 < l.length → ∀ ad, B = some ad → ad.block ≠ w.heap.size + 1 := (fun h0 ad he => by obtain ⟨g, cap, h1, h2, _⟩ := Kd.N_form hNv h0; injection h1 with h1; rw [he] at h1; injection h1 with h1; rw [h1]; show g ≠ _; omega); have hR1 := hR0.below hb1; have q0 := (hB0.below hb1).cell (j := 0) (u := .bool true) rfl; have HC := Lib.hid hC; clear hC hNv; have hs1 := hb1.size))
      | ((with_reducible refine store_bx hR1 none rfl ?_ _ _ rfl [.bool false, .slice B l.length d] ?_ ?_ ?_ ?_ ?_ ?_); (case _ => rfl); (case _ => rfl); (case _ => rfl); (case _ => exact size25'); (case _ => rfl); (case _ => simp [Value.oneCell']); intro w2 hR2 hg2))
    have hload := hR2.load (P := Tryz.prog) Tryz.underlying25 (by exact size25')
    have hb1' := below_then hW0 (by omega) hb1
    have hb2 : Below w.heap.size w w2 := hb1'.trans (grown_below hg2 (by omega) (by omega))
    refine bodyPost_ret (v := .agg ([.bool false, .slice B l.length d] : List Value).toArray) ?_ rfl ⟨_, rfl, HR.out w2 B d hld (C_int_grown HC.out hg2 hBn), hb2⟩
    simp [results, Tryz.f15, asAddr, Result.andThen, Act.put, hload]
theorem sameI_eq (a b : BI) : sameI a b = (a.neg == b.neg && decide (a.l = b.l)) := rfl
set_option maxRecDepth 100000 in
set_option maxHeartbeats 2000000 in
theorem rSame2_calls (a b : BI) (ca cb : List Value) (w : World) (ha : kI.K w a ca) (hb : kI.K w b cb) :
    Calls Tryz.prog 39 #[.agg ca.toArray, .agg cb.toArray] w fun e w' => e = .returned (.bool (sameI a b)) ∧ Below w.heap.size w w' := by
  obtain ⟨A1, c1, rfl, l1, g1⟩ := kI_open ha
  obtain ⟨B1, d1, rfl, m1, j1⟩ := kI_open hb
  have HS := Lib.hid (fun (W : World) (h : Below w.heap.size w W) => rsame1_calls a.l b.l A1 B1 c1 d1 W (Kd.C_below g1 h) (Kd.C_below j1 h))
  have HR := Lib.hid (sameI_eq a b)
  obtain ⟨r, hr⟩ : ∃ r, r = sameI a b := ⟨_, rfl⟩
  rw [← hr] at HR ⊢
  obtain ⟨n1, hn1⟩ : ∃ n1, n1 = a.neg := ⟨_, rfl⟩
  obtain ⟨n2, hn2⟩ : ∃ n2, n2 = b.neg := ⟨_, rfl⟩
  rw [← hn1, ← hn2] at HR ⊢
  have hW0 : Below w.heap.size w ((w.alloc (.cells [.bool n1, .slice A1 a.l.length c1].toArray 25)).alloc (.cells [.bool n2, .slice B1 b.l.length d1].toArray 25)) := below_alloc (below_alloc (Below.refl _ _) _) _
  have hs0 : ((w.alloc (.cells [.bool n1, .slice A1 a.l.length c1].toArray 25)).alloc (.cells [.bool n2, .slice B1 b.l.length d1].toArray 25)).heap.size = w.heap.size + 2 := by simp
  obtain ⟨q, hq⟩ : ∃ q, q = decide (a.l = b.l) := ⟨_, rfl⟩
  rw [← hq] at HS HR
  clear ha hb g1 j1 hr hn1 hn2 hq
  cases n1 <;> cases n2
  all_goals
    go_enter Tryz.func39, Tryz.ntmps39
    go_wp2_with (go_at_call 51; (with_reducible refine (HS.out _ hW0).mono ?_); rintro e w1 ⟨rfl, hb1⟩; have hs1 := hb1.size)
    go_ret
  · exact ⟨by rw [HR.out]; simp, below_then hW0 (by omega) hb1⟩
  · exact ⟨by rw [HR.out]; simp, hW0⟩
  · exact ⟨by rw [HR.out]; simp, hW0⟩
  · exact ⟨by rw [HR.out]; simp, below_then hW0 (by omega) hb1⟩
end Go.Proofs.YtlcofdgaidlldaaGreatDoor
namespace Go.Proofs.YtlcofdgaidlldaaGreatDoor
open Go.RowKit Go.Shelf Go.Proofs.YtlcofdgaidlldaaGreatDoorW.PrintWords
set_option linter.unusedVariables false
set_option linter.unusedSimpArgs false
theorem normI_small (n : Int) (h : n = 1 ∨ n = 2 ∨ n = 3 ∨ n = 4 ∨ n = 5) : normI ⟨false, [n, 0]⟩ = ⟨false, [n]⟩ := by
  rcases h with rfl | rfl | rfl | rfl | rfl <;> rfl
/-- A new row of numbers leads to nothing but itself. -/
theorem N_int_fresh {k : IntKind} {e base : Nat} {ok : Nat → Prop} {w : World} {v : Value} {xs : List Int} (h : Kd.N (Kd.int k) e w base ok v xs) : Kd.N (Kd.int k) e w base (fun q => base ≤ q) v xs := by
  have hb := Kd.N_base h
  obtain ⟨_, rows, hl, hR, hf⟩ := h
  exact ⟨hb, rows, hl, hR, fun j x c hx hc W' _ => by
    have := Kd.FK_now (hf j x c hx hc)
    exact this⟩
set_option maxRecDepth 100000 in
set_option maxHeartbeats 2000000 in
theorem rNorm2F_calls (a : BI) (cs : List Value) (w : World) (hK : kI.K w a cs) (hl : a.l.length ≤ 1000000) :
    Calls Tryz.prog 15 #[.agg cs.toArray] w fun e w' => ∃ cs', e = .returned (.agg cs'.toArray) ∧ Kd.FK kI w' (fun k => w.heap.size ≤ k) (normI a) cs' ∧ Below w.heap.size w w' := by
  obtain ⟨A1, c1, rfl, l1, g1⟩ := kI_open hK
  have HN := Lib.hid (fun (W : World) (hb : Below w.heap.size w W) => rNorm1_calls a.l A1 c1 W (Kd.C_below g1 hb) l1 hl)
  have HR : Hid (∀ (W : World) (B : Option Addr) (d : Nat), (normL a.l).length ≤ d → Kd.F (Kd.int .u32) W (fun k => w.heap.size ≤ k) B (normL a.l).length (normL a.l) → Kd.FK kI W (fun k => w.heap.size ≤ k) (normI a) [.bool (a.neg && decide (0 < (normL a.l).length)), .slice B (normL a.l).length d]) := Lib.hid (fun W B d h1 h2 => kI_mkF W _ (normI a) h1 h2)
  obtain ⟨r, hr⟩ : ∃ r, r = normI a := ⟨_, rfl⟩
  obtain ⟨l, hl0⟩ : ∃ l, l = normL a.l := ⟨_, rfl⟩
  rw [← hr, ← hl0] at HR
  rw [← hr]
  rw [← hl0] at HN
  have hR0 : BX 25 ((w.alloc (.cells [.bool a.neg, .slice A1 a.l.length c1].toArray 25)).alloc (.cells zIc.toArray 25)) (w.heap.size + 1) zIc := by simpa using BX.new (t := 25) (w.alloc (.cells [.bool a.neg, .slice A1 a.l.length c1].toArray 25)) zIc
  have hB0 : BX 25 ((w.alloc (.cells [.bool a.neg, .slice A1 a.l.length c1].toArray 25)).alloc (.cells zIc.toArray 25)) w.heap.size [.bool a.neg, .slice A1 a.l.length c1] := (BX.new w _).alloc _
  have hW0 : Below w.heap.size w ((w.alloc (.cells [.bool a.neg, .slice A1 a.l.length c1].toArray 25)).alloc (.cells zIc.toArray 25)) := below_alloc (below_alloc (Below.refl _ _) _) _
  have hs0 : ((w.alloc (.cells [.bool a.neg, .slice A1 a.l.length c1].toArray 25)).alloc (.cells zIc.toArray 25)).heap.size = w.heap.size + 2 := by simp
  clear hr hK g1 hl0
  obtain ⟨ng, hng⟩ : ∃ ng, ng = a.neg := ⟨_, rfl⟩
  rw [← hng] at HR hR0 hB0 hW0 hs0 ⊢
  clear hng
  have hp : ng = false ∨ ng = true ∧ 0 < l.length ∨ ng = true ∧ ¬ 0 < l.length := by
    cases ng
    · exact .inl rfl
    · rcases Nat.lt_or_ge 0 l.length with h | h
      · exact .inr (.inl ⟨rfl, h⟩)
      · exact .inr (.inr ⟨rfl, by omega⟩)
  rcases hp with rfl | ⟨rfl, hp⟩ | ⟨rfl, hp⟩
  · skip
    go_enter Tryz.func15, Tryz.ntmps15
    go_wp2_with (first
      | (go_at_call 26; ((with_reducible refine (HN.out _ hW0).mono ?_); rintro e w1 ⟨v, rfl, hNv, hb1⟩; obtain ⟨B, d, hv, hld, _⟩ := Kd.N_reads hNv; subst hv; have hC := Kd.F_mono (ok' := fun k => w.heap.size + 2 ≤ k) (Kd.N_F (N_int_fresh hNv)) (fun k hk => by simpa using hk); have hR1 := hR0.below hb1; have q0 := (hB0.below hb1).cell (j := 0) (u := .bool false) rfl; have HC := Lib.hid hC; clear hC hNv; have hs1 := hb1.size))
      | ((with_reducible refine store_bx hR1 none rfl ?_ _ _ rfl [.bool false, .slice B l.length d] ?_ ?_ ?_ ?_ ?_ ?_); (case _ => rfl); (case _ => rfl); (case _ => rfl); (case _ => exact size25'); (case _ => rfl); (case _ => simp [Value.oneCell']); intro w2 hR2 hg2))
    have hload := hR2.load (P := Tryz.prog) Tryz.underlying25 (by exact size25')
    have hb1' := below_then hW0 (by omega) hb1
    have hb2 : Below w.heap.size w w2 := hb1'.trans (grown_below hg2 (by omega) (by omega))
    refine bodyPost_ret (v := .agg ([.bool false, .slice B l.length d] : List Value).toArray) ?_ rfl ⟨_, rfl, HR.out w2 B d hld (Kd.F_mono (Kd.F_grown HC.out hg2 (fun k hk e => by injection e; omega)) (fun k hk => by omega)), hb2⟩
    simp [results, Tryz.f15, asAddr, Result.andThen, Act.put, hload]
  · (rw [Bool.true_and, decide_eq_true hp] at HR)
    go_enter Tryz.func15, Tryz.ntmps15
    go_wp2_with (first
      | (go_at_call 26; ((with_reducible refine (HN.out _ hW0).mono ?_); rintro e w1 ⟨v, rfl, hNv, hb1⟩; obtain ⟨B, d, hv, hld, _⟩ := Kd.N_reads hNv; subst hv; have hC := Kd.F_mono (ok' := fun k => w.heap.size + 2 ≤ k) (Kd.N_F (N_int_fresh hNv)) (fun k hk => by simpa using hk); have hR1 := hR0.below hb1; have q0 := (hB0.below hb1).cell (j := 0) (u := .bool true) rfl; have HC := Lib.hid hC; clear hC hNv; have hs1 := hb1.size))
      | ((with_reducible refine store_bx hR1 none rfl ?_ _ _ rfl [.bool true, .slice B l.length d] ?_ ?_ ?_ ?_ ?_ ?_); (case _ => rfl); (case _ => rfl); (case _ => rfl); (case _ => exact size25'); (case _ => rfl); (case _ => simp [Value.oneCell']); intro w2 hR2 hg2))
    have hload := hR2.load (P := Tryz.prog) Tryz.underlying25 (by exact size25')
    have hb1' := below_then hW0 (by omega) hb1
    have hb2 : Below w.heap.size w w2 := hb1'.trans (grown_below hg2 (by omega) (by omega))
    refine bodyPost_ret (v := .agg ([.bool true, .slice B l.length d] : List Value).toArray) ?_ rfl ⟨_, rfl, HR.out w2 B d hld (Kd.F_mono (Kd.F_grown HC.out hg2 (fun k hk e => by injection e; omega)) (fun k hk => by omega)), hb2⟩
    simp [results, Tryz.f15, asAddr, Result.andThen, Act.put, hload]
  · (rw [Bool.true_and, decide_eq_false hp] at HR)
    go_enter Tryz.func15, Tryz.ntmps15
    go_wp2_with (first
      | (go_at_call 26; ((with_reducible refine (HN.out _ hW0).mono ?_); rintro e w1 ⟨v, rfl, hNv, hb1⟩; obtain ⟨B, d, hv, hld, _⟩ := Kd.N_reads hNv; subst hv; have hC := Kd.F_mono (ok' := fun k => w.heap.size + 2 ≤ k) (Kd.N_F (N_int_fresh hNv)) (fun k hk => by simpa using hk); have hR1 := hR0.below hb1; have q0 := (hB0.below hb1).cell (j := 0) (u := .bool true) rfl; have HC := Lib.hid hC; clear hC hNv; have hs1 := hb1.size))
      | ((with_reducible refine store_bx hR1 none rfl ?_ _ _ rfl [.bool false, .slice B l.length d] ?_ ?_ ?_ ?_ ?_ ?_); (case _ => rfl); (case _ => rfl); (case _ => rfl); (case _ => exact size25'); (case _ => rfl); (case _ => simp [Value.oneCell']); intro w2 hR2 hg2))
    have hload := hR2.load (P := Tryz.prog) Tryz.underlying25 (by exact size25')
    have hb1' := below_then hW0 (by omega) hb1
    have hb2 : Below w.heap.size w w2 := hb1'.trans (grown_below hg2 (by omega) (by omega))
    refine bodyPost_ret (v := .agg ([.bool false, .slice B l.length d] : List Value).toArray) ?_ rfl ⟨_, rfl, HR.out w2 B d hld (Kd.F_mono (Kd.F_grown HC.out hg2 (fun k hk e => by injection e; omega)) (fun k hk => by omega)), hb2⟩
    simp [results, Tryz.f15, asAddr, Result.andThen, Act.put, hload]
set_option maxRecDepth 100000 in
set_option maxHeartbeats 2000000 in
theorem of2_calls (n : Int) (w : World) (h : n = 1 ∨ n = 2 ∨ n = 3 ∨ n = 4 ∨ n = 5) :
    Calls Tryz.prog 9 #[.int .i64 n] w fun e w' => ∃ cs', e = .returned (.agg cs'.toArray) ∧ Kd.FK kI w' (fun k => w.heap.size ≤ k) ⟨false, [n]⟩ cs' ∧ Below w.heap.size w w' := by
  have HN := Lib.hid (fun (a : BI) (cs : List Value) (W : World) (hK : kI.K W a cs) (hl : a.l.length ≤ 1000000) => rNorm2F_calls a cs W hK hl)
  have HS := Lib.hid (normI_small n h)
  have hR0 : BX 25 ((w.alloc (.cells zIc.toArray 25)).alloc (.cells [.int .u32 n, .int .u32 0].toArray 54)) w.heap.size zIc := (BX.new (t := 25) w zIc).alloc _
  have hL0 : BX 54 ((w.alloc (.cells zIc.toArray 25)).alloc (.cells [.int .u32 n, .int .u32 0].toArray 54)) (w.heap.size + 1) [.int .u32 n, .int .u32 0] := by simpa using BX.new (t := 54) (w.alloc (.cells zIc.toArray 25)) [.int .u32 n, .int .u32 0]
  have hW0 : Below w.heap.size w ((w.alloc (.cells zIc.toArray 25)).alloc (.cells [.int .u32 n, .int .u32 0].toArray 54)) := below_alloc (below_alloc (Below.refl _ _) _) _
  have hs0 : ((w.alloc (.cells zIc.toArray 25)).alloc (.cells [.int .u32 n, .int .u32 0].toArray 54)).heap.size = w.heap.size + 2 := by simp
  have HK := Lib.hid (kI_mk _ ⟨false, [n, 0]⟩ (A1 := some ⟨w.heap.size + 1, 0, none⟩) (c1 := 2) (by simp) (Kd.F_now (LB.F (l := [n, 0]) hL0 (by simp))))
  clear hL0
  rcases h with rfl | rfl | rfl | rfl | rfl
  · go_enter Tryz.func9, Tryz.ntmps9
    go_wp2_with (first
      | (go_at_call 15; (refine (HN.out ⟨false, [1, 0]⟩ [.bool false, .slice (some ⟨w.heap.size + 1, 0, none⟩) 2 2] _ HK.out (by simp)).mono ?_); rintro e w1 ⟨cr, rfl, hK1, hb1⟩; rw [HS.out] at hK1; have hR1 := hR0.below hb1; have hs1 : w.heap.size + 2 ≤ w1.heap.size := (by simpa using hb1.size); have hK1 := Kd.FK_mono (ok' := fun k => w.heap.size + 2 ≤ k) hK1 (fun k hk => by simpa using hk); obtain ⟨A1, c1, rfl, l1, g1⟩ := kI_openF hK1; have HG := Lib.hid g1; have hl1 := Lib.hid l1; clear hK1 l1 g1)
      | ((with_reducible refine store_bx hR1 none rfl ?_ _ _ rfl [.bool false, .slice A1 1 c1] ?_ ?_ ?_ ?_ ?_ ?_); (case _ => rfl); (case _ => rfl); (case _ => rfl); (case _ => exact size25'); (case _ => rfl); (case _ => simp [Value.oneCell']); intro w2 hR2 hg2))
    have hload := hR2.load (P := Tryz.prog) Tryz.underlying25 (by exact size25')
    have hb1' := below_then hW0 (by omega) hb1
    have hb2 : Below w.heap.size w w2 := hb1'.trans (grown_below hg2 (by omega) (Nat.le_refl _))
    refine bodyPost_ret (v := .agg ([.bool false, .slice A1 1 c1] : List Value).toArray) ?_ rfl ⟨_, rfl, kI_mkF w2 _ ⟨false, [1]⟩ hl1.out (Kd.F_mono (Kd.F_grown HG.out hg2 (fun k hk e => by injection e; omega)) (fun k hk => by omega)), hb2⟩
    simp [results, Tryz.f9, asAddr, Result.andThen, Act.put, hload]
  · go_enter Tryz.func9, Tryz.ntmps9
    go_wp2_with (first
      | (go_at_call 15; (refine (HN.out ⟨false, [2, 0]⟩ [.bool false, .slice (some ⟨w.heap.size + 1, 0, none⟩) 2 2] _ HK.out (by simp)).mono ?_); rintro e w1 ⟨cr, rfl, hK1, hb1⟩; rw [HS.out] at hK1; have hR1 := hR0.below hb1; have hs1 : w.heap.size + 2 ≤ w1.heap.size := (by simpa using hb1.size); have hK1 := Kd.FK_mono (ok' := fun k => w.heap.size + 2 ≤ k) hK1 (fun k hk => by simpa using hk); obtain ⟨A1, c1, rfl, l1, g1⟩ := kI_openF hK1; have HG := Lib.hid g1; have hl1 := Lib.hid l1; clear hK1 l1 g1)
      | ((with_reducible refine store_bx hR1 none rfl ?_ _ _ rfl [.bool false, .slice A1 1 c1] ?_ ?_ ?_ ?_ ?_ ?_); (case _ => rfl); (case _ => rfl); (case _ => rfl); (case _ => exact size25'); (case _ => rfl); (case _ => simp [Value.oneCell']); intro w2 hR2 hg2))
    have hload := hR2.load (P := Tryz.prog) Tryz.underlying25 (by exact size25')
    have hb1' := below_then hW0 (by omega) hb1
    have hb2 : Below w.heap.size w w2 := hb1'.trans (grown_below hg2 (by omega) (Nat.le_refl _))
    refine bodyPost_ret (v := .agg ([.bool false, .slice A1 1 c1] : List Value).toArray) ?_ rfl ⟨_, rfl, kI_mkF w2 _ ⟨false, [2]⟩ hl1.out (Kd.F_mono (Kd.F_grown HG.out hg2 (fun k hk e => by injection e; omega)) (fun k hk => by omega)), hb2⟩
    simp [results, Tryz.f9, asAddr, Result.andThen, Act.put, hload]
  · go_enter Tryz.func9, Tryz.ntmps9
    go_wp2_with (first
      | (go_at_call 15; (refine (HN.out ⟨false, [3, 0]⟩ [.bool false, .slice (some ⟨w.heap.size + 1, 0, none⟩) 2 2] _ HK.out (by simp)).mono ?_); rintro e w1 ⟨cr, rfl, hK1, hb1⟩; rw [HS.out] at hK1; have hR1 := hR0.below hb1; have hs1 : w.heap.size + 2 ≤ w1.heap.size := (by simpa using hb1.size); have hK1 := Kd.FK_mono (ok' := fun k => w.heap.size + 2 ≤ k) hK1 (fun k hk => by simpa using hk); obtain ⟨A1, c1, rfl, l1, g1⟩ := kI_openF hK1; have HG := Lib.hid g1; have hl1 := Lib.hid l1; clear hK1 l1 g1)
      | ((with_reducible refine store_bx hR1 none rfl ?_ _ _ rfl [.bool false, .slice A1 1 c1] ?_ ?_ ?_ ?_ ?_ ?_); (case _ => rfl); (case _ => rfl); (case _ => rfl); (case _ => exact size25'); (case _ => rfl); (case _ => simp [Value.oneCell']); intro w2 hR2 hg2))
    have hload := hR2.load (P := Tryz.prog) Tryz.underlying25 (by exact size25')
    have hb1' := below_then hW0 (by omega) hb1
    have hb2 : Below w.heap.size w w2 := hb1'.trans (grown_below hg2 (by omega) (Nat.le_refl _))
    refine bodyPost_ret (v := .agg ([.bool false, .slice A1 1 c1] : List Value).toArray) ?_ rfl ⟨_, rfl, kI_mkF w2 _ ⟨false, [3]⟩ hl1.out (Kd.F_mono (Kd.F_grown HG.out hg2 (fun k hk e => by injection e; omega)) (fun k hk => by omega)), hb2⟩
    simp [results, Tryz.f9, asAddr, Result.andThen, Act.put, hload]
  · go_enter Tryz.func9, Tryz.ntmps9
    go_wp2_with (first
      | (go_at_call 15; (refine (HN.out ⟨false, [4, 0]⟩ [.bool false, .slice (some ⟨w.heap.size + 1, 0, none⟩) 2 2] _ HK.out (by simp)).mono ?_); rintro e w1 ⟨cr, rfl, hK1, hb1⟩; rw [HS.out] at hK1; have hR1 := hR0.below hb1; have hs1 : w.heap.size + 2 ≤ w1.heap.size := (by simpa using hb1.size); have hK1 := Kd.FK_mono (ok' := fun k => w.heap.size + 2 ≤ k) hK1 (fun k hk => by simpa using hk); obtain ⟨A1, c1, rfl, l1, g1⟩ := kI_openF hK1; have HG := Lib.hid g1; have hl1 := Lib.hid l1; clear hK1 l1 g1)
      | ((with_reducible refine store_bx hR1 none rfl ?_ _ _ rfl [.bool false, .slice A1 1 c1] ?_ ?_ ?_ ?_ ?_ ?_); (case _ => rfl); (case _ => rfl); (case _ => rfl); (case _ => exact size25'); (case _ => rfl); (case _ => simp [Value.oneCell']); intro w2 hR2 hg2))
    have hload := hR2.load (P := Tryz.prog) Tryz.underlying25 (by exact size25')
    have hb1' := below_then hW0 (by omega) hb1
    have hb2 : Below w.heap.size w w2 := hb1'.trans (grown_below hg2 (by omega) (Nat.le_refl _))
    refine bodyPost_ret (v := .agg ([.bool false, .slice A1 1 c1] : List Value).toArray) ?_ rfl ⟨_, rfl, kI_mkF w2 _ ⟨false, [4]⟩ hl1.out (Kd.F_mono (Kd.F_grown HG.out hg2 (fun k hk e => by injection e; omega)) (fun k hk => by omega)), hb2⟩
    simp [results, Tryz.f9, asAddr, Result.andThen, Act.put, hload]
  · go_enter Tryz.func9, Tryz.ntmps9
    go_wp2_with (first
      | (go_at_call 15; (refine (HN.out ⟨false, [5, 0]⟩ [.bool false, .slice (some ⟨w.heap.size + 1, 0, none⟩) 2 2] _ HK.out (by simp)).mono ?_); rintro e w1 ⟨cr, rfl, hK1, hb1⟩; rw [HS.out] at hK1; have hR1 := hR0.below hb1; have hs1 : w.heap.size + 2 ≤ w1.heap.size := (by simpa using hb1.size); have hK1 := Kd.FK_mono (ok' := fun k => w.heap.size + 2 ≤ k) hK1 (fun k hk => by simpa using hk); obtain ⟨A1, c1, rfl, l1, g1⟩ := kI_openF hK1; have HG := Lib.hid g1; have hl1 := Lib.hid l1; clear hK1 l1 g1)
      | ((with_reducible refine store_bx hR1 none rfl ?_ _ _ rfl [.bool false, .slice A1 1 c1] ?_ ?_ ?_ ?_ ?_ ?_); (case _ => rfl); (case _ => rfl); (case _ => rfl); (case _ => exact size25'); (case _ => rfl); (case _ => simp [Value.oneCell']); intro w2 hR2 hg2))
    have hload := hR2.load (P := Tryz.prog) Tryz.underlying25 (by exact size25')
    have hb1' := below_then hW0 (by omega) hb1
    have hb2 : Below w.heap.size w w2 := hb1'.trans (grown_below hg2 (by omega) (Nat.le_refl _))
    refine bodyPost_ret (v := .agg ([.bool false, .slice A1 1 c1] : List Value).toArray) ?_ rfl ⟨_, rfl, kI_mkF w2 _ ⟨false, [5]⟩ hl1.out (Kd.F_mono (Kd.F_grown HG.out hg2 (fun k hk e => by injection e; omega)) (fun k hk => by omega)), hb2⟩
    simp [results, Tryz.f9, asAddr, Result.andThen, Act.put, hload]
end Go.Proofs.YtlcofdgaidlldaaGreatDoor
namespace Go.Proofs.YtlcofdgaidlldaaGreatDoor
open Go.RowKit Go.Shelf Go.Proofs.YtlcofdgaidlldaaGreatDoorW.PrintWords
set_option linter.unusedVariables false
mutual
/-- The same datum, as written. -/
def sameD : Dt → Dt → Bool
  | ⟨k, i, b, s, it, tl⟩, y => k == y.kind && sameI (normI i) (normI y.i) && b == y.b && s.toList == y.s.toList && decide (it.length = y.items.length) && decide (tl.length = y.tail.length) && sameDs it y.items && sameDs tl y.tail
def sameDs : List Dt → List Dt → Bool
  | [], _ => true
  | x :: xs, ys => (match ys with
    | [] => true
    | y :: ys => sameD x y && sameDs xs ys)
end
mutual
/-- No number of more than a million limbs. -/
def slimD : Dt → Bool
  | ⟨_, i, _, _, it, tl⟩ => decide (i.l.length ≤ 1000000) && slimDs it && slimDs tl
def slimDs : List Dt → Bool
  | [] => true
  | x :: xs => slimD x && slimDs xs
end
theorem sameD_eq (x y : Dt) : sameD x y = (x.kind == y.kind && sameI (normI x.i) (normI y.i) && x.b == y.b && x.s.toList == y.s.toList && decide (x.items.length = y.items.length) && decide (x.tail.length = y.tail.length) && sameDs x.items y.items && sameDs x.tail y.tail) := by
  cases x; rw [sameD]
theorem slimD_eq (x : Dt) : slimD x = (decide (x.i.l.length ≤ 1000000) && slimDs x.items && slimDs x.tail) := by
  cases x; rw [slimD]
theorem rdD_cons (x : Dt) (xs : List Dt) (k : Nat) : rdD (x :: xs) ((k + 1 : Nat) : Int) = rdD xs (k : Nat) := by
  simp [rdD]
theorem slimDs_at : ∀ (l : List Dt) (k : Nat), slimDs l = true → k < l.length → slimD (rdD l (k : Nat)) = true
  | [], k, _, hk => by simp at hk
  | x :: xs, 0, h, _ => by rw [slimDs, Bool.and_eq_true] at h; exact h.1
  | x :: xs, k + 1, h, hk => by
    rw [slimDs, Bool.and_eq_true] at h
    rw [rdD_cons]
    exact slimDs_at xs k h.2 (by simpa using hk)
theorem sameDs_no : ∀ (xs ys : List Dt) (k : Nat), k < xs.length → k < ys.length → sameD (rdD xs (k : Nat)) (rdD ys (k : Nat)) = false → sameDs xs ys = false
  | [], _, k, h, _, _ => by simp at h
  | x :: xs, [], k, _, h, _ => by simp at h
  | x :: xs, y :: ys, 0, _, _, h => by
    rw [sameDs]; change (sameD x y && sameDs xs ys) = false
    rw [show sameD x y = false from h]; rfl
  | x :: xs, y :: ys, k + 1, h1, h2, h => by
    rw [sameDs]; change (sameD x y && sameDs xs ys) = false
    rw [rdD_cons, rdD_cons] at h
    rw [sameDs_no xs ys k (by simpa using h1) (by simpa using h2) h, Bool.and_false]
theorem sameDs_yes : ∀ (xs ys : List Dt), xs.length = ys.length → (∀ k : Nat, k < xs.length → sameD (rdD xs (k : Nat)) (rdD ys (k : Nat)) = true) → sameDs xs ys = true
  | [], _, _, _ => by rw [sameDs]
  | x :: xs, [], h, _ => by simp at h
  | x :: xs, y :: ys, h, hk => by
    rw [sameDs]; change (sameD x y && sameDs xs ys) = true
    rw [Bool.and_eq_true]
    refine ⟨hk 0 (by simp), sameDs_yes xs ys (by simpa using h) (fun k hk' => ?_)⟩
    have := hk (k + 1) (by simpa using hk')
    rwa [rdD_cons, rdD_cons] at this
mutual
theorem sameD_refl : ∀ x : Dt, sameD x x = true
  | ⟨k, i, b, s, it, tl⟩ => by
    rw [sameD, sameDs_refl it, sameDs_refl tl]
    simp [sameI]
theorem sameDs_refl : ∀ l : List Dt, sameDs l l = true
  | [] => by rw [sameDs]
  | x :: xs => by
    rw [sameDs]; change (sameD x x && sameDs xs xs) = true
    rw [sameD_refl x, sameDs_refl xs]; rfl
end
end Go.Proofs.YtlcofdgaidlldaaGreatDoor
namespace Go.Proofs.YtlcofdgaidlldaaGreatDoor
open Go.RowKit Go.Shelf Go.Proofs.YtlcofdgaidlldaaGreatDoorW.PrintWords
set_option linter.unusedVariables false
mutual
/-- The same expression, as written; f: may the data be held against each other? -/
def sameX (f : Dt → Bool) : Ex → Ex → Bool
  | ⟨k, d, v, vs, rs, p, ks⟩, y => k == y.kind && v == y.v && decide (vs = y.vars) && rs == y.rest && p == y.p && decide (ks.length = y.kids.length) && f d && f y.d && sameD d y.d && sameXs f ks y.kids
def sameXs (f : Dt → Bool) : List Ex → List Ex → Bool
  | [], _ => true
  | x :: xs, ys => (match ys with
    | [] => true
    | y :: ys => sameX f x y && sameXs f xs ys)
end
theorem sameX_eq (f : Dt → Bool) (x y : Ex) : sameX f x y = (x.kind == y.kind && x.v == y.v && decide (x.vars = y.vars) && x.rest == y.rest && x.p == y.p && decide (x.kids.length = y.kids.length) && f x.d && f y.d && sameD x.d y.d && sameXs f x.kids y.kids) := by
  cases x; rw [sameX]
theorem rdE_cons (x : Ex) (xs : List Ex) (k : Nat) : rdE (x :: xs) ((k + 1 : Nat) : Int) = rdE xs (k : Nat) := by
  simp [rdE]
theorem sameXs_no (f : Dt → Bool) : ∀ (xs ys : List Ex) (k : Nat), k < xs.length → k < ys.length → sameX f (rdE xs (k : Nat)) (rdE ys (k : Nat)) = false → sameXs f xs ys = false
  | [], _, k, h, _, _ => by simp at h
  | x :: xs, [], k, _, h, _ => by simp at h
  | x :: xs, y :: ys, 0, _, _, h => by
    rw [sameXs]; change (sameX f x y && sameXs f xs ys) = false
    rw [show sameX f x y = false from h]; rfl
  | x :: xs, y :: ys, k + 1, h1, h2, h => by
    rw [sameXs]; change (sameX f x y && sameXs f xs ys) = false
    rw [rdE_cons, rdE_cons] at h
    rw [sameXs_no f xs ys k (by simpa using h1) (by simpa using h2) h, Bool.and_false]
theorem sameXs_yes (f : Dt → Bool) : ∀ (xs ys : List Ex), xs.length = ys.length → (∀ k : Nat, k < xs.length → sameX f (rdE xs (k : Nat)) (rdE ys (k : Nat)) = true) → sameXs f xs ys = true
  | [], _, _, _ => by rw [sameXs]
  | x :: xs, [], h, _ => by simp at h
  | x :: xs, y :: ys, h, hk => by
    rw [sameXs]; change (sameX f x y && sameXs f xs ys) = true
    rw [Bool.and_eq_true]
    refine ⟨hk 0 (by simp), sameXs_yes f xs ys (by simpa using h) (fun k hk' => ?_)⟩
    have := hk (k + 1) (by simpa using hk')
    rwa [rdE_cons, rdE_cons] at this
mutual
/-- Are all data within such as f lets in? -/
def allD (f : Dt → Bool) : Ex → Bool
  | ⟨_, d, _, _, _, _, ks⟩ => f d && allDs f ks
def allDs (f : Dt → Bool) : List Ex → Bool
  | [] => true
  | x :: xs => allD f x && allDs f xs
end
theorem allD_eq (f : Dt → Bool) (x : Ex) : allD f x = (f x.d && allDs f x.kids) := by cases x; rw [allD]
theorem allDs_at (f : Dt → Bool) : ∀ (l : List Ex) (k : Nat), allDs f l = true → k < l.length → allD f (rdE l (k : Nat)) = true
  | [], k, _, hk => by simp at hk
  | x :: xs, 0, h, _ => by rw [allDs, Bool.and_eq_true] at h; exact h.1
  | x :: xs, k + 1, h, hk => by
    rw [allDs, Bool.and_eq_true] at h
    rw [rdE_cons]
    exact allDs_at f xs k h.2 (by simpa using hk)
mutual
theorem sameX_refl (f : Dt → Bool) : ∀ x : Ex, allD f x = true → sameX f x x = true
  | ⟨k, d, v, vs, rs, p, ks⟩, h => by
    rw [allD, Bool.and_eq_true] at h
    rw [sameX, sameXs_refl f ks h.2, sameD_refl d, h.1]
    simp
theorem sameXs_refl (f : Dt → Bool) : ∀ l : List Ex, allDs f l = true → sameXs f l l = true
  | [], _ => by rw [sameXs]
  | x :: xs, h => by
    rw [allDs, Bool.and_eq_true] at h
    rw [sameXs]; change (sameX f x x && sameXs f xs xs) = true
    rw [sameX_refl f x h.1, sameXs_refl f xs h.2]; rfl
end
end Go.Proofs.YtlcofdgaidlldaaGreatDoor
