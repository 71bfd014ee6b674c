/- The package-level tables as they are laid, and the contracts of expand.Name, expand.Prim, core.Arity. The walk's condition: the world holds the tables (Laid). Contracts of datum: within, Good and what they lean on. Contracts of datum: good, Good and what they lean on. Contracts: slices.Concat of a datum's Items and Tail; datum.parts. Contracts: whole.Good; datum.good, Good. Contracts: datum.blank. -/
import Derived.Test.YtlcofdgaidlldaaGreatDoorZb
import Derived.Test.YtlcofdgaidlldaaGreatDoorZc
namespace Go.Proofs.YtlcofdgaidlldaaGreatDoor
open Go.RowKit Go.Proofs.YtlcofdgaidlldaaGreatDoorW.PrintWords
set_option linter.unusedVariables false
set_option linter.unusedSimpArgs false
def namesT : List ByteArray := [⟨#[]⟩, ⟨#[43]⟩, ⟨#[45]⟩, ⟨#[42]⟩, ⟨#[113, 117, 111, 116, 105, 101, 110, 116]⟩, ⟨#[114, 101, 109, 97, 105, 110, 100, 101, 114]⟩, ⟨#[109, 111, 100, 117, 108, 111]⟩, ⟨#[61]⟩, ⟨#[60]⟩, ⟨#[99, 111, 110, 115]⟩, ⟨#[99, 97, 114]⟩, ⟨#[99, 100, 114]⟩, ⟨#[115, 101, 116, 45, 99, 97, 114, 33]⟩, ⟨#[115, 101, 116, 45, 99, 100, 114, 33]⟩, ⟨#[110, 117, 108, 108, 63]⟩, ⟨#[112, 97, 105, 114, 63]⟩, ⟨#[105, 110, 116, 101, 103, 101, 114, 63]⟩, ⟨#[115, 121, 109, 98, 111, 108, 63]⟩, ⟨#[115, 116, 114, 105, 110, 103, 63]⟩, ⟨#[98, 111, 111, 108, 101, 97, 110, 63]⟩, ⟨#[112, 114, 111, 99, 101, 100, 117, 114, 101, 63]⟩, ⟨#[101, 113, 63]⟩, ⟨#[110, 111, 116]⟩, ⟨#[115, 116, 114, 105, 110, 103, 45, 108, 101, 110, 103, 116, 104]⟩, ⟨#[115, 116, 114, 105, 110, 103, 45, 97, 112, 112, 101, 110, 100]⟩, ⟨#[115, 116, 114, 105, 110, 103, 61, 63]⟩, ⟨#[115, 121, 109, 98, 111, 108, 45, 62, 115, 116, 114, 105, 110, 103]⟩, ⟨#[110, 117, 109, 98, 101, 114, 45, 62, 115, 116, 114, 105, 110, 103]⟩, ⟨#[119, 114, 105, 116, 101]⟩, ⟨#[100, 105, 115, 112, 108, 97, 121]⟩, ⟨#[110, 101, 119, 108, 105, 110, 101]⟩, ⟨#[114, 101, 97, 100, 45, 98, 121, 116, 101]⟩, ⟨#[114, 97, 105, 115, 101]⟩, ⟨#[99, 97, 108, 108, 47, 99, 99]⟩, ⟨#[97, 112, 112, 108, 121]⟩, ⟨#[98, 111, 120]⟩, ⟨#[117, 110, 98, 111, 120]⟩, ⟨#[115, 101, 116, 45, 98, 111, 120, 33]⟩, ⟨#[118, 111, 105, 100]⟩]
def aritT : List Int := [0, 2, 2, 2, 2, 2, 2, 2, 2, 2, 1, 1, 2, 2, 1, 1, 1, 1, 1, 1, 1, 2, 1, 1, 2, 2, 1, 1, 1, 1, 0, 0, 1, 1, 2, 1, 1, 2, 0]
/-- The tables lie as the program's own initialisers lay them. -/
structure Laid (w : World) : Prop where
  names : ∀ j u, (namesT.map Value.string)[j]? = some u → w.cell? ((⟨1, 0, none⟩ : Addr).add j) = some u
  arit : ∀ j u, (aritT.map (Value.int .i64))[j]? = some u → w.cell? ((⟨2, 0, none⟩ : Addr).add j) = some u
  impure : ∀ j u, (([24, 26, 27] : List Int).map (Value.int .i64))[j]? = some u → w.cell? ((⟨0, 0, none⟩ : Addr).add j) = some u
theorem Laid.below {w w1 : World} (h : Laid w) (hb : Below w.heap.size w w1) : Laid w1 :=
  ⟨fun j u hj => pw_cell_below hb (h.names j u hj), fun j u hj => pw_cell_below hb (h.arit j u hj), fun j u hj => pw_cell_below hb (h.impure j u hj)⟩
theorem Laid.name {w : World} (h : Laid w) {j : Nat} (hj : j < 39) : w.cell? ⟨1, j, none⟩ = some (.string (namesT.getD j ⟨#[]⟩)) := by
  have := h.names j (.string (namesT.getD j ⟨#[]⟩)) (by rw [List.getElem?_map, List.getD_eq_getElem?_getD, List.getElem?_eq_getElem (show j < namesT.length from hj)]; rfl)
  rwa [add_plain] at this
theorem Laid.ar {w : World} (h : Laid w) {j : Nat} (hj : j < 39) : w.cell? ⟨2, j, none⟩ = some (.int .i64 (aritT.getD j 0)) := by
  have := h.arit j (.int .i64 (aritT.getD j 0)) (by rw [List.getElem?_map, List.getD_eq_getElem?_getD, List.getElem?_eq_getElem (show j < aritT.length from hj)]; rfl)
  rwa [add_plain] at this
theorem namesT_full : ∀ j : Fin 39, 0 < j.1 → (namesT.getD j.1 ⟨#[]⟩).toList.isEmpty = false := by decide +kernel
theorem namesT_apart : ∀ j k : Fin 39, (namesT.getD j.1 ⟨#[]⟩).toList = (namesT.getD k.1 ⟨#[]⟩).toList → j = k := by decide +kernel
def arityF (p : Int) : Int := if 1 ≤ p ∧ p ≤ 38 then aritT.getD p.toNat 0 else -1
set_option maxHeartbeats 400000 in
theorem Name_calls (p : Int) (w : World) (hL : Laid w) : Calls Tryz.prog 102 #[.int .i64 p] w fun e w' => e = .returned (.string (if 1 ≤ p ∧ p ≤ 38 then namesT.getD p.toNat ⟨#[]⟩ else ⟨#[]⟩)) ∧ w = w' := by
  by_cases h1 : p < 1
  · have HN := Lib.hid (show (if 1 ≤ p ∧ p ≤ 38 then namesT.getD p.toNat ⟨#[]⟩ else ⟨#[]⟩) = (⟨#[]⟩ : ByteArray) from if_neg (by omega))
    rw [HN.out]
    go_enter Tryz.func102, Tryz.ntmps102
    go_wp2
    go_ret
    exact ⟨rfl, rfl⟩
  by_cases h2 : 39 ≤ p
  · have HN := Lib.hid (show (if 1 ≤ p ∧ p ≤ 38 then namesT.getD p.toNat ⟨#[]⟩ else ⟨#[]⟩) = (⟨#[]⟩ : ByteArray) from if_neg (by omega))
    rw [HN.out]
    go_enter Tryz.func102, Tryz.ntmps102
    go_wp2
    go_ret
    exact ⟨rfl, rfl⟩
  obtain ⟨k, rfl⟩ := Int.eq_ofNat_of_zero_le (show 0 ≤ p by omega)
  have HN := Lib.hid (show (if 1 ≤ (k : Int) ∧ (k : Int) ≤ 38 then namesT.getD (k : Int).toNat ⟨#[]⟩ else ⟨#[]⟩) = namesT.getD k ⟨#[]⟩ by rw [if_pos (by omega), Int.toNat_natCast])
  rw [HN.out]
  have hc := hL.name (j := k) (by omega)
  obtain ⟨s, hs⟩ : ∃ s, s = namesT.getD k ⟨#[]⟩ := ⟨_, rfl⟩
  rw [← hs] at hc ⊢
  clear hs HN hL
  go_enter Tryz.func102, Tryz.ntmps102
  go_wp2
  go_ret
  exact ⟨rfl, rfl⟩
section
variable {P : Program} {ops : Array Oper} {rest : List Oper} {o : Oper} {a : Act} {w : World} {Q : Exit → Act → World → Prop}
theorem run_index_one (w : World) (t e : TypeId) (n : Nat) (cs : List Value) (k : IntKind) (i : Nat) (d : TypeDesc) (hu : P.underlying t = some (.array n e)) (he : P.underlying e = some d) (hd : (match d with | .struct _ | .array _ _ => true | _ => false) = false) (hi : (P.info? e).map (·.size) = some 1) (hlt : i < n) (v : Value) (hv : cs[i]? = some v) :
    (Instr.index t (.agg cs.toArray) (.int k (i : Int))).run P w = .ok v w := by
  cases hq : P.info? e with
  | none => simp [hq] at hi
  | some inf =>
    have hs : inf.size = 1 := by simpa [hq] using hi
    have hagg : (isAgg e).run P w = .ok false w := by
      unfold isAgg
      rw [Sem.run_bind, run_underlying he w]
      cases d <;> simp_all
    have h0 : (0 : Int) ≤ (i : Int) ∧ (i : Int) < n := by omega
    simp [Instr.index, asIntOf, run_underlying hu w, h0.2, sizeOf, typeInfo, hq, hs, part, hagg, hv, Sem.run_bind]
    intro hh; omega
/-- An array's element by value. -/
theorem index_list (N : Tmp) (hN : o.dst = some N) (hgd : o.guard = none) (t : TypeId) (x y : Operand) (ho : o.op = .index t x y) (e : TypeId) (n : Nat) (cs : List Value) (k : IntKind) (i : Nat) (d : TypeDesc)
    (hx : a.eval x = .agg cs.toArray) (hy : a.eval y = .int k (i : Int)) (hu : P.underlying t = some (.array n e)) (he : P.underlying e = some d) (hd : (match d with | .struct _ | .array _ _ => true | _ => false) = false) (hi : (P.info? e).map (·.size) = some 1) (hlt : i < n) (v : Value) (hv : cs[i]? = some v)
    (h : wpList P ops Q rest (a.put (some N) v) w) : wpList P ops Q (o :: rest) a w :=
  wpList_plain hgd fun K hK => by
    unfold Oper.wp execOp
    simp only [ho, hx, hy, Sem.run_bind, run_index_one w t e n cs k i d hu he hd hi hlt v hv, Result.andThen_ok]
    rw [← hN] at h
    exact hK _ _ h
end
theorem size9' : (Tryz.prog.info? 9).map (·.size) = some 1 := by kernel_rfl
theorem sizeNT : (Tryz.prog.info? 147).map (·.size) = some 39 := by kernel_rfl
set_option maxRecDepth 100000 in
set_option maxHeartbeats 1000000 in
theorem Prim_calls (p : Nat) (w : World) (hL : Laid w) (h1 : 1 ≤ p) (h2 : p ≤ 38) : Calls Tryz.prog 103 #[.string (namesT.getD p ⟨#[]⟩)] w fun e w' => e = .returned (.tuple #[.int .i64 p, .int .i64 (aritT.getD p 0), .bool true]) ∧ Below w.heap.size w w' := by
  obtain ⟨s, hs⟩ : ∃ s, s = namesT.getD p ⟨#[]⟩ := ⟨_, rfl⟩
  obtain ⟨ar, har⟩ : ∃ ar, ar = aritT.getD p 0 := ⟨_, rfl⟩
  have hca := hL.ar (j := p) (by omega)
  rw [← har] at hca ⊢
  rw [← hs]
  have HS := Lib.hid hs
  obtain ⟨NS, hNS⟩ : ∃ NS, NS = namesT.map Value.string := ⟨_, rfl⟩
  have HN := Lib.hid (hNS ▸ hL.names)
  have HNS := Lib.hid hNS
  have HLEN := Lib.hid (show NS.length = 39 by rw [hNS]; rfl)
  clear hs har hL hNS
  go_enter Tryz.func103, Tryz.ntmps103
  go_wp2_with ((with_reducible refine load_list 7 rfl ?_ 147 _ rfl ⟨1, 0, none⟩ ?_ NS _ HN.out Tryz.underlying147 ?_ ?_ ?_); (case _ => rfl); (case _ => rfl); (case _ => rfl); (case _ => rw [HLEN.out]; exact sizeNT))
  go_loop [8] (fun v8 => ∃ k : Nat, k ≤ p ∧ v8 = .int .i64 k) (fun v8 => 40 - (intOf v8).toNat)
  case atStart => exact ⟨0, Nat.zero_le _, rfl⟩
  case round =>
    obtain ⟨k, hk, rfl⟩ := hrel
    obtain ⟨sk, hsk⟩ : ∃ sk, sk = namesT.getD k ⟨#[]⟩ := ⟨_, rfl⟩
    have HV := Lib.hid (show NS[k]? = some (.string sk) by rw [HNS.out, hsk, List.getElem?_map, List.getD_eq_getElem?_getD, List.getElem?_eq_getElem (show k < namesT.length from (by omega : k < 39))]; rfl)
    by_cases hkp : k = p
    · subst hkp
      have he : (sk.toList == s.toList) = true := by rw [HS.out, hsk]; simp
      clear hsk
      have hq : (0 : Int) < (k : Int) := by omega
      go_wp2_with ((with_reducible refine gate_dst (N := 11) rfl ?_); refine index_list 11 rfl rfl 147 _ _ rfl 9 39 NS .i64 k _ ?_ ?_ Tryz.underlying147 Tryz.underlying9 rfl size9' (by omega) (.string sk) HV.out ?_; (case _ => rfl); (case _ => rfl))
      go_quiet (fail)
      go_wp2
      go_ret3
      exact ⟨rfl, pw_below_drewN (Below.refl _ _) _⟩
    · have he : (sk.toList == s.toList) = false := by
        rw [beq_eq_false_iff_ne, HS.out, hsk]
        intro h
        have := namesT_apart ⟨k, by omega⟩ ⟨p, by omega⟩ h
        exact hkp (by simpa using this)
      clear hsk
      by_cases hk0 : 0 < k
      · go_wp2_with ((with_reducible refine gate_dst (N := 11) rfl ?_); refine index_list 11 rfl rfl 147 _ _ rfl 9 39 NS .i64 k _ ?_ ?_ Tryz.underlying147 Tryz.underlying9 rfl size9' (by omega) (.string sk) HV.out ?_; (case _ => rfl); (case _ => rfl))
        go_round
        case rel => exact ⟨k + 1, by omega, by go_num⟩
        case measure => simp [intOf]; omega
      · obtain rfl : k = 0 := by omega
        go_wp2_with ((with_reducible refine gate_dst (N := 11) rfl ?_); refine index_list 11 rfl rfl 147 _ _ rfl 9 39 NS .i64 0 _ ?_ ?_ Tryz.underlying147 Tryz.underlying9 rfl size9' (by omega) (.string sk) HV.out ?_; (case _ => rfl); (case _ => rfl))
        go_round
        case rel => exact ⟨1, by omega, by go_num⟩
        case measure => simp [intOf]
theorem namesT_isEmpty {p : Nat} (h1 : 1 ≤ p) (h2 : p ≤ 38) : (namesT.getD p ⟨#[]⟩).toList.isEmpty = false := namesT_full ⟨p, by omega⟩ h1
set_option maxHeartbeats 400000 in
theorem Arity_calls (p : Int) (w : World) (hL : Laid w) : Calls Tryz.prog 70 #[.int .i64 p] w fun e w' => e = .returned (.int .i64 (arityF p)) ∧ Below w.heap.size w w' := by
  have HN := Lib.hid (Name_calls p w hL)
  have HR := Lib.hid (show arityF p = if 1 ≤ p ∧ p ≤ 38 then aritT.getD p.toNat 0 else -1 from rfl)
  by_cases hp : 1 ≤ p ∧ p ≤ 38
  · have HP := Lib.hid (Prim_calls p.toNat w hL (by omega) (by omega))
    have he := namesT_isEmpty (p := p.toNat) (by omega) (by omega)
    have HN2 := Lib.hid (show Calls Tryz.prog 102 #[.int .i64 p] w fun e w' => e = .returned (.string (namesT.getD p.toNat ⟨#[]⟩)) ∧ w = w' by rw [if_pos hp] at HN; exact HN.out)
    obtain ⟨s, hs⟩ : ∃ s, s = namesT.getD p.toNat ⟨#[]⟩ := ⟨_, rfl⟩
    rw [← hs] at HP HN2 he
    have HR2 := Lib.hid (HR.out.trans (if_pos hp))
    clear hs hL hp
    go_enter Tryz.func70, Tryz.ntmps70
    go_wp2_with (first
      | (go_at_call 102; refine HN2.out.mono ?_; rintro e w' ⟨rfl, rfl⟩)
      | (go_at_call 103; refine HP.out.mono ?_; rintro e w1 ⟨rfl, hb1⟩))
    go_ret
    exact ⟨retI (by rw [HR2.out, List.getD_eq_getElem?_getD]), hb1⟩
  · have HN2 := Lib.hid (show Calls Tryz.prog 102 #[.int .i64 p] w fun e w' => e = .returned (.string ⟨#[]⟩) ∧ w = w' by rw [if_neg hp] at HN; exact HN.out)
    have HR2 := Lib.hid (HR.out.trans (if_neg hp))
    clear hp
    go_enter Tryz.func70, Tryz.ntmps70
    go_wp2_with (go_at_call 102; refine HN2.out.mono ?_; rintro e w' ⟨rfl, rfl⟩)
    go_ret
    exact ⟨retI (by rw [HR2.out]), Below.refl _ _⟩
end Go.Proofs.YtlcofdgaidlldaaGreatDoor
namespace Go.Proofs.YtlcofdgaidlldaaGreatDoor
open Go.RowKit Go.Proofs.YtlcofdgaidlldaaGreatDoorW.PrintWords
set_option linter.unusedVariables false
set_option linter.unusedSimpArgs false
set_option maxHeartbeats 1000000 in
theorem dwithin_calls (n : Nat) : ∀ (x : Dt) (cs : List Value) (left deep : Int) (w : World), x.big < n → kD.K w x cs → 0 ≤ left → left ≤ 1000000 → 0 ≤ deep → deep ≤ 1000000 →
    Calls Tryz.prog 67 #[.agg cs.toArray, .int .i64 left, .int .i64 deep] w fun e w' => e = .returned (.int .i64 (x.within left deep)) ∧ Below w.heap.size w w' := by
  induction n with
  | zero => intro x cs left deep w h; omega
  | succ n ih =>
  intro x cs left deep w hn hx h0 h1 h2 h3
  obtain ⟨A2, c2, A5, c5, A6, c6, rfl, l2, g2, l5, g5, l6, g6⟩ := kD_open hx
  have G5 := Lib.hid g5
  have G6 := Lib.hid g6
  have hm5 := Kd.C_max g5
  have hm6 := Kd.C_max g6
  have IH := Lib.hid ih
  clear hx g2 g5 g6 ih
  have HR := Lib.hid (Dt.within_LL x left deep)
  by_cases hl : left - 1 < 0
  · go_enter Tryz.func67, Tryz.ntmps67
    go_wp2
    go_ret
    exact ⟨retI (by rw [HR.out, if_pos (.inl hl)]), by exact below_alloc (Below.refl _ _) _⟩
  by_cases hd : deep < 1
  · go_enter Tryz.func67, Tryz.ntmps67
    go_wp2
    go_ret
    exact ⟨retI (by rw [HR.out, if_pos (.inr hd)]), by exact below_alloc (Below.refl _ _) _⟩
  have HR2 := Lib.hid (HR.out.trans (if_neg (by omega)))
  have i0 : ∀ w, (Instr.index 85 (.agg #[.slice A5 x.items.length c5, .slice A6 x.tail.length c6]) (.int .i64 0)).run Tryz.prog w = .ok (.slice A5 x.items.length c5) w := fun _ => by kernel_rfl
  have i1 : ∀ w, (Instr.index 85 (.agg #[.slice A5 x.items.length c5, .slice A6 x.tail.length c6]) (.int .i64 1)).run Tryz.prog w = .ok (.slice A6 x.tail.length c6) w := fun _ => by kernel_rfl
  go_enter Tryz.func67, Tryz.ntmps67
  go_wp2
  go_loopw [1, 23] (fun v1 v23 wr => ∃ (j m : Int), 0 ≤ j ∧ j ≤ 2 ∧ v23 = .int .i64 j ∧ v1 = .int .i64 m ∧ 0 ≤ m ∧ m ≤ 1000000 ∧ Hid (x.within left deep = Dt.withinLL ([x.items, x.tail].drop j.toNat) m (deep - 1)) ∧ Below w.heap.size w wr)
    (fun _ v23 _ => 2 - (intOf v23).toNat)
  case atStart => exact ⟨0, left - 1, by omega, by omega, rfl, rfl, by omega, by omega, HR2, below_alloc (Below.refl _ _) _⟩
  case round =>
    obtain ⟨j, m, hj0, hj, rfl, rfl, hm0, hm1, HE, hb⟩ := hrel
    rcases (show j = 0 ∨ j = 1 ∨ j = 2 by omega) with rfl | rfl | rfl
    · go_wp2
      go_loopw [1, 28] (fun v1 v28 wx => ∃ (k : Nat) (m' : Int), k ≤ x.items.length ∧ v28 = .int .i64 k ∧ v1 = .int .i64 m' ∧ 0 ≤ m' ∧ m' ≤ 1000000 ∧ Hid (x.within left deep = if Dt.withinL (x.items.drop k) m' (deep - 1) < 0 then -1 else Dt.withinLL [x.tail] (Dt.withinL (x.items.drop k) m' (deep - 1)) (deep - 1)) ∧ Below w.heap.size w wx)
        (fun _ v28 _ => x.items.length - (intOf v28).toNat)
      case atStart => exact ⟨0, m, Nat.zero_le _, rfl, rfl, hm0, hm1, Lib.hid (by rw [HE.out]; rfl), hb⟩
      case round =>
        obtain ⟨k, m', hk, rfl, rfl, hn0, hn1, HF, hbx⟩ := hrel
        by_cases hlt : k < x.items.length
        · obtain ⟨ad, c, hA, hK, hcc⟩ := elD (Kd.C_below G5.out hbx) hlt
          subst hA
          have HK := Lib.hid hK
          have HC := Lib.hid hcc
          clear hK hcc
          have hbig := Dt.big_item hlt
          have hle := Dt.within_le (rdD x.items k) m' (deep - 1)
          have HF2 := Lib.hid (HF.out.trans (by rw [drop_rdD hlt, Dt.withinL]))
          go_wp2_with (first
            | ((with_reducible refine load_list 34 rfl ?_ 28 _ rfl (ad.add (k * 7)) ?_ c _ HC.out Tryz.underlying28 ?_ ?_ ?_); (case _ => rfl); (case _ => rfl); (case _ => rfl); (case _ => rw [kD_len HK.out]; exact size28'))
            | (go_at_call 67; refine (IH.out (rdD x.items k) c m' (deep - 1) _ (by omega) HK.out (by omega) (by omega) (by omega) (by omega)).mono ?_; rintro e w1 ⟨rfl, hb1⟩))
          · go_ret
            have hneg : (rdD x.items k).within m' (deep - 1) < 0 := by assumption
            exact ⟨retI (by rw [HF2.out]; simp [hneg]), below_then hbx hbx.size hb1⟩
          · go_roundw
            case rel => exact ⟨k + 1, _, by omega, by go_num, rfl, by omega, by omega, Lib.hid (by rw [HF2.out]; simp only [if_neg (show ¬ ((rdD x.items k).within m' (deep - 1) < 0) by omega)]), below_then hbx hbx.size hb1⟩
            case measure => simp [intOf]; omega
        · have HF2 := Lib.hid (HF.out.trans (by rw [List.drop_eq_nil_of_le (by omega), Dt.withinL, if_neg (by omega)]))
          go_wp2
          go_roundw
          case rel => exact ⟨1, m', by omega, by omega, rfl, rfl, hn0, hn1, HF2, hbx⟩
          case measure => simp [intOf]
    · go_wp2
      go_loopw [1, 28] (fun v1 v28 wx => ∃ (k : Nat) (m' : Int), k ≤ x.tail.length ∧ v28 = .int .i64 k ∧ v1 = .int .i64 m' ∧ 0 ≤ m' ∧ m' ≤ 1000000 ∧ Hid (x.within left deep = if Dt.withinL (x.tail.drop k) m' (deep - 1) < 0 then -1 else Dt.withinLL [] (Dt.withinL (x.tail.drop k) m' (deep - 1)) (deep - 1)) ∧ Below w.heap.size w wx)
        (fun _ v28 _ => x.tail.length - (intOf v28).toNat)
      case atStart => exact ⟨0, m, Nat.zero_le _, rfl, rfl, hm0, hm1, Lib.hid (by rw [HE.out]; rfl), hb⟩
      case round =>
        obtain ⟨k, m', hk, rfl, rfl, hn0, hn1, HF, hbx⟩ := hrel
        by_cases hlt : k < x.tail.length
        · obtain ⟨ad, c, hA, hK, hcc⟩ := elD (Kd.C_below G6.out hbx) hlt
          subst hA
          have HK := Lib.hid hK
          have HC := Lib.hid hcc
          clear hK hcc
          have hbig := Dt.big_tail hlt
          have hle := Dt.within_le (rdD x.tail k) m' (deep - 1)
          have HF2 := Lib.hid (HF.out.trans (by rw [drop_rdD hlt, Dt.withinL]))
          go_wp2_with (first
            | ((with_reducible refine load_list 34 rfl ?_ 28 _ rfl (ad.add (k * 7)) ?_ c _ HC.out Tryz.underlying28 ?_ ?_ ?_); (case _ => rfl); (case _ => rfl); (case _ => rfl); (case _ => rw [kD_len HK.out]; exact size28'))
            | (go_at_call 67; refine (IH.out (rdD x.tail k) c m' (deep - 1) _ (by omega) HK.out (by omega) (by omega) (by omega) (by omega)).mono ?_; rintro e w1 ⟨rfl, hb1⟩))
          · go_ret
            have hneg : (rdD x.tail k).within m' (deep - 1) < 0 := by assumption
            exact ⟨retI (by rw [HF2.out]; simp [hneg]), below_then hbx hbx.size hb1⟩
          · go_roundw
            case rel => exact ⟨k + 1, _, by omega, by go_num, rfl, by omega, by omega, Lib.hid (by rw [HF2.out]; simp only [if_neg (show ¬ ((rdD x.tail k).within m' (deep - 1) < 0) by omega)]), below_then hbx hbx.size hb1⟩
            case measure => simp [intOf]; omega
        · have HF2 := Lib.hid (HF.out.trans (by rw [List.drop_eq_nil_of_le (by omega), Dt.withinL, if_neg (by omega)]))
          go_wp2
          go_roundw
          case rel => exact ⟨2, m', by omega, by omega, rfl, rfl, hn0, hn1, HF2, hbx⟩
          case measure => simp [intOf]
    · go_wp2
      go_ret
      exact ⟨retI (by rw [HE.out]; rfl), hb⟩
end Go.Proofs.YtlcofdgaidlldaaGreatDoor
namespace Go.Proofs.YtlcofdgaidlldaaGreatDoor
open Go.RowKit Go.Proofs.YtlcofdgaidlldaaGreatDoorW.PrintWords
set_option linter.unusedVariables false
set_option linter.unusedSimpArgs false
/-- What a function value answers of a datum, in whatever later world. -/
def SaysD (g : Nat) (p : Dt → Bool) (x : Dt) (w : World) : Prop := ∀ (W : World) (c : List Value), Below w.heap.size w W → kD.K W x c →
  Calls Tryz.prog g #[.agg c.toArray] W fun e w' => e = .returned (.bool (p x)) ∧ Below W.heap.size W w'
set_option maxHeartbeats 400000 in
theorem IndexFunc_D_calls (p : Dt → Bool) (xs : List Dt) (A : Option Addr) (c : Nat) (w : World) (hx : kD.C w A xs.length xs) (hp : ∀ k, k < xs.length → SaysD 108 p (rdD xs k) w) :
    Calls Tryz.prog 139 #[.slice A xs.length c, .func (.func 108) #[] #[]] w fun e w' => e = .returned (.int .i64 (idxOf p xs 0)) ∧ Below w.heap.size w w' := by
  have HX := Lib.hid hx
  have HP := Lib.hid hp
  have hm := Kd.C_max hx
  clear hx hp
  go_enter Tryz.func139, Tryz.ntmps139
  go_wp2
  go_loopw [8] (fun v8 wr => ∃ k : Nat, k ≤ xs.length ∧ v8 = .int .i64 k ∧ Hid (idxOf p xs 0 = idxOf p (xs.drop k) k) ∧ Below w.heap.size w wr) (fun v8 _ => xs.length - (intOf v8).toNat)
  case atStart => exact ⟨0, Nat.zero_le _, rfl, Lib.hid (by simp), Below.refl _ _⟩
  case round =>
    obtain ⟨k, hk, rfl, HE, hb⟩ := hrel
    by_cases hlt : k < xs.length
    · obtain ⟨ad, cc, hA, hK, hcc⟩ := elD (Kd.C_below HX.out hb) hlt
      subst hA
      have HK := Lib.hid hK
      have HC := Lib.hid hcc
      have HS := Lib.hid (HP.out k hlt wr cc hb hK)
      clear hK hcc
      have HE2 := Lib.hid (HE.out.trans (show _ = if p (rdD xs k) then (k : Int) else idxOf p (xs.drop (k + 1)) (k + 1) by rw [drop_rdD hlt, idxOf]))
      cases hv : p (rdD xs k)
      all_goals
        rw [hv] at HS
        go_wp2_with (first
          | ((with_reducible refine load_list 15 rfl ?_ 28 _ rfl (ad.add (k * 7)) ?_ cc _ HC.out Tryz.underlying28 ?_ ?_ ?_); (case _ => rfl); (case _ => rfl); (case _ => rfl); (case _ => rw [kD_len HK.out]; exact size28'))
          | ((with_reducible refine HS.out.mono ?_); rintro e w1 ⟨rfl, hb1⟩))
      · go_roundw
        case rel => exact ⟨k + 1, by omega, by go_num, Lib.hid (by rw [HE2.out, hv]; rfl), below_then hb hb.size hb1⟩
        case measure => simp [intOf]; omega
      · go_ret
        exact ⟨retI (by rw [HE2.out, hv]; rfl), below_then hb hb.size hb1⟩
    · go_wp2
      go_ret
      exact ⟨retI (by rw [HE.out, List.drop_eq_nil_of_le (by omega), idxOf]), hb⟩
set_option maxHeartbeats 400000 in
theorem ContainsFunc_D_calls (p : Dt → Bool) (xs : List Dt) (A : Option Addr) (c : Nat) (w : World) (hx : kD.C w A xs.length xs) (hp : ∀ k, k < xs.length → SaysD 108 p (rdD xs k) w) :
    Calls Tryz.prog 106 #[.slice A xs.length c, .func (.func 108) #[] #[]] w fun e w' => e = .returned (.bool (xs.any p)) ∧ Below w.heap.size w w' := by
  have HX := Lib.hid (IndexFunc_D_calls p xs A c w hx hp)
  have HI := Lib.hid (idxOf_any p xs 0 (by omega))
  clear hx hp
  go_enter Tryz.func106, Tryz.ntmps106
  go_wp2_with (go_at_call 139; refine HX.out.mono ?_; rintro e w1 ⟨rfl, hb1⟩)
  go_ret
  exact ⟨retB HI.out, hb1⟩
theorem infoD : (Tryz.prog.info? 28).map (fun i => (i.zero, i.size, i.bytes)) = some (some (.agg #[.int .i64 0, .bool false, .slice none 0 0, .bool false, .string ⟨#[]⟩, .slice none 0 0, .slice none 0 0]), 7, 112) := by kernel_rfl
theorem zD_K (w : World) : kD.K w zD [.int .i64 0, .bool false, .slice none 0 0, .bool false, .string ⟨#[]⟩, .slice none 0 0, .slice none 0 0] :=
  kD_mk w zD (Nat.le_refl _) (Kd.C_nil _ w) (Nat.le_refl _) (Kd.C_nil _ w) (Nat.le_refl _) (Kd.C_nil _ w)
set_option maxRecDepth 100000 in
set_option maxHeartbeats 400000 in
theorem Grow_D_calls (n : Int) (w : World) (h0 : 0 ≤ n) (h1 : n ≤ 1000000) :
    Calls Tryz.prog 164 #[.slice none 0 0, .int .i64 n] w fun e w' => ∃ v, e = .returned v ∧ Kd.N kD 28 w' w.heap.size (fun k => w.heap.size ≤ k) v [] ∧ Below w.heap.size w w' := by
  obtain ⟨i0, hi, _⟩ := info_parts infoD
  by_cases hn : 0 < n
  · have hcut := fun A m c => cut_to (P := Tryz.prog) 26 28 .i64 Tryz.underlying26 hi A m c 0 (by omega) (by omega)
    go_enter Tryz.func164, Tryz.ntmps164
    have HI := Lib.hid hi
    clear hi
    go_wp2_with ((with_reducible refine gate_dst (N := 22) rfl ?_); refine Kd.N_append_zeros kD (w0 := w) w.heap.size rfl _ _ 26 3 28 _ 112 rfl Tryz.underlying26 (k := .i64) Tryz.underlying3 infoD rfl (by decide) (by decide) (.slice none 0 0) [] zD (kx := .i64) n (fun k => w.heap.size ≤ k) ?_ ?_ (fun W' _ => zD_K W') (fun _ h => h) (Kd.N_nil _ _ _ _ _) h0 (Below.refl _ _) (Nat.le_refl _) ?_ ?_; (case _ => rfl); (case _ => rfl); (case _ => simp; omega); intro v1 w1 hN hB _ _; obtain ⟨A, c, hv⟩ := Kd.N_slice hN; rw [List.nil_append, List.length_replicate] at hv; subst hv; have HN := Lib.hid hN; have hle := (Kd.N_reads' hN).2.1; clear hN)
    go_ret
    have h2 := Kd.N_take HN.out (m := 0) (by simp)
    exact ⟨_, rfl, by simpa using h2, hB⟩
  · have : n = 0 := by omega
    subst this
    go_enter Tryz.func164, Tryz.ntmps164
    go_wp2
    go_ret
    exact ⟨_, rfl, Kd.N_nil _ _ _ _ _, Below.refl _ _⟩
end Go.Proofs.YtlcofdgaidlldaaGreatDoor
namespace Go.Proofs.YtlcofdgaidlldaaGreatDoor
open Go.RowKit Go.Proofs.YtlcofdgaidlldaaGreatDoorW.PrintWords
set_option linter.unusedVariables false
set_option linter.unusedSimpArgs false
theorem N_apart_old {α : Type} {d : Kd α} {e base : Nat} {ok : Nat → Prop} {w : World} {v : Value} {xs : List α} (h : Kd.N d e w base ok v xs) : ∀ k, k < base → True ∧ some k ≠ v.ownBlock :=
  fun k hk => ⟨trivial, fun he => by have := Kd.N_base h k he.symm; omega⟩
set_option maxRecDepth 100000 in
set_option maxHeartbeats 1000000 in
theorem Concat_D_calls (xs ys : List Dt) (A B : Option Addr) (c c' g : Nat) (w : World) (hA : kD.C w A xs.length xs) (hB : kD.C w B ys.length ys) (hl : xs.length + ys.length ≤ 1000000)
    (h0 : w.cell? ⟨g, 0, none⟩ = some (.slice A xs.length c)) (h1 : w.cell? ⟨g, 1, none⟩ = some (.slice B ys.length c')) :
    Calls Tryz.prog 140 #[.slice (some ⟨g, 0, none⟩) 2 2] w fun e w' => ∃ V n cv, e = .returned (.slice V n cv) ∧ n = (xs ++ ys).length ∧ kD.C w' V n (xs ++ ys) ∧ Below w.heap.size w w' := by
  have FA := Lib.hid (Kd.C_F kD_heap hA)
  have FB := Lib.hid (Kd.C_F kD_heap hB)
  clear hA hB
  go_enter Tryz.func140, Tryz.ntmps140
  go_wp2
  go_loop [3, 11] (fun v3 v11 => ∃ j m : Int, 0 ≤ j ∧ j ≤ 2 ∧ v11 = .int .i64 j ∧ v3 = .int .i64 m ∧ 0 ≤ m ∧ m ≤ 1000000 ∧ (j = 0 → m = 0) ∧ (j = 1 → m = xs.length)) (fun _ v11 => 2 - (intOf v11).toNat)
  case atStart => exact ⟨0, 0, by omega, by omega, rfl, rfl, by omega, by omega, fun _ => rfl, fun h => by omega⟩
  case round =>
    obtain ⟨j, m, hj0, hj2, rfl, rfl, hm0, hm1, hmA, hmB⟩ := hrel
    rcases (show j = 0 ∨ j = 1 ∨ j = 2 by omega) with rfl | rfl | rfl
    · obtain rfl := hmA rfl
      clear hmA hmB
      go_wp2
      go_round
      case rel => exact ⟨1, _, by omega, by omega, rfl, rfl, by omega, by omega, fun h => by omega, fun _ => rfl⟩
      case measure => simp [intOf]
    · obtain rfl := hmB rfl
      clear hmA hmB
      go_wp2
      go_round
      case rel => exact ⟨2, _, by omega, by omega, rfl, rfl, by omega, by omega, fun h => by omega, fun h => by omega⟩
      case measure => simp [intOf]
    · clear hmA hmB
      have HG := Lib.hid (fun W => Grow_D_calls m W hm0 hm1)
      go_wp2_with (go_at_call 164; refine (HG.out _).mono ?_; rintro e w1 ⟨v, rfl, hN, hb1⟩; have HN := Lib.hid (Kd.N_mono (ok' := fun _ => True) hN (fun _ _ => trivial)); have HB1 := Lib.hid hb1; clear hN hb1)
      have hz := HB1.out.size
      have c0 := pw_cell_below HB1.out h0
      have c1 := pw_cell_below HB1.out h1
      go_loopw [6, 27] (fun v6 v27 wr => ∃ (j : Int) (zs : List Dt), 0 ≤ j ∧ j ≤ 2 ∧ v27 = .int .i64 j ∧ Hid (zs = if j = 0 then [] else if j = 1 then xs else xs ++ ys) ∧ Hid (Kd.N kD 28 wr w.heap.size (fun _ => True) v6 zs) ∧ Hid (Below w.heap.size w wr)) (fun _ v27 _ => 2 - (intOf v27).toNat)
      case atStart => exact ⟨0, [], by omega, by omega, rfl, Lib.hid rfl, HN, HB1⟩
      case round =>
        obtain ⟨j, zs, hj0, hj2, rfl, HZ, HM, HB2⟩ := hrel
        have hz2 := HB2.out.size
        have c0 := pw_cell_below HB2.out h0
        have c1 := pw_cell_below HB2.out h1
        rcases (show j = 0 ∨ j = 1 ∨ j = 2 by omega) with rfl | rfl | rfl
        · obtain rfl : zs = [] := HZ.out
          go_wp2_with ((with_reducible refine gate_dst (N := 33) rfl ?_); refine Kd.N_append_rows kD (w0 := w) w.heap.size rfl _ _ 26 28 _ 112 rfl Tryz.underlying26 infoD rfl (by decide) (by decide) _ [] xs A xs.length c (fun _ => True) _ ?_ ?_ HM.out (Kd.F_below FA.out HB2.out) (N_apart_old HM.out) (fun _ _ => trivial) HB2.out hz2 ?_ ?_; (case _ => rfl); (case _ => rfl); (case _ => first | omega | (simp; omega)); intro v1 w1 hN hB _ _; have HN1 := Lib.hid hN; have HB3 := Lib.hid hB; clear hN hB)
          go_roundw
          case rel => exact ⟨1, xs, by omega, by omega, rfl, Lib.hid rfl, by simpa using HN1, HB3⟩
          case measure => simp [intOf]
        · obtain rfl : zs = xs := HZ.out
          go_wp2_with ((with_reducible refine gate_dst (N := 33) rfl ?_); refine Kd.N_append_rows kD (w0 := w) w.heap.size rfl _ _ 26 28 _ 112 rfl Tryz.underlying26 infoD rfl (by decide) (by decide) _ zs ys B ys.length c' (fun _ => True) _ ?_ ?_ HM.out (Kd.F_below FB.out HB2.out) (N_apart_old HM.out) (fun _ _ => trivial) HB2.out hz2 ?_ ?_; (case _ => rfl); (case _ => rfl); (case _ => first | omega | (simp; omega)); intro v1 w1 hN hB _ _; have HN1 := Lib.hid hN; have HB3 := Lib.hid hB; clear hN hB)
          go_roundw
          case rel => exact ⟨2, zs ++ ys, by omega, by omega, rfl, Lib.hid rfl, HN1, HB3⟩
          case measure => simp [intOf]
        · obtain rfl : zs = xs ++ ys := HZ.out
          obtain ⟨V, cv, hv, hle, hC⟩ := Kd.N_reads HM.out
          subst hv
          have HC := Lib.hid hC
          clear hC
          go_wp2
          go_ret
          exact ⟨V, _, cv, rfl, rfl, HC.out, HB2.out⟩
set_option maxHeartbeats 1000000 in
theorem parts_calls (x : Dt) (cs : List Value) (w : World) (hx : kD.K w x cs) (hl : x.items.length + x.tail.length ≤ 1000000) :
    Calls Tryz.prog 107 #[.agg cs.toArray] w fun e w' => ∃ V n cv, e = .returned (.slice V n cv) ∧ n = (x.items ++ x.tail).length ∧ kD.C w' V n (x.items ++ x.tail) ∧ Below w.heap.size w w' := by
  obtain ⟨A2, c2, A5, c5, A6, c6, rfl, l2, g2, l5, g5, l6, g6⟩ := kD_open hx
  have HC := Lib.hid (fun W (g : Nat) (hb : Below w.heap.size w W) h0 h1 => Concat_D_calls x.items x.tail A5 A6 c5 c6 g W (Kd.C_below g5 hb) (Kd.C_below g6 hb) hl h0 h1)
  clear hx g2 g5 g6
  go_enter Tryz.func107, Tryz.ntmps107
  go_wp2_with (go_at_call 140; refine (HC.out _ _ ?_ ?_ ?_).mono ?_; (case _ => exact (below_alloc (below_alloc (Below.refl _ _) _) _)); (case _ => go_simp); (case _ => go_simp); rintro e w1 ⟨V, n, cv, rfl, hn, hC, hb1⟩; have HN := Lib.hid hn; have HCC := Lib.hid hC; clear hn hC)
  go_ret
  exact ⟨V, n, cv, rfl, HN.out, HCC.out, below_then (below_alloc (below_alloc (Below.refl _ _) _) _) (by simp; omega) hb1⟩
end Go.Proofs.YtlcofdgaidlldaaGreatDoor
namespace Go.Proofs.YtlcofdgaidlldaaGreatDoor
open Go.RowKit Go.Proofs.YtlcofdgaidlldaaGreatDoorW.PrintWords
set_option linter.unusedVariables false
set_option linter.unusedSimpArgs false
set_option maxHeartbeats 400000 in
theorem wGood_calls (a : BI) (cs : List Value) (w : World) (ha : kI.K w a cs) : Calls Tryz.prog 105 #[.agg cs.toArray] w fun e w' => e = .returned (.bool a.good) ∧ Below w.heap.size w w' := by
  obtain ⟨A1, c1, rfl, l1, g1⟩ := kI_open ha
  have hm := Kd.C_max g1
  have HR := Lib.hid (show a.good = if a.l.length = 0 then !a.neg else a.l.getD (a.l.length - 1) 0 != 0 from rfl)
  by_cases h0 : a.l.length = 0
  · clear ha g1
    have hb : ((a.l.length : Int) == 0) = true := by rw [len0]; simp [h0]
    have HR2 := Lib.hid (HR.out.trans (if_pos h0))
    clear h0
    go_enter Tryz.func105, Tryz.ntmps105
    go_wp2
    go_ret
    exact ⟨retB (by rw [HR2.out]), by exact below_alloc (Below.refl _ _) _⟩
  · obtain ⟨ad, hA, hc⟩ := elI (j := a.l.length - 1) g1 (by omega)
    subst hA
    clear ha g1
    have hb : ((a.l.length : Int) == 0) = false := by rw [len0]; simp [h0]
    have HR2 := Lib.hid (HR.out.trans (if_neg h0))
    obtain ⟨y, hy⟩ : ∃ y, y = a.l.getD (a.l.length - 1) 0 := ⟨_, rfl⟩
    rw [← hy] at hc
    rw [← hy] at HR2
    clear hy
    have hlt := World.block_lt_of_cell? w _ hc
    have hp : 1 ≤ a.l.length := by omega
    clear h0
    go_enter Tryz.func105, Tryz.ntmps105
    go_wp2
    go_ret
    exact ⟨retB (by rw [HR2.out]), by exact below_alloc (Below.refl _ _) _⟩
end Go.Proofs.YtlcofdgaidlldaaGreatDoor
namespace Go.Proofs.YtlcofdgaidlldaaGreatDoor
open Go.RowKit Go.Proofs.YtlcofdgaidlldaaGreatDoorW.PrintWords
set_option linter.unusedVariables false
set_option linter.unusedSimpArgs false
theorem str_empty (s : ByteArray) : (s.toList = []) ↔ (s.size = 0) := by
  rw [ByteArray.toList_eq, ← List.length_eq_zero_iff]; rfl
theorem ne_of_beq_false {a b : Int} (h : (a == b) = false) : ¬ a = b := by simpa using h
/-- What blank leaves. -/
def blankV (k : Int) (neg : Bool) (A2 : Option Addr) (n2 c2 : Nat) (b : Bool) (s : ByteArray) (A5 : Option Addr) (n5 c5 : Nat) (A6 : Option Addr) (n6 c6 : Nat) : Value :=
  .agg #[.int .i64 k, .bool (!(k == 1) && neg), if k == 1 then .slice none 0 0 else .slice A2 n2 c2, .bool (!(k == 2) && b), .string (if k == 3 || k == 4 then ⟨#[]⟩ else s), if k == 5 then .slice none 0 0 else .slice A5 n5 c5, if k == 5 then .slice none 0 0 else .slice A6 n6 c6]
set_option maxHeartbeats 1000000 in
theorem blank_calls (k : Int) (neg : Bool) (A2 : Option Addr) (n2 c2 : Nat) (b : Bool) (s : ByteArray) (A5 : Option Addr) (n5 c5 : Nat) (A6 : Option Addr) (n6 c6 : Nat) (w : World) :
    Calls Tryz.prog 104 #[.agg #[.int .i64 k, .bool neg, .slice A2 n2 c2, .bool b, .string s, .slice A5 n5 c5, .slice A6 n6 c6]] w fun e w' => e = .returned (blankV k neg A2 n2 c2 b s A5 n5 c5 A6 n6 c6) ∧ Below w.heap.size w w' := by
  rcases (show k = 1 ∨ k = 2 ∨ k = 3 ∨ k = 4 ∨ k = 5 ∨ (k ≠ 1 ∧ k ≠ 2 ∧ k ≠ 3 ∧ k ≠ 4 ∧ k ≠ 5) by omega) with rfl | rfl | rfl | rfl | rfl | ⟨k1, k2, k3, k4, k5⟩
  case inr.inr.inr.inr.inr =>
    have e1 : (k == 1) = false := by simpa using k1
    have e2 : (k == 2) = false := by simpa using k2
    have e3 : (k == 3) = false := by simpa using k3
    have e4 : (k == 4) = false := by simpa using k4
    have e5 : (k == 5) = false := by simpa using k5
    have HV := Lib.hid (show blankV k neg A2 n2 c2 b s A5 n5 c5 A6 n6 c6 = .agg #[.int .i64 k, .bool neg, .slice A2 n2 c2, .bool b, .string s, .slice A5 n5 c5, .slice A6 n6 c6] by unfold blankV; simp [e1, e2, e3, e4, e5])
    clear k1 k2 k3 k4 k5
    go_enter Tryz.func104, Tryz.ntmps104
    go_wp2
    refine bodyPost_ret (v := .agg #[.int .i64 k, .bool neg, .slice A2 n2 c2, .bool b, .string s, .slice A5 n5 c5, .slice A6 n6 c6]) (by simp [results, Tryz.results104, go_sem]) rfl ?_
    exact ⟨by rw [HV.out], below_alloc (below_alloc (Below.refl _ _) _) _⟩
  all_goals
    go_enter Tryz.func104, Tryz.ntmps104
    go_wp2
  · refine bodyPost_ret (v := .agg #[.int .i64 1, .bool false, .slice none 0 0, .bool b, .string s, .slice A5 n5 c5, .slice A6 n6 c6]) (by simp [results, Tryz.results104, go_sem]) rfl ?_
    exact ⟨rfl, below_alloc (below_alloc (Below.refl _ _) _) _⟩
  · refine bodyPost_ret (v := .agg #[.int .i64 2, .bool neg, .slice A2 n2 c2, .bool false, .string s, .slice A5 n5 c5, .slice A6 n6 c6]) (by simp [results, Tryz.results104, go_sem]) rfl ?_
    exact ⟨rfl, below_alloc (below_alloc (Below.refl _ _) _) _⟩
  · refine bodyPost_ret (v := .agg #[.int .i64 3, .bool neg, .slice A2 n2 c2, .bool b, .string ⟨#[]⟩, .slice A5 n5 c5, .slice A6 n6 c6]) (by simp [results, Tryz.results104, go_sem]) rfl ?_
    exact ⟨rfl, below_alloc (below_alloc (Below.refl _ _) _) _⟩
  · refine bodyPost_ret (v := .agg #[.int .i64 4, .bool neg, .slice A2 n2 c2, .bool b, .string ⟨#[]⟩, .slice A5 n5 c5, .slice A6 n6 c6]) (by simp [results, Tryz.results104, go_sem]) rfl ?_
    exact ⟨rfl, below_alloc (below_alloc (Below.refl _ _) _) _⟩
  · refine bodyPost_ret (v := .agg #[.int .i64 5, .bool neg, .slice A2 n2 c2, .bool b, .string s, .slice none 0 0, .slice none 0 0]) (by simp [results, Tryz.results104, go_sem]) rfl ?_
    exact ⟨rfl, below_alloc (below_alloc (Below.refl _ _) _) _⟩
end Go.Proofs.YtlcofdgaidlldaaGreatDoor
