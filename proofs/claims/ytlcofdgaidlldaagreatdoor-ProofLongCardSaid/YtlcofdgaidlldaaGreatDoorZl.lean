/- Cells in blocks of their own: what such a block holds; the laws on storing a struct there and reading it whole. Without conditions. Contracts on limbs: math/bits.Add32, nat.trim, nat.Norm; rows of limbs in blocks of their own. The walks' conditions: the parameters' memory; numbers in their range; not more than a million limbs. Contracts on limbs: nat.Add. The walk's conditions: the parameters' memory; limbs in their range; not more than a million limbs. Contracts: math/bits.Sub32, cmp.Compare. The walks' conditions: numbers in their range. Contracts on limbs: nat.Cmp. The walk's conditions: the parameters' memory; limbs in their range. Contracts on limbs: nat.Sub. The walk's conditions: the parameters' memory; limbs in their range; not more than a hundred thousand limbs. Contracts on whole numbers: whole.of, whole.Norm. The walks' conditions: the parameters' memory; limbs in their range; not more than a hundred thousand limbs. -/
import Derived.Deep.WholeRow
import Derived.Laws.CopyOwn
import Derived.Laws.BitsAllLaws
import Derived.BigQuiet
import Derived.Test.YtlcofdgaidlldaaGreatDoorZb
import Derived.Test.YtlcofdgaidlldaaGreatDoorZc
namespace Go.Proofs.YtlcofdgaidlldaaGreatDoor
open Go.RowKit Go.Proofs.YtlcofdgaidlldaaGreatDoorW.PrintWords
set_option linter.unusedVariables false
set_option linter.unusedSimpArgs false
/-- Block g holds these cells, of that type, none of them frozen. -/
def BX (t : TypeId) (w : World) (g : Nat) (c : List Value) : Prop := w.heap[g]? = some (.cells c.toArray t (0, 0))
section
variable {t : TypeId} {w w' : World} {g : Nat} {c : List Value}
theorem BX.lt (h : BX t w g c) : g < w.heap.size := (Array.getElem?_eq_some_iff.1 h).1
theorem BX.new (w : World) (c : List Value) : BX t (w.alloc (.cells c.toArray t)) w.heap.size c := heap_alloc_last w _
theorem BX.kept {row : Option Nat} (h : BX t w g c) (hg : w.grownBy w' row) (hne : some g ≠ row) : BX t w' g c := (hg.block g h.lt hne).trans h
theorem BX.below (h : BX t w g c) (hb : Below w.heap.size w w') : BX t w' g c := (hb.block g h.lt).trans h
theorem BX.alloc (h : BX t w g c) (o : Obj) : BX t (w.alloc o) g c := h.below (below_alloc (Below.refl _ _) _)
theorem BX.cells (h : BX t w g c) : ∀ j u, c[j]? = some u → w.cell? ((⟨g, 0, none⟩ : Addr).add j) = some u := fun j u hj => by
  rw [add_plain, cell_of_row w g j c.toArray t (0, 0) h]; simpa using hj
theorem BX.cell (h : BX t w g c) {j : Nat} {u : Value} (hj : c[j]? = some u) : w.cell? ⟨g, j, none⟩ = some u := by
  rw [cell_of_row w g j c.toArray t (0, 0) h]; simpa using hj
theorem BX.frozen (h : BX t w g c) (j : Nat) : w.frozen? ⟨g, j, none⟩ = false := by simp [World.frozen?, show w.heap[g]? = _ from h]
theorem BX.load {P : Program} {fs : Array Field} (h : BX t w g c) (hu : P.underlying t = some (.struct fs)) (hi : (P.info? t).map (·.size) = some c.length) : (loadVar t ⟨g, 0, none⟩).run P w = .ok (.agg c.toArray) w :=
  run_load_list w ⟨g, 0, none⟩ t c _ h.cells hu rfl hi
theorem grown_setRow (w : World) (g : Nat) (cs : Array Value) : w.grownBy (w.setRow g cs) (some g) := ⟨rfl, rfl, rfl, by simp, fun k hk hne => setRow_other w g k cs (fun e => hne (by rw [e]))⟩
end
section
variable {P : Program} {ops : Array Oper} {rest : List Oper} {o : Oper} {a : Act} {Q : Exit → Act → World → Prop}
/-- A struct is stored into a block of its own. -/
theorem store_bx {t : TypeId} {w : World} {g : Nat} {c : List Value} (H : BX t w g c) (N : Option Tmp) (hN : o.dst = N) (hgd : o.guard = none) (x y : Operand) (ho : o.op = .store t x y) (cs : List Value) (hx : a.eval x = .pointer (some ⟨g, 0, none⟩)) (hy : a.eval y = .agg cs.toArray)
    (hi : (P.info? t).map (·.size) = some cs.length) (hc : c.length = cs.length) (h1 : ∀ u ∈ cs, u.oneCell' = true)
    (h : ∀ w', BX t w' g cs → w.grownBy w' (some g) → wpList P ops Q rest (a.put N undef) w') : wpList P ops Q (o :: rest) a w :=
  wpList_plain hgd fun K hK => by
    unfold Oper.wp execOp
    simp only [ho, hx, hy, Instr.storeAt, Instr.sureAddr, Sem.run_bind, Sem.run_pure, Result.andThen_ok, run_storeVar_row w g t t c.toArray cs.toArray H (by simpa using hi) (by simpa using hc) (by rw [List.all_toArray, List.all_eq_true]; exact h1)]
    have hh := h (w.setRow g cs.toArray) (setRow_heap w g _ _ _ _ H) (grown_setRow w g _)
    rw [← hN] at hh
    exact hK _ _ hh
end
theorem BX.setCell {t : TypeId} {w : World} {g : Nat} {c : List Value} (h : BX t w g c) (j : Nat) (v : Value) : BX t (w.setCell ⟨g, j, none⟩ v) g (c.set j v) := by
  obtain ⟨hlt, hk⟩ := Array.getElem?_eq_some_iff.1 h
  show (w.heap.modify g _)[g]? = _
  rw [Array.getElem?_eq_getElem (by rw [Array.size_modify]; exact hlt), Array.getElem_modify_self, hk]
  simp
theorem grown_setCell (W : World) (b j : Nat) (v : Value) : W.grownBy (W.setCell ⟨b, j, none⟩ v) (some b) :=
  ⟨rfl, rfl, rfl, (by simp [World.setCell]), fun k _ hk => Below.heap_setCell _ _ _ k (fun e => hk (by rw [e]))⟩
end Go.Proofs.YtlcofdgaidlldaaGreatDoor
namespace Go.Proofs.YtlcofdgaidlldaaGreatDoor
open Go.RowKit Go.Proofs.YtlcofdgaidlldaaGreatDoorW.PrintWords
set_option linter.unusedVariables false
set_option linter.unusedSimpArgs false
theorem take_C {xs : List Int} {A : Option Addr} {k : Nat} {w : World} (h : (Kd.int .u32).C w A xs.length xs) (hk : k ≤ xs.length) : (Kd.int .u32).C w A k (xs.take k) := by
  have := Kd.C_take h hk
  rwa [List.length_take, Nat.min_eq_left hk] at this
theorem infoU : (Tryz.prog.info? 54).map (fun i => (i.zero, i.size, i.bytes)) = some (some (.int .u32 0), (Kd.int .u32).sz, 4) := by kernel_rfl
theorem size54' : (Tryz.prog.info? 54).map (·.size) = some 1 := by kernel_rfl
theorem F_block {α : Type} {d : Kd α} {ok : Nat → Prop} (W : World) (g : Nat) (t : TypeId) (xs : List α) (inner : List Value) (hg : BX t W g inner) (hr : Reps (Kd.FK d W ok) d.sz xs inner) (hm : xs.length ≤ 9223372036854775807) :
    Kd.F d W (fun k => ok k ∨ k = g) (some ⟨g, 0, none⟩) xs.length xs := fun W' hW =>
  C_block W' g t (0, 0) xs inner ((hW g (.inr rfl) hg.lt).trans hg) (hr.imp_ (fun _ _ hp => hp W' (fun k hk hlt => hW k (.inl hk) hlt))) hm
/-- A slice that reads as limbs; what it lies in is ok. -/
def LV (w : World) (ok : Nat → Prop) (v : Value) (l : List Int) : Prop := ∃ A c, v = .slice A l.length c ∧ l.length ≤ c ∧ Kd.F (Kd.int .u32) w ok A l.length l
theorem LV.mono {w : World} {ok ok' : Nat → Prop} {v : Value} {l : List Int} (h : LV w ok v l) (hk : ∀ k, ok k → ok' k) : LV w ok' v l := by
  obtain ⟨A, c, h1, h2, h3⟩ := h
  exact ⟨A, c, h1, h2, Kd.F_mono h3 hk⟩
/-- A row of limbs in a block of its own. -/
def LB (w : World) (g : Nat) (l : List Int) : Prop := BX 54 w g (nums .u32 l)
theorem LB.cell {w : World} {g : Nat} {l : List Int} (h : LB w g l) {i : Nat} (hi : i < l.length) : w.cell? ⟨g, i, none⟩ = some (.int .u32 (l.getD i 0)) :=
  BX.cell h (by simp [nums, hi])
theorem LB.frozen {w : World} {g : Nat} {l : List Int} (h : LB w g l) (i : Nat) : w.frozen? ⟨g, i, none⟩ = false := BX.frozen h i
theorem LB.set {w : World} {g : Nat} {l : List Int} (h : LB w g l) (i : Nat) (x : Int) : LB (w.setCell ⟨g, i, none⟩ (.int .u32 x)) g (l.set i x) := by
  have := BX.setCell h i (.int .u32 x)
  unfold LB
  rw [show nums .u32 (l.set i x) = (nums .u32 l).set i (.int .u32 x) by simp [nums, List.map_set]]
  exact this
theorem LB.F {w : World} {g : Nat} {l : List Int} (h : LB w g l) (hm : l.length ≤ 9223372036854775807) : Kd.F (Kd.int .u32) w (fun k => k = g) (some ⟨g, 0, none⟩) l.length l :=
  Kd.F_mono (F_block (ok := fun _ => False) w g 54 l _ h ((reps_nums w .u32 l).imp_ (fun _ _ hp _ _ => hp)) hm) (fun k hk => hk.elim (fun h => h.elim) id)
theorem LB.LV {w : World} {g : Nat} {l : List Int} (h : LB w g l) (hm : l.length ≤ 9223372036854775807) (m c : Nat) (hl : m ≤ l.length) (hc : m ≤ c) : LV w (fun k => k = g) (.slice (some ⟨g, 0, none⟩) m c) (l.take m) := by
  have h1 := Kd.F_take (h.F hm) hl
  have h2 : (l.take m).length = m := by rw [List.length_take]; omega
  refine ⟨some ⟨g, 0, none⟩, c, by rw [h2], by rw [h2]; exact hc, h1⟩
section
variable {ops : Array Oper} {rest : List Oper} {o : Oper} {a : Act} {Q : Exit → Act → World → Prop}
/-- make([]uint32, n). -/
theorem u32_make {W : World} (N : Tmp) (hd : o.dst = some N) (hgd : o.guard = none) (x y : Operand) (ho : o.op = .makeSlice 23 x y) (n : Nat) (hx : a.eval x = .int .i64 n) (hy : a.eval y = .int .i64 n) (hl : n ≤ 1000000)
    (h : ∀ w1, LB w1 W.heap.size (List.replicate n 0) → W.grownBy w1 none → w1.heap.size = W.heap.size + 1 → wpList Tryz.prog ops Q rest (a.put (some N) (.slice (some ⟨W.heap.size, 0, none⟩) n n)) w1) : wpList Tryz.prog ops Q (o :: rest) a W := by
  obtain ⟨i0, hi, hzz⟩ := Option.map_eq_some_iff.1 infoU
  simp only [Prod.mk.injEq] at hzz
  obtain ⟨hz0, hz1, hz2⟩ := hzz
  have hr := run_make (P := Tryz.prog) W 23 54 i0 (.int .u32 0) Tryz.underlying23 hi hz0 .i64 .i64 (n : Int) (n : Int) (by omega) (by omega) (by rw [hz2]; omega) (by omega)
  simp only [Int.toNat_natCast] at hr
  rw [hz1] at hr
  have hcells : madeCells (Value.int .u32 0).cells (n * (Kd.int .u32).sz) = (nums .u32 (List.replicate n 0)).toArray := by
    apply Array.ext
    · simp [madeCells, nums, Kd.int, Kd.scalar]
    · intro i h1 h2
      simp [madeCells, nums, Value.cells, Nat.mod_one]
  rw [hcells] at hr
  refine wpList_plain hgd fun K hK => ?_
  unfold Oper.wp execOp
  simp only [ho, hx, hy, Sem.run_bind, hr, Result.andThen_ok, Sem.run_pure]
  have := h (W.alloc (.cells (nums .u32 (List.replicate n 0)).toArray 54)) (BX.new W _) (World.grownBy_alloc W _ none) (by simp)
  rw [← hd] at this
  exact hK _ _ this
end
def lenOf : Value → Nat
  | .slice _ n _ => n
  | _ => 0
set_option maxHeartbeats 1000000 in
theorem Add32_calls (x y c : Int) (w : World) (hx0 : 0 ≤ x) (hx1 : x < 4294967296) (hy0 : 0 ≤ y) (hy1 : y < 4294967296) (hc0 : 0 ≤ c) (hc1 : c < 4294967296) :
    Calls Tryz.prog 176 #[.int .u32 x, .int .u32 y, .int .u32 c] w fun e w' => e = .returned (.tuple #[.int .u32 ((x + y + c) % 4294967296), .int .u32 ((x + y + c) / 4294967296)]) ∧ w = w' := by
  go_enter Tryz.func176, Tryz.ntmps176
  go_wp2
  go_ret2
  exact ⟨rfl, rfl⟩
set_option maxHeartbeats 1000000 in
theorem trim_calls (xs : List Int) (A : Option Addr) (c : Nat) (w : World) (hx : (Kd.int .u32).C w A xs.length xs) (hc : xs.length ≤ c) :
    Calls Tryz.prog 136 #[.slice A xs.length c] w fun e w' => e = .returned (.slice A (normL xs).length c) ∧ w = w' := by
  have HX := Lib.hid hx
  have hm := Kd.C_max hx
  clear hx
  go_enter Tryz.func136, Tryz.ntmps136
  go_wp2
  go_loop [0] (fun v0 => ∃ k : Nat, k ≤ xs.length ∧ v0 = .slice A k c ∧ Hid (normL xs = normL (xs.take k))) (fun v0 => lenOf v0)
  case atStart => exact ⟨xs.length, Nat.le_refl _, rfl, Lib.hid (by simp)⟩
  case round =>
    obtain ⟨k, hk, rfl, HE⟩ := hrel
    rcases k with _ | n
    · have HE0 := Lib.hid (show (normL xs).length = 0 by rw [HE.out]; simp [normL])
      go_wp2
      go_ret
      exact ⟨by rw [HE0.out]; rfl, rfl⟩
    · obtain ⟨ad, hA, hcell⟩ := elI HX.out (show n < xs.length by omega)
      subst hA
      obtain ⟨u, hu⟩ : ∃ u, u = xs.getD n 0 := ⟨_, rfl⟩
      rw [← hu] at hcell
      have HU := Lib.hid hu
      clear hu
      cases hz0 : u == 0
      case true =>
        go_wp2
        go_round
        case rel => exact ⟨n, by omega, rfl, Lib.hid (by rw [HE.out, normL_zero (by omega) (by rw [← HU.out]; simpa using hz0)])⟩
        case measure => simp [lenOf]
      case false =>
        have HE0 := Lib.hid (show (normL xs).length = n + 1 by rw [HE.out, normL_done (by omega) (by rw [← HU.out]; simpa using hz0), List.length_take]; omega)
        go_wp2
        go_ret
        exact ⟨by rw [HE0.out]; rfl, rfl⟩
set_option maxRecDepth 100000 in
set_option maxHeartbeats 1000000 in
theorem nNorm_calls (xs : List Int) (A : Option Addr) (c : Nat) (w : World) (hx : (Kd.int .u32).C w A xs.length xs) (hc : xs.length ≤ c) (hl : xs.length ≤ 1000000) :
    Calls Tryz.prog 162 #[.slice A xs.length c] w fun e w' => ∃ v, e = .returned v ∧ LV w' (fun k => w.heap.size ≤ k) v (normL xs) ∧ Below w.heap.size w w' := by
  have HX := Lib.hid hx
  have hnl := normL_len xs
  have HP := Lib.hid (normL_prefix xs)
  obtain ⟨l, hl0⟩ : ∃ l, l = normL xs := ⟨_, rfl⟩
  have HT := Lib.hid (hl0 ▸ trim_calls xs A c w hx hc)
  rw [← hl0] at hnl HP ⊢
  have hC := take_C hx hnl
  rw [← HP.out] at hC
  have HC := Lib.hid hC
  clear hx hl0 hC
  have HS : Hid (∀ W : World, Below w.heap.size w W → 0 < (nums .u32 l).length → ∃ ad, A = some ad ∧ ∀ j v, (nums .u32 l)[j]? = some v → W.cell? (ad.add j) = some v) := Lib.hid (fun W hb hp => by
    have hp' : 0 < l.length := by simpa [nums] using hp
    obtain ⟨ad, hA, _⟩ := elI HC.out hp'
    refine ⟨ad, hA, fun j v hj => ?_⟩
    obtain ⟨hlt, hv⟩ := List.getElem?_eq_some_iff.1 hj
    have hlt' : j < l.length := by simpa [nums] using hlt
    obtain ⟨ad', hA', hc'⟩ := elI HC.out hlt'
    rw [hA] at hA'
    cases hA'
    have := pw_cell_below hb hc'
    rw [this, ← hv]
    simp [nums, hlt'])
  go_enter Tryz.func162, Tryz.ntmps162
  go_wp2_with (first
    | (go_at_call 136; refine HT.out.mono ?_; rintro e w' ⟨rfl, rfl⟩)
    | ((with_reducible refine u32_make 8 rfl ?_ _ _ rfl l.length ?_ ?_ (by omega) ?_); (case _ => rfl); (case _ => rfl); (case _ => rfl); intro w1 hB hg1 hs1; have HBh := Lib.hid (show w1.heap[w.heap.size]? = some (.cells (nums .u32 (List.replicate l.length 0)).toArray 54 (0, 0)) from hB); have hb1 : Below w.heap.size w w1 := (Below.refl _ w).grown hg1 (Nat.le_refl _) (fun k e => by cases e))
    | ((with_reducible refine wpList_copy_splice (o := ⟨some 11, _, _, _, _, _⟩) rfl (.tmp 9) (.tmp 10) 23 23 rfl 54 Tryz.underlying23 size54' (some ⟨w.heap.size, 0, none⟩) A l.length l.length l.length c ?_ ?_ w.heap.size 0 (nums .u32 (List.replicate l.length 0)) 54 HBh.out (nums .u32 l) ?_ (fun hp => ⟨rfl, HS.out w1 hb1 hp⟩) ?_ ?_ w.heap.size w hb1 (Nat.le_refl _) ?_); (case _ => rfl); (case _ => rfl); (case _ => simp [nums]); (case _ => simp [nums]); (case _ => intro v hv; simp only [nums, List.mem_map] at hv; obtain ⟨x, _, rfl⟩ := hv; rfl); intro w2 hB2 hb2))
  go_ret
  have hB3 : LB w2 w.heap.size l := by
    have := hB2.out
    unfold LB BX
    rw [this]
    simp [splice, nums]
  have hV := hB3.LV (by omega) l.length l.length (Nat.le_refl _) (Nat.le_refl _)
  rw [List.take_length] at hV
  exact ⟨_, rfl, hV.mono (fun k hk => by omega), hb2⟩
end Go.Proofs.YtlcofdgaidlldaaGreatDoor
namespace Go.Proofs.YtlcofdgaidlldaaGreatDoor
open Go.RowKit Go.Proofs.YtlcofdgaidlldaaGreatDoorW.PrintWords
set_option linter.unusedVariables false
set_option linter.unusedSimpArgs false
theorem add_step {ps qs os : List Int} {k : Nat} {cy s c' : Int} (h : val (os.take k) + pw k * cy = val (ps.take k) + val (qs.take k)) (hk : k < os.length) (hs : s = (ps.getD k 0 + qs.getD k 0 + cy) % 4294967296) (hc : c' = (ps.getD k 0 + qs.getD k 0 + cy) / 4294967296) :
    val ((os.set k s).take (k + 1)) + pw (k + 1) * c' = val (ps.take (k + 1)) + val (qs.take (k + 1)) := by
  rw [val_take_succ, val_take_succ ps, val_take_succ qs, List.take_set, show ((os.take k).set k s) = os.take k by rw [List.set_eq_of_length_le]; simp; omega, show (os.set k s).getD k 0 = s by simp [List.getD_eq_getElem?_getD, hk], pw_succ]
  have h1 : ps.getD k 0 + qs.getD k 0 + cy = s + 4294967296 * c' := by omega
  have h2 : pw k * (ps.getD k 0 + qs.getD k 0 + cy) = pw k * (s + 4294967296 * c') := by rw [h1]
  simp only [Int.mul_add] at h2
  rw [Int.mul_assoc]
  omega
theorem add_done {ps qs os : List Int} {n : Nat} {cy : Int} (hl : os.length = n + 1) (h : val (os.take n) + pw n * cy = val (ps.take n) + val (qs.take n)) (hp : ps.length = n) (hq : qs.length ≤ n) : val (os.set n cy) = val ps + val qs := by
  have h1 := val_take_succ (os.set n cy) n
  rw [List.take_of_length_le (by simp; omega), List.take_set, show ((os.take n).set n cy) = os.take n by rw [List.set_eq_of_length_le]; simp; omega, show (os.set n cy).getD n 0 = cy by simp [List.getD_eq_getElem?_getD, hl]] at h1
  rw [h1, h, List.take_of_length_le (by omega), List.take_of_length_le (by omega)]
set_option maxRecDepth 100000 in
set_option maxHeartbeats 2000000 in
theorem nAdd_calls (xs ys : List Int) (A B : Option Addr) (c d : Nat) (w : World) (hx : (Kd.int .u32).C w A xs.length xs) (hy : (Kd.int .u32).C w B ys.length ys) (hlx : xs.length ≤ 100000) (hly : ys.length ≤ 100000) (hnx : lim xs) (hny : lim ys) :
    Calls Tryz.prog 166 #[.slice A xs.length c, .slice B ys.length d] w fun e w' => ∃ v, e = .returned v ∧ LV w' (fun k => w.heap.size ≤ k) v (limbs (val xs + val ys).toNat) ∧ Below w.heap.size w w' := by
  have HX := Lib.hid hx
  have HY := Lib.hid hy
  have HNX := Lib.hid hnx
  have HNY := Lib.hid hny
  clear hx hy hnx hny
  by_cases hsw : xs.length < ys.length
  · go_enter Tryz.func166, Tryz.ntmps166
    go_wp2_with ((with_reducible refine u32_make 20 rfl ?_ _ _ rfl (ys.length + 1) ?_ ?_ ?_ ?_); (case _ => rfl); (case _ => exact congrArg (Value.int .i64) (by omega)); (case _ => exact congrArg (Value.int .i64) (by omega)); (case _ => omega); intro w1 hB0 hg1 hs1; have hb0 : Below w.heap.size w w1 := (Below.refl _ w).grown hg1 (Nat.le_refl _) (fun k e => by cases e))
    go_loopw [6, 23] (fun v6 v23 wr => ∃ (k : Nat) (os : List Int) (cy : Int), k ≤ ys.length ∧ v23 = .int .i64 k ∧ v6 = .int .u32 cy ∧ 0 ≤ cy ∧ cy ≤ 1 ∧ LB wr w.heap.size os ∧ Hid (os.length = ys.length + 1 ∧ lim os ∧ val (os.take k) + pw k * cy = val (ys.take k) + val (xs.take k)) ∧ Below w.heap.size w wr) (fun _ v23 _ => ys.length - (intOf v23).toNat)
    case atStart => exact ⟨0, List.replicate (ys.length + 1) 0, 0, Nat.zero_le _, rfl, rfl, by omega, by omega, hB0, Lib.hid ⟨by simp, lim_zeros _, by simp [val]⟩, hb0⟩
    case round =>
      obtain ⟨k, os, cy, hk, rfl, rfl, hc0, hc1, hB, HE, hb⟩ := hrel
      by_cases hlt : k < ys.length
      · obtain ⟨ad, hA, hcx0⟩ := elI HY.out hlt
        subst hA
        have hcx := pw_cell_below hb hcx0
        have hx01 := lim_getD HNY.out k
        have HST := Lib.hid (fun (s c' : Int) hs hc => add_step (s := s) (c' := c') HE.out.2.2 (by have := HE.out.1; omega) hs hc)
        have q1 := hB.cell (i := k) (by have := HE.out.1; omega)
        have f1 := hB.frozen k
        have HBS := Lib.hid (fun s => hB.set k s)
        have hsz := hB.lt
        obtain ⟨x, hxx⟩ : ∃ x, x = ys.getD k 0 := ⟨_, rfl⟩
        rw [← hxx] at hcx hx01 HST
        obtain ⟨u, huu⟩ : ∃ u, u = os.getD k 0 := ⟨_, rfl⟩
        rw [← huu] at q1
        clear hcx0 hxx huu
        by_cases hq : k < xs.length
        · obtain ⟨ae, hE, hcy0⟩ := elI HX.out hq
          subst hE
          have hcy := pw_cell_below hb hcy0
          have hy01 := lim_getD HNX.out k
          obtain ⟨y, hyy⟩ : ∃ y, y = xs.getD k 0 := ⟨_, rfl⟩
          rw [← hyy] at hcy hy01 HST
          clear hcy0 hyy
          go_wp2_with (go_at_call 176; refine (Add32_calls x y cy _ hx01.1 hx01.2 hy01.1 hy01.2 hc0 (by omega)).mono ?_; rintro e w' ⟨rfl, rfl⟩)
          go_roundw
          case rel => exact ⟨k + 1, _, _, by omega, by go_num, rfl, by omega, by omega, HBS.out _, Lib.hid ⟨by rw [List.length_set]; exact HE.out.1, lim_set HE.out.2.1 (by omega) (by omega), HST.out _ _ rfl rfl⟩, hb.setCell (by simp) _⟩
          case measure => simp [intOf]; omega
        · have HY0 := Lib.hid (show xs.getD k 0 = 0 by rw [List.getD_eq_getElem?_getD, List.getElem?_eq_none (by omega)]; rfl)
          rw [HY0.out] at HST
          go_wp2_with (go_at_call 176; refine (Add32_calls x 0 cy _ hx01.1 hx01.2 (by omega) (by omega) hc0 (by omega)).mono ?_; rintro e w' ⟨rfl, rfl⟩)
          go_roundw
          case rel => exact ⟨k + 1, _, _, by omega, by go_num, rfl, by omega, by omega, HBS.out _, Lib.hid ⟨by rw [List.length_set]; exact HE.out.1, lim_set HE.out.2.1 (by omega) (by omega), HST.out _ _ (by rw [Int.add_zero]) (by rw [Int.add_zero])⟩, hb.setCell (by simp) _⟩
          case measure => simp [intOf]; omega
      · obtain rfl : k = ys.length := by omega
        have q1 := hB.cell (i := ys.length) (by have := HE.out.1; omega)
        have f1 := hB.frozen ys.length
        have hsz := hB.lt
        have hB1 := hB.set ys.length cy
        have hb1 := hb.setCell (p := ⟨w.heap.size, ys.length, none⟩) (Nat.le_refl _) (.int .u32 cy)
        have hl1 : (os.set ys.length cy).length = ys.length + 1 := by rw [List.length_set]; exact HE.out.1
        have hlim := Lib.hid (lim_set (i := ys.length) HE.out.2.1 hc0 (by omega))
        have hval := Lib.hid (add_done HE.out.1 HE.out.2.2 rfl (by omega))
        obtain ⟨u, huu⟩ : ∃ u, u = os.getD ys.length 0 := ⟨_, rfl⟩
        rw [← huu] at q1
        clear huu
        obtain ⟨zs, hzs⟩ : ∃ zs, zs = os.set ys.length cy := ⟨_, rfl⟩
        rw [← hzs] at hB1 hl1 hlim hval
        have HB1 := Lib.hid hB1
        have HT := Lib.hid (trim_calls zs (some ⟨w.heap.size, 0, none⟩) zs.length (wr.setCell ⟨w.heap.size, ys.length, none⟩ (.int .u32 cy)) (Kd.F_now (hB1.F (by omega))) (Nat.le_refl _))
        have HL1 := Lib.hid hl1
        rw [HL1.out] at HT
        clear hB1 hl1 hzs
        go_wp2_with (go_at_call 136; refine HT.out.mono ?_; rintro e w' ⟨rfl, rfl⟩)
        go_ret
        have hV := (HB1.out.LV (by rw [HL1.out]; omega) (normL zs).length (ys.length + 1) (normL_len zs) (by have := normL_len zs; have := HL1.out; omega)).mono (ok' := fun k => w.heap.size ≤ k) (fun k hk => by omega)
        rw [← normL_prefix, normL_limbs hlim.out, hval.out] at hV
        rw [normL_limbs hlim.out, hval.out]
        exact ⟨_, rfl, by rw [Int.add_comm (val xs) (val ys)]; exact hV, hb1⟩
  · go_enter Tryz.func166, Tryz.ntmps166
    go_wp2_with ((with_reducible refine u32_make 20 rfl ?_ _ _ rfl (xs.length + 1) ?_ ?_ ?_ ?_); (case _ => rfl); (case _ => exact congrArg (Value.int .i64) (by omega)); (case _ => exact congrArg (Value.int .i64) (by omega)); (case _ => omega); intro w1 hB0 hg1 hs1; have hb0 : Below w.heap.size w w1 := (Below.refl _ w).grown hg1 (Nat.le_refl _) (fun k e => by cases e))
    go_loopw [6, 23] (fun v6 v23 wr => ∃ (k : Nat) (os : List Int) (cy : Int), k ≤ xs.length ∧ v23 = .int .i64 k ∧ v6 = .int .u32 cy ∧ 0 ≤ cy ∧ cy ≤ 1 ∧ LB wr w.heap.size os ∧ Hid (os.length = xs.length + 1 ∧ lim os ∧ val (os.take k) + pw k * cy = val (xs.take k) + val (ys.take k)) ∧ Below w.heap.size w wr) (fun _ v23 _ => xs.length - (intOf v23).toNat)
    case atStart => exact ⟨0, List.replicate (xs.length + 1) 0, 0, Nat.zero_le _, rfl, rfl, by omega, by omega, hB0, Lib.hid ⟨by simp, lim_zeros _, by simp [val]⟩, hb0⟩
    case round =>
      obtain ⟨k, os, cy, hk, rfl, rfl, hc0, hc1, hB, HE, hb⟩ := hrel
      by_cases hlt : k < xs.length
      · obtain ⟨ad, hA, hcx0⟩ := elI HX.out hlt
        subst hA
        have hcx := pw_cell_below hb hcx0
        have hx01 := lim_getD HNX.out k
        have HST := Lib.hid (fun (s c' : Int) hs hc => add_step (s := s) (c' := c') HE.out.2.2 (by have := HE.out.1; omega) hs hc)
        have q1 := hB.cell (i := k) (by have := HE.out.1; omega)
        have f1 := hB.frozen k
        have HBS := Lib.hid (fun s => hB.set k s)
        have hsz := hB.lt
        obtain ⟨x, hxx⟩ : ∃ x, x = xs.getD k 0 := ⟨_, rfl⟩
        rw [← hxx] at hcx hx01 HST
        obtain ⟨u, huu⟩ : ∃ u, u = os.getD k 0 := ⟨_, rfl⟩
        rw [← huu] at q1
        clear hcx0 hxx huu
        by_cases hq : k < ys.length
        · obtain ⟨ae, hE, hcy0⟩ := elI HY.out hq
          subst hE
          have hcy := pw_cell_below hb hcy0
          have hy01 := lim_getD HNY.out k
          obtain ⟨y, hyy⟩ : ∃ y, y = ys.getD k 0 := ⟨_, rfl⟩
          rw [← hyy] at hcy hy01 HST
          clear hcy0 hyy
          go_wp2_with (go_at_call 176; refine (Add32_calls x y cy _ hx01.1 hx01.2 hy01.1 hy01.2 hc0 (by omega)).mono ?_; rintro e w' ⟨rfl, rfl⟩)
          go_roundw
          case rel => exact ⟨k + 1, _, _, by omega, by go_num, rfl, by omega, by omega, HBS.out _, Lib.hid ⟨by rw [List.length_set]; exact HE.out.1, lim_set HE.out.2.1 (by omega) (by omega), HST.out _ _ rfl rfl⟩, hb.setCell (by simp) _⟩
          case measure => simp [intOf]; omega
        · have HY0 := Lib.hid (show ys.getD k 0 = 0 by rw [List.getD_eq_getElem?_getD, List.getElem?_eq_none (by omega)]; rfl)
          rw [HY0.out] at HST
          go_wp2_with (go_at_call 176; refine (Add32_calls x 0 cy _ hx01.1 hx01.2 (by omega) (by omega) hc0 (by omega)).mono ?_; rintro e w' ⟨rfl, rfl⟩)
          go_roundw
          case rel => exact ⟨k + 1, _, _, by omega, by go_num, rfl, by omega, by omega, HBS.out _, Lib.hid ⟨by rw [List.length_set]; exact HE.out.1, lim_set HE.out.2.1 (by omega) (by omega), HST.out _ _ (by rw [Int.add_zero]) (by rw [Int.add_zero])⟩, hb.setCell (by simp) _⟩
          case measure => simp [intOf]; omega
      · obtain rfl : k = xs.length := by omega
        have q1 := hB.cell (i := xs.length) (by have := HE.out.1; omega)
        have f1 := hB.frozen xs.length
        have hsz := hB.lt
        have hB1 := hB.set xs.length cy
        have hb1 := hb.setCell (p := ⟨w.heap.size, xs.length, none⟩) (Nat.le_refl _) (.int .u32 cy)
        have hl1 : (os.set xs.length cy).length = xs.length + 1 := by rw [List.length_set]; exact HE.out.1
        have hlim := Lib.hid (lim_set (i := xs.length) HE.out.2.1 hc0 (by omega))
        have hval := Lib.hid (add_done HE.out.1 HE.out.2.2 rfl (by omega))
        obtain ⟨u, huu⟩ : ∃ u, u = os.getD xs.length 0 := ⟨_, rfl⟩
        rw [← huu] at q1
        clear huu
        obtain ⟨zs, hzs⟩ : ∃ zs, zs = os.set xs.length cy := ⟨_, rfl⟩
        rw [← hzs] at hB1 hl1 hlim hval
        have HB1 := Lib.hid hB1
        have HT := Lib.hid (trim_calls zs (some ⟨w.heap.size, 0, none⟩) zs.length (wr.setCell ⟨w.heap.size, xs.length, none⟩ (.int .u32 cy)) (Kd.F_now (hB1.F (by omega))) (Nat.le_refl _))
        have HL1 := Lib.hid hl1
        rw [HL1.out] at HT
        clear hB1 hl1 hzs
        go_wp2_with (go_at_call 136; refine HT.out.mono ?_; rintro e w' ⟨rfl, rfl⟩)
        go_ret
        have hV := (HB1.out.LV (by rw [HL1.out]; omega) (normL zs).length (xs.length + 1) (normL_len zs) (by have := normL_len zs; have := HL1.out; omega)).mono (ok' := fun k => w.heap.size ≤ k) (fun k hk => by omega)
        rw [← normL_prefix, normL_limbs hlim.out, hval.out] at hV
        rw [normL_limbs hlim.out, hval.out]
        exact ⟨_, rfl, hV, hb1⟩
end Go.Proofs.YtlcofdgaidlldaaGreatDoor
namespace Go.Proofs.YtlcofdgaidlldaaGreatDoor
open Go.RowKit Go.Proofs.YtlcofdgaidlldaaGreatDoorW.PrintWords
set_option linter.unusedVariables false
set_option linter.unusedSimpArgs false
theorem top_bit (x : Nat) (h : x < 4294967296) : x.testBit 31 = decide (2147483648 ≤ x) := by
  rw [Nat.testBit_eq_decide_div_mod_eq, decide_eq_decide]; omega
theorem div_top (x : Nat) (h : x < 4294967296) : ((x : Int) / 2147483648) = if x.testBit 31 then 1 else 0 := by
  rw [top_bit x h]
  by_cases h2 : 2147483648 ≤ x
  · simp [h2]; omega
  · simp [h2]; omega
theorem borrow_nat (x y d c : Nat) (hx : x < 4294967296) (hy : y < 4294967296) (hc : c ≤ 1) (hd : (d : Int) = ((x : Int) - y - c) % 4294967296) :
    ((((((4294967295 ^^^ x) &&& y) ||| ((4294967295 ^^^ (x ^^^ y)) &&& d) : Nat) : Int)) / 2147483648) = if (x : Int) < y + c then 1 else 0 := by
  have hd1 : d < 4294967296 := by omega
  have e1 : 4294967295 ^^^ x < 4294967296 := Nat.xor_lt_two_pow (n := 32) (by omega) (by omega)
  have e2 : 4294967295 ^^^ (x ^^^ y) < 4294967296 := Nat.xor_lt_two_pow (n := 32) (by omega) (Nat.xor_lt_two_pow (n := 32) (by omega) (by omega))
  have e3 : ((4294967295 ^^^ x) &&& y) ||| ((4294967295 ^^^ (x ^^^ y)) &&& d) < 4294967296 := Nat.or_lt_two_pow (n := 32) (Nat.and_lt_two_pow _ (by omega)) (Nat.and_lt_two_pow _ (by omega))
  rw [div_top _ e3, Nat.testBit_or, Nat.testBit_and, Nat.testBit_and, Nat.testBit_xor, Nat.testBit_xor, Nat.testBit_xor, top_bit x hx, top_bit y hy, top_bit d hd1, top_bit 4294967295 (by omega)]
  by_cases h1 : 2147483648 ≤ x <;> by_cases h2 : 2147483648 ≤ y <;> by_cases h3 : 2147483648 ≤ d <;> simp [h1, h2, h3] <;> (try split) <;> omega
theorem borrow_int (x y c : Int) (hx0 : 0 ≤ x) (hx1 : x < 4294967296) (hy0 : 0 ≤ y) (hy1 : y < 4294967296) (hc0 : 0 ≤ c) (hc1 : c ≤ 1) :
    bits .or .u32 (bits .and .u32 (bits .xor .u32 IntKind.u32.max x) y) (bits .and .u32 (bits .xor .u32 IntKind.u32.max (bits .xor .u32 x y)) ((x - y - c) % 4294967296)) / 2147483648 = if x < y + c then 1 else 0 := by
  obtain ⟨X, rfl⟩ := Int.eq_ofNat_of_zero_le hx0
  obtain ⟨Y, rfl⟩ := Int.eq_ofNat_of_zero_le hy0
  obtain ⟨C, rfl⟩ := Int.eq_ofNat_of_zero_le hc0
  obtain ⟨D, hD⟩ := Int.eq_ofNat_of_zero_le (show 0 ≤ ((X : Int) - Y - C) % 4294967296 by omega)
  have hm : IntKind.u32.max = ((4294967295 : Nat) : Int) := by decide
  have hd1 : D < 4294967296 := by omega
  have e0 : X ^^^ Y < 4294967296 := Nat.xor_lt_two_pow (n := 32) (by omega) (by omega)
  have e1 : 4294967295 ^^^ X < 4294967296 := Nat.xor_lt_two_pow (n := 32) (by omega) (by omega)
  have e2 : 4294967295 ^^^ (X ^^^ Y) < 4294967296 := Nat.xor_lt_two_pow (n := 32) (by omega) e0
  rw [hD, hm, u32_xor_nat _ _ (by omega) (by omega), u32_xor_nat X Y (by omega) (by omega), u32_xor_nat _ _ (by omega) e0, u32_and_nat _ _ e1 (by omega), u32_and_nat _ _ e2 hd1,
    u32_or_nat _ _ (Nat.and_lt_two_pow (n := 32) _ (by omega)) (Nat.and_lt_two_pow (n := 32) _ (by omega))]
  exact borrow_nat X Y D C (by omega) (by omega) (by omega) hD.symm
set_option maxHeartbeats 1000000 in
theorem Sub32_calls (x y c : Int) (w : World) (hx0 : 0 ≤ x) (hx1 : x < 4294967296) (hy0 : 0 ≤ y) (hy1 : y < 4294967296) (hc0 : 0 ≤ c) (hc1 : c ≤ 1) :
    Calls Tryz.prog 177 #[.int .u32 x, .int .u32 y, .int .u32 c] w fun e w' => e = .returned (.tuple #[.int .u32 ((x - y - c) % 4294967296), .int .u32 (if x < y + c then 1 else 0)]) ∧ w = w' := by
  have HB := Lib.hid (borrow_int x y c hx0 hx1 hy0 hy1 hc0 hc1)
  obtain ⟨b, hb⟩ : ∃ b, b = if x < y + c then (1 : Int) else 0 := ⟨_, rfl⟩
  rw [← hb] at HB ⊢
  clear hb
  go_enter Tryz.func177, Tryz.ntmps177
  go_wp2
  go_ret2
  exact ⟨congrArg (fun z => Ending.returned (.tuple #[.int .u32 ((x - y - c) % 4294967296), .int .u32 z])) HB.out, rfl⟩
set_option maxHeartbeats 1000000 in
theorem isNaN_int_calls (x : Int) (w : World) : Calls Tryz.prog 146 #[.int .i64 x] w fun e w' => e = .returned (.bool false) ∧ w = w' := by
  go_enter Tryz.func146, Tryz.ntmps146
  go_wp2
  go_ret
  exact ⟨by simp, rfl⟩
set_option maxHeartbeats 1000000 in
theorem isNaN_u32_calls (x : Int) (w : World) : Calls Tryz.prog 163 #[.int .u32 x] w fun e w' => e = .returned (.bool false) ∧ w = w' := by
  go_enter Tryz.func163, Tryz.ntmps163
  go_wp2
  go_ret
  exact ⟨by simp, rfl⟩
set_option maxHeartbeats 1000000 in
theorem Compare_int_calls (x y : Int) (w : World) : Calls Tryz.prog 137 #[.int .i64 x, .int .i64 y] w fun e w' => e = .returned (.int .i64 (cmpI x y)) ∧ w = w' := by
  rcases Int.lt_trichotomy x y with h | h | h
  · have HR := Lib.hid (show cmpI x y = -1 by rw [cmpI, if_pos h])
    rw [HR.out]
    go_enter Tryz.func137, Tryz.ntmps137
    go_wp2_with (go_at_call 146; refine (isNaN_int_calls _ _).mono ?_; rintro e w' ⟨rfl, rfl⟩)
    go_ret
    exact ⟨rfl, rfl⟩
  · subst h
    have HR := Lib.hid (show cmpI x x = 0 by rw [cmpI, if_neg (by omega), if_neg (by omega)])
    rw [HR.out]
    go_enter Tryz.func137, Tryz.ntmps137
    go_wp2_with (go_at_call 146; refine (isNaN_int_calls _ _).mono ?_; rintro e w' ⟨rfl, rfl⟩)
    go_ret
    exact ⟨rfl, rfl⟩
  · have HR := Lib.hid (show cmpI x y = 1 by rw [cmpI, if_neg (by omega), if_pos h])
    rw [HR.out]
    have h2 : ¬ x < y := by omega
    go_enter Tryz.func137, Tryz.ntmps137
    go_wp2_with (go_at_call 146; refine (isNaN_int_calls _ _).mono ?_; rintro e w' ⟨rfl, rfl⟩)
    go_ret
    exact ⟨rfl, rfl⟩
set_option maxHeartbeats 1000000 in
theorem Compare_u32_calls (x y : Int) (w : World) : Calls Tryz.prog 138 #[.int .u32 x, .int .u32 y] w fun e w' => e = .returned (.int .i64 (cmpI x y)) ∧ w = w' := by
  rcases Int.lt_trichotomy x y with h | h | h
  · have HR := Lib.hid (show cmpI x y = -1 by rw [cmpI, if_pos h])
    rw [HR.out]
    go_enter Tryz.func138, Tryz.ntmps138
    go_wp2_with (go_at_call 163; refine (isNaN_u32_calls _ _).mono ?_; rintro e w' ⟨rfl, rfl⟩)
    go_ret
    exact ⟨rfl, rfl⟩
  · subst h
    have HR := Lib.hid (show cmpI x x = 0 by rw [cmpI, if_neg (by omega), if_neg (by omega)])
    rw [HR.out]
    go_enter Tryz.func138, Tryz.ntmps138
    go_wp2_with (go_at_call 163; refine (isNaN_u32_calls _ _).mono ?_; rintro e w' ⟨rfl, rfl⟩)
    go_ret
    exact ⟨rfl, rfl⟩
  · have HR := Lib.hid (show cmpI x y = 1 by rw [cmpI, if_neg (by omega), if_pos h])
    rw [HR.out]
    have h2 : ¬ x < y := by omega
    go_enter Tryz.func138, Tryz.ntmps138
    go_wp2_with (go_at_call 163; refine (isNaN_u32_calls _ _).mono ?_; rintro e w' ⟨rfl, rfl⟩)
    go_ret
    exact ⟨rfl, rfl⟩
end Go.Proofs.YtlcofdgaidlldaaGreatDoor
namespace Go.Proofs.YtlcofdgaidlldaaGreatDoor
open Go.RowKit Go.Proofs.YtlcofdgaidlldaaGreatDoorW.PrintWords
set_option linter.unusedVariables false
set_option linter.unusedSimpArgs false
theorem cmpI_lt {a b : Int} (h : a < b) : cmpI a b = -1 := by rw [cmpI, if_pos h]
theorem cmpI_gt {a b : Int} (h : b < a) : cmpI a b = 1 := by rw [cmpI, if_neg (by omega), if_pos h]
theorem cmpI_eq {a b : Int} (h : a = b) : cmpI a b = 0 := by rw [cmpI, if_neg (by omega), if_neg (by omega)]
theorem cmp_lens {a b : List Int} (ha : lim a) (hb : lim b) (h : (normL a).length ≠ (normL b).length) : cmpI (normL a).length (normL b).length = cmpI (val a) (val b) := by
  rcases Nat.lt_or_gt_of_ne h with h | h
  · rw [cmpI_lt (by omega), cmpI_lt (cmp_len ha hb h)]
  · rw [cmpI_gt (by omega), cmpI_gt (cmp_len hb ha h)]
theorem cmp_tops {a b : List Int} (ha : lim a) (hb : lim b) {i : Nat} (hl : (normL a).length = (normL b).length) (hi : i < (normL a).length) (hd : (normL a).drop (i + 1) = (normL b).drop (i + 1)) (hne : (normL a).getD i 0 ≠ (normL b).getD i 0) : cmpI ((normL a).getD i 0) ((normL b).getD i 0) = cmpI (val a) (val b) := by
  rcases Int.lt_or_gt_of_ne hne with h | h
  · rw [cmpI_lt h, cmpI_lt (cmp_top ha hb hl hi hd h)]
  · rw [cmpI_gt h, cmpI_gt (cmp_top hb ha hl.symm (by omega) hd.symm h)]
theorem drop_same {a b : List Int} {i : Nat} (ha : i < a.length) (hb : i < b.length) (hd : a.drop (i + 1) = b.drop (i + 1)) (h : a.getD i 0 = b.getD i 0) : a.drop i = b.drop i := by
  rw [List.drop_eq_getElem_cons ha, List.drop_eq_getElem_cons hb, hd]
  congr 1
  simpa [ha, hb] using h
set_option maxRecDepth 100000 in
set_option maxHeartbeats 2000000 in
theorem nCmp_calls (xs ys : List Int) (A B : Option Addr) (c d : Nat) (w : World) (hx : (Kd.int .u32).C w A xs.length xs) (hy : (Kd.int .u32).C w B ys.length ys) (hc : xs.length ≤ c) (hd : ys.length ≤ d) (hnx : lim xs) (hny : lim ys) :
    Calls Tryz.prog 101 #[.slice A xs.length c, .slice B ys.length d] w fun e w' => e = .returned (.int .i64 (cmpI (val xs) (val ys))) ∧ Below w.heap.size w w' := by
  have HTX := Lib.hid (trim_calls xs A c w hx hc)
  have HTY := Lib.hid (trim_calls ys B d w hy hd)
  have HX := take_C hx (normL_len xs)
  have HY := take_C hy (normL_len ys)
  rw [← normL_prefix] at HX HY
  have HX := Lib.hid HX
  have HY := Lib.hid HY
  have HLEN := Lib.hid (cmp_lens hnx hny)
  have HTOP := Lib.hid (fun (i : Nat) => cmp_tops (i := i) hnx hny)
  have HEQ := Lib.hid (fun h => cmpI_eq (cmp_eq hnx hny h))
  obtain ⟨r, hr⟩ : ∃ r, r = cmpI (val xs) (val ys) := ⟨_, rfl⟩
  rw [← hr] at HLEN HTOP HEQ ⊢
  have hxl := normL_len xs
  have hyl := normL_len ys
  have hmx := Kd.C_max hx
  have hmy := Kd.C_max hy
  obtain ⟨ps, hps⟩ : ∃ ps, ps = normL xs := ⟨_, rfl⟩
  obtain ⟨qs, hqs⟩ : ∃ qs, qs = normL ys := ⟨_, rfl⟩
  rw [← hps] at HTX HX HLEN HTOP HEQ hxl
  rw [← hqs] at HTY HY HLEN HTOP HEQ hyl
  clear hx hy hr hps hqs hnx hny
  by_cases hl : ps.length = qs.length
  · have hln : ((ps.length : Int) != (qs.length : Int)) = false := by rw [hl]; simp
    have HL := Lib.hid hl
    clear hl
    go_enter Tryz.func101, Tryz.ntmps101
    go_wp2_with (first
      | (go_at_call 136; (with_reducible refine HTX.out.mono ?_); rintro e w' ⟨rfl, rfl⟩)
      | (go_at_call 136; (with_reducible refine HTY.out.mono ?_); rintro e w' ⟨rfl, rfl⟩))
    go_loopw [5] (fun v5 wr => ∃ k : Nat, k ≤ ps.length ∧ v5 = .int .i64 ((k : Int) - 1) ∧ Hid (ps.drop k = qs.drop k) ∧ Below w.heap.size w wr) (fun v5 _ => (intOf v5 + 1).toNat)
    case atStart => exact ⟨ps.length, Nat.le_refl _, by go_num, Lib.hid (by rw [List.drop_length, List.drop_of_length_le (by rw [HL.out]; exact Nat.le_refl _)]), Below.refl _ _⟩
    case round =>
      obtain ⟨k, hk, rfl, HE, hb⟩ := hrel
      rcases k with _ | m
      · go_wp2
        go_ret
        exact ⟨retI (HEQ.out (by simpa using HE.out)).symm, hb⟩
      · obtain ⟨ad, hA, hc0⟩ := elI HX.out (show m < ps.length by omega)
        obtain ⟨ae, hB, hd0⟩ := elI HY.out (show m < qs.length by have := HL.out; omega)
        subst hA
        subst hB
        have hcx := pw_cell_below hb hc0
        have hcy := pw_cell_below hb hd0
        have HT := Lib.hid (fun hne => HTOP.out m HL.out (by omega) HE.out hne)
        have HS := Lib.hid (fun h => drop_same (a := ps) (b := qs) (i := m) (by omega) (by have := HL.out; omega) HE.out h)
        have hmq : m < qs.length := by have := HL.out; omega
        obtain ⟨x, hxx⟩ : ∃ x, x = ps.getD m 0 := ⟨_, rfl⟩
        obtain ⟨y, hyy⟩ : ∃ y, y = qs.getD m 0 := ⟨_, rfl⟩
        rw [← hxx] at hcx HT HS
        rw [← hyy] at hcy HT HS
        clear hc0 hd0 hxx hyy
        have hcd : wr.drew.cell? (ad.add m) = some (.int .u32 x) := hcx
        have hdd : wr.drew.cell? (ae.add m) = some (.int .u32 y) := hcy
        by_cases hxy : x = y
        · have hne : (x != y) = false := by simp [hxy]
          have HXY := Lib.hid hxy
          clear hxy
          go_wp2
          go_quiet (fail)
          go_wp2
          go_roundw
          case rel => exact ⟨m, by omega, by go_num, Lib.hid (HS.out HXY.out), pw_below_drewN hb _⟩
          case measure => simp [intOf]
        · have hne : (x != y) = true := by simp [hxy]
          have HXY := Lib.hid hxy
          clear hxy
          go_wp2
          go_quiet (fail)
          go_wp2
          obtain ⟨w2, hw2⟩ : ∃ w2, w2 = wr.drewN nq := ⟨_, rfl⟩
          rw [← hw2]
          have hb2 : Below w.heap.size w w2 := by rw [hw2]; exact pw_below_drewN hb _
          have hcx2 : w2.drew.cell? (ad.add m) = some (.int .u32 x) := by rw [hw2]; exact hcx
          have hcy2 : w2.drew.cell? (ae.add m) = some (.int .u32 y) := by rw [hw2]; exact hcy
          clear hw2 hcx hcy hcd hdd
          have hcx3 : w2.cell? (ad.add m) = some (.int .u32 x) := hcx2
          have hcy3 : w2.cell? (ae.add m) = some (.int .u32 y) := hcy2
          have hi0 : (0 : Int) ≤ (m : Int) := by omega
          have hi1 : (m : Int) < (ps.length : Int) := by omega
          have hi2 : (m : Int) < (qs.length : Int) := by omega
          go_quiet (first | (go_at_call 138; (with_reducible refine (Compare_u32_calls x y _).mono ?_); rintro e w' ⟨rfl, rfl⟩; exact ⟨rfl, _, rfl⟩))
          go_wp2
          go_ret
          exact ⟨retI (HT.out HXY.out), pw_below_drewN hb2 _⟩
  · have hln : ((ps.length : Int) != (qs.length : Int)) = true := by simp; omega
    have HL := Lib.hid hl
    clear hl
    go_enter Tryz.func101, Tryz.ntmps101
    go_wp2_with (first
      | (go_at_call 136; (with_reducible refine HTX.out.mono ?_); rintro e w' ⟨rfl, rfl⟩)
      | (go_at_call 136; (with_reducible refine HTY.out.mono ?_); rintro e w' ⟨rfl, rfl⟩)
      | (go_at_call 137; refine (Compare_int_calls _ _ _).mono ?_; rintro e w' ⟨rfl, rfl⟩))
    go_ret
    exact ⟨retI (HLEN.out HL.out), Below.refl _ _⟩
end Go.Proofs.YtlcofdgaidlldaaGreatDoor
namespace Go.Proofs.YtlcofdgaidlldaaGreatDoor
open Go.RowKit Go.Proofs.YtlcofdgaidlldaaGreatDoorW.PrintWords
set_option linter.unusedVariables false
set_option linter.unusedSimpArgs false
theorem sub_step {ps qs os : List Int} {k : Nat} {cy s c' : Int} (h : val (os.take k) - pw k * cy = val (ps.take k) - val (qs.take k)) (hk : k < os.length) (hs : s - 4294967296 * c' = ps.getD k 0 - qs.getD k 0 - cy) :
    val ((os.set k s).take (k + 1)) - pw (k + 1) * c' = val (ps.take (k + 1)) - val (qs.take (k + 1)) := by
  rw [val_take_succ, val_take_succ ps, val_take_succ qs, List.take_set, show ((os.take k).set k s) = os.take k by rw [List.set_eq_of_length_le]; simp; omega, show (os.set k s).getD k 0 = s by simp [List.getD_eq_getElem?_getD, hk], pw_succ]
  have h2 : pw k * (s - 4294967296 * c') = pw k * (ps.getD k 0 - qs.getD k 0 - cy) := by rw [hs]
  simp only [Int.mul_sub] at h2
  rw [Int.mul_assoc]
  omega
theorem sub_done {ps qs os : List Int} {cy : Int} (hl : os.length = ps.length) (ho : lim os) (hq : qs.length ≤ ps.length) (h : val (os.take ps.length) - pw ps.length * cy = val (ps.take ps.length) - val (qs.take ps.length)) (h0 : 0 ≤ cy) (hge : val qs ≤ val ps) : val os = val ps - val qs := by
  rw [List.take_of_length_le (by omega), List.take_of_length_le (by omega), List.take_of_length_le hq] at h
  have h1 := val_lt ho
  rw [hl] at h1
  have h2 := val_nonneg ho
  have h3 := pw_pos ps.length
  rcases Int.lt_or_le 0 cy with h4 | h4
  · have := Int.mul_le_mul_of_nonneg_left (show (1 : Int) ≤ cy by omega) (show 0 ≤ pw ps.length by omega)
    omega
  · have : cy = 0 := by omega
    subst this
    omega
theorem len_le {a b : List Int} (ha : lim a) (hb : lim b) (h : val b ≤ val a) : (normL b).length ≤ a.length := by
  rcases Nat.lt_or_ge a.length (normL b).length with h2 | h2
  · have := cmp_len ha hb (by have := normL_len a; omega)
    omega
  · exact h2
set_option maxRecDepth 100000 in
set_option maxHeartbeats 2000000 in
theorem nSub_calls (xs ys : List Int) (A B : Option Addr) (c d : Nat) (w : World) (hx : (Kd.int .u32).C w A xs.length xs) (hy : (Kd.int .u32).C w B ys.length ys) (hc : xs.length ≤ c) (hd : ys.length ≤ d) (hlx : xs.length ≤ 100000) (hnx : lim xs) (hny : lim ys) :
    Calls Tryz.prog 167 #[.slice A xs.length c, .slice B ys.length d] w fun e w' => ∃ v, e = .returned v ∧ LV w' (fun k => w.heap.size ≤ k) v (limbs (val xs - val ys).toNat) ∧ Below w.heap.size w w' := by
  have HCMP := Lib.hid (nCmp_calls xs ys A B c d w hx hy hc hd hnx hny)
  by_cases hlt : val xs < val ys
  · have HR := Lib.hid (show limbs (val xs - val ys).toNat = [] by rw [show (val xs - val ys).toNat = 0 by omega]; exact limbs_zero)
    have HC := Lib.hid (cmpI_lt hlt)
    rw [HC.out] at HCMP
    rw [HR.out]
    clear hlt hx hy
    go_enter Tryz.func167, Tryz.ntmps167
    go_wp2_with (go_at_call 101; (with_reducible refine HCMP.out.mono ?_); rintro e w1 ⟨rfl, hb1⟩)
    go_ret
    exact ⟨_, rfl, ⟨_, _, rfl, Nat.le_refl _, fun W' _ => ⟨rfl, by simp, fun h => absurd h (by simp)⟩⟩, by exact below_alloc hb1 _⟩
  · have hcn : 0 ≤ cmpI (val xs) (val ys) := by unfold cmpI; split <;> (try split) <;> omega
    have HX := Lib.hid hx
    have HNX := Lib.hid hnx
    have HY := take_C hy (normL_len ys)
    rw [← normL_prefix] at HY
    have HY := Lib.hid HY
    have HTR := Lib.hid (fun (W : World) (hb : Below w.heap.size w W) => trim_calls ys B d W (Kd.C_below hy hb) hd)
    have HNY := Lib.hid (lim_normL hny)
    have HVY := Lib.hid (val_normL hny)
    have hql := len_le hnx hny (by omega)
    have hge : val ys ≤ val xs := by omega
    obtain ⟨ci, hci⟩ : ∃ ci, ci = cmpI (val xs) (val ys) := ⟨_, rfl⟩
    obtain ⟨qs, hqs⟩ : ∃ qs, qs = normL ys := ⟨_, rfl⟩
    rw [← hci] at HCMP hcn
    rw [← hqs] at HY HTR HNY HVY hql
    have HGE := Lib.hid hge
    clear hci hqs hx hy hnx hny hlt hge
    go_enter Tryz.func167, Tryz.ntmps167
    go_wp2_with (first
      | (go_at_call 101; (with_reducible refine HCMP.out.mono ?_); rintro e w1 ⟨rfl, hb1⟩; have hs1 := hb1.size)
      | (go_at_call 136; (with_reducible refine (HTR.out _ hb1).mono ?_); rintro e w' ⟨rfl, rfl⟩)
      | ((with_reducible refine u32_make 19 rfl ?_ _ _ rfl xs.length ?_ ?_ ?_ ?_); (case _ => rfl); (case _ => rfl); (case _ => rfl); (case _ => omega); intro w2 hB0 hg2 hs2; have hb0 : Below w.heap.size w w2 := hb1.trans ((Below.refl _ w1).grown hg2 hs1 (fun k e => by cases e))))
    go_loopw [6, 22] (fun v6 v22 wr => ∃ (k : Nat) (os : List Int) (cy : Int), k ≤ xs.length ∧ v22 = .int .i64 k ∧ v6 = .int .u32 cy ∧ 0 ≤ cy ∧ cy ≤ 1 ∧ LB wr w1.heap.size os ∧ Hid (os.length = xs.length ∧ lim os ∧ val (os.take k) - pw k * cy = val (xs.take k) - val (qs.take k)) ∧ Below w.heap.size w wr) (fun _ v22 _ => xs.length - (intOf v22).toNat)
    case atStart => exact ⟨0, List.replicate xs.length 0, 0, Nat.zero_le _, rfl, rfl, by omega, by omega, hB0, Lib.hid ⟨by simp, lim_zeros _, by simp [val]⟩, hb0⟩
    case round =>
      obtain ⟨k, os, cy, hk, rfl, rfl, hc0, hc1, hB, HE, hb⟩ := hrel
      by_cases hlt : k < xs.length
      · obtain ⟨ad, hA, hcx0⟩ := elI HX.out hlt
        subst hA
        have hcx := pw_cell_below hb hcx0
        have hx01 := lim_getD HNX.out k
        have HST := Lib.hid (fun (s c' : Int) hs => sub_step (s := s) (c' := c') HE.out.2.2 (by have := HE.out.1; omega) hs)
        have q1 := hB.cell (i := k) (by have := HE.out.1; omega)
        have f1 := hB.frozen k
        have HBS := Lib.hid (fun s => hB.set k s)
        have hsz := hB.lt
        obtain ⟨x, hxx⟩ : ∃ x, x = xs.getD k 0 := ⟨_, rfl⟩
        rw [← hxx] at hcx hx01 HST
        obtain ⟨u, huu⟩ : ∃ u, u = os.getD k 0 := ⟨_, rfl⟩
        rw [← huu] at q1
        clear hcx0 hxx huu
        by_cases hq : k < qs.length
        · obtain ⟨ae, hE, hcy0⟩ := elI HY.out hq
          subst hE
          have hcy := pw_cell_below hb hcy0
          have hy01 := lim_getD HNY.out k
          obtain ⟨y, hyy⟩ : ∃ y, y = qs.getD k 0 := ⟨_, rfl⟩
          rw [← hyy] at hcy hy01 HST
          have HSUB := Lib.hid (fun W => Sub32_calls x y cy W hx01.1 hx01.2 hy01.1 hy01.2 hc0 hc1)
          obtain ⟨b, hbb⟩ : ∃ b, b = if x < y + cy then (1 : Int) else 0 := ⟨_, rfl⟩
          rw [← hbb] at HSUB
          have hb01 : 0 ≤ b ∧ b ≤ 1 ∧ (x - y - cy) % 4294967296 - 4294967296 * b = x - y - cy := by rw [hbb]; split <;> omega
          clear hcy0 hyy hbb
          go_wp2_with (go_at_call 177; (with_reducible refine (HSUB.out _).mono ?_); rintro e w' ⟨rfl, rfl⟩)
          go_roundw
          case rel => exact ⟨k + 1, _, b, by omega, by go_num, rfl, by omega, by omega, HBS.out _, Lib.hid ⟨by rw [List.length_set]; exact HE.out.1, lim_set HE.out.2.1 (by omega) (by omega), HST.out _ _ hb01.2.2⟩, hb.setCell hs1 _⟩
          case measure => simp [intOf]; omega
        · have HY0 := Lib.hid (show qs.getD k 0 = 0 by rw [List.getD_eq_getElem?_getD, List.getElem?_eq_none (by omega)]; rfl)
          rw [HY0.out] at HST
          have HSUB := Lib.hid (fun W => Sub32_calls x 0 cy W hx01.1 hx01.2 (by omega) (by omega) hc0 hc1)
          obtain ⟨b, hbb⟩ : ∃ b, b = if x < 0 + cy then (1 : Int) else 0 := ⟨_, rfl⟩
          rw [← hbb] at HSUB
          have hb01 : 0 ≤ b ∧ b ≤ 1 ∧ (x - 0 - cy) % 4294967296 - 4294967296 * b = x - 0 - cy := by rw [hbb]; split <;> omega
          clear hbb
          go_wp2_with (go_at_call 177; (with_reducible refine (HSUB.out _).mono ?_); rintro e w' ⟨rfl, rfl⟩)
          go_roundw
          case rel => exact ⟨k + 1, _, b, by omega, by go_num, rfl, by omega, by omega, HBS.out _, Lib.hid ⟨by rw [List.length_set]; exact HE.out.1, lim_set HE.out.2.1 (by omega) (by omega), HST.out _ _ (by omega)⟩, hb.setCell hs1 _⟩
          case measure => simp [intOf]; omega
      · obtain rfl : k = xs.length := by omega
        have HL1 := Lib.hid HE.out.1
        have hlim := Lib.hid HE.out.2.1
        have hval := Lib.hid (sub_done HE.out.1 HE.out.2.1 hql HE.out.2.2 hc0 (by rw [HVY.out]; exact HGE.out))
        have HB1 := Lib.hid hB
        have HT := Lib.hid (trim_calls os (some ⟨w1.heap.size, 0, none⟩) os.length wr (Kd.F_now (hB.F (by rw [HL1.out]; omega))) (Nat.le_refl _))
        rw [HL1.out] at HT
        clear hB HE
        go_wp2_with (go_at_call 136; (with_reducible refine HT.out.mono ?_); rintro e w' ⟨rfl, rfl⟩)
        go_ret
        have hV := (HB1.out.LV (by rw [HL1.out]; omega) (normL os).length xs.length (normL_len os) (by have := normL_len os; have := HL1.out; omega)).mono (ok' := fun k => w.heap.size ≤ k) (fun k hk => by omega)
        rw [← normL_prefix, normL_limbs hlim.out, hval.out, HVY.out] at hV
        rw [normL_limbs hlim.out, hval.out, HVY.out]
        exact ⟨_, rfl, hV, hb⟩
end Go.Proofs.YtlcofdgaidlldaaGreatDoor
namespace Go.Proofs.YtlcofdgaidlldaaGreatDoor
open Go.RowKit Go.Proofs.YtlcofdgaidlldaaGreatDoorW.PrintWords
set_option linter.unusedVariables false
set_option linter.unusedSimpArgs false
/-- A sign. -/
def sg (b : Bool) (n : Int) : Int := if b then -n else n
/-- The number that one is. -/
def BI.num (a : BI) : Int := sg a.neg (val a.l)
/-- A number as it must be. -/
def mkI (n : Int) : BI := ⟨decide (n < 0), limbs n.natAbs⟩
theorem limbs_nil {n : Nat} : limbs n = [] ↔ n = 0 := by
  constructor
  · intro h
    have := congrArg val h
    rw [val_limbs] at this
    simpa [val] using this
  · rintro rfl; exact limbs_zero
theorem mkI_of (b : Bool) {l : List Int} (h : lim l) : mkI (sg b (val l)) = ⟨b && decide (0 < (normL l).length), normL l⟩ := by
  have h0 := val_nonneg h
  have h1 : (sg b (val l)).natAbs = (val l).toNat := by cases b <;> simp [sg] <;> omega
  have h2 : decide (sg b (val l) < 0) = (b && decide (0 < (normL l).length)) := by
    cases b
    · simp [sg]; omega
    · rw [Bool.true_and, decide_eq_decide, normL_limbs h]
      have : 0 < (limbs (val l).toNat).length ↔ (val l).toNat ≠ 0 := by
        rw [List.length_pos_iff, ne_eq, limbs_nil]
      rw [this]; simp only [sg, if_true]; omega
  rw [mkI, h1, h2, normL_limbs h]
theorem lim_mkI (n : Int) : lim (mkI n).l := lim_limbs _
theorem num_mkI (n : Int) : (mkI n).num = n := by
  unfold BI.num mkI sg
  simp only [val_limbs]
  by_cases h : n < 0
  · simp [h]; omega
  · simp [h]; omega
theorem mkI_num {a : BI} (h : lim a.l) : mkI a.num = ⟨a.neg && decide (0 < (normL a.l).length), normL a.l⟩ := mkI_of a.neg h
theorem grown_below {n₀ b : Nat} {A B : World} (h : A.grownBy B (some b)) (hn : n₀ ≤ A.heap.size) (hb : n₀ ≤ b) : Below n₀ A B := (Below.refl n₀ A).grown h hn (fun k e => by cases e; exact hb)
theorem size25' : (Tryz.prog.info? 25).map (·.size) = some 2 := by kernel_rfl
abbrev zIc : List Value := [.bool false, .slice none 0 0]
set_option maxRecDepth 100000 in
set_option maxHeartbeats 2000000 in
theorem of_calls (b : Bool) (xs : List Int) (A : Option Addr) (c : Nat) (w : World) (hx : (Kd.int .u32).C w A xs.length xs) (hc : xs.length ≤ c) (hl : xs.length ≤ 1000000) (hn : lim xs) :
    Calls Tryz.prog 135 #[.bool b, .slice A xs.length c] w fun e w' => ∃ cs', e = .returned (.agg cs'.toArray) ∧ Kd.FK kI w' (fun k => w.heap.size ≤ k) (mkI (sg b (val xs))) cs' ∧ Below w.heap.size w w' := by
  have HN := Lib.hid (fun (W : World) (hb : Below w.heap.size w W) => nNorm_calls xs A c W (Kd.C_below hx hb) hc hl)
  have HM := Lib.hid (mkI_of b hn)
  have HR : Hid (∀ (W : World) (v : Value) (B : Option Addr) (d : Nat), (normL xs).length ≤ d → Kd.F (Kd.int .u32) W (fun k => w.heap.size ≤ k) B (normL xs).length (normL xs) → Kd.FK kI W (fun k => w.heap.size ≤ k) (mkI (sg b (val xs))) [.bool (b && decide (0 < (normL xs).length)), .slice B (normL xs).length d]) := Lib.hid (fun W v B d h1 h2 => by
    rw [HM.out]
    exact fun W' hW => kI_mk W' ⟨_, normL xs⟩ h1 (h2 W' hW))
  have hnl := normL_len xs
  obtain ⟨r, hr⟩ : ∃ r, r = mkI (sg b (val xs)) := ⟨_, rfl⟩
  obtain ⟨l, hl0⟩ : ∃ l, l = normL xs := ⟨_, rfl⟩
  rw [← hr, ← hl0] at HR
  rw [← hr]
  rw [← hl0] at HN hnl
  clear HM hr hl0 hx
  have hR0 : BX 25 (w.alloc (.cells zIc.toArray 25)) w.heap.size zIc := BX.new w zIc
  have hW0 : Below w.heap.size w (w.alloc (.cells zIc.toArray 25)) := below_alloc (Below.refl _ _) _
  have hss : (w.alloc (.cells zIc.toArray 25)).heap.size = w.heap.size + 1 := by simp
  have hp : b = false ∨ b = true ∧ 0 < l.length ∨ b = true ∧ ¬ 0 < l.length := by
    cases b
    · exact .inl rfl
    · rcases Nat.lt_or_ge 0 l.length with h | h
      · exact .inr (.inl ⟨rfl, h⟩)
      · exact .inr (.inr ⟨rfl, by omega⟩)
  rcases hp with rfl | ⟨rfl, hp⟩ | ⟨rfl, hp⟩
  · skip
    go_enter Tryz.func135, Tryz.ntmps135
    go_wp2_with (first
      | (go_at_call 162; (with_reducible refine (HN.out _ hW0).mono ?_); rintro e w1 ⟨v, rfl, ⟨B, d, hv, hld, hF⟩, hb1⟩; subst hv; have hR1 := hR0.below hb1; have HF := Lib.hid hF; clear hF; have hs1 := hb1.size)
      | ((with_reducible refine store_bx hR1 none rfl ?_ _ _ rfl [.bool false, .slice B l.length d] ?_ ?_ ?_ ?_ ?_ ?_); (case _ => rfl); (case _ => rfl); (case _ => rfl); (case _ => exact size25'); (case _ => rfl); (case _ => simp [Value.oneCell']); intro w2 hR2 hg2))
    have hload := hR2.load (P := Tryz.prog) Tryz.underlying25 (by exact size25')
    have hb2 : Below w.heap.size w w2 := (hW0.trans (hb1.mono (by omega))).trans (grown_below hg2 (by omega) (Nat.le_refl _))
    have hF2 := Kd.F_mono (Kd.F_grown HF.out hg2 (fun k hk e => by cases e; omega)) (ok' := fun k => w.heap.size ≤ k) (fun k hk => by omega)
    refine bodyPost_ret (v := .agg ([.bool false, .slice B l.length d] : List Value).toArray) ?_ rfl ⟨_, rfl, HR.out w2 undef B d hld hF2, hb2⟩
    simp [results, Tryz.f135, asAddr, Result.andThen, Act.put, hload]
  · (rw [Bool.true_and, decide_eq_true hp] at HR)
    go_enter Tryz.func135, Tryz.ntmps135
    go_wp2_with (first
      | (go_at_call 162; (with_reducible refine (HN.out _ hW0).mono ?_); rintro e w1 ⟨v, rfl, ⟨B, d, hv, hld, hF⟩, hb1⟩; subst hv; have hR1 := hR0.below hb1; have HF := Lib.hid hF; clear hF; have hs1 := hb1.size)
      | ((with_reducible refine store_bx hR1 none rfl ?_ _ _ rfl [.bool true, .slice B l.length d] ?_ ?_ ?_ ?_ ?_ ?_); (case _ => rfl); (case _ => rfl); (case _ => rfl); (case _ => exact size25'); (case _ => rfl); (case _ => simp [Value.oneCell']); intro w2 hR2 hg2))
    have hload := hR2.load (P := Tryz.prog) Tryz.underlying25 (by exact size25')
    have hb2 : Below w.heap.size w w2 := (hW0.trans (hb1.mono (by omega))).trans (grown_below hg2 (by omega) (Nat.le_refl _))
    have hF2 := Kd.F_mono (Kd.F_grown HF.out hg2 (fun k hk e => by cases e; omega)) (ok' := fun k => w.heap.size ≤ k) (fun k hk => by omega)
    refine bodyPost_ret (v := .agg ([.bool true, .slice B l.length d] : List Value).toArray) ?_ rfl ⟨_, rfl, HR.out w2 undef B d hld hF2, hb2⟩
    simp [results, Tryz.f135, asAddr, Result.andThen, Act.put, hload]
  · (rw [Bool.true_and, decide_eq_false hp] at HR)
    go_enter Tryz.func135, Tryz.ntmps135
    go_wp2_with (first
      | (go_at_call 162; (with_reducible refine (HN.out _ hW0).mono ?_); rintro e w1 ⟨v, rfl, ⟨B, d, hv, hld, hF⟩, hb1⟩; subst hv; have hR1 := hR0.below hb1; have HF := Lib.hid hF; clear hF; have hs1 := hb1.size)
      | ((with_reducible refine store_bx hR1 none rfl ?_ _ _ rfl [.bool false, .slice B l.length d] ?_ ?_ ?_ ?_ ?_ ?_); (case _ => rfl); (case _ => rfl); (case _ => rfl); (case _ => exact size25'); (case _ => rfl); (case _ => simp [Value.oneCell']); intro w2 hR2 hg2))
    have hload := hR2.load (P := Tryz.prog) Tryz.underlying25 (by exact size25')
    have hb2 : Below w.heap.size w w2 := (hW0.trans (hb1.mono (by omega))).trans (grown_below hg2 (by omega) (Nat.le_refl _))
    have hF2 := Kd.F_mono (Kd.F_grown HF.out hg2 (fun k hk e => by cases e; omega)) (ok' := fun k => w.heap.size ≤ k) (fun k hk => by omega)
    refine bodyPost_ret (v := .agg ([.bool false, .slice B l.length d] : List Value).toArray) ?_ rfl ⟨_, rfl, HR.out w2 undef B d hld hF2, hb2⟩
    simp [results, Tryz.f135, asAddr, Result.andThen, Act.put, hload]
end Go.Proofs.YtlcofdgaidlldaaGreatDoor
