/- DERIVED: THE SHELF's CONTRACTS AT THIS DUMP, IN PLAIN WORDS (tools/lay-plain.mjs out of 'YtlcofdgaidlldaaGreatDoorKeysShelf.lean', which tools/lay-shelf.mjs wrote): THE SAME DECLARATIONS UNDER THE SAME NAMES: 'import', 'namespace', 'open', 'def', 'theorem' AND NOTHING ELSE: no command of the shelf's: FOR A HAND-IN. Each laying: the table of numbers ('.._ren') and one theorem, a field a fact of the dump's own or the kernel's comparison; each contract: ONE APPLICATION. Contracts: core.Free, core.Closed, rule.May. The walk's conditions: the parameter's memory; the tables are laid; core.Free's: what stands there is good. -/
import Derived.Shelf.SlIterI.Nil
import Derived.Shelf.SortM.Plain
import Derived.Shelf.SortM.SortNone
import Derived.Ground.GgzProg
import Derived.Ground.SlgmProg
import Derived.Test.YtlcofdgaidlldaaGreatDoorZh
import Derived.Test.YtlcofdgaidlldaaGreatDoorZj
import Derived.Test.YtlcofdgaidlldaaGreatDoorProg
namespace Go.Proofs
open Go.Shelf
def Tryz.keysA_ren : Go.Shelf.Ren := ⟨fun | 7 => 45 | 10 => 60 | n => n, fun | 23 => 72 | 26 => 3 | 3 => 4 | 28 => 80 | 0 => 0 | 27 => 79 | 33 => 88 | 4 => 4 | n => n, fun | n => n⟩
theorem Tryz.keysA : Go.Proofs.SlLaysZI.n7 Tryz.prog Tryz.keysA_ren := {
  mixed := by kernel_rfl
  f7 := ⟨Tryz.f45.name, by decide, Tryz.func45.trans (congrArg some (by kernel_rfl))⟩
  f10 := ⟨Tryz.f60.name, by decide, Tryz.func60.trans (congrArg some (by kernel_rfl))⟩
  t0 := Tryz.underlying0
  a0 := Tryz.isAgg0
  z0 := Tryz.sizeOf0
  v0 := Tryz.zeroValue0
  t4 := Tryz.underlying4
  a4 := Tryz.isAgg4
  z4 := Tryz.sizeOf4
  v4 := Tryz.zeroValue4
  t23 := Tryz.underlying72
  a23 := Tryz.isAgg72
  z23 := Tryz.sizeOf72
  v23 := Tryz.zeroValue72
  t26 := Tryz.underlying3
  a26 := Tryz.isAgg3
  z26 := Tryz.sizeOf3
  v26 := Tryz.zeroValue3
  t27 := Tryz.underlying79
  a27 := Tryz.isAgg79
  z27 := Tryz.sizeOf79
  v27 := Tryz.zeroValue79
  t28 := Tryz.underlying80
  a28 := Tryz.isAgg80
  z28 := Tryz.sizeOf80
  v28 := Tryz.zeroValue80
  t33 := Tryz.underlying88
  a33 := Tryz.isAgg88
  z33 := Tryz.sizeOf88
  v33 := Tryz.zeroValue88 }
def Tryz.sortedA_ren : Go.Shelf.Ren := ⟨fun | 6 => 44 | 8 => 58 | 9 => 59 | 11 => 73 | 13 => 75 | 12 => 74 | 23 => 118 | 24 => 119 | 14 => 109 | 15 => 110 | 16 => 111 | 17 => 112 | 18 => 113 | 19 => 114 | 20 => 115 | 21 => 116 | 22 => 117 | 25 => 141 | 26 => 142 | 27 => 143 | 28 => 144 | 29 => 145 | 30 => 146 | 31 => 165 | n => n, fun | 26 => 3 | 28 => 80 | 24 => 29 | 0 => 0 | 3 => 3 | 37 => 22 | 48 => 54 | 50 => 52 | 4 => 4 | 40 => 122 | 39 => 121 | 45 => 127 | 5 => 5 | 9 => 9 | 51 => 151 | 55 => 155 | 57 => 171 | 58 => 172 | 33 => 88 | n => n, fun | n => n⟩
theorem Tryz.sortedA : Go.Proofs.SlLaysZI.n6 Tryz.prog Tryz.sortedA_ren := {
  mixed := by kernel_rfl
  f6 := ⟨Tryz.f44.name, by decide, Tryz.func44.trans (congrArg some (by kernel_rfl))⟩
  f8 := ⟨Tryz.f58.name, by decide, Tryz.func58.trans (congrArg some (by kernel_rfl))⟩
  f11 := ⟨Tryz.f73.name, by decide, Tryz.func73.trans (congrArg some (by kernel_rfl))⟩
  t0 := Tryz.underlying0
  a0 := Tryz.isAgg0
  z0 := Tryz.sizeOf0
  v0 := Tryz.zeroValue0
  t24 := Tryz.underlying29
  a24 := Tryz.isAgg29
  z24 := Tryz.sizeOf29
  v24 := Tryz.zeroValue29
  t26 := Tryz.underlying3
  a26 := Tryz.isAgg3
  z26 := Tryz.sizeOf3
  v26 := Tryz.zeroValue3
  t28 := Tryz.underlying80
  a28 := Tryz.isAgg80
  z28 := Tryz.sizeOf80
  v28 := Tryz.zeroValue80
  i26 := by kernel_rfl }
def Tryz.sortA_ren : Go.Shelf.Ren := ⟨fun | 5 => 59 | 8 => 75 | 7 => 74 | 19 => 118 | 20 => 119 | 10 => 109 | 11 => 110 | 12 => 111 | 13 => 112 | 14 => 113 | 15 => 114 | 16 => 115 | 17 => 116 | 18 => 117 | 30 => 141 | 31 => 142 | 32 => 143 | 33 => 144 | 34 => 145 | 35 => 146 | 40 => 165 | n => n, fun | 23 => 29 | 25 => 3 | 3 => 3 | 32 => 22 | 22 => 29 | 0 => 0 | 44 => 54 | 46 => 52 | 4 => 4 | 36 => 122 | 35 => 121 | 41 => 127 | 5 => 5 | 9 => 9 | 53 => 151 | 57 => 155 | 63 => 171 | 64 => 172 | n => n, fun | n => n⟩
theorem Tryz.sortA : Go.Proofs.SlLaysM.n5 Tryz.prog Tryz.sortA_ren := {
  mixed := by kernel_rfl
  f5 := ⟨Tryz.f59.name, by decide, Tryz.func59.trans (congrArg some (by kernel_rfl))⟩
  f7 := ⟨Tryz.f74.name, by decide, Tryz.func74.trans (congrArg some (by kernel_rfl))⟩
  f8 := Tryz.func75.trans (congrArg some (by kernel_rfl))
  f10 := ⟨Tryz.f109.name, by decide, Tryz.func109.trans (congrArg some (by kernel_rfl))⟩
  f11 := ⟨Tryz.f110.name, by decide, Tryz.func110.trans (congrArg some (by kernel_rfl))⟩
  f12 := ⟨Tryz.f111.name, by decide, Tryz.func111.trans (congrArg some (by kernel_rfl))⟩
  f13 := ⟨Tryz.f112.name, by decide, Tryz.func112.trans (congrArg some (by kernel_rfl))⟩
  f14 := ⟨Tryz.f113.name, by decide, Tryz.func113.trans (congrArg some (by kernel_rfl))⟩
  f15 := ⟨Tryz.f114.name, by decide, Tryz.func114.trans (congrArg some (by kernel_rfl))⟩
  f16 := ⟨Tryz.f115.name, by decide, Tryz.func115.trans (congrArg some (by kernel_rfl))⟩
  f17 := ⟨Tryz.f116.name, by decide, Tryz.func116.trans (congrArg some (by kernel_rfl))⟩
  f18 := ⟨Tryz.f117.name, by decide, Tryz.func117.trans (congrArg some (by kernel_rfl))⟩
  f19 := Tryz.func118.trans (congrArg some (by kernel_rfl))
  f20 := Tryz.func119.trans (congrArg some (by kernel_rfl))
  f30 := ⟨Tryz.f141.name, by decide, Tryz.func141.trans (congrArg some (by kernel_rfl))⟩
  f31 := Tryz.func142.trans (congrArg some (by kernel_rfl))
  f32 := Tryz.func143.trans (congrArg some (by kernel_rfl))
  f33 := ⟨Tryz.f144.name, by decide, Tryz.func144.trans (congrArg some (by kernel_rfl))⟩
  f34 := ⟨Tryz.f145.name, by decide, Tryz.func145.trans (congrArg some (by kernel_rfl))⟩
  f35 := ⟨Tryz.f146.name, by decide, Tryz.func146.trans (congrArg some (by kernel_rfl))⟩
  f40 := ⟨Tryz.f165.name, by decide, Tryz.func165.trans (congrArg some (by kernel_rfl))⟩
  t0 := Tryz.underlying0
  a0 := Tryz.isAgg0
  z0 := Tryz.sizeOf0
  v0 := Tryz.zeroValue0
  t3 := Tryz.underlying3
  a3 := Tryz.isAgg3
  z3 := Tryz.sizeOf3
  v3 := Tryz.zeroValue3
  t4 := Tryz.underlying4
  a4 := Tryz.isAgg4
  z4 := Tryz.sizeOf4
  v4 := Tryz.zeroValue4
  t5 := Tryz.underlying5
  a5 := Tryz.isAgg5
  z5 := Tryz.sizeOf5
  v5 := Tryz.zeroValue5
  t9 := Tryz.underlying9
  a9 := Tryz.isAgg9
  z9 := Tryz.sizeOf9
  v9 := Tryz.zeroValue9
  t22 := Tryz.underlying29
  a22 := Tryz.isAgg29
  z22 := Tryz.sizeOf29
  v22 := Tryz.zeroValue29
  t23 := Tryz.underlying29
  a23 := Tryz.isAgg29
  z23 := Tryz.sizeOf29
  v23 := Tryz.zeroValue29
  t25 := Tryz.underlying3
  a25 := Tryz.isAgg3
  z25 := Tryz.sizeOf3
  v25 := Tryz.zeroValue3
  t32 := Tryz.underlying22
  a32 := Tryz.isAgg22
  z32 := Tryz.sizeOf22
  v32 := Tryz.zeroValue22
  t35 := Tryz.underlying121
  a35 := Tryz.isAgg121
  z35 := Tryz.sizeOf121
  v35 := Tryz.zeroValue121
  t36 := Tryz.underlying122
  a36 := Tryz.isAgg122
  z36 := Tryz.sizeOf122
  v36 := Tryz.zeroValue122
  t41 := Tryz.underlying127
  a41 := Tryz.isAgg127
  z41 := Tryz.sizeOf127
  v41 := Tryz.zeroValue127
  t44 := Tryz.underlying54
  a44 := Tryz.isAgg54
  z44 := Tryz.sizeOf54
  v44 := Tryz.zeroValue54
  t46 := Tryz.underlying52
  a46 := Tryz.isAgg52
  z46 := Tryz.sizeOf52
  v46 := Tryz.zeroValue52
  t53 := Tryz.underlying151
  a53 := Tryz.isAgg151
  z53 := Tryz.sizeOf151
  v53 := Tryz.zeroValue151
  t57 := Tryz.underlying155
  a57 := Tryz.isAgg155
  z57 := Tryz.sizeOf155
  v57 := Tryz.zeroValue155
  t63 := Tryz.underlying171
  a63 := Tryz.isAgg171
  z63 := Tryz.sizeOf171
  v63 := Tryz.zeroValue171
  t64 := Tryz.underlying172
  a64 := Tryz.isAgg172
  z64 := Tryz.sizeOf172
  v64 := Tryz.zeroValue172 }
end Go.Proofs
namespace Go.Proofs.YtlcofdgaidlldaaGreatDoor
open Go.RowKit Go.Shelf Go.Maps Go.Proofs.YtlcofdgaidlldaaGreatDoorW.PrintWords
set_option linter.unusedVariables false
set_option linter.unusedSimpArgs false
attribute [local go_sem] Oper.semAt_some
theorem mem_intKeys {H : Type} {P : Program} {k : TypeId} {R : Value → Option (DataW H × List MemPlace)} {w : World} {b n : Nat} {D0 : DataW H} (hown : w.ownsMap P k R b n D0) (hk : P.underlying k = some (.int .i64)) (x : Int) : x ∈ intKeys D0 ↔ has D0 (.int .i64 x) = true := by
  obtain ⟨es, rfl, hko⟩ := hown.keysOf
  rw [has_eq, List.any_eq_true]
  show x ∈ es.map (fun p => Go.intOf p.1) ↔ _
  rw [List.mem_map]
  constructor
  · rintro ⟨p, hp, rfl⟩
    obtain ⟨v, hv⟩ := hko p hp
    obtain ⟨a, _, ha, _⟩ := Maps.keyOf_i64 hk hv
    exact ⟨p, hp, by rw [ha]; simp [Lit.sameKey, Go.intOf]⟩
  · rintro ⟨p, hp, hs⟩
    obtain ⟨v, hv⟩ := hko p hp
    obtain ⟨a, _, ha, _⟩ := Maps.keyOf_i64 hk hv
    rw [ha] at hs
    exact ⟨p, hp, by rw [ha]; simpa [Lit.sameKey, Go.intOf] using hs⟩
theorem size_le {H : Type} {P : Program} {k : TypeId} {R : Value → Option (DataW H × List MemPlace)} {w : World} {b n : Nat} {D0 : DataW H} (hown : w.ownsMap P k R b n D0) : Maps.size D0 ≤ n := by
  obtain ⟨es, ck, _, _, hs, rfl⟩ := hown
  rw [Maps.size_eq, length_sorted]
  simpa using hs
theorem row_C {w : World} {base e n : Nat} {v : Value} {xs : List Int} (h : w.ownsRow base e 1 v n (xs.map encZ)) : ∃ A c, v = .slice A n c ∧ n = xs.length ∧ (Kd.int .i64).C w A n xs := by
  obtain ⟨hl, h⟩ := h
  simp only [List.length_map, Nat.mul_one] at hl
  rcases h with ⟨rfl, rfl⟩ | ⟨g, cap, cur, rfl, _, hg, hn, hc, hcs, ht⟩
  · exact ⟨none, 0, rfl, by omega, ⟨by omega, by omega, fun h => by omega⟩⟩
  · refine ⟨_, cap, rfl, by omega, ⟨by omega, Nat.le_trans hn hc, fun _ => ⟨_, rfl, fun j p hj => ⟨[.int .i64 p], rfl, rfl, fun i u hu => ?_⟩⟩⟩⟩
    have hi : i = 0 := by have := (List.getElem?_eq_some_iff.1 hu).1; simp at this; omega
    subst hi
    simp at hu
    subst hu
    have hjl : j < n := by have := (List.getElem?_eq_some_iff.1 hj).1; omega
    show w.cell? ((⟨g, 0, none⟩ : Addr).add (j * 1 + 0)) = _
    rw [add_plain, Nat.mul_one, Nat.add_zero, cell_of_row w g j cur e (0, 0) hg]
    have h1 : (cur.toList.take (n * 1))[j]? = (xs.map encZ)[j]? := by rw [ht]
    rw [List.getElem?_take_of_lt (by omega), List.getElem?_map, hj] at h1
    simpa using h1
theorem sortsA (m : Nat) : AnyZI.SortsIn Tryz.prog Tryz.sortedA_ren Fence.wide m :=
  ⟨fun blk off cap ss W hH hblk hsz => callsIn_wide.2 (AnyM.slices_Sort_int Tryz.sortA blk off cap ss W hH hblk hsz),
   fun p cap W => callsIn_wide.2 (AnyM.slices_Sort_int_none Tryz.sortA p cap W)⟩
/-- The two calls behind core.free: the keys, sorted. -/
theorem keys_sorted (W : World) (b n : Nat) (f : Int → Bool) (hM : MB W b n f) (hn : n ≤ 1000000) :
    CallsIn Fence.wide 5 Tryz.prog 44 #[.func (.func 60) #[] #[.pointer (some ⟨W.heap.size, 0, none⟩)]] (W.alloc (.cells #[.map (some b)] 72)) fun e w' =>
      ∃ A m c, ∃ l : List Int, e = .returned (.slice A m c) ∧ m = l.length ∧ (Kd.int .i64).C w' A m l ∧ (∀ i, i ∈ l ↔ f i = true) ∧ Below W.heap.size (W.alloc (.cells #[.map (some b)] 72)) w' := by
  obtain ⟨D0, hown, _, hhas⟩ := hM
  have hsz := size_le hown
  have hbl := hown.lt
  have hmm : (1000000 : Nat) ≤ maxLen := by decide
  have hmax : Maps.size D0 ≤ maxLen := by omega
  have hbytes : Maps.size D0 * 8 ≤ 140737488355328 := by omega
  have hseq : SeqGives Fence.wide 2 Tryz.prog 60 #[.pointer (some ⟨W.heap.size, 0, none⟩)] encZ (fun ss => ss.Perm (intKeys D0)) (Maps.size D0) (W.alloc (.cells #[.map (some b)] 72)) :=
    AnyZI.keys_gives (ρ := Tryz.keysA_ren) { Tryz.keysA with } Fence.wide _ trivial rfl (by omega) W.heap.size b n D0 _ (by simp) (by simp) (by
      obtain ⟨es, clock, hb, Ft, hs, hD⟩ := hown
      exact ⟨es, clock, (Below.heap_alloc _ _ b hbl).trans hb, Ft, hs, hD⟩)
  have cS := AnyZI.sorted_in Tryz.sortedA Fence.wide 5 trivial trivial trivial trivial rfl (by omega) (sortsA _) (enters_of Tryz.func59 (by kernel_rfl) rfl) 60 #[.pointer (some ⟨W.heap.size, 0, none⟩)] trivial (enters_of Tryz.func60 (by kernel_rfl) rfl) _ _ hmax hbytes _ hseq
  refine cS.mono ?_
  rintro e w' ⟨v, ss, rfl, hS, hrow, hnil, hb⟩
  obtain ⟨A, c, hv, hlen, hC⟩ := row_C hrow
  refine ⟨A, _, c, _, by rw [hv], hlen, hC, fun i => ?_, hb.mono (by simp)⟩
  rw [(List.mergeSort_perm ss _).mem_iff, hS.mem_iff, mem_intKeys hown Tryz.underlying3, hhas]
theorem after_few (w w1 : World) (cs : List Value) (hb1 : Below (w.alloc (.cells cs.toArray 32)).heap.size (w.alloc (.cells cs.toArray 32)) w1) :
    Below w.heap.size w ((w1.alloc (.map #[] 0)).alloc (.map #[] 0)) ∧ MI ((w1.alloc (.map #[] 0)).alloc (.map #[] 0)) (w1.heap.size + 1) 0 (fun i => (([] : List Int).count i : Int)) ∧ MB ((w1.alloc (.map #[] 0)).alloc (.map #[] 0)) w1.heap.size 0 (fun _ => false) := by
  have hz : w.heap.size < w1.heap.size := (by have h_ := hb1.size; simp at h_; omega)
  have h0 : Below w.heap.size w w1 := below_then (below_alloc (Below.refl _ _) _) (by simp) hb1
  refine ⟨(h0.alloc (by omega) _).alloc (by simp; omega) _, ?_, (MB.made w1).below (below_alloc (Below.refl _ _) _)⟩
  have := MI.made (w1.alloc (.map #[] 0))
  simpa using this
set_option maxRecDepth 100000 in
set_option maxHeartbeats 2000000 in
theorem Free_calls (x : Ex) (cs : List Value) (w : World) (hx : kE.K w x cs) (hok : okL x.all = true) : Calls Tryz.prog 28 #[.agg cs.toArray] w fun e w' =>
    ∃ A m c, ∃ l : List Int, e = .returned (.slice A m c) ∧ m = l.length ∧ (Kd.int .i64).C w' A m l ∧ (∀ i, i ∈ l ↔ x.few = true ∧ i ∈ x.fv []) ∧ Below w.heap.size w w' := by
  have hmm := @run_makeMap Tryz.prog
  have HW := Lib.hid (fun (W : World) (hb : Below w.heap.size w W) => few_calls x cs W (kE.K_below hb hx))
  have HFr := Lib.hid (fun (hf : x.few = true) (W : World) (b : Nat) (hb : Below w.heap.size w W) (hI : MI W (b + 1) 0 (fun i => (([] : List Int).count i : Int))) (hO : MB W b 0 (fun _ => false)) (h0 : w.heap.size ≤ b) =>
    free_calls (x.big + 1) x cs w W [] (b + 1) 0 b 0 (fun _ => false) (by omega) hx hb (okL_plain hok) hI hO (by omega) (by omega) h0 (by have := okL_ups hok; simp; omega) (by have := few_len hf; omega))
  have HKl := Lib.hid (kE_len hx)
  clear hx
  refine (callsIn_wide (n := 6)).1 ?_
  have hfK : Fence.wide.fn 45 := trivial
  have hfS : Fence.wide.fn 44 := trivial
  have cK : ∀ mb W, CallsIn Fence.wide 5 Tryz.prog 45 #[.map mb] W fun e w' => e = .returned (.func (.func 60) #[] #[.pointer (some ⟨W.heap.size, 0, none⟩)]) ∧ w' = W.alloc (.cells #[.map mb] 72) := fun mb W => AnyZI.keys_in Tryz.keysA Fence.wide 5 trivial rfl mb W
  cases hf : x.few
  case false =>
    refine callsIn_of_wp Tryz.func28 rfl trivial ?_ rfl
    simp only [Tryz.ntmps28, List.size_toArray, List.length_cons, List.length_nil, Nat.reduceAdd, Nat.reduceSub, Array.replicate_succ, Array.replicate_zero, List.push_toArray, List.append_toArray, List.nil_append, List.cons_append]
    gi_wp2_with (first
      | ((with_reducible refine load_listIn 4 rfl ?_ 32 _ rfl ⟨w.heap.size, 0, none⟩ ?_ cs _ (new_cells _ _ _) Tryz.underlying32 ?_ ?_ ?_); (case _ => rfl); (case _ => rfl); (case _ => rfl); (case _ => rw [HKl.out]; exact size32'))
      | (refine ⟨trivial, ?_⟩; gi_at_call 20; refine (callsIn_wide.2 (HW.out _ (below_alloc (Below.refl _ _) _))).mono ?_; rw [hf]; rintro e w1 ⟨rfl, hb1⟩))
    go_ret
    exact ⟨none, 0, 0, [], rfl, rfl, ⟨rfl, by omega, fun h => by omega⟩, fun i => by simp, below_then (below_alloc (Below.refl _ _) _) (by simp) hb1⟩
  have HFr2 := Lib.hid (HFr.out hf)
  clear HFr
  refine callsIn_of_wp Tryz.func28 rfl trivial ?_ rfl
  simp only [Tryz.ntmps28, List.size_toArray, List.length_cons, List.length_nil, Nat.reduceAdd, Nat.reduceSub, Array.replicate_succ, Array.replicate_zero, List.push_toArray, List.append_toArray, List.nil_append, List.cons_append]
  gi_wp2_with (first
    | ((with_reducible refine load_listIn 4 rfl ?_ 32 _ rfl ⟨w.heap.size, 0, none⟩ ?_ cs _ (new_cells _ _ _) Tryz.underlying32 ?_ ?_ ?_); (case _ => rfl); (case _ => rfl); (case _ => rfl); (case _ => rw [HKl.out]; exact size32'))
    | (refine ⟨trivial, ?_⟩; gi_at_call 20; refine (callsIn_wide.2 (HW.out _ (below_alloc (Below.refl _ _) _))).mono ?_; rw [hf]; rintro e w1 ⟨rfl, hb1⟩; have hz : w.heap.size < w1.heap.size := (by have h_ := hb1.size; simp at h_; omega); have HFT := Lib.hid (after_few w w1 cs hb1))
    | ((with_reducible refine load_listIn 8 rfl ?_ 32 _ rfl ⟨w.heap.size, 0, none⟩ ?_ cs _ (fun j u hj => pw_cell_below (below_alloc (Below.refl _ _) _) (pw_cell_below hb1 (new_cells _ _ _ j u hj))) Tryz.underlying32 ?_ ?_ ?_); (case _ => rfl); (case _ => rfl); (case _ => rfl); (case _ => rw [HKl.out]; exact size32'))
    | (refine ⟨trivial, ?_⟩; gi_at_call 43; refine (callsIn_wide.2 (HFr2.out _ _ HFT.out.1 HFT.out.2.1 HFT.out.2.2 (Nat.le_of_lt hz))).mono ?_; rintro e w2 ⟨rfl, hI2, hO2, hck2, hbl2⟩)
    | (gi_at_call 45; refine (cK _ _).mono ?_; rintro e w' ⟨rfl, rfl⟩)
    | (gi_at_call 44; refine (keys_sorted _ _ _ _ hO2 ?_).mono ?_; (case _ => have := few_len hf; omega); rintro e w3 ⟨A, m, c, l, rfl, hm, hC, hl, hb3⟩))
  go_ret
  have hb0 : Below w.heap.size w w2 := (HFT.out.1).trans hbl2
  refine ⟨A, l.length, c, l, rfl, rfl, hm ▸ hC, fun i => ?_, hb0.trans (((Below.refl _ w2).alloc (Nat.le_refl _) _ |>.trans hb3).mono hb0.size)⟩
  rw [hl i]
  simp
def Ex.may (x : Ex) : Bool := x.Closed && !x.sets
set_option maxHeartbeats 1000000 in
theorem Closed_calls (x : Ex) (cs : List Value) (w : World) (hx : kE.K w x cs) (hL : Laid w) : Calls Tryz.prog 16 #[.agg cs.toArray] w fun e w' => e = .returned (.bool x.Closed) ∧ Below w.heap.size w w' := by
  have HG := Lib.hid (fun (W : World) (hb : Below w.heap.size w W) => Good_calls x cs W (kE.K_below hb hx) (hL.below hb))
  have HF := Lib.hid (fun (hg : x.Good = true) (W : World) (hb : Below w.heap.size w W) => Free_calls x cs W (kE.K_below hb hx) (Ex.Good_ok hg))
  have HR := Lib.hid (show x.Closed = (x.Good && (x.fv []).isEmpty) from rfl)
  have HFew := Lib.hid (fun (h : x.Good = true) => Ex.Good_few h)
  obtain ⟨A3, c3, A6, c6, A7, c7, A9, c9, A12, c12, rfl, l3, g3, l6, g6, l7, g7, l9, g9, l12, g12⟩ := kE_open hx
  clear hx hL g3 g6 g7 g9 g12
  cases hg : x.Good
  case false =>
    go_enter Tryz.func16, Tryz.ntmps16
    go_wp2_with (go_at_call 27; refine (HG.out _ (below_alloc (Below.refl _ _) _)).mono ?_; rw [hg]; rintro e w1 ⟨rfl, hb1⟩)
    go_ret
    exact ⟨retB (by rw [HR.out, hg]; rfl), below_then (below_alloc (Below.refl _ _) _) (by simp) hb1⟩
  have HF2 := Lib.hid (HF.out hg)
  have HFew2 := Lib.hid (HFew.out hg)
  clear HF HFew
  go_enter Tryz.func16, Tryz.ntmps16
  go_wp2_with (first
    | (go_at_call 27; refine (HG.out _ (below_alloc (Below.refl _ _) _)).mono ?_; rw [hg]; rintro e w1 ⟨rfl, hb1⟩; have hz : w.heap.size < w1.heap.size := (by have h_ := hb1.size; simp at h_; omega); have q0 := pw_cell_below hb1 (a := ⟨w.heap.size, 0, none⟩) (v := .int .i64 x.kind) (by go_simp); have q1 := pw_cell_below hb1 (a := ⟨w.heap.size, 1, none⟩) (v := .int .i64 x.d.kind) (by go_simp); have q2 := pw_cell_below hb1 (a := ⟨w.heap.size, 2, none⟩) (v := .bool x.d.i.neg) (by go_simp); have q3 := pw_cell_below hb1 (a := ⟨w.heap.size, 3, none⟩) (v := .slice A3 x.d.i.l.length c3) (by go_simp); have q4 := pw_cell_below hb1 (a := ⟨w.heap.size, 4, none⟩) (v := .bool x.d.b) (by go_simp); have q5 := pw_cell_below hb1 (a := ⟨w.heap.size, 5, none⟩) (v := .string x.d.s) (by go_simp); have q6 := pw_cell_below hb1 (a := ⟨w.heap.size, 6, none⟩) (v := .slice A6 x.d.items.length c6) (by go_simp); have q7 := pw_cell_below hb1 (a := ⟨w.heap.size, 7, none⟩) (v := .slice A7 x.d.tail.length c7) (by go_simp); have q8 := pw_cell_below hb1 (a := ⟨w.heap.size, 8, none⟩) (v := .int .i64 x.v) (by go_simp); have q9 := pw_cell_below hb1 (a := ⟨w.heap.size, 9, none⟩) (v := .slice A9 x.vars.length c9) (by go_simp); have q10 := pw_cell_below hb1 (a := ⟨w.heap.size, 10, none⟩) (v := .bool x.rest) (by go_simp); have q11 := pw_cell_below hb1 (a := ⟨w.heap.size, 11, none⟩) (v := .int .i64 x.p) (by go_simp); have q12 := pw_cell_below hb1 (a := ⟨w.heap.size, 12, none⟩) (v := .slice A12 x.kids.length c12) (by go_simp))
    | (go_at_call 28; refine (HF2.out _ (below_then (below_alloc (Below.refl _ _) _) (by simp) hb1)).mono ?_; rintro e w2 ⟨A, m, c, l, rfl, hm, hC, hl, hb2⟩))
  go_ret
  refine ⟨retB ?_, below_then (below_then (below_alloc (Below.refl _ _) _) (by simp) hb1) (by omega) hb2⟩
  rw [HR.out, hg]
  have hl' : ∀ i, i ∈ l ↔ i ∈ x.fv [] := fun i => by rw [hl i, HFew2.out]; simp
  have e : l.length = 0 ↔ (x.fv []).isEmpty = true := by
    rw [List.length_eq_zero_iff, List.isEmpty_iff]
    constructor
    · intro h
      exact List.eq_nil_iff_forall_not_mem.2 (fun i hi => by have := (hl' i).2 hi; rw [h] at this; cases this)
    · intro h
      exact List.eq_nil_iff_forall_not_mem.2 (fun i hi => by have := (hl' i).1 hi; rw [h] at this; cases this)
  by_cases h0 : l.length = 0
  · have := e.1 h0; simp [h0, this]
  · have : (x.fv []).isEmpty = false := by cases h : (x.fv []).isEmpty; rfl; exact absurd (e.2 h) h0
    simp [h0, this]
set_option maxHeartbeats 1000000 in
theorem May_calls (x : Ex) (cs : List Value) (w : World) (hx : kE.K w x cs) (hL : Laid w) : Calls Tryz.prog 10 #[.agg cs.toArray] w fun e w' => e = .returned (.bool x.may) ∧ Below w.heap.size w w' := by
  have HG := Lib.hid (fun (W : World) (hb : Below w.heap.size w W) => Closed_calls x cs W (kE.K_below hb hx) (hL.below hb))
  have HF := Lib.hid (fun (hg : x.Closed = true) (W : World) (hb : Below w.heap.size w W) => sets_calls (x.big + 1) x cs W (by omega) (kE.K_below hb hx))
  have HR := Lib.hid (show x.may = (x.Closed && !x.sets) from rfl)
  have HFew := Lib.hid (fun (h : x.Closed = true) => h)
  obtain ⟨A3, c3, A6, c6, A7, c7, A9, c9, A12, c12, rfl, l3, g3, l6, g6, l7, g7, l9, g9, l12, g12⟩ := kE_open hx
  clear hx hL g3 g6 g7 g9 g12
  cases hg : x.Closed
  case false =>
    go_enter Tryz.func10, Tryz.ntmps10
    go_wp2_with (go_at_call 16; refine (HG.out _ (below_alloc (Below.refl _ _) _)).mono ?_; rw [hg]; rintro e w1 ⟨rfl, hb1⟩)
    go_ret
    exact ⟨retB (by rw [HR.out, hg]; rfl), below_then (below_alloc (Below.refl _ _) _) (by simp) hb1⟩
  have HF2 := Lib.hid (HF.out hg)
  have HFew2 := Lib.hid (HFew.out hg)
  clear HF HFew
  go_enter Tryz.func10, Tryz.ntmps10
  go_wp2_with (first
    | (go_at_call 16; refine (HG.out _ (below_alloc (Below.refl _ _) _)).mono ?_; rw [hg]; rintro e w1 ⟨rfl, hb1⟩; have hz : w.heap.size < w1.heap.size := (by have h_ := hb1.size; simp at h_; omega); have q0 := pw_cell_below hb1 (a := ⟨w.heap.size, 0, none⟩) (v := .int .i64 x.kind) (by go_simp); have q1 := pw_cell_below hb1 (a := ⟨w.heap.size, 1, none⟩) (v := .int .i64 x.d.kind) (by go_simp); have q2 := pw_cell_below hb1 (a := ⟨w.heap.size, 2, none⟩) (v := .bool x.d.i.neg) (by go_simp); have q3 := pw_cell_below hb1 (a := ⟨w.heap.size, 3, none⟩) (v := .slice A3 x.d.i.l.length c3) (by go_simp); have q4 := pw_cell_below hb1 (a := ⟨w.heap.size, 4, none⟩) (v := .bool x.d.b) (by go_simp); have q5 := pw_cell_below hb1 (a := ⟨w.heap.size, 5, none⟩) (v := .string x.d.s) (by go_simp); have q6 := pw_cell_below hb1 (a := ⟨w.heap.size, 6, none⟩) (v := .slice A6 x.d.items.length c6) (by go_simp); have q7 := pw_cell_below hb1 (a := ⟨w.heap.size, 7, none⟩) (v := .slice A7 x.d.tail.length c7) (by go_simp); have q8 := pw_cell_below hb1 (a := ⟨w.heap.size, 8, none⟩) (v := .int .i64 x.v) (by go_simp); have q9 := pw_cell_below hb1 (a := ⟨w.heap.size, 9, none⟩) (v := .slice A9 x.vars.length c9) (by go_simp); have q10 := pw_cell_below hb1 (a := ⟨w.heap.size, 10, none⟩) (v := .bool x.rest) (by go_simp); have q11 := pw_cell_below hb1 (a := ⟨w.heap.size, 11, none⟩) (v := .int .i64 x.p) (by go_simp); have q12 := pw_cell_below hb1 (a := ⟨w.heap.size, 12, none⟩) (v := .slice A12 x.kids.length c12) (by go_simp))
    | (go_at_call 17; refine (HF2.out _ (below_then (below_alloc (Below.refl _ _) _) (by simp) hb1)).mono ?_; rintro e w2 ⟨rfl, hb2⟩))
  go_ret
  exact ⟨retB (by rw [HR.out, hg]; rfl), below_then (below_then (below_alloc (Below.refl _ _) _) (by simp) hb1) (by omega) hb2⟩
end Go.Proofs.YtlcofdgaidlldaaGreatDoor
