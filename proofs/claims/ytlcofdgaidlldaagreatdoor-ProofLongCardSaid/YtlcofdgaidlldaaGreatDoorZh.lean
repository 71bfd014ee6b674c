/- Contract: core.plain, at every kind; all that is in an expression, as a list. The walk's conditions: the parameter's memory; the tables are laid. Plain Lean: core.Good as a word on the list of all that is in an expression. No condition. Plain Lean: what core.free finds, and how often it writes. No condition. Plain Lean: parts of what is good; how many there are. No condition. -/
import Derived.Test.YtlcofdgaidlldaaGreatDoorZg1
import Derived.Test.YtlcofdgaidlldaaGreatDoorZg2
import Derived.Test.YtlcofdgaidlldaaGreatDoorZg3
import Derived.Test.YtlcofdgaidlldaaGreatDoorZg4
import Derived.Test.YtlcofdgaidlldaaGreatDoorZg5
namespace Go.Proofs.YtlcofdgaidlldaaGreatDoor
open Go.RowKit Go.Proofs.YtlcofdgaidlldaaGreatDoorW.PrintWords
set_option linter.unusedVariables false
set_option linter.unusedSimpArgs false
set_option maxHeartbeats 1000000 in
theorem plain_calls (x : Ex) (cs : List Value) (w : World) (hx : kE.K w x cs) (hL : Laid w) : Calls Tryz.prog 41 #[.agg cs.toArray] w fun e w' => e = .returned (.bool x.plain) ∧ Below w.heap.size w w' := by
  have HK := Lib.hid (fun (W : World) (hb : Below w.heap.size w W) => kids_calls x cs W (kE.K_below hb hx) (hL.below hb))
  obtain ⟨A3, c3, A6, c6, A7, c7, A9, c9, A12, c12, rfl, l3, g3, l6, g6, l7, g7, l9, g9, l12, g12⟩ := kE_open hx
  have HC : Hid (∀ W, Below w.heap.size w W → Calls Tryz.prog 56 #[.slice A9 x.vars.length c9, .func (.func 55) #[] #[]] W fun e w' => e = .returned (.bool (x.vars.any outV)) ∧ W = w') :=
    Lib.hid (fun W hb => ContainsFunc_int_calls x.vars A9 c9 W (Kd.C_below g9 hb))
  have HG : Hid (∀ W, Below w.heap.size w W → Calls Tryz.prog 57 #[.agg #[.int .i64 x.d.kind, .bool x.d.i.neg, .slice A3 x.d.i.l.length c3, .bool x.d.b, .string x.d.s, .slice A6 x.d.items.length c6, .slice A7 x.d.tail.length c7]] W fun e w' => e = .returned (.bool x.d.Good) ∧ Below W.heap.size W w') :=
    Lib.hid (fun W hb => dGood_calls x.d _ W (kD_mk W x.d l3 (Kd.C_below g3 hb) l6 (Kd.C_below g6 hb) l7 (Kd.C_below g7 hb)))
  have hm := Kd.C_max g12
  have HN := Lib.hid (show x.nkids = if x.kind = 1 ∨ x.kind = 2 then 0 else if x.kind = 3 ∨ x.kind = 5 then 1 else if x.kind = 4 then 3 else if x.kind = 6 then -2 else if x.kind = 7 then arityP x.p else if x.kind = 8 ∨ x.kind = 9 then 2 else -1 from rfl)
  clear hx g3 g6 g7 g9 g12 l3 l6 l7 l9 l12
  obtain ⟨kind, d, v, vars, rest, p, kids⟩ := x
  simp only at *
  by_cases k1 : kind = 1
  · subst k1
    have hn := HN.out
    simp at hn
    rw [hn] at HK
    exact plain_k1 d v vars rest p kids A3 c3 A6 c6 A7 c7 A9 c9 A12 c12 w HK HC HG (Lib.hid hn) hm
  by_cases k2 : kind = 2
  · subst k2
    have hn := HN.out
    simp at hn
    rw [hn] at HK
    exact plain_k2 d v vars rest p kids A3 c3 A6 c6 A7 c7 A9 c9 A12 c12 w HK HC HG (Lib.hid hn) hm
  by_cases k3 : kind = 3
  · subst k3
    have hn := HN.out
    simp at hn
    rw [hn] at HK
    exact plain_k3 d v vars rest p kids A3 c3 A6 c6 A7 c7 A9 c9 A12 c12 w HK HC HG (Lib.hid hn) hm
  by_cases k4 : kind = 4
  · subst k4
    have hn := HN.out
    simp at hn
    rw [hn] at HK
    exact plain_k4 d v vars rest p kids A3 c3 A6 c6 A7 c7 A9 c9 A12 c12 w HK HC HG (Lib.hid hn) hm
  by_cases k5 : kind = 5
  · subst k5
    have hn := HN.out
    simp at hn
    rw [hn] at HK
    exact plain_k5 d v vars rest p kids A3 c3 A6 c6 A7 c7 A9 c9 A12 c12 w HK HC HG (Lib.hid hn) hm
  by_cases k6 : kind = 6
  · subst k6
    have hn := HN.out
    simp at hn
    rw [hn] at HK
    exact plain_k6 d v vars rest p kids A3 c3 A6 c6 A7 c7 A9 c9 A12 c12 w HK HC HG (Lib.hid hn) hm
  by_cases k7 : kind = 7
  · subst k7
    have hn := HN.out
    simp at hn
    rw [hn] at HK
    exact plain_k7 d v vars rest p kids A3 c3 A6 c6 A7 c7 A9 c9 A12 c12 w HK HC HG (Lib.hid hn) hm
  by_cases k8 : kind = 8
  · subst k8
    have hn := HN.out
    simp at hn
    rw [hn] at HK
    exact plain_k8 d v vars rest p kids A3 c3 A6 c6 A7 c7 A9 c9 A12 c12 w HK HC HG (Lib.hid hn) hm
  by_cases k9 : kind = 9
  · subst k9
    have hn := HN.out
    simp at hn
    rw [hn] at HK
    exact plain_k9 d v vars rest p kids A3 c3 A6 c6 A7 c7 A9 c9 A12 c12 w HK HC HG (Lib.hid hn) hm
  have hn := HN.out
  simp only [k1, k2, k3, k4, k5, k6, k7, k8, k9, or_self, if_false] at hn
  rw [hn] at HK
  exact plain_kx kind (beq_false_of_ne' k1) (beq_false_of_ne' k2) (beq_false_of_ne' k3) (beq_false_of_ne' k4) (beq_false_of_ne' k5) (beq_false_of_ne' k6) (beq_false_of_ne' k7) (beq_false_of_ne' k8) (beq_false_of_ne' k9) d v vars rest p kids A3 c3 A6 c6 A7 c7 A9 c9 A12 c12 w HK HC HG (Lib.hid hn) hm
mutual
/-- It and what is in it, outer ones first, from the left. -/
def Ex.all : Ex → List Ex
  | ⟨a, b, c, d, e, f, kids⟩ => ⟨a, b, c, d, e, f, kids⟩ :: Ex.allL kids
def Ex.allL : List Ex → List Ex
  | [] => []
  | k :: ks => k.all ++ Ex.allL ks
end
theorem Ex.all_eq (x : Ex) : x.all = x :: Ex.allL x.kids := by cases x; rw [Ex.all]
theorem Ex.allL_append (a b : List Ex) : Ex.allL (a ++ b) = Ex.allL a ++ Ex.allL b := by
  induction a with
  | nil => simp [Ex.allL]
  | cons x xs ih => simp [Ex.allL, ih, List.append_assoc]
theorem Ex.allL_take {l : List Ex} {k : Nat} (h : k < l.length) : Ex.allL (l.take (k + 1)) = Ex.allL (l.take k) ++ (rdE l k).all := by
  rw [List.take_add_one, Ex.allL_append, rdE_get h]
  simp [h, Ex.allL]
theorem Ex.allL_drop {l : List Ex} (k : Nat) : Ex.allL l = Ex.allL (l.take k) ++ Ex.allL (l.drop k) := by
  rw [← Ex.allL_append, List.take_append_drop]
end Go.Proofs.YtlcofdgaidlldaaGreatDoor
namespace Go.Proofs.YtlcofdgaidlldaaGreatDoor
def okL (l : List Ex) : Bool := l.all Ex.plain && decide (l.flatMap Ex.binds).Nodup
def Ex.Good (x : Ex) : Bool := decide (0 ≤ x.within 5000 10000) && okL x.all
theorem outV_no {v : Int} (h : outV v = false) : 1 ≤ v ∧ v ≤ 1000000 := by
  simp [outV] at h; omega
theorem plain_binds {x : Ex} (h : x.plain = true) : ∀ v ∈ x.binds, 1 ≤ v ∧ v ≤ 1000000 := by
  intro v hv
  unfold Ex.plain at h
  simp only [Bool.and_eq_true, Bool.not_eq_true'] at h
  obtain ⟨⟨⟨⟨⟨⟨⟨_, h2⟩, _⟩, _⟩, h5⟩, _⟩, _⟩, _⟩ := h
  unfold Ex.binds at hv
  split at hv
  · rename_i hk
    simp only [List.mem_singleton] at hv
    subst hv
    have : x.named = true := by simp [Ex.named, hk]
    rw [this] at h2
    exact outV_no (by simpa using h2)
  · split at hv
    · rw [List.any_eq_false] at h5
      exact outV_no (by simpa using h5 v hv)
    · cases hv
theorem okL_plain {l : List Ex} (h : okL l = true) : ∀ x ∈ l, x.plain = true := by
  simp only [okL, Bool.and_eq_true, List.all_eq_true] at h; exact h.1
theorem okL_nodup {l : List Ex} (h : okL l = true) : (l.flatMap Ex.binds).Nodup := by
  simp only [okL, Bool.and_eq_true, decide_eq_true_eq] at h; exact h.2
theorem okL_mk {l : List Ex} (h : ∀ x ∈ l, x.plain = true) (h2 : (l.flatMap Ex.binds).Nodup) : okL l = true := by
  simp only [okL, Bool.and_eq_true, List.all_eq_true, decide_eq_true_eq]; exact ⟨h, h2⟩
theorem okL_range {l : List Ex} (h : okL l = true) : ∀ v ∈ l.flatMap Ex.binds, 1 ≤ v ∧ v ≤ 1000000 := by
  intro v hv
  obtain ⟨x, hx, hv⟩ := List.mem_flatMap.1 hv
  exact plain_binds (okL_plain h x hx) v hv
theorem nodup_len : ∀ (M : Nat) (l : List Int), l.Nodup → (∀ v ∈ l, 1 ≤ v ∧ v ≤ M) → l.length ≤ M
  | 0, [], _, _ => Nat.le_refl _
  | 0, x :: _, _, h => by have := h x (by simp); omega
  | M + 1, l, hn, h => by
    have h1 := nodup_len M (l.erase ((M : Int) + 1)) (hn.erase _) (fun v hv => by
      have h2 := (hn.mem_erase_iff).1 hv
      have h3 := h v h2.2
      have h4 := h2.1
      omega)
    have h5 := List.length_erase (a := ((M : Int) + 1)) (l := l)
    split at h5 <;> omega
theorem okL_len {l : List Ex} (h : okL l = true) : (l.flatMap Ex.binds).length ≤ 1000000 := nodup_len 1000000 _ (okL_nodup h) (fun v hv => by have := okL_range h v hv; omega)
theorem okL_prefix {l m : List Ex} (h : l <+: m) (hm : okL m = true) : okL l = true := by
  obtain ⟨r, rfl⟩ := h
  refine okL_mk (fun x hx => okL_plain hm x (List.mem_append_left _ hx)) ?_
  have := okL_nodup hm
  rw [List.flatMap_append] at this
  exact (List.nodup_append.1 this).1
theorem okL_snoc_plain {l : List Ex} {x : Ex} (h : x.plain = false) : okL (l ++ [x]) = false := by
  cases h2 : okL (l ++ [x])
  · rfl
  · have := okL_plain h2 x (by simp); rw [h] at this; cases this
/-- A value that is bound anew, though it was bound: no more good. -/
theorem okL_snoc_twice {l : List Ex} {x : Ex} {j : Nat} (hj : j < x.binds.length) (h : x.binds.getD j 0 ∈ l.flatMap Ex.binds ++ x.binds.take j) : okL (l ++ [x]) = false := by
  cases h2 : okL (l ++ [x])
  · rfl
  · exfalso
    have h3 := okL_nodup h2
    rw [List.flatMap_append, List.flatMap_singleton] at h3
    have h4 : x.binds = x.binds.take j ++ x.binds.getD j 0 :: x.binds.drop (j + 1) := by
      have e : x.binds.getD j 0 = x.binds[j] := by simp [hj]
      rw [e, ← List.drop_eq_getElem_cons hj, List.take_append_drop]
    rw [h4, ← List.append_assoc, List.nodup_append] at h3
    have := h3.2.2 _ (by rw [← h4] at *; exact h) _ (List.mem_cons_self ..)
    exact this rfl
theorem okL_snoc {l : List Ex} {x : Ex} (h : okL l = true) (hp : x.plain = true) (hn : (l.flatMap Ex.binds ++ x.binds).Nodup) : okL (l ++ [x]) = true := by
  refine okL_mk (fun y hy => ?_) ?_
  · rcases List.mem_append.1 hy with hy | hy
    · exact okL_plain h y hy
    · simp at hy; subst hy; exact hp
  · rw [List.flatMap_append, List.flatMap_singleton]; exact hn
end Go.Proofs.YtlcofdgaidlldaaGreatDoor
namespace Go.Proofs.YtlcofdgaidlldaaGreatDoor
/-- Do what one expression binds hold within its i-th part? -/
def ins (kind : Int) (i : Nat) : Bool := kind == 5 || (kind == 8 && i == 1)
mutual
/-- The variables that are free, where B are bound around. -/
def Ex.fv : Ex → List Int → List Int
  | ⟨kind, _, v, vars, _, _, kids⟩, B => (if (kind = 2 ∨ kind = 3) ∧ v ∉ B then [v] else []) ++ Ex.fvL kids kind (if kind = 8 then [v] else if kind = 5 then vars else []) 0 B
def Ex.fvL : List Ex → Int → List Int → Nat → List Int → List Int
  | [], _, _, _, _ => []
  | k :: ks, kind, bs, i, B => k.fv (if ins kind i then B ++ bs else B) ++ Ex.fvL ks kind bs (i + 1) B
end
mutual
/-- How often core.free writes its first map. -/
def Ex.ups : Ex → Nat
  | ⟨kind, _, v, vars, _, _, kids⟩ => Ex.upsL kids kind (if kind = 8 then [v] else if kind = 5 then vars else []) 0
def Ex.upsL : List Ex → Int → List Int → Nat → Nat
  | [], _, _, _ => 0
  | k :: ks, kind, bs, i => k.ups + (if ins kind i then 2 * bs.length else 0) + Ex.upsL ks kind bs (i + 1)
end
def Ex.own (x : Ex) (B : List Int) : List Int := if (x.kind = 2 ∨ x.kind = 3) ∧ x.v ∉ B then [x.v] else []
theorem Ex.fv_eq (x : Ex) (B : List Int) : x.fv B = x.own B ++ Ex.fvL x.kids x.kind x.binds 0 B := by cases x; rw [Ex.fv]; rfl
theorem Ex.ups_eq (x : Ex) : x.ups = Ex.upsL x.kids x.kind x.binds 0 := by cases x; rw [Ex.ups]; rfl
theorem Ex.fvL_append (a b : List Ex) (kind : Int) (bs : List Int) (i : Nat) (B : List Int) : Ex.fvL (a ++ b) kind bs i B = Ex.fvL a kind bs i B ++ Ex.fvL b kind bs (i + a.length) B := by
  induction a generalizing i with
  | nil => simp [Ex.fvL]
  | cons x xs ih => simp [Ex.fvL, ih, List.append_assoc, Nat.add_assoc, Nat.add_comm 1]
theorem Ex.upsL_append (a b : List Ex) (kind : Int) (bs : List Int) (i : Nat) : Ex.upsL (a ++ b) kind bs i = Ex.upsL a kind bs i + Ex.upsL b kind bs (i + a.length) := by
  induction a generalizing i with
  | nil => simp [Ex.upsL]
  | cons x xs ih => simp [Ex.upsL, ih, Nat.add_assoc, Nat.add_comm 1]
theorem take_rdE {l : List Ex} {k : Nat} (h : k < l.length) : l.take (k + 1) = l.take k ++ [rdE l k] := by
  rw [List.take_add_one, rdE_get h]; simp [h]
theorem Ex.fvL_take {l : List Ex} {k : Nat} (h : k < l.length) (kind : Int) (bs B : List Int) : Ex.fvL (l.take (k + 1)) kind bs 0 B = Ex.fvL (l.take k) kind bs 0 B ++ (rdE l k).fv (if ins kind k then B ++ bs else B) := by
  rw [take_rdE h, Ex.fvL_append]; simp [Ex.fvL, Nat.min_eq_left (Nat.le_of_lt h)]
theorem Ex.upsL_take {l : List Ex} {k : Nat} (h : k < l.length) (kind : Int) (bs : List Int) : Ex.upsL (l.take (k + 1)) kind bs 0 = Ex.upsL (l.take k) kind bs 0 + ((rdE l k).ups + (if ins kind k then 2 * bs.length else 0)) := by
  rw [take_rdE h, Ex.upsL_append]; simp [Ex.upsL, Nat.min_eq_left (Nat.le_of_lt h)]
theorem Ex.upsL_le (l : List Ex) (k : Nat) (kind : Int) (bs : List Int) : Ex.upsL (l.take k) kind bs 0 ≤ Ex.upsL l kind bs 0 := by
  have h := Ex.upsL_append (l.take k) (l.drop k) kind bs 0
  rw [List.take_append_drop] at h
  omega
theorem Ex.mem_kid {x : Ex} {k : Nat} (h : k < x.kids.length) : ∀ y ∈ (rdE x.kids k).all, y ∈ x.all := by
  intro y hy
  rw [x.all_eq]
  refine List.mem_cons_of_mem _ ?_
  rw [Ex.allL_drop (k + 1), Ex.allL_take h]
  exact List.mem_append_left _ (List.mem_append_right _ hy)
theorem Ex.self_mem (x : Ex) : x ∈ x.all := by rw [x.all_eq]; exact List.mem_cons_self ..
theorem Ex.allL_len {l : List Ex} {k : Nat} (h : k < l.length) : (Ex.allL (l.take (k + 1))).length = (Ex.allL (l.take k)).length + (rdE l k).all.length := by rw [Ex.allL_take h, List.length_append]
theorem Ex.allL_le (l : List Ex) (k : Nat) : (Ex.allL (l.take k)).length ≤ (Ex.allL l).length := by rw [Ex.allL_drop (l := l) k, List.length_append]; omega
theorem plain_v {x : Ex} (h : x.plain = true) (hk : x.kind = 2 ∨ x.kind = 3) : 1 ≤ x.v ∧ x.v ≤ 1000000 := by
  unfold Ex.plain at h
  simp only [Bool.and_eq_true, Bool.not_eq_true'] at h
  obtain ⟨⟨⟨⟨⟨⟨⟨_, h2⟩, _⟩, _⟩, h5⟩, _⟩, _⟩, _⟩ := h
  have : x.named = true := by rcases hk with hk | hk <;> simp [Ex.named, hk]
  rw [this] at h2
  exact outV_no (by simpa using h2)
/-- A plain expression holds what it binds in one part alone. -/
theorem plain_ups {x : Ex} (h : x.plain = true) (bs : List Int) : Ex.upsL x.kids x.kind bs 0 ≤ Ex.upsL x.kids 0 bs 0 + 2 * bs.length := by
  unfold Ex.plain at h
  simp only [Bool.and_eq_true, Bool.not_eq_true'] at h
  obtain ⟨⟨⟨⟨⟨⟨⟨h1, _⟩, _⟩, _⟩, _⟩, _⟩, _⟩, _⟩ := h
  by_cases k5 : x.kind = 5
  · have hn : x.nkids = 1 := by simp [Ex.nkids, k5]
    rw [hn] at h1
    have hl : x.kids.length = 1 := by simp at h1; omega
    obtain ⟨k, hk⟩ := List.length_eq_one_iff.1 hl
    rw [hk]; simp [Ex.upsL]; split <;> omega
  by_cases k8 : x.kind = 8
  · have hn : x.nkids = 2 := by simp [Ex.nkids, k8]
    rw [hn] at h1
    have hl : x.kids.length = 2 := by simp at h1; omega
    match hk : x.kids, hl with
    | [k, l], _ => rw [k8]; simp [Ex.upsL, ins]; omega
  · have : ∀ (l : List Ex) (i : Nat), Ex.upsL l x.kind bs i = Ex.upsL l 0 bs i := by
      intro l
      induction l with
      | nil => intro i; simp [Ex.upsL]
      | cons a l ih => intro i; simp [Ex.upsL, ih, ins, k5, k8]
    rw [this]; omega
mutual
theorem Ex.ups_le : (x : Ex) → (∀ y ∈ x.all, y.plain = true) → x.ups ≤ 2 * (x.all.flatMap Ex.binds).length
  | ⟨kind, d, v, vars, rest, p, kids⟩, h => by
    have h1 := plain_ups (h _ (Ex.self_mem _)) (Ex.binds ⟨kind, d, v, vars, rest, p, kids⟩)
    have h2 := Ex.upsL_le2 kids (Ex.binds ⟨kind, d, v, vars, rest, p, kids⟩) 0 (fun y hy => h y (by rw [Ex.all_eq]; exact List.mem_cons_of_mem _ hy))
    rw [Ex.ups_eq, Ex.all_eq]
    simp only [List.flatMap_cons, List.length_append] at *
    omega
theorem Ex.upsL_le2 : (l : List Ex) → (bs : List Int) → (i : Nat) → (∀ y ∈ Ex.allL l, y.plain = true) → Ex.upsL l 0 bs i ≤ 2 * ((Ex.allL l).flatMap Ex.binds).length
  | [], _, _, _ => by simp [Ex.upsL]
  | k :: ks, bs, i, h => by
    have h1 := Ex.ups_le k (fun y hy => h y (by rw [Ex.allL]; exact List.mem_append_left _ hy))
    have h2 := Ex.upsL_le2 ks bs (i + 1) (fun y hy => h y (by rw [Ex.allL]; exact List.mem_append_right _ hy))
    have h3 : ins 0 i = false := by simp [ins]
    simp only [Ex.upsL, Ex.allL, List.flatMap_append, List.length_append, h3]
    simp only [Bool.false_eq_true, if_false]
    omega
end
end Go.Proofs.YtlcofdgaidlldaaGreatDoor
namespace Go.Proofs.YtlcofdgaidlldaaGreatDoor
mutual
theorem Ex.within_len : (x : Ex) → (left deep : Int) → 0 ≤ x.within left deep → x.within left deep = left - x.all.length
  | ⟨a, b, c, d, e, f, kids⟩, left, deep, h => by
    rw [Ex.within] at h ⊢
    split at h
    · omega
    · rename_i hc
      rw [if_neg hc]
      have := Ex.withinL_len kids (left - 1) (deep - 1) h
      rw [this, Ex.all]
      simp; omega
theorem Ex.withinL_len : (l : List Ex) → (left deep : Int) → 0 ≤ Ex.withinL l left deep → Ex.withinL l left deep = left - (Ex.allL l).length
  | [], left, deep, h => by simp [Ex.withinL, Ex.allL]
  | k :: ks, left, deep, h => by
    rw [Ex.withinL] at h ⊢
    split at h
    · omega
    · rename_i hc
      rw [if_neg hc]
      have h1 := Ex.within_len k left deep (by omega)
      have h2 := Ex.withinL_len ks (k.within left deep) deep h
      rw [h2, h1, Ex.allL, List.length_append]
      omega
end
theorem few_len {x : Ex} (h : x.few = true) : x.all.length ≤ 100000 := by
  unfold Ex.few at h
  have h1 : 0 ≤ x.within 100000 10000 := by simpa using h
  have := Ex.within_len x _ _ h1
  omega
theorem okL_ups {x : Ex} (h : okL x.all = true) : x.ups ≤ 2000000 := by
  have h1 := x.ups_le (okL_plain h)
  have h2 := okL_len h
  omega
def Ex.Closed (x : Ex) : Bool := x.Good && (x.fv []).isEmpty
theorem Ex.Good_ok {x : Ex} (h : x.Good = true) : okL x.all = true := by
  unfold Ex.Good at h; simp only [Bool.and_eq_true] at h; exact h.2
mutual
theorem Ex.within_more : (x : Ex) → (left left' deep : Int) → 0 ≤ x.within left deep → left ≤ left' → x.within left' deep = x.within left deep + (left' - left)
  | ⟨a, b, c, d, e, f, kids⟩, left, left', deep, h, hl => by
    rw [Ex.within] at h ⊢
    rw [Ex.within]
    split at h
    · omega
    · rename_i hc
      rw [if_neg hc, if_neg (by omega)]
      have := Ex.withinL_more kids (left - 1) (left' - 1) (deep - 1) h (by omega)
      omega
theorem Ex.withinL_more : (l : List Ex) → (left left' deep : Int) → 0 ≤ Ex.withinL l left deep → left ≤ left' → Ex.withinL l left' deep = Ex.withinL l left deep + (left' - left)
  | [], left, left', deep, h, hl => by simp [Ex.withinL]; omega
  | k :: ks, left, left', deep, h, hl => by
    rw [Ex.withinL] at h ⊢
    rw [Ex.withinL]
    split at h
    · omega
    · rename_i hc
      have h1 := Ex.within_more k left left' deep (by omega) hl
      rw [if_neg hc, if_neg (by omega), h1]
      have h2 := Ex.withinL_more ks (k.within left deep) (k.within left deep + (left' - left)) deep h (by omega)
      omega
end
theorem Ex.Good_few {x : Ex} (h : x.Good = true) : x.few = true := by
  unfold Ex.Good at h
  simp only [Bool.and_eq_true, decide_eq_true_eq] at h
  have := Ex.within_more x 5000 100000 10000 h.1 (by omega)
  simp only [Ex.few, decide_eq_true_eq]
  omega
end Go.Proofs.YtlcofdgaidlldaaGreatDoor
